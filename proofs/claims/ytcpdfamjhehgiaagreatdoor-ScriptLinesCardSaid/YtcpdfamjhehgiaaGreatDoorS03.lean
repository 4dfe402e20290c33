/-
  Part 03 of the proof. No condition.
-/
import Derived.Test.YtcpdfamjhehgiaaGreatDoorS02
set_option linter.unusedVariables false
set_option linter.unusedSimpArgs false
set_option maxRecDepth 100000
set_option maxHeartbeats 8000000
noncomputable section
namespace Go.Ae
section mem
variable{P:Program}{m:Mp}{H:ag}{w:World}
theorem Ju{w:World}{c o n:Nat}{cs:Array Value}{ty:TypeId}{fr:Nat×Nat}(h:w.heap[c]?=some (.cells cs ty fr))(hn:n≠0):
 (w.freeze ⟨c,o,none⟩ n).heap[c]?=some (.cells cs ty (if fr.1==fr.2 then(o,o +n)else(min fr.1 o,max fr.2 (o +n)))):=by
 unfold World.freeze
 rw[if_neg hn]
 simp[Array.getElem?_modify,h]
theorem Jv{w:World}{c c' o n:Nat}(h:c'≠c):(w.freeze ⟨c,o,none⟩ n).heap[c']?=w.heap[c']?:=by
 unfold World.freeze
 split
 ·rfl
 ·simp[Array.getElem?_modify,Ne.symm h]
theorem Da{w:World}{a:Addr}{n:Nat}:(w.freeze a n).heap.size=w.heap.size:=by
 unfold World.freeze
 split
 ·rfl
 ·simp
theorem Jw{w:World}{a:Addr}{n:Nat}:(w.freeze a n).os=w.os∧(w.freeze a n).tape=w.tape∧(w.freeze a n).output=w.output:=by
 unfold World.freeze
 split<;>exact⟨rfl,rfl,rfl⟩
def Vj(f:Array TypeId→TypeId→Array Value→Sem Value):Prop:=∃(E2 E3:Sem Unit)(E1 E4 E5:Sem Value),∀(ats:Array TypeId)(ty:TypeId)(q:Option Addr)(k:IntKind)(z:Int),f ats ty #[.pointer q,.int k z]=
    (do
     let n←asInt (.int k z)
     let some pt:=ats[0]?|E1
     if n<0 then E2
     if n>IntKind.i64.max then E3
     match q with
     |none=>
      if n=0 then pure (.string .empty)
      else E4
     |some a=>
      if n=0 then pure (.string .empty)
      else if←variablesAt a (←elemOf pt) n.toNat then do
       let s←loadBytes a .empty n.toNat
       freeze a n.toNat
       pure (.string s)
      else E5)
theorem Db{f:Array TypeId→TypeId→Array Value→Sem Value}(hf:Vj f)(rh:RH m H w){ats:List TypeId}{ty:TypeId}{args args':List Value}{v:Value}{H':ag}(h:jB P ats args H=some (v,H'))(ha:bP m args args'):
 iq P m H w (f ⟨ats⟩ ty ⟨args'⟩) v H':=by
 obtain⟨E2,E3,E1,E4,E5,hdef⟩:=hf
 (replace h:=aB h;obtain⟨hl,h⟩:=h)
 (replace h:=ae h;obtain⟨pt,hpt,h⟩:=h)
 (replace h:=ae h;obtain⟨p,hp,h⟩:=h)
 (replace h:=ae h;obtain⟨nv,Zw,h⟩:=h)
 (replace h:=ae h;obtain⟨n,hn,h⟩:=h)
 rw[cB]at hpt hp Zw
 rw[aJ]at hl
 have hl:=Nat.eq_of_beq_eq_true hl
 obtain⟨p',hp0,Ye⟩:=ha.get 0 hp
 obtain⟨n',hn0,hnn⟩:=ha.get 1 Zw
 have hl':args'.length=2:=by rw[←ha.length,hl]
 have he:args'=[p',n']:=by
  match args',hl',hp0,hn0 with
  |[y,z],_,h0,h1=>cases h0;cases h1;rfl
 subst he
 obtain⟨k,rfl⟩:=p9 hn
 have:=hnn.of_int;subst this
 have hat:(⟨ats⟩:Array TypeId)[0]?=some pt:=by simpa using hpt
 have hmax:IntKind.i64.max=9223372036854775807:=rfl
 have hdef:=hdef ⟨ats⟩ ty
 cases n with
 |zero=>
  replace h:(gd (Nat.beq (fZ p).1 1) (some (Value.string ⟨⟨[]⟩⟩,H)))=some (v,H'):=h
  (replace h:=aB h;obtain⟨hg,h⟩:=h)
  cases h
  have hg:=Nat.eq_of_beq_eq_true hg
  have hv:=Ye.fZ aa
  have:∃a,p'=.pointer a:=by
   rcases ry (x:=p') (by rw[hv];omega)with h1|⟨_,_,_,_,h1⟩|⟨_,_,h1⟩|⟨_,_,_,_,h1⟩|⟨_,h1⟩|⟨_,_,_,h1⟩|⟨_,h1⟩
   ·obtain⟨a,h1,_⟩:=h1;exact⟨a,h1⟩
   all_goals(rw[hv]at h1;rw[h1]at hg;simp at hg)
  obtain⟨a,rfl⟩:=this
  refine⟨m,_,w,?_,.sc _ rfl,rh,Ex.refl _ _ _⟩
  cases a with
  |none=>rw[hdef];simp[hat,asInt,asIntOf,hmax];rfl
  |some a=>rw[hdef];simp[hat,asInt,asIntOf,hmax];rfl
 |succ n=>
  replace h:(ah (fH p) fun a=>Gw P pt a (n +1) H)=some (v,H'):=h
  (replace h:=ae h;obtain⟨a,hav,h⟩:=h)
  (replace h:=ae h;obtain⟨d,hd,h⟩:=h)
  (replace h:=ae h;obtain⟨e,he,h⟩:=h)
  (replace h:=ae h;obtain⟨s,hs,h⟩:=h)
  (replace h:=ae h;obtain⟨R,hR,h⟩:=h)
  (replace h:=aB h;obtain⟨hg,h⟩:=h)
  (replace h:=ae h;obtain⟨bs,hbs,h⟩:=h)
  cases h
  rw[dS hav]at Ye
  obtain⟨l,hm,hlo,hsp,rfl⟩:=Ye.gL
  have zz:=iN hR
  simp only[Bool.and_eq_true]at hg
  obtain⟨⟨⟨⟨g1,g2⟩,g3⟩,g4⟩,g5⟩:=hg
  have g2:R.ty=e:=Nat.eq_of_beq_eq_true g2
  have g3:s=1:=Nat.eq_of_beq_eq_true g3
  have g4:a.off +(n +1)≤R.n:=Nat.le_of_ble_eq_true g4
  have g5:=Nat.le_of_ble_eq_true g5
  have hpe:P.underlying pt=some (.pointer e):=by rw[hd,wZ he]
  obtain⟨i,hi,hsz⟩:=fM hs
  have hc:P.cellsOf e=1:=by rw[sO hi,hsz,g3]
  have hsh:=x_ rh hm zz
  rw[g2]at hsh
  obtain⟨cs,fr,hb,hrn,h2,h3,h4,h5,h6⟩:=row_of rh hm zz
  have hrd:H.read a.block a.off (n +1)=some (Tr.vz top R.cells a.off (n +1)):=by
   show(ah (jy (H.obj a.block)) fun w=>gd (Nat.ble (Nat.add a.off (n +1)) w.n) (some (Tr.vz top w.cells a.off (n +1))))=_
   rw[hR]
   show(gd (Nat.ble (Nat.add a.off (n +1)) R.n) _)=_
   rw[show Nat.ble (Nat.add a.off (n +1)) R.n=true from Nat.ble_eq_true_of_le g4]
   rfl
  obtain⟨vs',r1,r2,r3⟩:=xg rh hrd hm hlo
  have hvs:=Ak hbs r1
  have hbl:bs.length=n +1:=by rw[←r2,hvs];simp
  have hlb:=Lib.run_loadBytes (P:=P) w bs ⟨l.c,l.base +(a.off -l.lo),none⟩ .empty (fun j x hj=>r3 j _ (by rw[hvs];simp[hj]))
  rw[hbl]at hlb
  have hlies:=Al (P:=P) hc (Nat.le_refl _) l.tot (l.base +(a.off -l.lo)) (n +1) (Nat.mod_one _) (by rw[Nat.div_one];omega)
  have oK:iJ m l (.row ⟨R.ty,R.cells,R.n,R.bX,au (Nat.ble R.fz (Nat.add a.off (n +1))) (Nat.add a.off (n +1)) R.fz⟩)
   (.cells cs R.ty (if fr.1==fr.2 then(l.base +(a.off -l.lo),l.base +(a.off -l.lo) +(n +1))else(min fr.1 (l.base +(a.off -l.lo)),max fr.2 (l.base +(a.off -l.lo) +(n +1))))):=by
   refine⟨⟨rfl,base_of rh hm zz⟩,hrn,h2,h3,h4,?_,h6⟩
   intro hse
   have h5:=h5 hse
   have hfz:au (Nat.ble R.fz (Nat.add a.off (n +1))) (Nat.add a.off (n +1)) R.fz=max R.fz (a.off +(n +1)):=by
    by_cases hh:R.fz≤a.off +(n +1)
    ·rw[show Nat.ble R.fz (Nat.add a.off (n +1))=true from Nat.ble_eq_true_of_le hh];exact(Nat.max_eq_right hh).symm
    ·rw[show Nat.ble R.fz (Nat.add a.off (n +1))=false from by rw[←Bool.not_eq_true];exact fun g=>hh (Nat.le_of_ble_eq_true g)];exact(Nat.max_eq_left (Nat.le_of_not_le hh)).symm
   show _≤l.base +(au (Nat.ble R.fz (Nat.add a.off (n +1))) (Nat.add a.off (n +1)) R.fz -l.lo)
   rw[hfz]
   split
   ·simp only;omega
   ·simp only;omega
  have hfo:=@Jw w ⟨l.c,l.base +(a.off -l.lo),none⟩ (n +1)
  have:=RH.update rh a.block l _ _ hm (by rw[zz];simp) oK (Ju (o:=l.base +(a.off -l.lo)) hb (Nat.succ_ne_zero n)) Da (fun c hc=>Jv hc) hfo.1 hfo.2.1 hfo.2.2
  refine⟨m,_,w.freeze ⟨l.c,l.base +(a.off -l.lo),none⟩ (n +1),?_,.sc _ rfl,this.1,this.2⟩
  have hneg:¬((n +1:Nat):Int)<0:=by omega
  have h63:¬((9223372036854775807:Int)<((n +1:Nat):Int)):=by omega
  have hne:((n +1:Nat):Int)≠0:=by omega
  have Yf:((n +1:Nat):Int).toNat=n +1:=by omega
  rw[hdef]
  simp only[asInt,asIntOf,Sem.run_bind,Sem.run_pure,Result.andThen_ok,hat,hmax,hneg,h63,hne,if_false,gt_iff_lt,variablesAt,hsh,elemOf,aA hpe,run_program,run_shape,Yf,hc,Nat.div_one,hlies,if_true,hlb,run_freeze]
  have hbe:ByteArray.empty.data++bs.toArray=(⟨bs⟩:Array UInt8):=by rw[←Array.toList_inj];simp
  rw[hbe]
end mem
section mem
variable{P:Program}{m:Mp}{H:ag}{w:World}
theorem PE{args args':List Value}{v:Value}(hl:args.length=1)(hv:args[0]?=some v)(ha:bP m args args'):
 ∃v',VR m v v'∧(Extern.AbiNoEscape.same ⟨args'⟩).run P w=.ok v' w:=by
 obtain⟨v',h0,hr⟩:=ha.get 0 hv
 have hl':args'.length=1:=by rw[←ha.length,hl]
 have he:args'=[v']:=by
  match args',hl',h0 with
  |[y],_,h0=>cases h0;rfl
 subst he
 exact⟨v',hr,rfl⟩
theorem LD(c:Nat)(hc:c≤255):∀(l:List UInt8)(k:Nat),(iI c l k=none∧Lib.indexByte l c.toUInt8=-1)∨∃j,iI c l k=some (k +j)∧Lib.indexByte l c.toUInt8=j:=by
 intro l
 induction l with
 |nil=>intro k;exact .inl ⟨rfl,rfl⟩
 |cons b l ih=>
  intro k
  have hbc:Nat.beq b.toNat c=(b==c.toUInt8):=by
   rw[Bool.eq_iff_iff,beq_iff_eq]
   constructor
   ·intro h
    have:=Nat.eq_of_beq_eq_true h
    rw[←this];simp
   ·intro h
    rw[h]
    have h2:c.toUInt8.toNat=c:=by simp;omega
    rw[h2]
    exact Nat.beq_refl c
  show(au (Nat.beq b.toNat c) (some k) (iI c l (k +1))=none∧_)∨∃j,au (Nat.beq b.toNat c) (some k) (iI c l (k +1))=some (k +j)∧_
  rw[hbc]
  cases hh:(b==c.toUInt8)with
  |true=>exact .inr ⟨0,rfl,by simp[Lib.indexByte,hh]⟩
  |false=>
   rcases ih (k +1)with⟨h1,h2⟩|⟨j,h1,h2⟩
   ·exact .inl ⟨h1,by simp[Lib.indexByte,hh,h2]⟩
   ·refine .inr ⟨j +1,by show iI c l (k +1)=_;rw[h1];congr 1;omega,?_⟩
    have:((j:Int)==-1)=false:=by rw[beq_eq_false_iff_ne];omega
    simp[Lib.indexByte,hh,h2,this]
theorem Dc{args args':List Value}{q:ByteArray×Nat}(h:xJ args=some q)(ha:bP m args args'):args'=[.string q.1,.int .u8 q.2]∧q.2≤255:=by
 (replace h:=ae h;obtain⟨s,hs,h⟩:=h)
 (replace h:=ae h;obtain⟨b,hb,h⟩:=h)
 (replace h:=ae h;obtain⟨c,hc,h⟩:=h)
 (replace h:=ae h;obtain⟨p,hp,h⟩:=h)
 (replace h:=ae h;obtain⟨n,hn,h⟩:=h)
 (replace h:=aB h;obtain⟨hg,h⟩:=h)
 cases h
 rw[cB]at hs hc
 simp only[Bool.and_eq_true,aJ]at hg
 have hl:=Nat.eq_of_beq_eq_true hg.2
 have hle:=Nat.le_of_ble_eq_true hg.1.2
 obtain⟨s',h0,hr0⟩:=ha.get 0 hs
 obtain⟨c',h1,hr1⟩:=ha.get 1 hc
 have hl':args'.length=2:=by rw[←ha.length,hl]
 have he:args'=[s',c']:=by
  match args',hl',h0,h1 with
  |[y,z],_,h0,h1=>cases h0;cases h1;rfl
 rw[dU hb]at hr0
 rw[eT hp,wY hn]at hr1
 have:=hr0.iT;subst this
 have:=hr1.of_int;subst this
 have hk:p.1=.u8:=by
  have:=hg.1.1
  cases hp1:p.1<;>rw[hp1]at this<;>first|rfl|(simp[wI]at this)
 rw[he,hk]
 exact⟨rfl,hle⟩
theorem BH{args args':List Value}{q:ByteArray×Nat}(h:xJ args=some q)(ha:bP m args args'):
 VR m (Bo (iI q.2 q.1.data.toList 0)) (Bo (iI q.2 q.1.data.toList 0))∧(Extern.BytealgIndexByte.indexByte ⟨args'⟩).run P w=.ok (Bo (iI q.2 q.1.data.toList 0)) w:=by
 obtain⟨rfl,hle⟩:=Dc h ha
 have hr:=Lib.run_indexByteString (P:=P) q.1 (q.2:Int) w
 rw[Int.toNat_natCast]at hr
 rcases LD q.2 hle q.1.data.toList 0 with⟨h1,h2⟩|⟨j,h1,h2⟩
 ·rw[h1]
  rw[h2]at hr
  exact⟨.sc _ rfl,hr⟩
 ·rw[h1,Nat.zero_add]
  rw[h2]at hr
  exact⟨.sc _ rfl,hr⟩
theorem Jy(c:Nat)(hc:c≤255):∀(l:List UInt8),countB c l=Lib.countByte l c.toUInt8:=by
 intro l
 induction l with
 |nil=>rfl
 |cons b l ih=>
  have hbc:Nat.beq b.toNat c=(b==c.toUInt8):=by
   rw[Bool.eq_iff_iff,beq_iff_eq]
   constructor
   ·intro h
    have:=Nat.eq_of_beq_eq_true h
    rw[←this];simp
   ·intro h
    rw[h]
    have h2:c.toUInt8.toNat=c:=by simp;omega
    rw[h2]
    exact Nat.beq_refl c
  show au (Nat.beq b.toNat c) (Nat.succ (countB c l)) (countB c l)=_
  rw[hbc,ih]
  unfold Lib.countByte
  rw[List.count_cons]
  cases hh:(b==c.toUInt8)<;>rfl
theorem BI{args args':List Value}{q:ByteArray×Nat}(h:xJ args=some q)(ha:bP m args args'):
 VR m (.int .i64 (.ofNat (countB q.2 q.1.data.toList))) (.int .i64 (.ofNat (countB q.2 q.1.data.toList)))∧(Extern.BytealgCount.count ⟨args'⟩).run P w=.ok (.int .i64 (.ofNat (countB q.2 q.1.data.toList))) w:=by
 obtain⟨rfl,hle⟩:=Dc h ha
 have hr:=Lib.run_countString (P:=P) q.1 (q.2:Int) w
 rw[Int.toNat_natCast,←Jy _ hle]at hr
 exact⟨.sc _ rfl,hr⟩
theorem De:∀(n t:Nat)(acc:Array Value),(Extern.BytealgMakeNoZero.digits n t acc).size=acc.size +n:=by
 intro n
 induction n with
 |zero=>intro t acc;rfl
 |succ n ih=>intro t acc;show(Extern.BytealgMakeNoZero.digits n (t/256) _).size=_;rw[ih];simp;omega
theorem Jz(rh:RH m H w){pt rt:List TypeId}{n:Nat}{t:TypeId}{q:TypeId×Nat}(ht:rt[0]?=some t)(hq:z8 P t=some q)(hs:q.2=1)(hn:n≤16777216):
 iq P m H w (Extern.BytealgMakeNoZero.makeNoZero ⟨pt⟩ ⟨rt⟩ ⟨[.int .i64 n]⟩) (.slice (some ⟨H.next,0,none⟩) n (bH 1)) (H.new (.row ⟨q.1,.nil,n,false,0⟩)):=by
 obtain⟨hu,_,_⟩:=lu hq
 have hat:(⟨rt⟩:Array TypeId)[0]?=some t:=by simpa using ht
 have h1:¬((n:Int)<0):=by omega
 have h2:¬((n:Int)>2^48):=by omega
 generalize hcap:(Question.appendCap n 0 q.1).cut (w.tape w.drawn (.appendCap n 0 q.1))=cap
 have hle:n≤cap:=by rw[←hcap];simp[Question.cut]
 generalize hby:(Question.extern "internal/bytealg.MakeNoZero.bytes" 0).cut (w.drew.tape w.drew.drawn (.extern "internal/bytealg.MakeNoZero.bytes" 0))=bytes
 have hsz:=De cap bytes #[]
 have hok:iJ m ⟨w.drew.drew.heap.size,0,0,cap,n⟩ (.row ⟨q.1,.nil,n,false,0⟩) (.cells (Extern.BytealgMakeNoZero.digits cap bytes #[]) q.1):=by
  refine⟨⟨rfl,rfl⟩,rfl,by rw[hsz];simp,Nat.zero_le _,by simpa using hle,fun _=>Nat.zero_le _,?_⟩
  intro i a b
  have b:i<n:=b
  show∃v,(Extern.BytealgMakeNoZero.digits cap bytes #[])[0 +(i -0)]?=some v∧VR m top v
  have hi:0 +(i -0)<(Extern.BytealgMakeNoZero.digits cap bytes #[]).size:=by rw[hsz];simp;omega
  exact⟨_,Array.getElem?_eq_getElem hi,.top _⟩
 have:=rh.drew.drew.alloc _ _ 0 0 cap n hok
 refine⟨_,.slice (some ⟨w.drew.drew.heap.size,0,none⟩) n cap,_,?_,?_,this.1,((Ex.drew m H w).trans (Ex.drew m H w.drew)).trans this.2⟩
 ·have hf:(Question.appendCap n 0 q.1).forced=false:=rfl
  have hf2:(Question.extern "internal/bytealg.MakeNoZero.bytes" 0).forced=false:=rfl
  have S8:∀k,(askRoom k).run P w.drew=.ok () w.drew:=fun k=>run_askRoom P w.drew k
  have hdef:Extern.BytealgMakeNoZero.makeNoZero ⟨pt⟩ ⟨rt⟩ ⟨[.int .i64 n]⟩=(do
   let some t:=(⟨rt⟩:Array TypeId)[0]?|stuck "bytealg.MakeNoZero: no result type"
   let .slice elem←underlying t|stuck "bytealg.MakeNoZero: slice type expected"
   if(n:Int)<0||(n:Int)>2^48 then runtimePanic (.error "makeslice: len out of range")
   let cap←choose (.appendCap (n:Int).toNat 0 elem)
   askRoom cap
   let bytes←choose (.extern "internal/bytealg.MakeNoZero.bytes" 0)
   let a←newRow elem (Extern.BytealgMakeNoZero.digits cap bytes #[])
   pure (.slice (some a) (n:Int).toNat cap)):=rfl
  rw[hdef]
  have h12:(decide ((n:Int)<0)||decide ((n:Int)>2^48))=false:=by simp[h1];omega
  have Vk:∀k(w:World),(askRoom k).run P w=.ok () w:=fun k w=>run_askRoom P w k
  simp[hat,h12,Vk,aA hu,h1,h2,hf,hf2,S8,hcap,newRow,-World.alloc_eq,-World.drew_eq]
  rw[if_neg aa]
  rw[show(w.tape (w.drawn +1) (Question.extern "internal/bytealg.MakeNoZero.bytes" 0))=(w.drew.tape w.drew.drawn (.extern "internal/bytealg.MakeNoZero.bytes" 0))from rfl,hby]
 ·have hr:=VR.gK (m:=m.add H.next ⟨w.drew.drew.heap.size,0,0,cap,n⟩) H.next 0 n 1 cap ⟨w.drew.drew.heap.size,0,0,cap,n⟩ (by simp[Mp.add]) (Nat.le_refl _) aa (by simp) hle (by simpa using hle)
  simpa using hr
end mem
section mem
variable{P:Program}{m:Mp}{H:ag}{w:World}
theorem LF(rh:RH m H w){s d:TypeId}{x x' v:Value}{H':ag}(h:fK P s d x H=some (v,H'))(hx:VR m x x'):iq P m H w (convert s d x') v H':=by
 (replace h:=ae h;obtain⟨q,hq,h⟩:=h)
 replace hq:(ah (P.underlying s) fun x=>ah (P.underlying d) fun y=>
  au (oG x) (ah (z8 P d) fun q=>some (1,q)) (au (oG y) (ah (z8 P s) fun q=>some (2,q))
   (au (sD y) (ah (sw x) fun e=>some (3,e,0)) (au (sD x) (ah (sw y) fun e=>some (4,e,0)) none))))=some q:=hq
 obtain⟨ds,hds,h1⟩:=ae hq;clear hq
 obtain⟨dd,hdd,hq⟩:=ae h1;clear h1
 cases h1:oG ds with
 |true=>
  rw[h1]at hq
  obtain⟨q1,hq1,hq2⟩:=ae hq
  cases hq2
  obtain⟨hu,_⟩:=lu hq1
  have h:qY P q1 x H=some (v,H'):=h
  exact C9 rh h hx hds hu
 |false=>
  rw[h1]at hq
  replace hq:(au (oG dd) (ah (z8 P s) fun q=>some (2,q))
   (au (sD dd) (ah (sw ds) fun e=>some (3,e,0)) (au (sD ds) (ah (sw dd) fun e=>some (4,e,0)) none)))=some q:=hq
  cases h2:oG dd with
  |true=>
   rw[h2]at hq
   obtain⟨q1,hq1,hq2⟩:=ae hq
   cases hq2
   obtain⟨hu,_⟩:=lu hq1
   have h:qZ P q1 x H=some (v,H'):=h
   exact C_ rh h hx hu (by rw[hdd,sJ h2])
  |false=>
   rw[h2]at hq
   replace hq:(au (sD dd) (ah (sw ds) fun e=>some (3,e,0)) (au (sD ds) (ah (sw dd) fun e=>some (4,e,0)) none))=some q:=hq
   cases h3:sD dd with
   |true=>
    rw[h3]at hq
    obtain⟨e,he,hq2⟩:=ae hq
    cases hq2
    have h:xG P e x H=some (v,H'):=h
    exact uQ rh h hx (by rw[hds,wZ he]) h3 hdd
   |false=>
    rw[h3]at hq
    replace hq:(au (sD ds) (ah (sw dd) fun e=>some (4,e,0)) none)=some q:=hq
    cases h4:sD ds with
    |false=>rw[h4]at hq;cases hq
    |true=>
     rw[h4]at hq
     obtain⟨e,he,hq2⟩:=ae hq
     cases hq2
     have h:xH P e x H=some (v,H'):=h
     exact uR rh h hx h4 hds (by rw[hdd,wZ he])
end mem
section mem
variable{P:Program}{m:Mp}{H:ag}{w:World}
theorem gM{o:Option Value}{v:Value}(h:rp o=.oH v):o=some v:=by
 cases o with
 |none=>cases h
 |some x=>cases h;rfl
theorem rD{o:Option Value}{v:Value}{H:ag}(h:rp o=.mem v H):False:=by cases o<;>cases h
theorem cO{o:Option (Value×ag)}{v:Value}{H:ag}(h:rm o=.mem v H):o=some (v,H):=by
 cases o with
 |none=>cases h
 |some x=>cases h;rfl
theorem mH{o:Option (Value×ag)}{v:Value}(h:rm o=.oH v):False:=by cases o<;>cases h
theorem GN{o:Option Value}{q:Option (Value×ag)}{v:Value}(h:UK o (rm q)=.oH v):o=some v:=by
 cases o with
 |none=>exact(mH (o:=q) h).elim
 |some x=>cases h;rfl
theorem GQ{o:Option Value}{q:Option (Value×ag)}{v:Value}{H:ag}(h:UK o (rm q)=.mem v H):q=some (v,H):=by
 cases o with
 |none=>exact cO (o:=q) h
 |some x=>cases h
structure Am(m:Mp)(s:St)(ρ:Operand→Value)(L:List Operand):Prop where
 all:∀x,x∈L→VR m (ev s x) (ρ x)
theorem Am.qp{s:St}{ρ:Operand→Value}{L:List Operand}(e:Am m s ρ L)(x:Operand)(h:x∈L:=by simp[Op.operands,Call.operands]):VR m (ev s x) (ρ x):=e.all x h
theorem Am.list{s:St}{ρ:Operand→Value}{L:List Operand}(e:Am m s ρ L):∀l:List Operand,(∀x,x∈l→x∈L)→bP m (mp (ev s) l) (l.map ρ)
 |[],_=>.nil
 |x::l,h=>.cons _ _ _ _ (e.all x (h x (by simp))) (e.list l fun y hy=>h y (by simp[hy]))
theorem Am.opt{s:St}{ρ:Operand→Value}{L:List Operand}(e:Am m s ρ L):∀o:Option Operand,(∀x,x∈o→x∈L)→OR m (wJ s o) (o.map ρ)
 |none,_=>.nn
 |some x,h=>.ss _ _ (e.all x (h x rfl))
theorem Am.pairs{s:St}{ρ:Operand→Value}{L:List Operand}(e:Am m s ρ L)(ps:Array (Nat×Operand))(h:∀x,x∈ps.toList→x.2∈L):Q6 m (Bp s ps) (ps.map fun(i,x)=>(i,ρ x)).toList:=by
 obtain⟨l⟩:=ps
 have:∀l:List (Nat×Operand),(∀x,x∈l→x.2∈L)→Q6 m (mp (fun p=>(p.1,ev s p.2)) l) (l.map fun(i,x)=>(i,ρ x)):=by
  intro l
  induction l with
  |nil=>intro _;exact .nil
  |cons x l ih=>intro h;exact .cons _ _ _ _ _ (e.all x.2 (h x (by simp))) (ih fun y hy=>h y (by simp[hy]))
 simpa [Bp]using this l h
def PG(P:Program)(m:Mp)(v:Value)(s:Sem Next):Prop:=∃v',VR m v v'∧∀w,s.run P w=.ok (.value v') w
theorem dV{m:Mp}{v v':Value}{s:Sem Value}(h:VR m v v')(hs:∀w,s.run P w=.ok v' w):PG P m v (do pure (.value (←s))):=
 ⟨v',h,fun w=>by simp[hs]⟩
theorem Df{b:Builtin}{ats:List TypeId}{ty:TypeId}{cs:Array Bool}{args args':List Value}{v:Value}(h:mZ b ats args P H=.oH v)(ha:bP m args args'):
 PG P m v (builtin b ⟨ats⟩ ty cs ⟨args'⟩):=by
 cases b
 case cap=>
  have h:=gM (o:=one (xE P) ats args) h
  obtain⟨h1,h2⟩:=Pm (t:=ty) h ha
  exact dV h1 h2
 case complex=>
  have h:=gM (o:=oQ args) h
  obtain⟨h1,h2⟩:=EX (P:=P) (ats:=⟨ats⟩) (t:=ty) h ha
  exact dV h1 h2
 case imag=>
  have h:=gM (o:=CU args) h
  obtain⟨h1,h2⟩:=Pq (P:=P) (ats:=⟨ats⟩) (t:=ty) h ha
  exact dV h1 h2
 case real=>
  have h:=gM (o:=CS args) h
  obtain⟨h1,h2⟩:=Pp (P:=P) (ats:=⟨ats⟩) (t:=ty) h ha
  exact dV h1 h2
 case len=>
  have h:=GN (o:=one (xD P) ats args) (q:=xI P ats args H) h
  obtain⟨h1,h2⟩:=Pk (t:=ty) h ha
  exact dV h1 h2
 case max=>
  have h:=gM (o:=KP true args) h
  obtain⟨v',h1,h2⟩:=K9 (P:=P) (ats:=⟨ats⟩) (t:=ty) h ha
  exact dV h1 h2
 case min=>
  have h:=gM (o:=KP false args) h
  obtain⟨v',h1,h2⟩:=K9 (P:=P) (ats:=⟨ats⟩) (t:=ty) h ha
  exact dV h1 h2
 case append=>exact(mH (o:=pZ P ats args H) h).elim
 case copy=>exact(mH (o:=Aa P ats args H) h).elim
 case clear=>exact(mH (o:=uH P ats args H) h).elim
 case delete=>exact(mH (o:=sG P ats args H) h).elim
 all_goals first|cases h|exact(mH (o:=sH args H) h).elim|exact(mH (o:=jB P ats args H) h).elim
theorem BJ{cf:bO}{s:St}{o:Oper}{ρ:Operand→Value}{v:Value}(h:kH o.op P cf s=.oH v)(e:Am m s ρ o.op.operands.toList)(hc:∀c,ρ (.const c)=c):PG P m v (execOp ρ o):=by
 cases hop:o.op
 case move x=>
  rw[hop]at h e;cases h
  exact⟨ρ x,e.all x (by simp[Op.operands,Call.operands]),fun w=>by simp[execOp,hop]⟩
 case assign x=>
  rw[hop]at h e;cases h
  exact⟨ρ x,e.all x (by simp[Op.operands,Call.operands]),fun w=>by simp[execOp,hop]⟩
 case pick c a b=>
  rw[hop]at h e
  have h:=gM (o:=xC (ev s c) (ev s a) (ev s b)) h
  obtain⟨v',h1,h2⟩:=Pf (P:=P) h (e.qp c) (e.qp a) (e.qp b)
  have:=dV h1 h2
  refine⟨v',h1,fun w=>?_⟩
  have h2:=h2 w
  simp only[execOp,hop]
  simp only[Sem.run_bind]at h2⊢
  cases hr:(asBool (ρ c)).run P w with
  |ok b' w'=>rw[hr]at h2;simp only[Result.andThen_ok,Sem.run_pure]at h2⊢;cases h2;rfl
  |halt x w'=>rw[hr]at h2;cases h2
 case build t ps=>
  rw[hop]at h e
  have h:=gM (o:=oP P t (Bp s ps)) h
  obtain⟨v',h1,h2⟩:=Lh h (e.pairs ps (by intro x hx;simp[Op.operands];exact⟨x.1,by simpa using hx⟩))
  have:PG P m v (do pure (.value (←Instr.build t (ps.map fun(i,x)=>(i,ρ x))))):=dV h1 h2
  simp only[execOp,hop]
  exact this
 case nilCheck x=>
  rw[hop]at h e
  have h:=gM (o:=Bh (ev s x)) h
  obtain⟨h1,h2⟩:=C6 (P:=P) h (e.qp x) ρ o x hop rfl
  exact⟨_,h1,h2⟩
 case binOp op t x y z=>
  rw[hop]at h e
  have h:=gM (o:=bq P op t x y (ev s x) (ev s y)) h
  obtain⟨h1,h2⟩:=SQ h (e.qp x) (e.qp y) (fun c hx=>by subst hx;rfl) (fun c hy=>by subst hy;rfl)
  have:=dV h1 h2
  simpa [execOp,hop]using this
 case unOp op t x=>
  rw[hop]at h e
  have h:=gM (o:=bD (Op.unary op (ev s x))) h
  obtain⟨h1,h2⟩:=Ph (P:=P) h (e.qp x)
  have:=dV h1 h2
  simpa [execOp,hop]using this
 case convert a b x=>
  rw[hop]at h e
  have h:=GN (o:=oC P a b (ev s x)) (q:=fK P a b (ev s x) s.H) h
  obtain⟨h1,h2⟩:=Pj h (e.qp x)
  have:=dV h1 h2
  simpa [execOp,hop]using this
 case makeInterface t x=>
  rw[hop]at h e
  have h:=gM (o:=zG P t (ev s x)) h
  obtain⟨v',h1,h2⟩:=SS h (e.qp x)
  have:=dV h1 h2
  simpa [execOp,hop]using this
 case makeFunc f fi ca=>
  rw[hop]at h e
  cases h
  refine⟨.func f (fi.map ρ) (ca.map ρ),?_,fun w=>by simp[execOp,hop,Instr.makeFunc]⟩
  obtain⟨fi⟩:=fi
  obtain⟨ca⟩:=ca
  have:=VR.func f _ _ _ _ (e.list fi (by intro x hx;simp[Op.operands,Call.operands,hx])) (e.list ca (by intro x hx;simp[Op.operands,Call.operands,hx]))
  simpa using this
 case slice t x lo hi mx=>
  rw[hop]at h e
  have h:=gM (o:=k_ P t (ev s x) (wJ s lo) (wJ s hi) (wJ s mx)) h
  obtain⟨v',h1,h2⟩:=Lc h (e.qp x) (e.opt lo (by intro x hx;simp[Op.operands]at hx⊢;simp[hx])) (e.opt hi (by intro x hx;simp[Op.operands]at hx⊢;simp[hx])) (e.opt mx (by intro x hx;simp[Op.operands]at hx⊢;simp[hx]))
  have:=dV h1 h2
  simpa [execOp,hop]using this
 case fieldAddr t x f=>
  rw[hop]at h e
  have h:=gM (o:=g_ P t (ev s x) f) h
  obtain⟨v',h1,h2⟩:=Bw h (e.qp x)
  have:=dV h1 h2
  simpa [execOp,hop]using this
 case field t x f=>
  rw[hop]at h e
  have h:=gM (o:=oO P t (ev s x) f) h
  obtain⟨v',h1,h2⟩:=K3 h (e.qp x)
  have:=dV h1 h2
  simpa [execOp,hop]using this
 case indexAddr t x i=>
  rw[hop]at h e
  have h:=gM (o:=gm P t (ev s x) (ev s i)) h
  obtain⟨v',h1,h2⟩:=Bv h (e.qp x) (e.qp i)
  have:=dV h1 h2
  simpa [execOp,hop]using this
 case index t x i=>
  rw[hop]at h e
  have h:=gM (o:=oN P t (ev s x) (ev s i)) h
  obtain⟨v',h1,h2⟩:=KZ h (e.qp x) (e.qp i)
  have:=dV h1 h2
  simpa [execOp,hop]using this
 case extract t i=>
  rw[hop]at h e
  have h:=gM (o:=jV (ev s t) i) h
  obtain⟨v',h1,h2⟩:=EW (P:=P) h (e.qp t)
  have:=dV h1 h2
  simpa [execOp,hop]using this
 case call c=>
  rw[hop]at h e
  replace h:jv c P cf s=.oH v:=h
  obtain⟨callee,⟨args⟩,ats⟩:=c
  cases callee with
  |value f=>exact(mH h).elim
  |invoke r n=>exact(mH h).elim
  |builtin b=>
   have h:mZ b ats.toList (mp (ev s) args) P s.H=.oH v:=h
   obtain⟨cs,hcs⟩:∃cs,∀w,(execOp ρ o).run P w=(builtin b ⟨ats.toList⟩ o.type cs ⟨args.map ρ⟩).run P w:=
    ⟨args.toArray.map fun|.const _=>true|_=>false,fun w=>by
     simp only[execOp,hop,resolve,invoke,Sem.run_bind,Sem.run_pure,Result.andThen_ok,List.map_toArray]
     rfl⟩
   obtain⟨v',h1,h2⟩:=Df (P:=P) (ty:=o.type) (cs:=cs) h (e.list args (by intro x hx;simp[Op.operands,Call.operands,hx]))
   exact⟨v',h1,fun w=>by rw[hcs,h2]⟩
 all_goals(rw[hop]at h;first|cases h|exact(mH h).elim|skip)
end mem
section mem
variable{P:Program}{m:Mp}{H:ag}{w:World}
def Gl(n:Nat)(m:Mp):Prop:=∀g,g<n→∃l,m g=some l∧l.c=g∧l.lo=0∧l.base=0
theorem Gl.mono{n:Nat}{m m':Mp}(h:Gl n m)(hm:Mp.le m m'):Gl n m':=fun g hg=>let⟨l,a,b⟩:=h g hg;⟨l,hm _ _ a,b⟩
def qJ(P:Program)(n:Nat)(cf:bO):Prop:=∀g args v H H',cf g args H=some (v,H')→∀m w args',RH m H w→Gl n m→bP m args args'→
 ∀(o:Oper)(a:Act)(next:Act→World→Prop)(Q:Exit→Act→World→Prop),
  (∀m' v' w',VR m' v v'→RH m' H' w'→Ex m m' H H' w w'→next (a.put o.dst v') w')→o.upon P a next Q ((callFunc g ⟨args'⟩).run P w)
theorem dJ{v:Value}{H':ag}{s:Sem Value}{o:Oper}{a:Act}{next:Act→World→Prop}{Q:Exit→Act→World→Prop}(h:iq P m H w s v H')
 (K:∀m' v' w',VR m' v v'→RH m' H' w'→Ex m m' H H' w w'→next (a.put o.dst v') w'):o.upon P a next Q ((do pure (.value (←s)):Sem Next).run P w):=by
 obtain⟨m',cv,w',h1,h2,h3,h4⟩:=h
 have:(do pure (.value (←s)):Sem Next).run P w=.ok (.value cv) w':=by simp[h1]
 rw[this]
 exact K m' cv w' h2 h3 h4
theorem uS{v:Value}{H':ag}{s:Sem Unit}{o:Oper}{a:Act}{next:Act→World→Prop}{Q:Exit→Act→World→Prop}
 (h:v=undef∧∃w',s.run P w=.ok () w'∧RH m H' w'∧Ex m m H H' w w')
 (K:∀m' v' w',VR m' v v'→RH m' H' w'→Ex m m' H H' w w'→next (a.put o.dst v') w'):o.upon P a next Q ((do s;pure .skip:Sem Next).run P w):=by
 obtain⟨rfl,w',h1,h3,h4⟩:=h
 have:(do s;pure .skip:Sem Next).run P w=.ok .skip w':=by simp[h1]
 rw[this]
 exact K m undef w' (.tuple [] [] .nil) h3 h4
theorem rE{v v':Value}{s:Sem Value}{H':ag}(rh:RH m H w)(e:H'=H)(h:VR m v v')(hr:s.run P w=.ok v' w):iq P m H w s v H':=by
 subst e;exact⟨m,v',w,hr,h,rh,Ex.refl _ _ _⟩
theorem Dg{b:Builtin}{ats:List TypeId}{ty:TypeId}{cs:Array Bool}{args args':List Value}{v:Value}{H':ag}(rh:RH m H w)(h:mZ b ats args P H=.mem v H')(ha:bP m args args')
 {o:Oper}{a:Act}{next:Act→World→Prop}{Q:Exit→Act→World→Prop}
 (K:∀m' v' w',VR m' v v'→RH m' H' w'→Ex m m' H H' w w'→next (a.put o.dst v') w'):o.upon P a next Q ((builtin b ⟨ats⟩ ty cs ⟨args'⟩).run P w):=by
 cases b
 case append=>exact dJ (Jn rh (cO (o:=pZ P ats args H) h) ha) K
 case copy=>exact dJ (Pz rh (cO (o:=Aa P ats args H) h) ha) K
 case clear=>exact dJ (LB rh (cO (o:=uH P ats args H) h) ha) K
 case delete=>exact dJ (Js rh (cO (o:=sG P ats args H) h) ha) K
 case len=>
  have h:=GQ (o:=one (xD P) ats args) (q:=xI P ats args H) h
  obtain⟨e,h1,h2⟩:=Pt (t:=ty) rh h ha
  exact dJ (rE rh e h1 h2) K
 case cap=>exact(rD (o:=one (xE P) ats args) h).elim
 case complex=>exact(rD (o:=oQ args) h).elim
 case imag=>exact(rD (o:=CU args) h).elim
 case real=>exact(rD (o:=CS args) h).elim
 case max=>exact(rD (o:=KP true args) h).elim
 case min=>exact(rD (o:=KP false args) h).elim
 all_goals first
  |cases h
  |exact dJ (Jt (fun _ _ _ _ _=>rfl) (fun _ _ _ _ _ _=>rfl) rh (cO (o:=sH args H) h) ha) K
  |exact dJ (Db ⟨_,_,_,_,_,fun _ _ _ _ _=>rfl⟩ rh (cO (o:=jB P ats args H) h) ha) K
theorem GR{cf:bO}{s:St}{o:Oper}{ρ:Operand→Value}{v:Value}{H':ag}(rh:RH m s.H w)(h:kH o.op P cf s=.mem v H')(e:Am m s ρ o.op.operands.toList)
 {a:Act}{next:Act→World→Prop}{Q:Exit→Act→World→Prop}
 (hcall:∀c,o.op=.call c→isBuiltin c.callee=none→o.upon P a next Q ((execOp ρ o).run P w))
 (K:∀m' v' w',VR m' v v'→RH m' H' w'→Ex m m' s.H H' w w'→next (a.put o.dst v') w'):o.upon P a next Q ((execOp ρ o).run P w):=by
 cases hop:o.op
 case alloc t=>
  rw[hop]at h e
  simp only[execOp,hop]
  exact dJ (Lm rh (cO h)) K
 case box t x=>
  rw[hop]at h e
  simp only[execOp,hop]
  exact dJ (SY rh (cO h) (e.qp x)) K
 case buildSlice t n ps=>
  rw[hop]at h e
  simp only[execOp,hop]
  exact dJ (E7 rh (cO h) (e.pairs ps (by intro x hx;simp[Op.operands];exact⟨x.1,by simpa using hx⟩))) K
 case insert t x k y=>
  rw[hop]at h e
  simp only[execOp,hop]
  exact uS (Ai rh (cO h) (e.qp x) (e.qp k) (e.qp y)) K
 case mapUpdate t x k y=>
  rw[hop]at h e
  simp only[execOp,hop]
  exact uS (Ai rh (cO h) (e.qp x) (e.qp k) (e.qp y)) K
 case load t x=>
  rw[hop]at h e
  simp only[execOp,hop]
  obtain⟨h1,v',h2,h3⟩:=GL rh (cO h) (e.qp x)
  exact dJ (rE rh h1 h2 h3) K
 case store t x y=>
  rw[hop]at h e
  simp only[execOp,hop]
  exact uS (Ll rh (cO h) (e.qp x) (e.qp y)) K
 case convert c d x=>
  rw[hop]at h e
  simp only[execOp,hop]
  exact dJ (LF rh (GQ (o:=oC P c d (ev s x)) (q:=fK P c d (ev s x) s.H) h) (e.qp x)) K
 case makeMap t r=>
  rw[hop]at h e
  simp only[execOp,hop]
  exact dJ (Fa rh (cO h) (e.opt r (by intro x hx;simp[Op.operands]at hx⊢;simp[hx]))) K
 case makeSlice t l c=>
  rw[hop]at h e
  simp only[execOp,hop]
  exact dJ (BC rh (cO h) (e.qp l) (e.qp c)) K
 case lookup t x k ok=>
  rw[hop]at h e
  simp only[execOp,hop]
  obtain⟨h1,v',h2,h3⟩:=Ji rh (cO h) (e.qp x) (e.qp k)
  exact dJ (rE rh h1 h2 h3) K
 case range t x=>
  rw[hop]at h e
  simp only[execOp,hop]
  exact dJ (LC rh (cO h) (e.qp x)) K
 case next x b=>
  rw[hop]at h e
  simp only[execOp,hop]
  exact dJ (PD rh (cO h) (e.qp x)) K
 case call c=>
  rw[hop]at h e
  cases hb:isBuiltin c.callee with
  |none=>exact hcall c hop hb
  |some b=>
   obtain⟨callee,⟨args⟩,ats⟩:=c
   cases callee with
   |value f=>cases hb
   |invoke r n=>cases hb
   |builtin b=>
    have h:mZ b ats.toList (mp (ev s) args) P s.H=.mem v H':=h
    obtain⟨cs,hcs⟩:∃cs,∀w,(execOp ρ o).run P w=(builtin b ⟨ats.toList⟩ o.type cs ⟨args.map ρ⟩).run P w:=
     ⟨args.toArray.map fun|.const _=>true|_=>false,fun w=>by
      simp only[execOp,hop,resolve,invoke,Sem.run_bind,Sem.run_pure,Result.andThen_ok,List.map_toArray]
      rfl⟩
    rw[hcs]
    exact Dg rh h (e.list args (by intro x hx;simp[Op.operands,Call.operands,hx])) K
 all_goals(rw[hop]at h;first|cases h|exact(rD h).elim)
end mem
section mem
variable{P:Program}{m:Mp}{H:ag}{w:World}
theorem Dh{cf:bO}{n:Nat}(hcf:qJ P n cf)(gl:Gl n m){s:St}{o:Oper}{ρ:Operand→Value}{v:Value}{H':ag}{f:Operand}{args:List Operand}{ats:Array TypeId}(rh:RH m s.H w)
 (hop:o.op=.call ⟨.value f,⟨args⟩,ats⟩)(h:jv ⟨.value f,⟨args⟩,ats⟩ P cf s=.mem v H')(e:Am m s ρ o.op.operands.toList)
 {a:Act}{next:Act→World→Prop}{Q:Exit→Act→World→Prop}
 (K:∀m' v' w',VR m' v v'→RH m' H' w'→Ex m m' s.H H' w w'→next (a.put o.dst v') w'):o.upon P a next Q ((execOp ρ o).run P w):=by
 replace h:rm (ah (ah (Ku (ev s f)) fun q=>ah (Gr q.1) fun g=>some (g,q.2)) fun q=>cf q.1 (app q.2.1 (app (mp (ev s) args) q.2.2)) s.H)=.mem v H':=h
 replace h:=cO h
 (replace h:=ae h;obtain⟨q,hq,h⟩:=h)
 obtain⟨p,hp,hq⟩:=ae hq
 obtain⟨g,hg,hq⟩:=ae hq
 cases hq
 rw[hop]at e
 have hf:=e.all f (by simp[Op.operands,Call.operands])
 rw[xK hp,xL hg]at hf
 obtain⟨p0,p1,p2⟩:=p
 obtain⟨x',y',hh,hx,hy⟩:=hf.Gz
 have hargs:bP m (app p1 (app (mp (ev s) args) p2)) (x'++(args.map ρ++y')):=by
  rw[fV,fV]
  exact hx.append ((e.list args (by intro x hx;simp[Op.operands,Call.operands,hx])).append hy)
 have:=hcf _ _ _ _ _ h m w _ rh gl hargs o a next Q K
 have hr:(execOp ρ o).run P w=(callFunc g ⟨x'++(args.map ρ++y')⟩).run P w:=by
  simp only[execOp,hop,resolve,hh,Deferred.ofValue,invoke,Sem.run_bind,Sem.run_pure,Result.andThen_ok,List.map_toArray]
  congr 2
  rw[←Array.toList_inj];simp
 rw[hr]
 exact this
end mem
section mem
variable{P:Program}{m:Mp}{H:ag}{w:World}
theorem LG{d:TypeDesc}(h:jU d=1):∃e,d=.pointer e:=by
 cases d<;>simp[jU]at h;exact⟨_,rfl⟩
theorem Fg{t:TypeId}{name:String}{q:FuncId×Bool}{v:Value}(h:methodOf P t name=some q)(n:Nat)(w:World):(method (n +1) t v name).run P w=.ok (q.1,v) w:=by
 (replace h:=ae h;obtain⟨i,hi,h⟩:=h)
 (replace h:=ae h;obtain⟨mm,hmm,h⟩:=h)
 (replace h:=ae h;obtain⟨q',hq,h⟩:=h)
 (replace h:=ae h;obtain⟨d,hd,h⟩:=h)
 (replace h:=aB h;obtain⟨hg,h⟩:=h)
 cases h
 have hi:P.info? t=some i:=hi
 have hmm:i.methods.find? (·.name==name)=some mm:=by rw[←Array.find?_toList];exact hmm
 simp only[Bool.and_eq_true]at hg
 have hp:=Nat.eq_of_beq_eq_true hg.1
 rw[aJ]at hp
 have hp:mm.path.toList=[]:=List.eq_nil_of_length_eq_zero hp
 obtain⟨f,b⟩:=q
 have hg2:=hg.2
 cases b with
 |true=>
  replace hg2:Nat.beq (jU d) 1=true:=hg2
  obtain⟨e,rfl⟩:=LG (Nat.eq_of_beq_eq_true hg2)
  simp[method,jZ hi,hmm,hp,follow,hq,receiverAt,aA hd,Place.get]
 |false=>
  replace hg2:(!(Nat.beq (jU d) 1))=true:=hg2
  have hd1:∀e,d≠.pointer e:=by
   intro e he;subst he;simp[jU]at hg2
  cases d<;>first|exact absurd rfl (hd1 _)|simp[method,jZ hi,hmm,hp,follow,hq,receiverAt,aA hd,Place.get]
theorem Di{cf:bO}{n:Nat}(hcf:qJ P n cf)(gl:Gl n m){s:St}{o:Oper}{ρ:Operand→Value}{v:Value}{H':ag}{r:Operand}{name:String}{args:List Operand}{ats:Array TypeId}(rh:RH m s.H w)
 (hop:o.op=.call ⟨.invoke r name,⟨args⟩,ats⟩)(h:jv ⟨.invoke r name,⟨args⟩,ats⟩ P cf s=.mem v H')(e:Am m s ρ o.op.operands.toList)
 {a:Act}{next:Act→World→Prop}{Q:Exit→Act→World→Prop}
 (K:∀m' v' w',VR m' v v'→RH m' H' w'→Ex m m' s.H H' w w'→next (a.put o.dst v') w'):o.upon P a next Q ((execOp ρ o).run P w):=by
 replace h:rm (ah (ah (nM (ev s r)) fun p=>ah (methodOf P p.1 name) fun q=>some (q.1,[p.2],([]:List Value))) fun q=>cf q.1 (app q.2.1 (app (mp (ev s) args) q.2.2)) s.H)=.mem v H':=h
 replace h:=cO h
 (replace h:=ae h;obtain⟨q,hq,h⟩:=h)
 obtain⟨p,hp,hq⟩:=ae hq
 obtain⟨g,hg,hq⟩:=ae hq
 cases hq
 rw[hop]at e
 have hf:=e.all r (by simp[Op.operands,Call.operands])
 rw[uL hp]at hf
 obtain⟨x',hh,hx⟩:=hf.sI
 have hargs:bP m (app [p.2] (app (mp (ev s) args) [])) ([x']++(args.map ρ++[])):=by
  rw[fV,fV]
  exact(bP.cons _ _ _ _ hx .nil).append ((e.list args (by intro x hx;simp[Op.operands,Call.operands,hx])).append .nil)
 have:=hcf _ _ _ _ _ h m w _ rh gl hargs o a next Q K
 have hr:(execOp ρ o).run P w=(callFunc g.1 ⟨[x']++(args.map ρ++[])⟩).run P w:=by
  have hm:=Fg (v:=x') hg (P.types.size +Made.depth -1) w
  have hd:P.types.size +Made.depth -1 +1=P.types.size +Made.depth:=by
   have:1≤Made.depth:=by decide
   omega
  rw[hd]at hm
  have ht:(List.map ρ args).take args.length=List.map ρ args:=List.take_of_length_le (by simp)
  simp[execOp,hop,resolve,invoke,callMethod,hh,hm,ht]
 rw[hr]
 exact this
end mem
def rF(n:Nat)(x:Operand):Bool:=@Operand.rec (fun _=>Bool) (fun _=>true) (fun v=>dD v) (fun g=>Nat.ble (Nat.succ g) n) (fun _=>true) x
def yf(nt:Nat)(d:Option Nat):Bool:=@Option.rec Nat (fun _=>Bool) true (fun d=>Nat.ble (Nat.succ d) nt) d
def iU(n nt:Nat)(o:Oper):Bool:=all' (rF n) o.op.operands.toList&&yf nt o.dst
section mem
variable{P:Program}{m:Mp}{H:ag}{w:World}
inductive Q9(m:Mp):List Deferred→List Deferred→Prop
 |nil:Q9 m [] []
 |cons (g:FuncId) (c c' x x':List Value) (ds ds':List Deferred):bP m c c'→bP m x x'→Q9 m ds ds'→Q9 m (⟨.fn (.func g) ⟨c⟩,⟨x⟩⟩::ds) (⟨.fn (.func g) ⟨c'⟩,⟨x'⟩⟩::ds')
theorem Q9.mono{m m':Mp}{l l':List Deferred}(h:Q9 m l l')(hm:Mp.le m m'):Q9 m' l l':=by
 induction h with
 |nil=>exact .nil
 |cons g c c' x x' ds ds' h1 h2 _ ih=>exact .cons g c c' x x' ds ds' (h1.mono hm) (h2.mono hm) ih
structure FR(m:Mp)(s:St)(a:Act):Prop where
 size:a.tmps.size=s.nt
 slot:∀t,VR m (aO s t) (a.tmps.getD t undef)
 df:Q9 m s.df a.defers
theorem FR.mono{m m':Mp}{s:St}{a:Act}(h:FR m s a)(hm:Mp.le m m'):FR m' s a:=⟨h.size,fun t=>(h.slot t).mono hm,h.df.mono hm⟩
theorem FR.ev{m:Mp}{s:St}{a:Act}{n:Nat}(h:FR m s a)(g:Gl n m){L:List Operand}(hL:all' (rF n) L=true):Am m s a.eval L:=by
 refine⟨fun x hx=>?_⟩
 rw[all_eq]at hL
 have hx:=List.all_eq_true.1 hL x hx
 cases x with
 |tmp t=>exact h.slot t
 |const v=>exact .sc v hx
 |global k=>
  obtain⟨l,h1,h2,h3,h4⟩:=g k (Nat.le_of_ble_eq_true hx)
  have:=VR.ptr (m:=m) k 0 l h1 aa
  rw[h2,h3,h4]at this
  exact this
 |func f=>exact .func (.func f) [] [] [] [] .nil .nil
theorem FR.put{m:Mp}{s:St}{a:Act}{H':ag}{d:Option Nat}{v v':Value}(h:FR m s a)(hd:yf s.nt d=true)(hv:VR m v v'):FR m (bA s d v H') (a.put d v'):=by
 cases d with
 |none=>exact⟨h.size,h.slot,h.df⟩
 |some d=>
  have hd:d<s.nt:=Nat.le_of_ble_eq_true hd
  have hget:∀t,(a.tmps.setIfInBounds d v').getD t undef=if t=d then v' else a.tmps.getD t undef:=by
   intro t
   by_cases e:t=d
   ·subst e
    rw[if_pos rfl]
    simp[Array.getD,h.size,hd]
   ·rw[if_neg e]
    simp only[Array.getD_eq_getD_getElem?]
    rw[Array.getElem?_setIfInBounds_ne (Ne.symm e)]
  show FR m (fC s d v H') {a with tmps:=a.tmps.setIfInBounds d v'}
  unfold fC
  cases hb:aS s.nl d with
  |true=>
   show FR m ⟨s.nl,s.nt,s.reg,au (Nat.ble (Nat.succ d) s.nt) (s.tm.set top d v) s.tm,s.df,H'⟩ _
   rw[show Nat.ble (Nat.succ d) s.nt=true from Nat.ble_eq_true_of_le hd]
   refine⟨by simpa using h.size,fun t=>?_,h.df⟩
   rw[hget]
   have hl:=h.slot t
   unfold aO at hl⊢
   simp only at hl⊢
   by_cases e:t=d
   ·subst e
    rw[if_pos rfl,hb]
    show VR m ((s.tm.set top t v).get top t) v'
    rw[Tr.gQ,if_pos rfl];exact hv
   ·rw[if_neg e]
    cases hbt:aS s.nl t with
    |true=>
     rw[hbt]at hl
     show VR m ((s.tm.set top d v).get top t) _
     rw[Tr.gQ,if_neg e];exact hl
    |false=>rw[hbt]at hl;exact hl
  |false=>
   show FR m ⟨s.nl,s.nt,(d,v)::s.reg,s.tm,s.df,H'⟩ _
   refine⟨by simpa using h.size,fun t=>?_,h.df⟩
   rw[hget]
   have hl:=h.slot t
   unfold aO at hl⊢
   simp only at hl⊢
   by_cases e:t=d
   ·subst e
    rw[if_pos rfl,hb]
    show VR m (au (Nat.beq t t) v (look s.reg t)) v'
    rw[show Nat.beq t t=true from Nat.beq_refl t];exact hv
   ·rw[if_neg e]
    cases hbt:aS s.nl t with
    |true=>rw[hbt]at hl;exact hl
    |false=>
     rw[hbt]at hl
     show VR m (au (Nat.beq d t) v (look s.reg t)) _
     rw[show Nat.beq d t=false from by rw[←Bool.not_eq_true];exact fun g=>e (Nat.eq_of_beq_eq_true g).symm];exact hl
end mem
section mem
variable{P:Program}{m:Mp}{H:ag}{w:World}
theorem LH{v:Value}(h:UL v=true):v=.tuple #[]:=by
 cases v with
 |tuple l=>
  obtain⟨l⟩:=l
  have h:Nat.beq (len l) 0=true:=h
  have h:=Nat.eq_of_beq_eq_true h
  rw[aJ]at h
  rw[List.eq_nil_of_length_eq_zero h]
 |_=>simp[UL,KI]at h
theorem LJ{ops:Array Oper}{s:St}{a:Act}{j:Nat}{y:Option Bool}(f:FR m s a)(h:nN ops s j=some y):yielded ops a.tmps j=y:=by
 (replace h:=ae h;obtain⟨o,ho,h⟩:=h)
 (replace h:=ae h;obtain⟨t,ht,h⟩:=h)
 rw[cB,Array.getElem?_toList]at ho
 have hs:=f.slot t
 have hy:yielded ops a.tmps j=match a.tmps[t]? with|some (.bool b)=>some b|_=>none:=by
  unfold yielded
  rw[ho]
  show(match(o.dst).bind (a.tmps[·]?)with|some (.bool b)=>some b|_=>none)=_
  rw[ht]
  rfl
 rw[hy]
 cases hb:bE (aO s t)with
 |some b=>
  rw[hb]at h
  replace h:some (some b)=some y:=h
  cases h
  rw[eF hb]at hs
  have hs:=hs.of_bool
  rw[Array.getD_eq_getD_getElem?]at hs
  cases hq:a.tmps[t]? with
  |none=>rw[hq]at hs;cases hs
  |some x=>rw[hq]at hs;replace hs:x=.bool b:=hs;rw[hs]
 |none=>
  rw[hb]at h
  replace h:(gd (UL (aO s t)) (some (none:Option Bool)))=some y:=h
  (replace h:=aB h;obtain⟨hg,h⟩:=h)
  cases h
  rw[LH hg]at hs
  obtain⟨l',hl,hv⟩:=VR.Bq (x:=[]) hs
  cases hv
  rw[Array.getD_eq_getD_getElem?]at hl
  cases hq:a.tmps[t]? with
  |none=>rfl
  |some x=>rw[hq]at hl;replace hl:x=.tuple ⟨[]⟩:=hl;rw[hl]
theorem PI{ops:Array Oper}{s:St}{a:Act}{o:Oper}{b:Bool}(f:FR m s a)(h:fF ops s o.guard=some b):Region.wanted o (yielded ops a.tmps)=b:=by
 unfold Region.wanted
 cases hg:o.guard with
 |none=>rw[hg]at h;cases h;rfl
 |some p=>
  rw[hg]at h
  replace h:(ah (nN ops s p.1) fun y=>some (@Option.rec Bool (fun _=>Bool) false (fun b=>oz b p.2) y))=some b:=h
  (replace h:=ae h;obtain⟨y,hy,h⟩:=h)
  cases h
  obtain⟨j,want⟩:=p
  simp only
  rw[LJ f hy]
  cases y with
  |none=>rfl
  |some c=>cases c<;>cases want<;>rfl
end mem
section mem
variable{P:Program}{m:Mp}{H:ag}{w:World}
theorem put_defers(a:Act)(d:Option Tmp)(v:Value):(a.put d v).defers=a.defers:=by cases d<;>rfl
theorem bT(s:St)(d:Option Nat)(v:Value)(H:ag):(bA s d v H).H=H:=by
 cases d with
 |none=>rfl
 |some d=>show(fC s d v H).H=H;unfold fC;cases aS s.nl d<;>rfl
theorem jQ(s:St)(d:Option Nat)(v:Value)(H:ag):(bA s d v H).nt=s.nt:=by
 cases d with
 |none=>rfl
 |some d=>show(fC s d v H).nt=s.nt;unfold fC;cases aS s.nl d<;>rfl
theorem BK(s:St)(d:Option Nat)(v:Value)(H:ag):(bA s d v H).df=s.df:=by
 cases d with
 |none=>rfl
 |some d=>show(fC s d v H).df=s.df;unfold fC;cases aS s.nl d<;>rfl
theorem PK{cf:bO}{n:Nat}(hcf:qJ P n cf){s s1:St}{o:Oper}{a:Act}(rh:RH m s.H w)(f:FR m s a)(gl:Gl n m)(hok:iU n s.nt o=true)(hd:gp o.op=none)
 (h:kI P cf o s=some s1){next:Act→World→Prop}{Q:Exit→Act→World→Prop}
 (K:∀m' a' w',FR m' s1 a'→RH m' s1.H w'→Ex m m' s.H s1.H w w'→next a' w'):o.wp P a w next Q:=by
 unfold kI at h
 rw[hd]at h
 replace h:q8 o s (kH o.op P cf s)=some s1:=h
 unfold iU at hok
 simp only[Bool.and_eq_true]at hok
 have e:=f.ev gl hok.1
 unfold Oper.wp
 cases hr:kH o.op P cf s with
 |fail=>rw[hr]at h;cases h
 |oH v=>
  rw[hr]at h
  replace h:some (bA s o.dst v s.H)=some s1:=h
  cases h
  obtain⟨v',h1,h2⟩:=BJ hr e (fun _=>rfl)
  rw[h2 w]
  have hf:FR m (bA s o.dst v s.H) (a.put o.dst v'):=f.put hok.2 h1
  exact K m _ w hf (by rw[bT];exact rh) (by rw[bT];exact Ex.refl _ _ _)
 |mem v H'=>
  rw[hr]at h
  replace h:some (bA s o.dst v H')=some s1:=h
  cases h
  have K':∀m' v' w',VR m' v v'→RH m' H' w'→Ex m m' s.H H' w w'→next (a.put o.dst v') w':=by
   intro m' v' w' h1 h2 h3
   exact K m' _ w' ((f.mono h3.le).put hok.2 h1) (by rw[bT];exact h2) (by rw[bT];exact h3)
  refine GR rh hr e ?_ K'
  intro c hop hb
  rw[hop]at hr
  replace hr:jv c P cf s=.mem v H':=hr
  obtain⟨callee,⟨args⟩,ats⟩:=c
  cases callee with
  |value g=>exact Dh hcf gl rh hop hr e K'
  |invoke r name=>exact Di hcf gl rh hop hr e K'
  |builtin b=>cases hb
theorem JA{o:Op}{c:Call}(h:gp o=some c):o=.defer c:=by
 cases o with
 |defer c'=>cases h;rfl
 |_=>cases h
theorem LK{cf:bO}{n:Nat}{s s1:St}{o:Oper}{a:Act}{c:Call}(rh:RH m s.H w)(f:FR m s a)(gl:Gl n m)(hok:iU n s.nt o=true)(hd:gp o.op=some c)
 (h:kI P cf o s=some s1){next:Act→World→Prop}{Q:Exit→Act→World→Prop}
 (K:∀a',FR m s1 a'→s1.H=s.H→s1.nt=s.nt→next a' w):o.wp P a w next Q:=by
 unfold kI at h
 rw[hd]at h
 replace h:(ah (mE c P s) fun d=>some (bA ⟨s.nl,s.nt,s.reg,s.tm,d::s.df,s.H⟩ o.dst undef s.H))=some s1:=h
 (replace h:=ae h;obtain⟨d,hdd,h⟩:=h)
 cases h
 have hop:=JA hd
 unfold iU at hok
 simp only[Bool.and_eq_true]at hok
 have e:=f.ev gl hok.1
 obtain⟨callee,⟨args⟩,ats⟩:=c
 cases callee with
 |builtin b=>cases hdd
 |invoke r name=>cases hdd
 |value g=>
  replace hdd:(ah (Ku (ev s g)) fun q=>ah (Gr q.1) fun k=>some (⟨.fn (.func k) ⟨q.2.2⟩,⟨app q.2.1 (mp (ev s) args)⟩⟩:Deferred))=some d:=hdd
  obtain⟨p,hp,hdd⟩:=ae hdd
  obtain⟨k,hk,hdd⟩:=ae hdd
  cases hdd
  have hop':o.op.operands.toList=(Op.defer ⟨.value g,⟨args⟩,ats⟩).operands.toList:=by rw[hop]
  rw[hop']at e
  have hf:=e.all g (by simp[Op.operands,Call.operands])
  rw[xK hp,xL hk]at hf
  obtain⟨p0,p1,p2⟩:=p
  obtain⟨x',y',hh,hx,hy⟩:=hf.Gz
  have hargs:bP m (app p1 (mp (ev s) args)) (x'++args.map a.eval):=by
   rw[fV]
   exact hx.append (e.list args (by intro x hx;simp[Op.operands,Call.operands,hx]))
  unfold Oper.wp
  have hr:(execOp a.eval o).run P w=.ok (.defer ⟨.fn (.func k) ⟨y'⟩,⟨x'++args.map a.eval⟩⟩) w:=by
   simp only[execOp,hop,resolve,hh,Deferred.ofValue,Sem.run_bind,Sem.run_pure,Result.andThen_ok,List.map_toArray]
   congr 3
   simp
  rw[hr,Oper.upon_defer]
  have f':FR m ⟨s.nl,s.nt,s.reg,s.tm,⟨.fn (.func k) ⟨p2⟩,⟨app p1 (mp (ev s) args)⟩⟩::s.df,s.H⟩ {a with defers:=⟨.fn (.func k) ⟨y'⟩,⟨x'++args.map a.eval⟩⟩::a.defers}:=
   ⟨f.size,f.slot,.cons _ _ _ _ _ _ _ hy hargs f.df⟩
  exact K _ (f'.put hok.2 (.tuple [] [] .nil)) (bT _ _ _ _) (jQ _ _ _ _)
end mem
section mem
variable{P:Program}{m:Mp}{H:ag}{w:World}
theorem JB{cf:bO}{n:Nat}(hcf:qJ P n cf){ops:Array Oper}{nt:Nat}(hall:all' (iU n nt) ops.toList=true){Q:Exit→Act→World→Prop}:
 ∀(l:List Oper)(k:Nat)(m:Mp)(s s1:St)(a:Act)(w:World),ops.toList.drop k=l→s.nt=nt→RH m s.H w→FR m s a→Gl n m→di P cf ops l s=some s1→
 (∀m' a' w',FR m' s1 a'→RH m' s1.H w'→Ex m m' s.H s1.H w w'→s1.nt=nt→Q .normal a' w')→
 wpOps P ops Q (List.range' k l.length) a w:=by
 intro l
 induction l with
 |nil=>
  intro k m s s1 a w _ hnt rh f gl h K
  cases h
  exact K m a w f rh (Ex.refl _ _ _) hnt
 |cons o l ih=>
  intro k m s s1 a w hl hnt rh f gl h K
  have hk:ops[k]?=some o:=by
   rw[←Array.getElem?_toList]
   have:=congrArg List.head? hl
   rw[List.head?_drop]at this
   exact this
  have hmem:o∈ops.toList:=List.mem_of_getElem? (by rw[Array.getElem?_toList];exact hk)
  have hdrop:ops.toList.drop (k +1)=l:=by
   rw[←List.tail_drop,hl];rfl
  rw[all_eq]at hall
  have ho:=List.all_eq_true.1 hall o hmem
  replace h:(ah (ah (fF ops s o.guard) fun b=>au b (kI P cf o s) (some (bA s o.dst undef s.H))) fun s=>di P cf ops l s)=some s1:=h
  obtain⟨s2,h1,h2⟩:=ae h
  obtain⟨b,hb,h3⟩:=ae h1
  have hw:=PI f hb
  rw[List.length_cons,List.range'_succ]
  show wpOps P ops Q (k::List.range' (k +1) l.length) a w
  rw[wpOps_cons]
  unfold wpOp
  rw[hk]
  simp only[hw]
  cases b with
  |true=>
   replace h3:kI P cf o s=some s2:=h3
   simp only[if_true]
   left
   cases hd:gp o.op with
   |some c=>
    refine LK rh f gl (by rw[hnt];exact ho) hd h3 ?_
    intro a' f' eH eN
    refine ih (k +1) m s2 s1 a' w hdrop (by rw[eN,hnt]) (by rw[eH];exact rh) f' gl h2 ?_
    intro m2 a2 w2 f2 Q_ OW hn2
    rw[eH]at OW
    exact K m2 a2 w2 f2 Q_ OW hn2
   |none=>
   have Yg:s2.nt=s.nt:=by
    unfold kI at h3
    rw[hd]at h3
    replace h3:q8 o s (kH o.op P cf s)=some s2:=h3
    cases hr:kH o.op P cf s with
    |fail=>rw[hr]at h3;cases h3
    |oH v=>rw[hr]at h3;replace h3:some (bA s o.dst v s.H)=some s2:=h3;cases h3;exact jQ _ _ _ _
    |mem v H'=>rw[hr]at h3;replace h3:some (bA s o.dst v H')=some s2:=h3;cases h3;exact jQ _ _ _ _
   refine PK hcf rh f gl (by rw[hnt];exact ho) hd h3 ?_
   intro m' a' w' f' S_ ex'
   refine ih (k +1) m' s2 s1 a' w' hdrop (by rw[Yg,hnt]) S_ f' (gl.mono ex'.le) h2 ?_
   intro m2 a2 w2 f2 Q_ OW hn2
   exact K m2 a2 w2 f2 Q_ (ex'.trans OW) hn2
  |false=>
   replace h3:some (bA s o.dst undef s.H)=some s2:=h3
   cases h3
   simp only[Bool.false_eq_true,if_false]
   unfold iU at ho
   simp only[Bool.and_eq_true]at ho
   have f':FR m (bA s o.dst undef s.H) (a.put o.dst undef):=f.put (by rw[hnt];exact ho.2) (.tuple [] [] .nil)
   refine ih (k +1) m _ s1 _ w hdrop (by rw[jQ,hnt]) (by rw[bT];exact rh) f' gl h2 ?_
   intro m2 a2 w2 f2 Q_ OW hn2
   rw[bT]at OW
   exact K m2 a2 w2 f2 Q_ OW hn2
end mem
section rules
variable{P:Program}{Q:Exit→Act→World→Prop}{a:Act}{w:World}
theorem least{p:Nat→Prop}(h:∃n,p n):∃n,p n∧∀k,k<n→¬p k:=by
 obtain⟨n,hn⟩:=h
 induction n using Nat.strongRecOn with
 |_ n ih=>
  by_cases hx:∃k,k<n∧p k
  ·obtain⟨k,h1,h2⟩:=hx
   exact ih k h1 h2
  ·exact⟨n,hn,fun k hk hp=>hx ⟨k,hk,hp⟩⟩
theorem JC{c:Code}(R:Nat→Act→World→Prop)(h0:∀a w,¬R 0 a w)(hs:∀n a w,R (n +1) a w→c.wp P (Exit.then (R n) Q) a w){n:Nat}(h:R n a w):(Code.loop c).wp P Q a w:=by
 classical
 refine wp_loop (fun a w=>∃n,R n a w) (fun a w=>if h:∃n,R n a w then Classical.choose (least h)else 0) ⟨n,h⟩ ?_
 intro a w hI
 have hf:=Classical.choose_spec (least hI)
 have hd:(if h:∃n,R n a w then Classical.choose (least h)else 0)=Classical.choose (least hI):=dif_pos hI
 rw[hd]
 generalize Classical.choose (least hI)=k0 at hf
 cases k0 with
 |zero=>exact(h0 a w hf.1).elim
 |succ k=>
  refine wp_mono (hs k a w hf.1) ?_
  intro e a' w' he
  cases e with
  |normal=>
   have hI':∃n,R n a' w':=⟨k,he⟩
   refine⟨hI',?_⟩
   have hd':(if h:∃n,R n a' w' then Classical.choose (least h)else 0)=Classical.choose (least hI'):=dif_pos hI'
   rw[hd']
   have hf':=Classical.choose_spec (least hI')
   exact Nat.lt_succ_of_le (Nat.le_of_not_lt fun hlt=>hf'.2 k hlt he)
  |_=>exact he
def LM(J:Nat→Act→World→Prop)(Q:Exit→Act→World→Prop):Exit→Act→World→Prop
 |.goto l,a,w=>J l a w
 |e,a,w=>Q e a w
theorem Fh{c:Code}(R:Nat→Nat→Act→World→Prop)
 (hs:∀n l a w,R n l a w→(∃n' rest,n=n' +1∧findLabel c l=some rest∧rest.wp P (LM (R n') Q) a w)∨(findLabel c l=none∧Q (.goto l) a w))
 {n:Nat}(first:c.wp P (LM (R n) Q) a w):(Code.scope c).wp P Q a w:=by
 intro b k cs
 have key:∀n l a w,R n l a w→∀m₀,(∀k',gotoIn l (.inScope c::k)=some k'→Steps P m₀ (lone (b.at a k') cs w))→∃e a' w',Q e a' w'∧Arrives P m₀ b k cs e a' w':=by
  intro n
  induction n with
  |zero=>
   intro l a w hR m₀ hm
   rcases hs 0 l a w hR with⟨n',rest,h1,_⟩|⟨h1,h2⟩
   ·cases h1
   ·exact⟨_,a,w,h2,fun k' hk=>hm k' (by simp[gotoIn,h1,hk])⟩
  |succ n ih=>
   intro l a w hR m₀ hm
   rcases hs (n +1) l a w hR with⟨n',rest,h1,h2,h3⟩|⟨h1,h2⟩
   ·cases h1
    obtain⟨e,a₁,w₁,hq,harr⟩:=h3 b (.inScope c::k) cs
    have hg:=hm (.code rest::.inScope c::k) (by simp[gotoIn,h2])
    cases e with
    |normal=>exact⟨.normal,a₁,w₁,hq,hg.trans (Steps.trans harr (.one step_inScope))⟩
    |exit id=>exact⟨.exit id,a₁,w₁,hq,fun k' hk=>hg.trans (harr k' (by simp[exitTo,hk]))⟩
    |goto l'=>exact ih l' a₁ w₁ hq m₀ fun k' hk=>hg.trans (harr k' hk)
    |ret=>exact⟨_,a₁,w₁,hq,.of_steps hg harr⟩
    |panic ch=>exact⟨_,a₁,w₁,hq,.of_steps hg harr⟩
    |outgrown=>exact⟨_,a₁,w₁,hq,.of_steps hg harr⟩
   ·exact⟨_,a,w,h2,fun k' hk=>hm k' (by simp[gotoIn,h1,hk])⟩
 obtain⟨e,a₁,w₁,hq,harr⟩:=first b (.inScope c::k) cs
 cases e with
 |normal=>exact⟨.normal,a₁,w₁,hq,.head step_scope (Steps.trans harr (.one step_inScope))⟩
 |exit id=>exact⟨.exit id,a₁,w₁,hq,fun k' hk=>.head step_scope (harr k' (by simp[exitTo,hk]))⟩
 |goto l'=>exact key n l' a₁ w₁ hq _ fun k' hk=>.head step_scope (harr k' hk)
 |ret=>exact⟨_,a₁,w₁,hq,.of_steps (.one step_scope) harr⟩
 |panic ch=>exact⟨_,a₁,w₁,hq,.of_steps (.one step_scope) harr⟩
 |outgrown=>exact⟨_,a₁,w₁,hq,.of_steps (.one step_scope) harr⟩
end rules
def codeOk(n nt:Nat):Code→Bool
 |.region _ ops _=>all' (iU n nt) ops.toList
 |.seq a b=>codeOk n nt a&&codeOk n nt b
 |.cond c a b=>rF n c&&(codeOk n nt a&&codeOk n nt b)
 |.block _ c=>codeOk n nt c
 |.loop c=>codeOk n nt c
 |.scope c=>codeOk n nt c
 |_=>true
theorem nS{n nt:Nat}:∀{c:Code}{l:Nat}{rest:Code},codeOk n nt c=true→findLabel c l=some rest→codeOk n nt rest=true
 |.seq a b,l,rest,hc,h=>by
  simp only[codeOk,Bool.and_eq_true]at hc
  simp only[findLabel]at h
  cases ha:findLabel a l with
  |some r=>
   rw[ha]at h
   replace h:some (Code.seq r b)=some rest:=h
   cases h
   simp only[codeOk,Bool.and_eq_true]
   exact⟨nS hc.1 ha,hc.2⟩
  |none=>
   rw[ha]at h
   exact nS hc.2 h
 |.label l',l,rest,_,h=>by
  simp only[findLabel]at h
  split at h
  ·cases h;rfl
  ·cases h
 |.skip,_,_,_,h=>by simp[findLabel]at h
 |.region ..,_,_,_,h=>by simp[findLabel]at h
 |.cond ..,_,_,_,h=>by simp[findLabel]at h
 |.block ..,_,_,_,h=>by simp[findLabel]at h
 |.loop _,_,_,_,h=>by simp[findLabel]at h
 |.rangeFunc ..,_,_,_,h=>by simp[findLabel]at h
 |.exit _,_,_,_,h=>by simp[findLabel]at h
 |.scope _,_,_,_,h=>by simp[findLabel]at h
 |.goto _,_,_,_,h=>by simp[findLabel]at h
 |.ret,_,_,_,h=>by simp[findLabel]at h
 |.refuse _,_,_,_,h=>by simp[findLabel]at h
structure At(m0:Mp)(H0:ag)(w0:World)(d0:List Deferred)(nt:Nat)(df:List Deferred)(s1:St)(a:Act)(w:World)(m:Mp):Prop where
 fr:FR m s1 a
 rh:RH m s1.H w
 ex:Ex m0 m H0 s1.H w0 w
 nt:s1.nt=nt
def To(m0:Mp)(H0:ag)(w0:World)(d0:List Deferred)(nt:Nat)(df:List Deferred)(s1:St)(q:Act→World→Prop):Prop:=
 ∀m a w,At m0 H0 w0 d0 nt df s1 a w m→q a w
def Post(m0:Mp)(H0:ag)(w0:World)(d0:List Deferred)(nt:Nat)(df:List Deferred)(Q:Exit→Act→World→Prop):Out→Prop
 |.fail=>False
 |.norm s=>To m0 H0 w0 d0 nt df s (Q .normal)
 |.exit i s=>To m0 H0 w0 d0 nt df s (Q (.exit i))
 |.goto l s=>To m0 H0 w0 d0 nt df s (Q (.goto l))
 |.ret s=>To m0 H0 w0 d0 nt df s (Q .ret)
theorem At.trans{m0 m1 m:Mp}{H0:ag}{w0 w1 w:World}{d0:List Deferred}{nt:Nat}{df:List Deferred}{s1 s2:St}{a1 a:Act}
 (h1:At m0 H0 w0 d0 nt df s1 a1 w1 m1)(h2:At m1 s1.H w1 a1.defers s1.nt s1.df s2 a w m):At m0 H0 w0 d0 nt df s2 a w m:=
 ⟨h2.fr,h2.rh,h1.ex.trans h2.ex,by rw[h2.nt,h1.nt]⟩
theorem Post.from'{m0 m1:Mp}{H0:ag}{w0 w1:World}{d0:List Deferred}{nt:Nat}{df:List Deferred}{s1:St}{a1:Act}{Q:Exit→Act→World→Prop}
 (h1:At m0 H0 w0 d0 nt df s1 a1 w1 m1){o:Out}(h:Post m0 H0 w0 d0 nt df Q o):Post m1 s1.H w1 a1.defers nt s1.df Q o:=by
 have e:=h1.nt
 cases o with
 |fail=>exact h
 |_=>exact fun m a w h2=>h m a w (h1.trans (by rw[e];exact h2))
theorem Post.from{m0 m1:Mp}{H0:ag}{w0 w1:World}{d0:List Deferred}{nt:Nat}{df:List Deferred}{s1:St}{a1:Act}{Q:Exit→Act→World→Prop}
 (h1:At m0 H0 w0 d0 nt df s1 a1 w1 m1){o:Out}(h:Post m0 H0 w0 d0 nt df Q o):Post m1 s1.H w1 a1.defers s1.nt s1.df Q o:=by
 cases o with
 |fail=>exact h
 |_=>exact fun m a w h2=>h m a w (h1.trans h2)
def uT(P:Program)(cf:bO)(n nt:Nat):Prop:=∀(id:Nat)(ops:Array Oper)(s:St)(m:Mp)(a:Act)(w:World)(Q:Exit→Act→World→Prop),
 all' (iU n nt) ops.toList=true→s.nt=nt→RH m s.H w→FR m s a→Gl n m→
 Post m s.H w a.defers nt s.df Q (region P cf ops true s)→(Code.region id ops true).wp P Q a w
def uU(P:Program)(ex:Code→St→Out)(n nt:Nat):Prop:=∀(c:Code)(s:St)(m:Mp)(a:Act)(w:World)(Q:Exit→Act→World→Prop),
 codeOk n nt c=true→s.nt=nt→RH m s.H w→FR m s a→Gl n m→
 Post m s.H w a.defers nt s.df Q (ex c s)→c.wp P Q a w
theorem FR.clear{m:Mp}{s:St}{a:Act}(h:FR m s a):FR m (clear s) a:=by
 refine⟨h.size,fun t=>?_,h.df⟩
 have ht:=h.slot t
 unfold aO at ht⊢
 show VR m (au (aS s.nl t) (s.tm.get top t) (look [] t)) _
 cases hb:aS s.nl t with
 |true=>rw[hb]at ht;exact ht
 |false=>exact .top _
section mem
variable{P:Program}
theorem GU{cf:bO}{n nt:Nat}(hcf:qJ P n cf){cx:Code→St→Out}(hcx:uU P cx n nt)(hdr:uT P cf n nt)(k:Nat):uU P (exec P cf cx k) n nt:=by
 intro c
 induction c with
 |skip=>intro s m a w Q _ hnt rh f _ h;exact wp_skip (h m a w ⟨f,rh,Ex.refl _ _ _,hnt⟩)
 |label l=>intro s m a w Q _ hnt rh f _ h;exact wp_label (h m a w ⟨f,rh,Ex.refl _ _ _,hnt⟩)
 |exit id=>intro s m a w Q _ hnt rh f _ h;exact wp_exit (h m a w ⟨f,rh,Ex.refl _ _ _,hnt⟩)
 |goto l=>intro s m a w Q _ hnt rh f _ h;exact wp_goto (h m a w ⟨f,rh,Ex.refl _ _ _,hnt⟩)
 |ret=>intro s m a w Q _ hnt rh f _ h;exact wp_ret (h m a w ⟨f,rh,Ex.refl _ _ _,hnt⟩)
 |refuse=>intro s m a w Q _ _ _ _ _ h;exact h.elim
 |rangeFunc=>intro s m a w Q _ _ _ _ _ h;exact h.elim
 |region id ops draw=>
  intro s m a w Q hc hnt rh f gl h
  simp only[codeOk]at hc
  cases draw with
  |true=>exact hdr id ops s m a w Q hc hnt rh f gl h
  |false=>
   replace h:Post m s.H w a.defers nt s.df Q (vG (di P cf ops ops.toList (clear s))):=h
   cases hr:di P cf ops ops.toList (clear s)with
   |none=>rw[hr]at h;exact h.elim
   |some s1=>
    rw[hr]at h
    replace h:To m s.H w a.defers nt s.df s1 (Q .normal):=h
    have hw:wpOps P ops Q (List.range' 0 ops.toList.length) a w:=by
     refine JB (P:=P) hcf (n:=n) (nt:=nt) hc ops.toList 0 m (clear s) s1 a w (by simp) hnt rh f.clear gl hr ?_
     intro m' a' w' f' S_ ex' hn'
     exact h m' a' w' ⟨f',S_,ex',hn'⟩
    refine wp_region ?_
    rw[List.range_eq_range']
    exact hw
 |seq x y Yh Yi=>
  intro s m a w Q hc hnt rh f gl h
  simp only[codeOk,Bool.and_eq_true]at hc
  replace h:Post m s.H w a.defers nt s.df Q (andThen (exec P cf cx k x s) (exec P cf cx k y)):=h
  refine wp_seq (Yh s m a w _ hc.1 hnt rh f gl ?_)
  cases hx:exec P cf cx k x s with
  |fail=>rw[hx]at h;exact h
  |norm s1=>
   rw[hx]at h
   intro m1 a1 w1 h1
   have:=h.from h1
   rw[h1.nt]at this
   exact Yi s1 m1 a1 w1 Q hc.2 h1.nt h1.rh h1.fr (gl.mono h1.ex.le) this
  |exit i s1=>rw[hx]at h;exact h
  |goto l s1=>rw[hx]at h;exact h
  |ret s1=>rw[hx]at h;exact h
 |cond c x y Yh Yi=>
  intro s m a w Q hc hnt rh f gl h
  simp only[codeOk,Bool.and_eq_true]at hc
  replace h:Post m s.H w a.defers nt s.df Q (vF (bE (ev s c)) (exec P cf cx k x s) (exec P cf cx k y s)):=h
  cases hb:bE (ev s c)with
  |none=>rw[hb]at h;exact h.elim
  |some b=>
   rw[hb]at h
   have hL:all' (rF n) [c]=true:=by rw[all_eq];simp[hc.1]
   have he:=(f.ev gl hL).all c (by simp)
   rw[eF hb]at he
   have he:=he.of_bool
   cases b with
   |true=>exact wp_cond_true he (Yh s m a w Q hc.2.1 hnt rh f gl h)
   |false=>exact wp_cond_false he (Yi s m a w Q hc.2.2 hnt rh f gl h)
 |block id c ih=>
  intro s m a w Q hc hnt rh f gl h
  replace h:Post m s.H w a.defers nt s.df Q (jD id (exec P cf cx k c s)):=h
  refine wp_block (ih s m a w _ hc hnt rh f gl ?_)
  cases hx:exec P cf cx k c s with
  |fail=>rw[hx]at h;exact h
  |norm s1=>rw[hx]at h;exact h
  |exit i s1=>
   rw[hx]at h
   replace h:Post m s.H w a.defers nt s.df Q (au (Nat.beq i id) (.norm s1) (.exit i s1)):=h
   intro m1 a1 w1 h1
   by_cases e:i=id
   ·subst e
    rw[show Nat.beq i i=true from Nat.beq_refl i]at h
    simp only[Exit.inBlock,if_true]
    exact h m1 a1 w1 h1
   ·rw[show Nat.beq i id=false from by rw[←Bool.not_eq_true];exact fun g=>e (Nat.eq_of_beq_eq_true g)]at h
    simp only[Exit.inBlock,e,if_false]
    exact h m1 a1 w1 h1
  |goto l s1=>rw[hx]at h;exact h
  |ret s1=>rw[hx]at h;exact h
 |loop c ih=>
  intro s m a w Q hc hnt rh f gl h
  replace h:Post m s.H w a.defers nt s.df Q (jY k (exec P cf cx k c) s):=h
  have key:∀j,Post m s.H w a.defers nt s.df Q (jY j (exec P cf cx k c) s)→(Code.loop c).wp P Q a w:=by
   intro j hj
   refine JC (fun j a1 w1=>∃m1 s1,At m s.H w a.defers nt s.df s1 a1 w1 m1∧Post m s.H w a.defers nt s.df Q (jY j (exec P cf cx k c) s1)) ?_ ?_ (n:=j)
    ⟨m,s,⟨f,rh,Ex.refl _ _ _,hnt⟩,hj⟩
   ·rintro a1 w1 ⟨m1,s1,_,h0⟩
    exact h0
   ·rintro j a1 w1 ⟨m1,s1,h1,h0⟩
    replace h0:Post m s.H w a.defers nt s.df Q (andThen (exec P cf cx k c s1) (jY j (exec P cf cx k c))):=h0
    refine ih s1 m1 a1 w1 _ hc h1.nt h1.rh h1.fr (gl.mono h1.ex.le) ?_
    cases hx:exec P cf cx k c s1 with
    |fail=>rw[hx]at h0;exact h0
    |norm s2=>
     rw[hx]at h0
     intro m2 a2 w2 h2
     exact⟨m2,s2,h1.trans (by rw[h1.nt];exact h2),h0⟩
    |exit i s2=>rw[hx]at h0;exact h0.from' h1
    |goto l s2=>rw[hx]at h0;exact h0.from' h1
    |ret s2=>rw[hx]at h0;exact h0.from' h1
  exact key k h
 |scope c ih=>
  intro s m a w Q hc hnt rh f gl h
  replace h:Post m s.H w a.defers nt s.df Q (dI cx k c (exec P cf cx k c s)):=h
  have hc':codeOk n nt c=true:=hc
  have pass:∀j(o:Out),Post m s.H w a.defers nt s.df Q (dI cx j c o)→
   Post m s.H w a.defers nt s.df (LM (fun l a1 w1=>∃m1 s1,At m s.H w a.defers nt s.df s1 a1 w1 m1∧Post m s.H w a.defers nt s.df Q (dI cx j c (.goto l s1))) Q) o:=by
   intro j o ho
   cases j with
   |zero=>exact ho.elim
   |succ j=>
    cases o with
    |fail=>exact ho
    |norm s1=>exact ho
    |exit i s1=>exact ho
    |ret s1=>exact ho
    |goto l s1=>
     intro m1 a1 w1 h1
     exact⟨m1,s1,h1,ho⟩
  refine Fh (n:=k) (fun j l a1 w1=>∃m1 s1,At m s.H w a.defers nt s.df s1 a1 w1 m1∧Post m s.H w a.defers nt s.df Q (dI cx j c (.goto l s1))) ?_ (ih s m a w _ hc hnt rh f gl (pass k _ h))
  rintro j l a1 w1 ⟨m1,s1,h1,h0⟩
  cases j with
  |zero=>exact h0.elim
  |succ j=>
   replace h0:Post m s.H w a.defers nt s.df Q (@Option.rec Code (fun _=>Out) (.goto l s1) (fun rest=>dI cx j c (cx rest s1)) (findLabel c l)):=h0
   cases hf:findLabel c l with
   |none=>
    rw[hf]at h0
    exact .inr ⟨rfl,h0 m1 a1 w1 h1⟩
   |some rest=>
    rw[hf]at h0
    refine .inl ⟨j,rest,rfl,rfl,?_⟩
    have:=(pass j _ h0).from h1
    rw[h1.nt]at this
    exact hcx rest s1 m1 a1 w1 _ (nS hc' hf) h1.nt h1.rh h1.fr (gl.mono h1.ex.le) this
end mem
def jR(n nt:Nat)(c:Code):Bool:=
 @Code.rec (fun _=>Bool) true (fun _ ops _=>all' (iU n nt) ops.toList) (fun _ _ a b=>a&&b) (fun c _ _ a b=>rF n c&&(a&&b)) (fun _ _ a=>a) (fun _ a=>a)
  (fun _ _ _ _ _ _=>true) (fun _=>true) (fun _ a=>a) (fun _=>true) (fun _=>true) true (fun _=>true) c
theorem Fj{n nt:Nat}(c:Code)(h:jR n nt c=true):codeOk n nt c=true:=by
 have:jR n nt c=codeOk n nt c:=by
  clear h
  induction c with
  |seq a b iha ihb=>show(jR n nt a&&jR n nt b)=_;rw[iha,ihb];rfl
  |cond c a b iha ihb=>show(rF n c&&(jR n nt a&&jR n nt b))=_;rw[iha,ihb];rfl
  |block id a ih=>exact ih
  |loop a ih=>exact ih
  |scope a ih=>exact ih
  |_=>rfl
 rw[←this];exact h
def JD(n:Nat)(fn:Func):Bool:=@Option.rec Code (fun _=>Bool) true (fun c=>jR n fn.ntmps c&&!(fn.name== "runtime.NumGoroutine")) fn.body
def l5(P:Program)(n:Nat):Prop:=∀(g:FuncId)(fn:Func),P.funcs[g]?=some fn→JD n fn=true
def Ky(P:Program)(X:Xt):Prop:=∀(g:FuncId)(fn:Func)(args:List Value)(v:Value)(H H':ag),P.funcs[g]?=some fn→fn.body=none→IY P (X g) fn.resultTypes.toList args H=some (v,H')→
 ∀m w args',RH m H w→bP m args args'→∃m' v' w',(callFunc g ⟨args'⟩).run P w=.ok (.value v') w'∧VR m' v v'∧RH m' H' w'∧Ex m m' H H' w w'
def BL(P:Program)(n:Nat)(cf:bO):Prop:=∀g args v H H' fn,cf g args H=some (v,H')→P.funcs[g]?=some fn→fn.body.isSome=true→∀m w args',RH m H w→Gl n m→bP m args args'→
 Calls P g ⟨args'⟩ w fun e w'=>∃m' v',e=.returned v'∧VR m' v v'∧RH m' H' w'∧Ex m m' H H' w w'
def yg(P:Program)(X:Xt)(n:Nat):Prop:=∀(g:FuncId)(args:List Value)(v:Value)(H H':ag),X.o g args H=some (v,H')→(∃fn,P.funcs[g]?=some fn∧fn.body.isSome=true)∧∀m w args',RH m H w→Gl n m→bP m args args'→
 Calls P g ⟨args'⟩ w fun e w'=>∃m' v',e=.returned v'∧VR m' v v'∧RH m' H' w'∧Ex m m' H H' w w'
theorem yg.none{P:Program}{X:Xt}{n:Nat}(h:∀g a H,X.o g a H=none):yg P X n:=fun g a v H H' e=>by rw[h]at e;cases e
theorem j4{P:Program}{X:Xt}{L:Lv}{k:Nat}{g:FuncId}{args:List Value}{H:ag}(h:X.o g args H=none):nP P X L k g args H=ah (nth P.funcs.toList g) fun fn=>I1 P L k g (X g) fn args H:=by
 show X7 (X.o g args H) _=_
 rw[h];rfl
theorem o9{P:Program}{X:Xt}{L:Lv}{k:Nat}{g:FuncId}{args:List Value}{H:ag}{r:Value×ag}(h:X.o g args H=some r):nP P X L k g args H=some r:=by
 show X7 (X.o g args H) _=_
 rw[h];rfl
section mem
variable{P:Program}
theorem rG{m:Mp}{w:World}{s:St}{a:Act}(rh:RH m s.H w)(f:FR m s a){fn:Func}{vs:List Value}(h:bK P s fn.results.toList=some vs):
 ∃v',VR m (eY vs) v'∧(results fn a.tmps).run P w=.ok v' w:=by
 have key:∀(l:List ResultVar)(vs:List Value),bK P s l=some vs→∃vs',bP m vs vs'∧
  Sem.run P (l.mapM fun|ResultVar.tmp t=>(pure (a.tmps.getD t undef):Sem Value)|ResultVar.cell b t=>do loadVar t (←asAddr (a.tmps.getD b undef))) w=Result.ok vs' w:=by
  intro l
  induction l with
  |nil=>intro vs h;cases h;exact⟨[],.nil,by simp⟩
  |cons r l ih=>
   intro vs h
   replace h:(ah (p8 P s r) fun v=>ah (bK P s l) fun vs=>some (v::vs))=some vs:=h
   (replace h:=ae h;obtain⟨v,hv,h⟩:=h)
   (replace h:=ae h;obtain⟨vs1,hvs,h⟩:=h)
   cases h
   obtain⟨vs',h1,h2⟩:=ih vs1 hvs
   cases r with
   |tmp t=>
    replace hv:some (aO s t)=some v:=hv
    cases hv
    refine⟨_::vs',.cons _ _ _ _ (f.slot t) h1,?_⟩
    simp only[List.mapM_cons,Sem.run_bind,Sem.run_pure,Result.andThen_ok,h2]
   |cell b t=>
    replace hv:(ah (jg P t (aO s b) s.H) fun p=>some p.1)=some v:=hv
    obtain⟨p,hp,hv⟩:=ae hv
    cases hv
    have hb:=f.slot b
    obtain⟨hH,v',h3,h4⟩:=GL (P:=P) rh (show jg P t (aO s b) s.H=some (p.1,p.2)from hp) hb
    refine⟨v'::vs',.cons _ _ _ _ h3 h1,?_⟩
    have h5:∃a',a.tmps.getD b undef=.pointer (some a'):=by
     have h:=hp
     (replace h:=ae h;obtain⟨a0,ha0,h⟩:=h)
     rw[dS ha0]at hb
     obtain⟨l,_,_,_,h⟩:=hb.gL
     exact⟨_,h⟩
    obtain⟨a',ha'⟩:=h5
    rw[ha']at h4
    simp only[Instr.loadAt,Instr.sureAddr,Sem.run_bind,Sem.run_pure,Result.andThen_ok]at h4
    have has:asAddr (.pointer (some a'))=pure a':=rfl
    simp only[List.mapM_cons,ha',has,Sem.run_bind,Sem.run_pure,Result.andThen_ok,h4,h2]
 obtain⟨vs',h1,h2⟩:=key _ _ h
 have hlen:=h1.length
 refine⟨if h:vs'.toArray.size=1 then vs'.toArray[0]else .tuple vs'.toArray,?_,?_⟩
 ·unfold eY
  cases vs with
  |nil=>cases h1;exact .tuple [] [] .nil
  |cons v vs=>
   cases h1 with
   |cons _ v' _ x' hv hx=>
    cases vs with
    |nil=>cases hx;exact hv
    |cons u vs=>
     have:(v'::x').toArray.size≠1:=by simp at hlen⊢;intro h;rw[h]at hlen;simp at hlen
     rw[dif_neg this]
     exact .tuple _ _ (.cons _ _ _ _ hv hx)
 ·show Sem.run P (do
   let vs←fn.results.mapM (fun|ResultVar.tmp t=>(pure (a.tmps.getD t undef):Sem Value)|ResultVar.cell b t=>do loadVar t (←asAddr (a.tmps.getD b undef)))
   pure (if h:vs.size=1 then vs[0]else .tuple vs)) w=_
  simp only[Sem.run_bind,Array.mapM_eq_mapM_toList,Sem.run_map,h2,Result.andThen_ok,Sem.run_pure]
theorem Ta{m:Mp}{args args':List Value}(h:bP m args args')(nl nt:Nat)(hle:args.length≤nt)(H:ag):
 FR m ⟨nl,nt,[],Tr.iH top args 0 .nil,[],H⟩ {tmps:=(⟨args'⟩:Array Value)++Array.replicate (nt -(⟨args'⟩:Array Value).size) undef,defers:=[]}:=by
 have hl:=h.length
 refine⟨by simp;omega,fun t=>?_,.nil⟩
 show VR m (au (aS nl t) ((Tr.iH top args 0 .nil).get top t) (look [] t)) _
 cases aS nl t with
 |false=>exact .top _
 |true=>
  show VR m ((Tr.iH top args 0 .nil).get top t) _
  rw[Tr.cz]
  by_cases ht:t<args.length
  ·rw[if_pos aa]
   have hg:args[t]?=some (args.getD t top):=by rw[List.getD_eq_getElem?_getD,List.getElem?_eq_getElem ht];rfl
   obtain⟨v',h1,h2⟩:=h.get t hg
   have:((⟨args'⟩:Array Value)++Array.replicate (nt -(⟨args'⟩:Array Value).size) undef).getD t undef=v':=by
    rw[Array.getD_eq_getD_getElem?,Array.getElem?_append_left (by simp;omega)]
    simp[h1]
   rw[this]
   exact h2
  ·rw[if_neg aa,Tr.get_nil]
   exact .top _
theorem JE{m:Mp}{H:ag}{w:World}{nt:Nat}{s:St}{o:Out}{Q:Exit→Act→World→Prop}(h:KU o=some s)(K:∀a' w' m',At m H w [] nt [] s a' w' m'→Q .normal a' w'∧Q .ret a' w'):
 Post m H w [] nt [] Q o:=by
 cases o with
 |fail=>cases h
 |norm s1=>cases h;intro m' a' w' ha;exact(K a' w' m' ha).1
 |exit=>cases h
 |goto=>cases h
 |ret s1=>cases h;intro m' a' w' ha;exact(K a' w' m' ha).2
theorem GV{n:Nat}{L:Lv}(hP:l5 P n)(hcf:qJ P n L.ca)(hcx:∀nt,uU P L.cx n nt)(hdr:∀nt,uT P L.ca n nt){k:Nat}{g:FuncId}{fn:Func}{c:Code}{args args':List Value}{H:ag}{s:St}{m:Mp}{w:World}{Q:Exit→Act→World→Prop}
 (hg:P.funcs[g]?=some fn)(hb:fn.body=some c)(h:ig P L k g fn c args H=some s)(rh:RH m H w)(gl:Gl n m)(hv:bP m args args')
 (K:∀a' w' m',At m H w [] fn.ntmps [] s a' w' m'→Q .normal a' w'∧Q .ret a' w'):c.wp P Q {tmps:=(⟨args'⟩:Array Value)++Array.replicate (fn.ntmps -(⟨args'⟩:Array Value).size) undef,defers:=[]} w:=by
 have hok:=hP g fn hg
 unfold JD at hok
 rw[hb]at hok
 replace hok:(jR n fn.ntmps c&&!(fn.name== "runtime.NumGoroutine"))=true:=hok
 rw[Bool.and_eq_true]at hok
 unfold ig at h
 (replace h:=aB h;obtain⟨hle,h⟩:=h)
 have hle:=Nat.le_of_ble_eq_true hle
 rw[aJ]at hle
 exact GU hcf (hcx fn.ntmps) (hdr fn.ntmps) k c ⟨bV P g,fn.ntmps,[],Tr.iH top args 0 .nil,[],H⟩ m _ w _ (Fj c hok.1) rfl rh (Ta hv (bV P g) fn.ntmps hle H) gl (JE h K)
theorem enters{n:Nat}(hP:l5 P n){g:FuncId}{fn:Func}{c:Code}(hg:P.funcs[g]?=some fn)(hb:fn.body=some c)(args:Array Value)(w:World):(callFunc g args).run P w=.ok (.enter g args) w:=by
 have hok:=hP g fn hg
 unfold JD at hok
 rw[hb]at hok
 replace hok:(jR n fn.ntmps c&&!(fn.name== "runtime.NumGoroutine"))=true:=hok
 rw[Bool.and_eq_true]at hok
 have hn:fn.name≠ "runtime.NumGoroutine" :=by simpa using hok.2
 simp[callFunc,hg,hn,hb]
theorem LP{k:FuncId}{g:FuncId}(h:Gr (.func k)=some g):k=g:=by cases h;rfl
theorem JF{n:Nat}{L:Lv}(hP:l5 P n)(hcf:qJ P n L.ca)(hcx:∀nt,uU P L.cx n nt)(hdr:∀nt,uT P L.ca n nt){k:Nat}{fn:Func}{tmps:Array Value}{R:Ending→World→Prop}{H':ag}:
 ∀(df ds:List Deferred)(m:Mp)(H:ag)(w:World),Q9 m df ds→RH m H w→Gl n m→mF P L k df H=some H'→
 (∀m' w',RH m' H' w'→Ex m m' H H' w w'→Leaves P fn tmps R [] .returning w')→Leaves P fn tmps R ds .returning w:=by
 intro df
 induction df with
 |nil=>
  intro ds m H w hd rh gl h K
  cases hd
  cases h
  exact K m w rh (Ex.refl _ _ _)
 |cons d df ih=>
  intro ds m H w hd rh gl h K
  cases hd with
  |cons g c c' x x' _ ds' hc hx hr=>
   replace h:(ah (q_ P L k ⟨.fn (.func g) ⟨c⟩,⟨x⟩⟩ H) fun H=>mF P L k df H)=some H':=h
   obtain⟨H1,h1,h2⟩:=ae h
   replace h1:(ah (ah (Gr (.func g)) fun g=>some (g,c)) fun q=>ah (nth P.funcs.toList q.1) fun fn=>@Option.rec Code (fun _=>Option ag) none
    (fun c=>ah (ig P L k q.1 fn c (app x q.2) H) fun s=>ah (q9 P fn s) fun r=>some r.2) fn.body)=some H1:=h1
   obtain⟨q,hq,h1⟩:=ae h1
   obtain⟨g',hg',hq⟩:=ae hq
   cases hq
   have hgg:=LP hg'
   subst hgg
   obtain⟨f1,hf1,h1⟩:=ae h1
   rw[cB,Array.getElem?_toList]at hf1
   cases hbody:f1.body with
   |none=>rw[hbody]at h1;cases h1
   |some b=>
    rw[hbody]at h1
    replace h1:(ah (ig P L k g f1 b (app x c) H) fun s=>ah (q9 P f1 s) fun r=>some r.2)=some H1:=h1
    obtain⟨s,hs,h1⟩:=ae h1
    obtain⟨r,hr1,h1⟩:=ae h1
    cases h1
    unfold q9 at hr1
    obtain⟨hdf,hr2⟩:=aB hr1
    obtain⟨vs,hvs,hr3⟩:=ae hr2
    cases hr3
    have Tc:s.df=[]:=by
     have:=Nat.eq_of_beq_eq_true hdf
     rw[aJ]at this
     exact List.eq_nil_of_length_eq_zero this
    have hargs:bP m (app x c) (x'++c'):=by rw[fV];exact hx.append hc
    refine⟨by simp,_,_,g,⟨x'++c'⟩,rfl,?_,?_⟩
    ·show(callFunc g (⟨x'⟩++⟨c'⟩)).run P w=_
     rw[show((⟨x'⟩:Array Value)++⟨c'⟩)=⟨x'++c'⟩from by rw[←Array.toList_inj];simp]
     exact enters hP hf1 hbody _ w
    ·refine(callsD_of_wp (R:=fun e w'=>∃v,e=.returned v∧∃m',RH m' s.H w'∧Ex m m' H s.H w w') hf1 hbody ?_).mono ?_
     ·refine GV hP hcf hcx hdr hf1 hbody hs rh gl hargs ?_
      intro a' w' m' ha
      obtain⟨v',e1,e2⟩:=rG ha.rh ha.fr hvs
      have hde:a'.defers=[]:=by
       have:=ha.fr.df
       rw[Tc]at this
       generalize a'.defers=z at this
       cases this;rfl
      exact⟨⟨hde,v',e2,v',rfl,m',ha.rh,ha.ex⟩,⟨hde,v',e2,v',rfl,m',ha.rh,ha.ex⟩⟩
     ·rintro e u' w' ⟨rfl,v,rfl,m',S_,ex'⟩
      exact ih ds' m' s.H w' (hr.mono ex'.le) S_ (gl.mono ex'.le) h2 fun m2 w2 r2 e2=>K m2 w2 r2 (ex'.trans e2)
theorem JG{X:Xt}{n:Nat}{L:Lv}(hP:l5 P n)(hO:yg P X n)(hcf:qJ P n L.ca)(hcx:∀nt,uU P L.cx n nt)(hdr:∀nt,uT P L.ca n nt)(k:Nat):
 BL P n (nP P X L k):=by
 intro g args v H H' fn h hg hb m w args' rh gl hv
 cases hor:X.o g args H with
 |some r=>
  rw[o9 hor]at h
  cases h
  exact(hO g args v H H' hor).2 m w args' rh gl hv
 |none=>
 rw[j4 hor]at h
 (replace h:=ae h;obtain⟨fn',hfn,h⟩:=h)
 rw[cB,Array.getElem?_toList,hg]at hfn
 cases hfn
 cases hbody:fn.body with
 |none=>rw[hbody]at hb;cases hb
 |some c=>
  replace h:(@Option.rec Code (fun _=>Option (Value×ag)) (IY P (X g) fn.resultTypes.toList args H)
   (fun c=>ah (ig P L k g fn c args H) fun s=>m_ P L k fn s) fn.body)=some (v,H'):=h
  rw[hbody]at h
  replace h:(ah (ig P L k g fn c args H) fun s=>m_ P L k fn s)=some (v,H'):=h
  (replace h:=ae h;obtain⟨s,hs,h⟩:=h)
  refine calls_of_wp_defers hg hbody ?_
  refine GV hP hcf hcx hdr hg hbody hs rh gl hv ?_
  intro a' w' m' ha
  suffices hh:Leaves P fn a'.tmps (fun e w'=>∃m' v',e=.returned v'∧VR m' v v'∧RH m' H' w'∧Ex m m' H H' w w') a'.defers .returning w' from⟨hh,hh⟩
  unfold m_ at h
  cases hdf:Nat.beq (len s.df) 0 with
  |true=>
   rw[hdf]at h
   replace h:(ah (bK P s fn.results.toList) fun vs=>some (eY vs,s.H))=some (v,H'):=h
   (replace h:=ae h;obtain⟨vs,hvs,h⟩:=h)
   cases h
   have Tc:s.df=[]:=by
    have:=Nat.eq_of_beq_eq_true hdf
    rw[aJ]at this
    exact List.eq_nil_of_length_eq_zero this
   have hde:a'.defers=[]:=by
    have:=ha.fr.df
    rw[Tc]at this
    generalize a'.defers=z at this
    cases this;rfl
   obtain⟨v',h1,h2⟩:=rG ha.rh ha.fr hvs
   rw[hde]
   exact⟨v',h2,m',v',rfl,h1,ha.rh,ha.ex⟩
  |false=>
   rw[hdf]at h
   replace h:(ah (mF P L k s.df s.H) fun H'=>ah (bK P ⟨s.nl,s.nt,s.reg,s.tm,[],H'⟩ fn.results.toList) fun vs=>some (eY vs,H'))=some (v,H'):=h
   (replace h:=ae h;obtain⟨H1,hH1,h⟩:=h)
   (replace h:=ae h;obtain⟨vs,hvs,h⟩:=h)
   cases h
   refine JF hP hcf hcx hdr s.df a'.defers m' s.H w' ha.fr.df ha.rh (gl.mono ha.ex.le) hH1 ?_
   intro m2 w2 Q_ OW
   have f2:FR m2 ⟨s.nl,s.nt,s.reg,s.tm,[],H'⟩ {a' with defers:=[]}:=⟨ha.fr.size,fun t=>(ha.fr.slot t).mono OW.le,.nil⟩
   obtain⟨v',h1,h2⟩:=rG (a:={a' with defers:=[]}) (s:=⟨s.nl,s.nt,s.reg,s.tm,[],H'⟩) Q_ f2 hvs
   exact⟨v',h2,m2,v',rfl,h1,Q_,ha.ex.trans OW⟩
theorem PL{X:Xt}{n:Nat}{L:Lv}{k:Nat}(hP:l5 P n)(hX:Ky P X)(hO:yg P X n)(hc:BL P n (nP P X L k)):qJ P n (nP P X L k):=by
 intro g args v H H' h m w args' rh gl hv o a next Q K
 have h0:=h
 have Yj:∃fn,P.funcs[g]?=some fn∧(fn.body=none→X.o g args H=none):=by
  cases hor:X.o g args H with
  |some r=>
   obtain⟨⟨fn,h1,h2⟩,_⟩:=hO g args r.1 H r.2 hor
   exact⟨fn,h1,fun h3=>by rw[h3]at h2;cases h2⟩
  |none=>
   rw[j4 hor]at h
   obtain⟨fn,h1,_⟩:=ae h
   rw[cB,Array.getElem?_toList]at h1
   exact⟨fn,h1,fun _=>rfl⟩
 obtain⟨fn,hfn,hno⟩:=Yj
 cases hbody:fn.body with
 |some c=>
  have hok:=hP g fn hfn
  unfold JD at hok
  rw[hbody]at hok
  replace hok:(jR n fn.ntmps c&&!(fn.name== "runtime.NumGoroutine"))=true:=hok
  rw[Bool.and_eq_true]at hok
  have hn:fn.name≠ "runtime.NumGoroutine" :=by simpa using hok.2
  have hr:(callFunc g ⟨args'⟩).run P w=.ok (.enter g ⟨args'⟩) w:=by
   simp[callFunc,hfn,hn,hbody]
  rw[hr,Oper.upon_enter]
  refine(hc g args v H H' fn h0 hfn (by rw[hbody];rfl) m w args' rh gl hv).mono ?_
  rintro e w' ⟨m',v',rfl,h1,h2,h3⟩
  exact K m' v' w' h1 h2 h3
 |none=>
  rw[j4 (hno hbody),cB,Array.getElem?_toList,hfn]at h
  replace h:(@Option.rec Code (fun _=>Option (Value×ag)) (IY P (X g) fn.resultTypes.toList args H)
   (fun c=>ah (ig P L k g fn c args H) fun s=>m_ P L k fn s) fn.body)=some (v,H'):=h
  rw[hbody]at h
  obtain⟨m',v',w',h1,h2,h3,h4⟩:=hX g fn args v H H' hfn hbody h m w args' rh hv
  rw[h1,Oper.upon_value]
  exact K m' v' w' h2 h3 h4
theorem LQ{X:Xt}{n:Nat}(hP:l5 P n)(hX:Ky P X)(hO:yg P X n)(hdr:∀cf,qJ P n cf→∀nt,uT P cf n nt):
 ∀k,qJ P n (lv P X k).ca∧(∀nt,uU P (lv P X k).cx n nt)∧BL P n (lv P X k).ca:=by
 intro k
 induction k with
 |zero=>
  refine⟨?_,?_,?_⟩
  ·intro g args v H H' h;cases h
  ·intro nt c s m a w Q _ _ _ _ _ h;exact h.elim
  ·intro g args v H H' fn h;cases h
 |succ k ih=>
  have hc:=JG (X:=X) hP hO ih.1 ih.2.1 (hdr _ ih.1) k
  exact⟨PL hP hX hO hc,fun nt=>GU ih.1 (ih.2.1 nt) (hdr _ ih.1 nt) k,hc⟩
end mem
def Mp.upto(m:Mp)(b:Nat):Mp:=fun r=>if r<b then m r else none
theorem Mp.GX(m:Mp)(b:Nat):Mp.le (m.upto b) m:=by
 intro r l h
 unfold Mp.upto at h
 split at h
 ·exact h
 ·cases h
theorem Mp.jI{m m':Mp}{b b':Nat}(hm:Mp.le m m')(hb:b≤b'):Mp.le (m.upto b) (m'.upto b'):=by
 intro r l h
 unfold Mp.upto at h⊢
 split at h
 ·next h1=>rw[if_pos aa];exact hm r l h
 ·cases h
theorem Mp.dY{m:Mp}{b r:Nat}{l:Loc}(h:m.upto b r=some l):r<b∧m r=some l:=by
 unfold Mp.upto at h
 split at h
 ·next h1=>exact⟨h1,h⟩
 ·cases h
theorem Mp.sP{m:Mp}{b r:Nat}{l:Loc}(h:m r=some l)(hr:r<b):m.upto b r=some l:=by
 unfold Mp.upto;rw[if_pos hr];exact h
theorem sQ{es:Nat}(h:aP (bH es)=true):False:=by
 have:=Nat.le_of_ble_eq_true h
 unfold bH at this
 have e:Nat.add 18446744073709551616 es=18446744073709551616 +es:=rfl
 omega
mutual
theorem VR.restrict{m1 m2:Mp}(hm:Mp.le m1 m2):∀{x v v':Value},VR m2 x v'→VR m1 x v→VR m1 x v'
 |_,_,_,.sc v h,_=>.sc v h
 |_,_,_,.top v,_=>.top v
 |_,_,_,.ptr r off l h hl,g=>by
  obtain⟨l1,h1,h2,_,_⟩:=g.gL
  have:=hm _ _ h1
  simp only at this h1
  rw[h]at this;cases this
  exact .ptr r off l h1 hl
 |_,_,_,.slice r off n cp l h hl hk hn,g=>by
  cases g with
  |sc _ hs=>simp[Ae.dD,aD]at hs
  |slice _ _ _ _ l1 h1 _ _ _=>
   have:=hm _ _ h1
   rw[h]at this;cases this
   exact .slice r off n cp l h1 hl hk hn
  |gK=>exact(sQ hk).elim
  |jE=>exact .jE _ _
  |iB=>exact(sQ hk).elim
 |_,_,_,.gK r off n es cc l h hl he ht hc hN,g=>by
  generalize w_:bH es=cu at g
  cases g with
  |sc _ hs=>simp[Ae.dD,aD]at hs
  |slice _ _ _ _ l1 h1 _ hk _=>subst w_;exact(sQ hk).elim
  |gK _ _ _ es1 _ l1 h1 _ _ _ _ _=>
   have:=hm _ _ h1
   rw[h]at this;cases this
   rw[←w_]
   exact .gK r off n es cc l h1 hl he ht hc hN
  |jE=>unfold bH at w_;have e:Nat.add 18446744073709551616 es=18446744073709551616 +es:=rfl;omega
  |iB _ _ es1 _ l1 h1 _ _ _=>
   have:=hm _ _ h1
   rw[h]at this;cases this
   rw[←w_]
   exact .gK r off _ es cc l h1 hl he ht hc hN
 |_,_,_,.jE a a',_=>.jE a a'
 |_,_,_,.iB r off es a' l h hl he hN,g=>by
  generalize w_:bH es=cu at g
  cases g with
  |sc _ hs=>simp[Ae.dD,aD]at hs
  |slice _ _ _ _ l1 h1 _ hk _=>subst w_;exact(sQ hk).elim
  |gK _ _ _ es1 _ l1 h1 _ _ _ _ _=>
   have:=hm _ _ h1
   rw[h]at this;cases this
   rw[←w_]
   exact .iB r off es a' l h1 hl he hN
  |jE=>unfold bH at w_;have e:Nat.add 18446744073709551616 es=18446744073709551616 +es:=rfl;omega
  |iB _ _ es1 _ l1 h1 _ _ _=>
   have:=hm _ _ h1
   rw[h]at this;cases this
   rw[←w_]
   exact .iB r off es a' l h1 hl he hN
 |_,_,_,.map r l h,g=>by
  obtain⟨l1,h1,_⟩:=g.of_map
  have:=hm _ _ h1
  rw[h]at this;cases this
  exact .map r l h1
 |_,_,_,.func f x y x' y' hx hy,g=>by
  obtain⟨_,_,rfl,h1,h2⟩:=g.Gz
  exact .func f x y x' y' (bP.restrict hm hx h1) (bP.restrict hm hy h2)
 |_,_,_,.iface t v v' h,g=>by
  obtain⟨_,rfl,h1⟩:=g.sI
  exact .iface t v v' (VR.restrict hm h h1)
 |_,_,_,.agg x x' h,g=>by
  obtain⟨_,rfl,h1⟩:=g.jF
  exact .agg x x' (bP.restrict hm h h1)
 |_,_,_,.tuple x x' h,g=>by
  obtain⟨_,rfl,h1⟩:=g.Bq
  exact .tuple x x' (bP.restrict hm h h1)
theorem bP.restrict{m1 m2:Mp}(hm:Mp.le m1 m2):∀{x v v':List Value},bP m2 x v'→bP m1 x v→bP m1 x v'
 |_,_,_,.nil,_=>.nil
 |_,_,_,.cons v v' x x' h hx,g=>by
  cases g with
  |cons _ _ _ _ g1 g2=>exact .cons v v' x x' (VR.restrict hm h g1) (bP.restrict hm hx g2)
end
theorem oJ.restrict{m1 m2:Mp}(hm:Mp.le m1 m2){x:List (Value×Value)}{v v':List MapEntry}(h:oJ m2 x v')(g:oJ m1 x v):oJ m1 x v':=by
 induction h generalizing v with
 |nil=>exact .nil
 |cons k x e l l' hk hv _ ih=>
  cases g with
  |cons _ _ _ _ _ gk gv gl=>exact .cons k x e l l' (VR.restrict hm hk gk) (VR.restrict hm hv gv) (ih gl)
def yh:bR→bR
 |.row R=>.row ⟨R.ty,.nil,R.n,R.bX,R.fz⟩
 |o=>o
def bZ:bR→Nat→Option Value
 |.row R,i=>if i<R.n then some (R.cells.get top i)else none
 |_,_=>none
def dm(m:Mp)(l:Loc):bR→Obj→Prop
 |.dead,_=>True
 |.row R,.cells cs ty fr=>(ty=R.ty∧l.base=0)∧R.n=l.n∧cs.size=l.tot∧l.lo≤R.n∧l.base +(R.n -l.lo)≤l.tot∧(R.bX=false→fr.2≤l.base +(R.fz -l.lo))
 |.map es,.map kz _=>oJ m es kz.toList
 |.oM s p,.stringIter s' p'=>s'=s∧p'=p∧l.base=0
 |_,_=>False
def jJ(m:Mp)(l:Loc)(i:Nat)(x:Value)(ob:Obj):Prop:=∃cs ty fr v,ob=.cells cs ty fr∧cs[l.base +(i -l.lo)]?=some v∧VR m x v
theorem dm.Fp{m:Mp}{l:Loc}{o o':bR}{ob:Obj}(h:dm m l o ob)(e:yh o=yh o'):dm m l o' ob:=by
 cases o<;>cases o'<;>simp only[yh]at e<;>first|(cases e;exact h)|cases e|skip
 case row.row R R'=>
  obtain⟨a1,a2,a3,a4,a5⟩:=R
  obtain⟨b1,b2,b3,b4,b5⟩:=R'
  simp only[bR.row.injEq,Row.mk.injEq]at e
  obtain⟨rfl,_,rfl,rfl,rfl⟩:=e
  cases ob<;>first|exact h|exact h.elim
theorem iJ.split{m:Mp}{l:Loc}{o:bR}{ob:Obj}(h:iJ m l o ob):dm m l o ob∧∀i x,bZ o i=some x→l.lo≤i→jJ m l i x ob:=by
 cases o with
 |row R=>
  cases ob<;>first|exact h.elim|skip
  case cells cs ty fr=>
   obtain⟨h1,h2,h3,h4,h5,h6,h7⟩:=h
   refine⟨⟨h1,h2,h3,h4,h5,h6⟩,?_⟩
   intro i x hx hi
   simp only[bZ]at hx
   split at hx
   ·next hn=>
    cases hx
    obtain⟨v,h8,h9⟩:=h7 i hi hn
    exact⟨cs,ty,fr,v,rfl,h8,h9⟩
   ·cases hx
 |dead=>exact⟨trivial,fun i x hx=>by cases hx⟩
 |map es=>cases ob<;>first|exact h.elim|exact⟨h,fun i x hx=>by cases hx⟩
 |oM s p=>cases ob<;>first|exact h.elim|exact⟨h,fun i x hx=>by cases hx⟩
theorem iJ.join{m:Mp}{l:Loc}{o:bR}{ob:Obj}(h:dm m l o ob)(hc:∀i x,bZ o i=some x→l.lo≤i→jJ m l i x ob):iJ m l o ob:=by
 cases o with
 |row R=>
  cases ob<;>first|exact h.elim|skip
  case cells cs ty fr=>
   obtain⟨h1,h2,h3,h4,h5,h6⟩:=h
   refine⟨h1,h2,h3,h4,h5,h6,?_⟩
   intro i hi hn
   obtain⟨cs',ty',fr',v,e,h8,h9⟩:=hc i _ (by simp only[bZ];rw[if_pos hn]) hi
   cases e
   exact⟨v,h8,h9⟩
 |dead=>trivial
 |map es=>cases ob<;>first|exact h.elim|exact h
 |oM s p=>cases ob<;>first|exact h.elim|exact h
theorem dm.mono{m m':Mp}(hm:Mp.le m m'){l:Loc}{o:bR}{ob:Obj}(h:dm m l o ob):dm m' l o ob:=by
 cases o<;>cases ob<;>first|exact h|exact oJ.mono hm h
theorem dm.restrict{m1 m2:Mp}(hm:Mp.le m1 m2){l:Loc}{o:bR}{ob xS:Obj}(h:dm m2 l o xS)(g:dm m1 l o ob):dm m1 l o xS:=by
 cases o with
 |dead=>trivial
 |row R=>cases xS<;>exact h
 |oM s p=>cases xS<;>exact h
 |map es=>
  cases xS<;>first|exact h.elim|skip
  cases ob<;>first|exact g.elim|skip
  exact oJ.restrict hm h g
theorem jJ.mono{m m':Mp}(hm:Mp.le m m'){l:Loc}{i:Nat}{x:Value}{ob:Obj}(h:jJ m l i x ob):jJ m' l i x ob:=by
 obtain⟨cs,ty,fr,v,h1,h2,h3⟩:=h
 exact⟨cs,ty,fr,v,h1,h2,h3.mono hm⟩
theorem jJ.restrict{m1 m2:Mp}(hm:Mp.le m1 m2){l:Loc}{i:Nat}{x:Value}{ob xS:Obj}(h:jJ m2 l i x xS)(g:jJ m1 l i x ob):jJ m1 l i x xS:=by
 obtain⟨cs,ty,fr,v,h1,h2,h3⟩:=h
 obtain⟨_,_,_,_,_,_,g3⟩:=g
 exact⟨cs,ty,fr,v,h1,h2,VR.restrict hm h3 g3⟩
theorem LU{o o':bR}(e:yh o=yh o')(h:o≠.dead):o'≠.dead:=by
 intro e';subst e'
 cases o<;>first|exact h rfl|cases e
theorem o_(m i:Nat):aS m i=m.testBit i:=by
 unfold aS
 rw[Nat.testBit_eq_decide_div_mod_eq]
 have e1:Nat.shiftRight m i=m>>>i:=rfl
 rw[e1,Nat.shiftRight_eq_div_pow]
 have e2:Nat.mod (m/2^i) 2=(m/2^i) %2:=rfl
 rw[e2,Bool.eq_iff_iff,decide_eq_true_iff]
 exact⟨Nat.eq_of_beq_eq_true,fun h=>by rw[h];rfl⟩
theorem JH(e i:Nat):aS (Nat.shiftLeft 1 e) i=true↔i=e:=by
 rw[o_]
 have e1:Nat.shiftLeft 1 e=1<<<e:=rfl
 rw[e1,Nat.one_shiftLeft,Nat.testBit_two_pow]
 simp[eq_comm]
theorem Ao(a b i:Nat):aS (Nat.lor a b) i=(aS a i||aS b i):=by
 rw[o_,o_,o_]
 exact Nat.testBit_or a b i
theorem Fq(i:Nat):aS 0 i=false:=by rw[o_];simp
theorem Fs{acc:List Nat}{n:Nat}:∀{l:List Edge}{i:Nat},aS (lq acc n l) i=true→∃e,e∈l∧Region.binds .any e=true∧(i=e.on∨aS ((nth acc (n -1 -e.on)).getD 0) i=true):=by
 intro l
 induction l with
 |nil=>intro i h;rw[show lq acc n []=0 from rfl,Fq]at h;cases h
 |cons e l ih=>
  intro i h
  replace h:aS (au (Region.binds .any e) (Nat.lor (Nat.lor (Nat.shiftLeft 1 e.on) ((nth acc (Nat.sub (Nat.sub n 1) e.on)).getD 0)) (lq acc n l)) (lq acc n l)) i=true:=h
  cases hb:Region.binds .any e with
  |false=>
   rw[hb]at h
   obtain⟨e',h1,h2⟩:=ih h
   exact⟨e',List.mem_cons_of_mem _ h1,h2⟩
  |true=>
   rw[hb]at h
   replace h:aS (Nat.lor (Nat.lor (Nat.shiftLeft 1 e.on) ((nth acc (Nat.sub (Nat.sub n 1) e.on)).getD 0)) (lq acc n l)) i=true:=h
   rw[Ao,Ao,Bool.or_eq_true,Bool.or_eq_true]at h
   rcases h with(h|h)|h
   ·exact⟨e,List.mem_cons_self ..,hb,.inl ((JH _ _).1 h)⟩
   ·exact⟨e,List.mem_cons_self ..,hb,.inr h⟩
   ·obtain⟨e',h1,h2⟩:=ih h
    exact⟨e',List.mem_cons_of_mem _ h1,h2⟩
def mI(ops:Array Oper)(j:Nat):Nat:=(lX ops.toList [] 0).getD (ops.size -1 -j) 0
theorem Ap:∀(l:List Oper)(acc:List Nat)(n:Nat),(lX l acc n).length=l.length +acc.length:=by
 intro l
 induction l with
 |nil=>intro acc n;simp[show lX [] acc n=acc from rfl]
 |cons o l ih=>
  intro acc n
  rw[show lX (o::l) acc n=lX l (lq acc n o.after.toList::acc) (n +1)from rfl,ih]
  simp;omega
theorem yj:∀(l:List Oper)(acc:List Nat)(n k:Nat),l.length≤k→(lX l acc n).getD k 0=acc.getD (k -l.length) 0:=by
 intro l
 induction l with
 |nil=>intro acc n k _;rfl
 |cons o l ih=>
  intro acc n k hk
  rw[show lX (o::l) acc n=lX l (lq acc n o.after.toList::acc) (n +1)from rfl,ih _ _ _ (by simp at hk;omega)]
  simp only[List.length_cons]at hk⊢
  rw[show k -l.length=(k -(l.length +1)) +1 from by omega]
  rfl
theorem LV:∀(l:List Oper)(acc:List Nat)(n j:Nat)(o:Oper),acc.length=n→l[j]?=some o→
 ∃acc',acc'.length=n +j∧(lX l acc n).getD (l.length -1 -j) 0=lq acc' (n +j) o.after.toList∧∀k,k<n +j→acc'.getD (n +j -1 -k) 0=(lX l acc n).getD (n +l.length -1 -k) 0:=by
 intro l
 induction l with
 |nil=>intro acc n j o _ h;simp at h
 |cons p l ih=>
  intro acc n j o hn h
  rw[show lX (p::l) acc n=lX l (lq acc n p.after.toList::acc) (n +1)from rfl]
  cases j with
  |zero=>
   simp at h
   subst h
   refine⟨acc,by simpa using hn,?_,?_⟩
   ·rw[yj _ _ _ _ (by simp)]
    simp
   ·intro k hk
    rw[yj _ _ _ _ (by simp;omega)]
    simp only[List.length_cons,Nat.add_zero]
    rw[show n +(l.length +1) -1 -k -l.length=(n -1 -k) +1 from by omega]
    rfl
  |succ j=>
   obtain⟨acc',h1,h2,h3⟩:=ih (lq acc n p.after.toList::acc) (n +1) j o (by simp[hn]) (by simpa using h)
   have hj:j<l.length:=by
    have:l[j]?=some o:=by simpa using h
    exact(List.getElem?_eq_some_iff.1 this).1
   refine⟨acc',aa,?_,?_⟩
   ·simp only[List.length_cons]
    rw[show l.length +1 -1 -(j +1)=l.length -1 -j from by omega,h2,show n +1 +j=n +(j +1)from by omega]
   ·intro k hk
    have:=h3 k aa
    rw[show n +1 +j -1 -k=n +(j +1) -1 -k from by omega,show n +1 +l.length -1 -k=n +(l.length +1) -1 -k from by omega]at this
    exact this
theorem pq:∀(l:List Oper)(n j:Nat)(o:Oper),jC l n=true→l[j]?=some o→∀e,e∈o.after.toList→Region.binds .any e=true→e.on<n +j:=by
 intro l
 induction l with
 |nil=>intro n j o _ h;simp at h
 |cons p l ih=>
  intro n j o hb h e he hbe
  replace hb:au (all' (fun e=>!(Region.binds .any e)||Nat.ble (Nat.succ e.on) n) p.after.toList) (jC l (Nat.succ n)) false=true:=hb
  cases ha:all' (fun e=>!(Region.binds .any e)||Nat.ble (Nat.succ e.on) n) p.after.toList with
  |false=>rw[ha]at hb;cases hb
  |true=>
   rw[ha]at hb
   replace hb:jC l (Nat.succ n)=true:=hb
   cases j with
   |zero=>
    simp at h
    subst h
    rw[all_eq,List.all_eq_true]at ha
    have:=ha e he
    rw[hbe]at this
    simp only[Bool.not_true,Bool.false_or]at this
    have:=Nat.le_of_ble_eq_true this
    omega
   |succ j=>
    have:=ih (n +1) j o hb (by simpa using h) e he hbe
    omega
theorem dh{ops:Array Oper}(hb:jC ops.toList 0=true){D:Nat→Prop}(hD:∀j o,ops[j]?=some o→D j→∀e,e∈o.after.toList→Region.binds .any e=true→D e.on):
 ∀(j:Nat)(o:Oper),ops[j]?=some o→(∀e,e∈o.after.toList→Region.binds .any e=true→D e.on)→∀i,aS (mI ops j) i=true→D i:=by
 intro j
 induction j using Nat.strongRecOn with
 |_ j ih=>
  intro o ho hall i hi
  have hol:ops.toList[j]?=some o:=by rw[Array.getElem?_toList];exact ho
  obtain⟨acc',h1,h2,h3⟩:=LV ops.toList [] 0 j o rfl hol
  unfold mI at hi
  rw[show ops.size -1 -j=ops.toList.length -1 -j from by simp,h2]at hi
  obtain⟨e,he,hbe,hie⟩:=Fs hi
  have hlt:=pq _ 0 j o hb hol e he hbe
  rcases hie with rfl|hie
  ·exact hall e he hbe
  ·have hDe:=hall e he hbe
   have hjs:j<ops.size:=(Array.getElem?_eq_some_iff.1 ho).1
   have hoe:ops[e.on]?=some ops[e.on]:=Array.getElem?_eq_getElem aa
   refine ih e.on aa _ hoe (hD e.on _ hoe hDe) i ?_
   have h4:=h3 e.on aa
   unfold mI
   rw[show ops.size -1 -e.on=0 +ops.toList.length -1 -e.on from by simp,←h4]
   rw[cB]at hie
   rw[List.getD_eq_getElem?_getD]
   exact hie
theorem BM{α:Type}{f:α→α→Bool→Bool}{x:α}{m:Nat}:∀{l:List α},jh f x m l=true→∀i y,l[i]?=some y→f x y (aS m (l.length -1 -i))=true:=by
 intro l
 induction l with
 |nil=>intro _ i y h;simp at h
 |cons z l ih=>
  intro h i y hy
  replace h:au (f x z (aS m (len l))) (jh f x m l) false=true:=h
  cases hf:f x z (aS m (len l))with
  |false=>rw[hf]at h;cases h
  |true=>
   rw[hf]at h
   cases i with
   |zero=>simp at hy;subst hy;rw[aJ]at hf;simpa using hf
   |succ i=>
    have:=ih h i y (by simpa using hy)
    simp only[List.length_cons]
    rw[show l.length +1 -1 -(i +1)=l.length -1 -i from by omega]
    exact this
theorem yl{α:Type}{f:α→α→Bool→Bool}:∀{ms:List Nat}{xs:List α},pairs f ms xs=true→∀i j x y,i<j→xs[i]?=some x→xs[j]?=some y→i<ms.length→
 f x y (aS (ms.getD i 0) (xs.length -1 -j))=true:=by
 intro ms
 induction ms with
 |nil=>intro xs _ i j x y _ _ _ h;simp at h
 |cons m ms ih=>
  intro xs h i j x y hij hx hy hi
  cases xs with
  |nil=>simp at hx
  |cons z xs=>
   replace h:au (jh f z m xs) (pairs f ms xs) false=true:=h
   cases hr:jh f z m xs with
   |false=>rw[hr]at h;cases h
   |true=>
    rw[hr]at h
    cases j with
    |zero=>omega
    |succ j=>
     simp only[List.length_cons]
     rw[show xs.length +1 -1 -(j +1)=xs.length -1 -j from by omega]
     cases i with
     |zero=>
      simp at hx;subst hx
      exact BM hr j y (by simpa using hy)
     |succ i=>exact ih h i j x y aa (by simpa using hx) (by simpa using hy) (by simpa using hi)
section mem
variable{P:Program}
theorem Fu{o:Oper}{a:Act}{w:World}{next:Act→World→Prop}{Q:Exit→Act→World→Prop}{F:Prop}(h:o.wp P a w next Q)(hn:∀a w,next a w→F)(hq:∀e a w,Q e a w→F):F:=by
 unfold Oper.wp at h
 generalize(execOp a.eval o).run P w=r at h
 cases r with
 |ok n w'=>
  cases n with
  |value v=>exact hn _ _ h
  |skip=>exact hn _ _ h
  |defer d=>exact hn _ _ h
  |enter f args=>
   obtain⟨e,w2,fr,hR,_⟩:=h []
   cases e with
   |returned v=>exact hn _ _ hR
   |panicked ch=>exact hq _ _ _ hR
   |outgrown=>obtain⟨a1,w1,h1⟩:=hR;exact hq _ _ _ h1
  |row row args=>
   obtain⟨v,w2,hR,_⟩:=h default []
   exact hn _ _ hR
  |_=>exact h.elim
 |halt x w'=>
  cases x with
  |panic v=>exact hq _ _ _ h
  |_=>exact h.elim
theorem ym{cf:bO}{n:Nat}(hcf:qJ P n cf){m:Mp}{w:World}{s:St}{o:Oper}{a:Act}{v:Value}{H':ag}(rh:RH m s.H w)(gl:Gl n m)(hr:kH o.op P cf s=.mem v H')(e:Am m s a.eval o.op.operands.toList)
 {next:Act→World→Prop}{Q:Exit→Act→World→Prop}
 (K:∀m' v' w',VR m' v v'→RH m' H' w'→Ex m m' s.H H' w w'→next (a.put o.dst v') w'):o.wp P a w next Q:=by
 unfold Oper.wp
 refine GR rh hr e ?_ K
 intro c hop hb
 rw[hop]at hr
 replace hr:jv c P cf s=.mem v H':=hr
 obtain⟨callee,⟨args⟩,ats⟩:=c
 cases callee with
 |value g=>exact Dh hcf gl rh hop hr e K
 |invoke r name=>exact Di hcf gl rh hop hr e K
 |builtin b=>cases hb
theorem Am.aM{m:Mp}{s:St}{ρ:Operand→Value}{L:List Operand}(e:Am m s ρ L):Am m (aM s) ρ L:=⟨fun x hx=>by have:=e.all x hx;cases x<;>exact this⟩
inductive yn(P:Program)(cf:bO)(ops:Array Oper)(o:Oper)(s:St):St→Cl→Prop where
 |skip (hw:fF ops s o.guard=some false):yn P cf ops o s (bA s o.dst undef s.H) (cl 0)
 |oH (v:Value) (hw:fF ops s o.guard=some true) (hr:kH o.op P cf (aM s)=.oH v):yn P cf ops o s (bA s o.dst v s.H) (cl 0)
 |mem (v:Value) (H':ag) (hw:fF ops s o.guard=some true) (hr:kH o.op P cf (aM s)=.mem v H'):
  yn P cf ops o s (bA s o.dst v ⟨H'.jc,H'.next,dR s.H.low H'.low⟩) (gH P o.op s H')
theorem LW{cf:bO}{ops:Array Oper}{o:Oper}{s s1:St}{c:Cl}(h:bU P cf ops o s=some (s1,c)):yn P cf ops o s s1 c:=by
 (replace h:=ae h;obtain⟨b,hb,h⟩:=h)
 cases b with
 |false=>
  replace h:some (bA s o.dst undef s.H,cl 0)=some (s1,c):=h
  cases h
  exact .skip hb
 |true=>
  replace h:vE P o s (kH o.op P cf (aM s))=some (s1,c):=h
  cases hr:kH o.op P cf (aM s)with
  |fail=>rw[hr]at h;cases h
  |oH v=>
   rw[hr]at h
   replace h:some (bA s o.dst v s.H,cl 0)=some (s1,c):=h
   cases h
   exact .oH v hb hr
  |mem v H'=>
   rw[hr]at h
   replace h:some (bA s o.dst v ⟨H'.jc,H'.next,dR s.H.low H'.low⟩,gH P o.op s H')=some (s1,c):=h
   cases h
   exact .mem v H' hb hr
def TF(P:Program)(cf:bO)(ops:Array Oper)(o:Oper)(s:St):Prop:=∀v H',kH o.op P cf (aM s)=.mem v H'→fF ops s o.guard=some true→s.H.next≤H'.next∧∀r,r<s.H.next→r<H'.low→H'.obj r=s.H.obj r
theorem RH.low{m:Mp}{H:ag}{w:World}(rh:RH m H w)(k:Nat):RH m ⟨H.jc,H.next,k⟩ w:=⟨rh.dom,rh.ok,rh.sep⟩
theorem trace{cf:bO}{n:Nat}(hcf:qJ P n cf){ops:Array Oper}{nt:Nat}:
 ∀(l:List Oper)(s s1:St)(acc cls:List Cl)(m:Mp)(a:Act)(w:World),(∀o,o∈l→iU n nt o=true)→s.nt=nt→RH m s.H w→FR m s a→Gl n m→
 bB P cf ops l s acc=some (s1,cls)→
 ∃(S:Nat→St)(C:Nat→Cl),S 0=s∧S l.length=s1∧cls.length=l.length +acc.length∧(∀j,j<l.length→cls[l.length -1 -j]?=some (C j))∧(∀k,cls[l.length +k]?=acc[k]?)∧
  ∀j o,l[j]?=some o→yn P cf ops o (S j) (S (j +1)) (C j)∧TF P cf ops o (S j)∧(S j).nt=nt:=by
 intro l
 induction l with
 |nil=>
  intro s s1 acc cls m a w _ hnt _ _ _ h
  cases h
  exact⟨fun _=>s,fun _=>cl 0,rfl,rfl,by simp,by simp,by simp,by simp⟩
 |cons o l ih=>
  intro s s1 acc cls m a w hall hnt rh f gl h
  replace h:(ah (bU P cf ops o s) fun q=>bB P cf ops l q.1 (q.2::acc))=some (s1,cls):=h
  (replace h:=ae h;obtain⟨q,hq,h⟩:=h)
  obtain⟨s2,c⟩:=q
  have hst:=LW hq
  have ho:=hall o (by simp)
  unfold iU at ho
  simp only[Bool.and_eq_true]at ho
  have key:(∃m' a' w',RH m' s2.H w'∧FR m' s2 a'∧Gl n m')∧TF P cf ops o s∧s2.nt=nt:=by
   cases hst with
   |skip hw=>
    refine⟨⟨m,a.put o.dst undef,w,by rw[bT];exact rh,f.put (by rw[hnt];exact ho.2) (.tuple [] [] .nil),gl⟩,?_,by rw[jQ];exact hnt⟩
    intro v H' _ hw';rw[hw]at hw';cases hw'
   |oH v hw hr=>
    have e:=(f.ev gl ho.1).aM
    obtain⟨v',h1,h2⟩:=BJ hr e (fun _=>rfl)
    refine⟨⟨m,a.put o.dst v',w,by rw[bT];exact rh,f.put (by rw[hnt];exact ho.2) h1,gl⟩,?_,by rw[jQ];exact hnt⟩
    intro v1 H' hr' _;rw[hr]at hr';cases hr'
   |mem v H' hw hr=>
    have e:=(f.ev gl ho.1).aM
    have hx:o.wp P a w (fun a' w'=>∃m',(RH m' (bA s o.dst v ⟨H'.jc,H'.next,dR s.H.low H'.low⟩).H w'∧FR m' (bA s o.dst v ⟨H'.jc,H'.next,dR s.H.low H'.low⟩) a'∧Gl n m')∧
     (s.H.next≤H'.next∧∀r,r<s.H.next→r<H'.low→H'.obj r=s.H.obj r)) (fun _ _ _=>False):=by
     refine ym hcf (s:=aM s) (rh.low _) gl hr e ?_
     intro m' v' w' h1 h2 h3
     exact⟨m',⟨by rw[bT];exact h2.low _,(f.mono h3.le).put (by rw[hnt];exact ho.2) h1,gl.mono h3.le⟩,h3.next,h3.jc⟩
    have:=Fu (F:=(∃m' a' w',RH m' (bA s o.dst v ⟨H'.jc,H'.next,dR s.H.low H'.low⟩).H w'∧FR m' (bA s o.dst v ⟨H'.jc,H'.next,dR s.H.low H'.low⟩) a'∧Gl n m')∧
     (s.H.next≤H'.next∧∀r,r<s.H.next→r<H'.low→H'.obj r=s.H.obj r)) hx
     (fun a' w' ⟨m',h1,h2⟩=>⟨⟨m',a',w',h1⟩,h2⟩) (fun _ _ _ h=>h.elim)
    refine⟨this.1,?_,by rw[jQ];exact hnt⟩
    intro v1 H1 hr' _;rw[hr]at hr';cases hr'
    exact this.2
  obtain⟨⟨m',a',w',S_,f',gl'⟩,PM,Yk⟩:=key
  obtain⟨S,C,e1,e2,e3,e4,e5,e6⟩:=ih s2 s1 (c::acc) cls m' a' w' (fun p hp=>hall p (by simp[hp])) Yk S_ f' gl' h
  refine⟨fun k=>match k with|0=>s|k +1=>S k,fun k=>match k with|0=>c|k +1=>C k,rfl,e2,by simp at e3⊢;omega,?_,?_,?_⟩
  ·intro j hj
   cases j with
   |zero=>
    have:=e5 0
    simpa using this
   |succ j=>
    simp only[List.length_cons]at hj⊢
    rw[show l.length +1 -1 -(j +1)=l.length -1 -j from by omega]
    exact e4 j aa
  ·intro k
   have:=e5 (k +1)
   simp only[List.length_cons]
   rw[show l.length +1 +k=l.length +(k +1)from by omega,this]
   rfl
  ·intro j p hp
   cases j with
   |zero=>
    simp at hp;subst hp
    exact⟨by simpa [e1]using hst,PM,hnt⟩
   |succ j=>exact e6 j p (by simpa using hp)
theorem LX{o:Op}{s:St}{H':ag}:(gH P o s H').k≤5:=by
 unfold gH
 cases nO o with
 |none=>
  show(au (Nat.ble s.H.next H'.low) (au (lV o) (cl 5) (lW P o s)) ⟨2,0,0,0,s.H,H'⟩:Cl).k≤5
  cases Nat.ble s.H.next H'.low with
  |false=>exact Nat.le_of_ble_eq_true rfl
  |true=>
   cases lV o with
   |true=>exact Nat.le_of_ble_eq_true rfl
   |false=>
    show(lW P o s).k≤5
    unfold lW
    cases h:(ah (uJ o) fun p=>ah (fH (ev s p.2)) fun a=>ah (Kv P p.1) fun l=>some (Cl.mk 4 a.block a.off (l.getD 1) hh0 hh0))with
    |none=>exact Nat.le_of_ble_eq_true rfl
    |some q=>
     (replace h:=ae h;obtain⟨p,hp,h⟩:=h)
     (replace h:=ae h;obtain⟨a,ha,h⟩:=h)
     (replace h:=ae h;obtain⟨l,hl,h⟩:=h)
     cases h
     exact Nat.le_of_ble_eq_true rfl
 |some p=>
  show(@Option.rec Addr (fun _=>Cl) ⟨2,0,0,0,s.H,H'⟩ (fun a=>⟨3,a.block,a.off,len (ax (ev s p.2)),hh0,hh0⟩) (fH (ev s p.1)):Cl).k≤5
  cases fH (ev s p.1)<;>exact Nat.le_of_ble_eq_true rfl
theorem JI{ops:Array Oper}(h:eB ops=true):jC ops.toList 0=true∧∀i j oi oj,i<j→ops[i]?=some oi→ops[j]?=some oj→aS (mI ops j) i=true∨oi.apart ops oj=true:=by
 unfold eB at h
 rw[Bool.and_eq_true]at h
 refine⟨h.1,fun i j oi oj hij hi hj=>?_⟩
 have hjs:j<ops.size:=(Array.getElem?_eq_some_iff.1 hj).1
 have hget:∀k o,ops[k]?=some o→ops.toList.reverse[ops.size -1 -k]?=some o:=by
  intro k o hk
  have hks:k<ops.size:=(Array.getElem?_eq_some_iff.1 hk).1
  rw[List.getElem?_reverse (by simp;omega)]
  simp only[Array.length_toList]
  rw[show ops.size -1 -(ops.size -1 -k)=k from by omega,Array.getElem?_toList]
  exact hk
 have:=yl h.2 (ops.size -1 -j) (ops.size -1 -i) oj oi aa (hget j oj hj) (hget i oi hi) (by rw[Ap];simp;omega)
 simp only[List.length_reverse,Array.length_toList]at this
 rw[show ops.size -1 -(ops.size -1 -i)=i from by omega]at this
 simpa [mI]using this
theorem LY{ops:Array Oper}{cls:List Cl}{C:Nat→Cl}(h:dH ops cls=true)(hl:cls.length=ops.size)(hC:∀j,j<ops.size→cls[ops.size -1 -j]?=some (C j))(hk:∀j,j<ops.size→(C j).k≤5):
 ∀i j,i<j→j<ops.size→eD (C j) (C i) (aS (mI ops j) i)=true:=by
 intro i j hij hj
 unfold dH at h
 cases hn:noTwo cls with
 |false=>
  rw[hn]at h
  have:=yl (f:=eD) h (ops.size -1 -j) (ops.size -1 -i) (C j) (C i) aa (hC j hj) (hC i aa) (by rw[Ap];simp;omega)
  rw[hl,show ops.size -1 -(ops.size -1 -i)=i from by omega]at this
  exact this
 |true=>
  have hno:∀k,k<ops.size→(C k).k≠2∧(C k).k≠3:=by
   intro k hk'
   unfold noTwo at hn
   rw[all_eq,List.all_eq_true]at hn
   have:=hn (C k) (List.mem_of_getElem? (hC k hk'))
   simp only[Bool.not_eq_true',Bool.or_eq_false_iff]at this
   exact⟨fun e=>by rw[e]at this;exact absurd this.1 (by decide),fun e=>by rw[e]at this;exact absurd this.2 (by decide)⟩
  have h1:=hno i aa
  have h2:=hno j hj
  have h3:=hk i aa
  have h4:=hk j hj
  generalize C i=ci at h1 h3⊢
  generalize C j=cj at h2 h4⊢
  obtain⟨ki,_,_,_,_,_⟩:=ci
  obtain⟨kj,_,_,_,_,_⟩:=cj
  simp only at h1 h2 h3 h4
  have e1:ki=0∨ki=1∨ki=4∨ki=5:=by omega
  have e2:kj=0∨kj=1∨kj=4∨kj=5:=by omega
  rcases e1 with rfl|rfl|rfl|rfl<;>rcases e2 with rfl|rfl|rfl|rfl<;>rfl
theorem BN{x y:Cl}{b:Bool}(h:eD y x b=true)(hx:x.k=1∨x.k=2)(hy:y.k=1∨y.k=2)(h2:x.k=2∨y.k=2):b=true:=by
 obtain⟨kx,_,_,_,_,_⟩:=x
 obtain⟨ky,_,_,_,_,_⟩:=y
 simp only at hx hy h2
 rcases hx with rfl|rfl<;>rcases hy with rfl|rfl<;>first|(exfalso;omega)|exact h
theorem GY{x y:Cl}{b:Bool}(h:eD y x b=true)(hx:x.k=3)(hy:y.k=1∨y.k=2):False:=by
 obtain⟨kx,_,_,_,_,_⟩:=x
 obtain⟨ky,_,_,_,_,_⟩:=y
 simp only at hx hy
 subst hx
 rcases hy with rfl|rfl<;>(cases b<;>exact absurd (show false=true from h) (by simp))
theorem GZ{x y:Cl}{b:Bool}(h:eD y x b=true)(hx:x.k=1∨x.k=2)(hy:y.k=3):b=true:=by
 obtain⟨kx,_,_,_,_,_⟩:=x
 obtain⟨ky,_,_,_,_,_⟩:=y
 simp only at hx hy
 subst hy
 rcases hx with rfl|rfl<;>(cases b<;>first|rfl|exact h)
theorem LZ{x y:Cl}{b:Bool}(h:eD y x b=true)(hx:x.k=3)(hy:y.k=3):b=true∨kC x y=true:=by
 obtain⟨kx,_,_,_,_,_⟩:=x
 obtain⟨ky,_,_,_,_,_⟩:=y
 simp only at hx hy
 subst hx hy
 cases b with
 |true=>exact .inl rfl
 |false=>exact .inr h
theorem Td{x y:Cl}{b:Bool}(h:eD y x b=true)(hx:x.k=4)(hy:y.k=3):b=true∨kC x y=true:=by
 obtain⟨kx,_,_,_,_,_⟩:=x
 obtain⟨ky,_,_,_,_,_⟩:=y
 simp only at hx hy
 subst hx hy
 cases b with
 |true=>exact .inl rfl
 |false=>exact .inr h
theorem Tf{x y:Cl}{b:Bool}(h:eD y x b=true)(hx:x.k=3)(hy:y.k=4):b=true∨kC x y=true:=by
 obtain⟨kx,_,_,_,_,_⟩:=x
 obtain⟨ky,_,_,_,_,_⟩:=y
 simp only at hx hy
 subst hx hy
 cases b with
 |true=>exact .inl rfl
 |false=>exact .inr h
theorem Tg{x y:Cl}{b:Bool}(h:eD y x b=true)(hx:x.k=4)(hy:y.k=2):b=true∨uK y x=true:=by
 obtain⟨kx,_,_,_,_,_⟩:=x
 obtain⟨ky,_,_,_,_,_⟩:=y
 simp only at hx hy
 subst hx hy
 cases b with
 |true=>exact .inl rfl
 |false=>exact .inr h
theorem Ti{x y:Cl}{b:Bool}(h:eD y x b=true)(hx:x.k=2)(hy:y.k=4):b=true∨uK x y=true:=by
 obtain⟨kx,_,_,_,_,_⟩:=x
 obtain⟨ky,_,_,_,_,_⟩:=y
 simp only at hx hy
 subst hx hy
 cases b with
 |true=>exact .inl rfl
 |false=>exact .inr h
end mem
section cls
variable{P:Program}
theorem BO{o:Op}{s:St}{H':ag}:
 (∃p a,nO o=some p∧fH (ev s p.1)=some a∧gH P o s H'=⟨3,a.block,a.off,len (ax (ev s p.2)),hh0,hh0⟩)∨
 (gH P o s H'=⟨2,0,0,0,s.H,H'⟩)∨
 (s.H.next≤H'.low∧((lV o=true∧gH P o s H'=cl 5)∨gH P o s H'=cl 1∨
   ∃p a l,uJ o=some p∧fH (ev s p.2)=some a∧Kv P p.1=some l∧gH P o s H'=⟨4,a.block,a.off,l.getD 1,hh0,hh0⟩)):=by
 have e:gH P o s H'=@Option.rec (Operand×Operand) (fun _=>Cl) (au (Nat.ble s.H.next H'.low) (au (lV o) (cl 5) (lW P o s)) ⟨2,0,0,0,s.H,H'⟩)
  (fun p=>@Option.rec Addr (fun _=>Cl) ⟨2,0,0,0,s.H,H'⟩ (fun a=>⟨3,a.block,a.off,len (ax (ev s p.2)),hh0,hh0⟩) (fH (ev s p.1))) (nO o):=rfl
 cases hs:nO o with
 |none=>
  rw[hs]at e
  cases hb:Nat.ble s.H.next H'.low with
  |false=>rw[hb]at e;exact .inr (.inl e)
  |true=>
   rw[hb]at e
   refine .inr (.inr ⟨Nat.le_of_ble_eq_true hb,?_⟩)
   cases hf:lV o with
   |true=>rw[hf]at e;exact .inl ⟨rfl,e⟩
   |false=>
    rw[hf]at e
    replace e:gH P o s H'=lW P o s:=e
    unfold lW at e
    cases h:(ah (uJ o) fun p=>ah (fH (ev s p.2)) fun a=>ah (Kv P p.1) fun l=>some (Cl.mk 4 a.block a.off (l.getD 1) hh0 hh0))with
    |none=>rw[h]at e;exact .inr (.inl e)
    |some q=>
     rw[h]at e
     (replace h:=ae h;obtain⟨p,hp,h⟩:=h)
     (replace h:=ae h;obtain⟨a,ha,h⟩:=h)
     (replace h:=ae h;obtain⟨l,hl,h⟩:=h)
     cases h
     exact .inr (.inr ⟨p,a,l,hp,ha,hl,e⟩)
 |some p=>
  rw[hs]at e
  replace e:gH P o s H'=@Option.rec Addr (fun _=>Cl) ⟨2,0,0,0,s.H,H'⟩ (fun a=>⟨3,a.block,a.off,len (ax (ev s p.2)),hh0,hh0⟩) (fH (ev s p.1)):=e
  cases ha:fH (ev s p.1)with
  |none=>rw[ha]at e;exact .inr (.inl e)
  |some a=>rw[ha]at e;exact .inl ⟨p,a,rfl,ha,e⟩
end cls
structure Rg(P:Program)(cf:bO)(ops:Array Oper)(n nt:Nat)(S:Nat→St)(C:Nat→Cl):Prop where
 step:∀(j:Nat)(o:Oper),ops[j]?=some o→yn P cf ops o (S j) (S (j +1)) (C j)
 tf:∀(j:Nat)(o:Oper),ops[j]?=some o→TF P cf ops o (S j)
 Yl:∀(j:Nat)(o:Oper),ops[j]?=some o→(S j).nt=nt
 ok:∀(j:Nat)(o:Oper),ops[j]?=some o→iU n nt o=true
 back:jC ops.toList 0=true
 stat:∀(i j:Nat)(oi oj:Oper),i<j→ops[i]?=some oi→ops[j]?=some oj→aS (mI ops j) i=true∨oi.apart ops oj=true
 dyn:∀i j,i<j→j<ops.size→eD (C j) (C i) (aS (mI ops j) i)=true
def Closed(ops:Array Oper)(D:Nat→Prop):Prop:=∀(j:Nat)(o:Oper),ops[j]?=some o→D j→∀e,e∈o.after.toList→Region.binds .any e=true→D e.on
def sS(D:Nat→Prop)(i:Nat)(j:Nat):Prop:=D j∨j=i
inductive Ct where
 |shape(o:bR)
 |cell(v:Option Value)
def cont:Option Nat→bR→Ct
 |none,o=>.shape (yh o)
 |some i,o=>.cell (bZ o i)
def Rel(κ:Option Nat)(m:Mp)(l:Loc)(c:Ct)(ob:Obj):Prop:=
 match κ,c with
 |none,.shape o=>dm m l o ob
 |some i,.cell (some x)=>l.lo≤i→jJ m l i x ob
 |_,_=>True
theorem Rel.mono{κ:Option Nat}{m m':Mp}(hm:Mp.le m m'){l:Loc}{c:Ct}{ob:Obj}(h:Rel κ m l c ob):Rel κ m' l c ob:=by
 cases κ with
 |none=>cases c with|shape o=>exact dm.mono hm h|cell v=>trivial
 |some i=>cases c with
  |shape o=>trivial
  |cell v=>cases v with|none=>trivial|some x=>exact fun hl=>jJ.mono hm (h hl)
theorem Rel.restrict{κ:Option Nat}{m1 m2:Mp}(hm:Mp.le m1 m2){l:Loc}{c:Ct}{ob xS:Obj}(h:Rel κ m2 l c xS)(g:Rel κ m1 l c ob):Rel κ m1 l c xS:=by
 cases κ with
 |none=>cases c with|shape o=>exact dm.restrict hm h g|cell v=>trivial
 |some i=>cases c with
  |shape o=>trivial
  |cell v=>cases v with|none=>trivial|some x=>exact fun hl=>jJ.restrict hm (h hl) (g hl)
theorem G4(o:bR):yh (yh o)=yh o:=by cases o<;>rfl
theorem Rel.mJ{κ:Option Nat}{m:Mp}{l:Loc}{o:bR}{ob:Obj}(h:iJ m l o ob):Rel κ m l (cont κ o) ob:=by
 cases κ with
 |none=>exact(h.split.1).Fp (G4 o).symm
 |some i=>
  show Rel (some i) m l (.cell (bZ o i)) ob
  cases hc:bZ o i with
  |none=>trivial
  |some x=>exact fun hl=>h.split.2 i x hc hl
theorem Rel.L5{m:Mp}{l:Loc}{o:bR}{ob:Obj}(h:∀κ,Rel κ m l (cont κ o) ob):iJ m l o ob:=by
 refine iJ.join ((show dm m l (yh o) ob from h none).Fp (G4 o)) ?_
 intro i x hx hl
 have:=h (some i)
 rw[show cont (some i) o=.cell (some x)from by show Ct.cell (bZ o i)=_;rw[hx]]at this
 exact this hl
section con
variable{S:Nat→St}{N:Nat}
abbrev nx(S:Nat→St)(k:Nat):Nat:=(S k).H.next
abbrev at'(S:Nat→St)(κ:Option Nat)(r k:Nat):Ct:=cont κ ((S k).H.obj r)
def qO(S:Nat→St)(N:Nat)(D:Nat→Prop)(κ:Option Nat)(r k:Nat):Prop:=r<nx S k∧∀j,j<N→r<nx S j→at' S κ r j≠at' S κ r (j +1)→(D j↔j<k)
theorem qO.Ra(mono:∀i j,i≤j→j≤N→nx S i≤nx S j){D:Nat→Prop}{κ:Option Nat}{r:Nat}:∀(d k:Nat),k +d≤N→qO S N D κ r k→qO S N D κ r (k +d)→at' S κ r k=at' S κ r (k +d):=by
 intro d k hkd h1 h2
 have:∀e,e≤d→at' S κ r k=at' S κ r (k +e):=by
  intro e
  induction e with
  |zero=>intro _;rfl
  |succ e ih=>
   intro he
   rw[ih aa]
   apply Classical.byContradiction
   intro hne
   have hr:r<nx S (k +e):=Nat.lt_of_lt_of_le h1.1 (mono _ _ aa aa)
   have a1:=h1.2 (k +e) aa hr hne
   have a2:=h2.2 (k +e) aa hr hne
   have:=a1.1 (a2.2 aa)
   omega
 exact this d (Nat.le_refl _)
theorem qO.eq(mono:∀i j,i≤j→j≤N→nx S i≤nx S j){D:Nat→Prop}{κ:Option Nat}{r k k':Nat}(hk:k≤N)(hk':k'≤N)(h1:qO S N D κ r k)(h2:qO S N D κ r k'):at' S κ r k=at' S κ r k':=by
 rcases Nat.le_total k k' with h|h
 ·have:=qO.Ra mono (k' -k) k aa h1 (by rw[show k +(k' -k)=k' from by omega];exact h2)
  rwa [show k +(k' -k)=k' from by omega]at this
 ·have:=qO.Ra mono (k -k') k' aa h2 (by rw[show k' +(k -k')=k from by omega];exact h1)
  rw[show k' +(k -k')=k from by omega]at this
  exact this.symm
theorem qO.less{D:Nat→Prop}{i:Nat}{κ:Option Nat}{r k:Nat}(h:qO S N (sS D i) κ r k)(hi:r<nx S i→at' S κ r i=at' S κ r (i +1)):qO S N D κ r k:=by
 refine⟨h.1,fun j hj hr hne=>?_⟩
 have hji:j≠i:=fun e=>hne (by subst e;exact hi hr)
 rw[←h.2 j hj hr hne]
 exact⟨.inl,fun hh=>hh.resolve_right hji⟩
end con
structure MInv(S:Nat→St)(C:Nat→Cl)(N:Nat)(m0:Mp)(w0:World)(D:Nat→Prop)(m:Mp)(w:World):Prop where
 dom:∀r l,m r=some l→(m0 r=some l∧r<nx S 0)∨∃i,i<N∧D i∧nx S i≤r∧r<nx S (i +1)
 JJ:∀r l,m r=some l→∃o,w.heap[l.c]?=some o
 cnt:∀κ r l k o,k≤N→m r=some l→qO S N D κ r k→w.heap[l.c]?=some o→Rel κ (m.upto (nx S k)) l (at' S κ r k) o
 sep:∀r r' l l' k k',m r=some l→m r'=some l'→l.c=l'.c→k≤N→k'≤N→qO S N D none r k→qO S N D none r' k'→(S k).H.obj r≠.dead→(S k').H.obj r'≠.dead→r=r'
 clash:∀r r' l l' j,m r=some l→m r'=some l'→l.c=l'.c→j<N→¬D j→(C j).k=2→(r<nx S j↔r'<nx S j)
 hid:∀j r,j<N→D j→r<nx S j→m r=none→(S (j +1)).H.obj r=(S j).H.obj r
 le:Mp.le m0 m
 fresh:∀r l,m r=some l→m0 r=none→l.c<w0.heap.size→∃r0 l0,m0 r0=some l0∧l0.c=l.c∧(S N).H.low≤r0
 os:w.os=w0.os
 tape:w.tape=w0.tape
 output:w.output=w0.output
 size:w0.heap.size≤w.heap.size
 keep:∀c,c<w0.heap.size→(∀r l,m0 r=some l→l.c=c→r<(S N).H.low)→w.heap[c]?=w0.heap[c]?
section rg
variable{P:Program}{cf:bO}{ops:Array Oper}{n nt:Nat}{S:Nat→St}{C:Nat→Cl}
theorem Rg.Dj(g:Rg P cf ops n nt S C){j:Nat}(hj:j<ops.size):nx S j≤nx S (j +1):=by
 have ho:ops[j]?=some ops[j]:=Array.getElem?_eq_getElem hj
 have hs:=g.step j _ ho
 have PM:=g.tf j _ ho
 show(S j).H.next≤(S (j +1)).H.next
 generalize S (j +1)=s1 at hs
 generalize C j=c at hs
 cases hs with
 |skip hw=>rw[bT];exact Nat.le_refl _
 |oH v hw hr=>rw[bT];exact Nat.le_refl _
 |mem v H' hw hr=>rw[bT];exact(PM v H' hr hw).1
theorem Rg.mono(g:Rg P cf ops n nt S C):∀i j,i≤j→j≤ops.size→nx S i≤nx S j:=by
 intro i j hij hj
 obtain⟨d,rfl⟩:=Nat.exists_eq_add_of_le hij
 clear hij
 induction d with
 |zero=>exact Nat.le_refl _
 |succ d ih=>exact Nat.le_trans (ih aa) (g.Dj aa)
theorem qw(a b:Nat):dR a b≤a∧dR a b≤b:=by
 unfold dR
 cases h:Nat.ble a b with
 |true=>exact⟨Nat.le_refl _,Nat.le_of_ble_eq_true h⟩
 |false=>
  have:¬a≤b:=fun h'=>by rw[Nat.ble_eq_true_of_le h']at h;cases h
  exact⟨by show b≤a;omega,Nat.le_refl _⟩
theorem Rg.Ym(g:Rg P cf ops n nt S C){j:Nat}(hj:j<ops.size):(S (j +1)).H.low≤(S j).H.low:=by
 have hs:=g.step j _ (Array.getElem?_eq_getElem hj)
 generalize S (j +1)=s1 at hs
 generalize C j=c at hs
 cases hs with
 |skip hw=>rw[bT];exact Nat.le_refl _
 |oH v hw hr=>rw[bT];exact Nat.le_refl _
 |mem v H' hw hr=>rw[bT];exact(qw _ _).1
theorem Rg.low(g:Rg P cf ops n nt S C):∀i j,i≤j→j≤ops.size→(S j).H.low≤(S i).H.low:=by
 intro i j hij hj
 obtain⟨d,rfl⟩:=Nat.exists_eq_add_of_le hij
 clear hij
 induction d with
 |zero=>exact Nat.le_refl _
 |succ d ih=>exact Nat.le_trans (g.Ym (j:=i +d) aa) (ih aa)
theorem Rg.same(g:Rg P cf ops n nt S C){j r:Nat}(hj:j<ops.size)(h2:(C j).k≠2)(h3:(C j).k≠3)(hr:r<nx S j):(S (j +1)).H.obj r=(S j).H.obj r:=by
 have ho:ops[j]?=some ops[j]:=Array.getElem?_eq_getElem hj
 have hs:=g.step j _ ho
 have PM:=g.tf j _ ho
 generalize S (j +1)=s1 at hs
 generalize hc:C j=c at hs
 rw[hc]at h2 h3
 cases hs with
 |skip hw=>rw[bT]
 |oH v hw hr=>rw[bT]
 |mem v H' hw hr'=>
  rw[bT]
  show H'.obj r=_
  rcases BO (P:=P) (o:=ops[j].op) (s:=S j) (H':=H')with⟨p,a,_,_,e⟩|e|⟨hlow,_⟩
  ·rw[e]at h3;exact absurd rfl h3
  ·rw[e]at h2;exact absurd rfl h2
  ·exact(PM v H' hr' hw).2 r hr (Nat.lt_of_lt_of_le hr hlow)
theorem Rg.PN(g:Rg P cf ops n nt S C){j r:Nat}(hj:j<ops.size)(hr:r<nx S j)(hl:r<(S ops.size).H.low):(S (j +1)).H.obj r=(S j).H.obj r:=by
 have ho:ops[j]?=some ops[j]:=Array.getElem?_eq_getElem hj
 have hs:=g.step j _ ho
 have PM:=g.tf j _ ho
 have hlow:=g.low (j +1) ops.size aa (Nat.le_refl _)
 generalize S (j +1)=s1 at hs hlow
 generalize C j=c at hs
 cases hs with
 |skip hw=>rw[bT]
 |oH v hw hr=>rw[bT]
 |mem v H' hw hr'=>
  rw[bT]at hlow⊢
  exact(PM v H' hr' hw).2 r hr (Nat.lt_of_lt_of_le (Nat.lt_of_lt_of_le hl hlow) (qw _ _).2)
theorem Rg.turns(g:Rg P cf ops n nt S C){κ:Option Nat}{j r:Nat}(hj:j<ops.size)(hr:r<nx S j)(hne:at' S κ r j≠at' S κ r (j +1)):(C j).k=2∨(C j).k=3:=by
 apply Classical.byContradiction
 intro h
 exact hne (by show cont κ _=cont κ _;rw[g.same hj (fun e=>h (.inl e)) (fun e=>h (.inr e)) hr])
theorem Rg.G5(g:Rg P cf ops n nt S C){D:Nat→Prop}(hD:Closed ops D){i:Nat}(hi:i<ops.size)(qP:¬D i)(dN:∀e,e∈ops[i].after.toList→Region.binds .any e=true→D e.on)
 (hc:(C i).k=1∨(C i).k=2){κ:Option Nat}{r:Nat}(hr:r<nx S i):qO S ops.size D κ r i:=by
 refine⟨hr,fun j hj CF hne=>?_⟩
 have hcj:=g.turns hj CF hne
 have hoi:ops[i]?=some ops[i]:=Array.getElem?_eq_getElem hi
 have hoj:ops[j]?=some ops[j]:=Array.getElem?_eq_getElem hj
 rcases Nat.lt_trichotomy j i with h|h|h
 ·refine⟨fun _=>h,fun _=>?_⟩
  have hd:=g.dyn j i h hi
  rcases hcj with hcj|hcj
  ·exact dh g.back hD i _ hoi dN j (BN hd (.inr hcj) hc (.inl hcj))
  ·exact(GY hd hcj hc).elim
 ·subst h;exact⟨fun h=>absurd h qP,fun h=>absurd h (Nat.lt_irrefl _)⟩
 ·refine⟨fun zA=>?_,fun h'=>by omega⟩
  have hd:=g.dyn i j h hj
  have hb:aS (mI ops j) i=true:=by
   rcases hcj with hcj|hcj
   ·exact BN hd hc (.inr hcj) (.inr hcj)
   ·exact GZ hd hc hcj
  exact absurd (dh g.back hD j _ hoj (hD j _ hoj zA) i hb) qP
theorem Rg.Yn(g:Rg P cf ops n nt S C){D:Nat→Prop}(hD:Closed ops D){i:Nat}(hi:i<ops.size)(qP:¬D i)(dN:∀e,e∈ops[i].after.toList→Region.binds .any e=true→D e.on)
 (hc:(C i).k=2){κ:Option Nat}{r:Nat}(hr:r<nx S i):qO S ops.size (sS D i) κ r (i +1):=by
 have h0:=g.G5 hD hi qP dN (.inr hc) (κ:=κ) hr
 refine⟨Nat.lt_of_lt_of_le hr (g.Dj hi),fun j hj CF hne=>?_⟩
 have:=h0.2 j hj CF hne
 constructor
 ·rintro(h|h)
  ·have:=this.1 h;omega
  ·omega
 ·intro h
  by_cases e:j=i
  ·exact .inr e
  ·exact .inl (this.2 aa)
end rg
section rg
variable{P:Program}{cf:bO}{ops:Array Oper}{n nt:Nat}{S:Nat→St}{C:Nat→Cl}{m0:Mp}{w0:World}
theorem MInv.still{D:Nat→Prop}{m:Mp}{w:World}(I:MInv S C ops.size m0 w0 D m w){i:Nat}(hi:i<ops.size)(hs:∀r,r<nx S i→(S (i +1)).H.obj r=(S i).H.obj r):MInv S C ops.size m0 w0 (sS D i) m w where
 dom:=fun r l h=>(I.dom r l h).imp id fun⟨j,h1,h2,h3⟩=>⟨j,h1,.inl h2,h3⟩
 JJ:=I.JJ
 cnt:=fun κ r l k o hk hm hc ho=>I.cnt κ r l k o hk hm (hc.less fun hr=>by show cont κ _=cont κ _;rw[hs r hr]) ho
 sep:=fun r r' l l' k k' h1 h2 h3 h4 h5 h6 h7 h8 h9=>I.sep r r' l l' k k' h1 h2 h3 h4 h5 (h6.less fun hr=>by show cont none _=cont none _;rw[hs r hr]) (h7.less fun hr=>by show cont none _=cont none _;rw[hs r' hr]) h8 h9
 clash:=fun r r' l l' j h1 h2 h3 h4 h5 h6=>I.clash r r' l l' j h1 h2 h3 h4 (fun h=>h5 (.inl h)) h6
 hid:=fun j r h1 h2 h3 h4=>by
  rcases h2 with h2|rfl
  ·exact I.hid j r h1 h2 h3 h4
  ·exact hs r h3
 le:=I.le
 fresh:=I.fresh
 os:=I.os
 tape:=I.tape
 output:=I.output
 size:=I.size
 keep:=I.keep
def join(m2 m:Mp):Mp:=fun r=>match m2 r with|some l=>some l|none=>m r
theorem nT{o o':bR}(e:cont none o=cont none o')(h:o≠.dead):o'≠.dead:=by
 have e:yh o=yh o':=by
  have:Ct.shape (yh o)=Ct.shape (yh o'):=e
  injection this
 exact LU e h
theorem MInv.made(g:Rg P cf ops n nt S C){D:Nat→Prop}(hD:Closed ops D){m:Mp}{w:World}(I:MInv S C ops.size m0 w0 D m w){i:Nat}(hi:i<ops.size)(qP:¬D i)
 (dN:∀e,e∈ops[i].after.toList→Region.binds .any e=true→D e.on){A A':ag}{m2:Mp}{w':World}(hA:A.next=nx S i)(hA':A'.next=nx S (i +1))
 (rh:RH m2 A' w')(ex:Ex (m.upto (nx S i)) m2 A A' w w')(hlow:A.next≤A'.low∨(S ops.size).H.low≤A'.low)(hnew:∀r,nx S i≤r→r<nx S (i +1)→A'.obj r=(S (i +1)).H.obj r)
 (h3:(C i).k≠3)(hcase:((C i).k=2∧(∀r,A'.obj r=(S (i +1)).H.obj r)∧(∀r,A.obj r=(S i).H.obj r))∨((C i).k≠2∧A.next≤A'.low)):
 ∃m',MInv S C ops.size m0 w0 (sS D i) m' w'∧Mp.le m m'∧Mp.le m2 (m'.upto (nx S (i +1))):=by
 have hmono:=g.mono
 have hn1:nx S i≤nx S (i +1):=g.Dj hi
 have hrange:∀r l,m r=some l→r<nx S i∨nx S (i +1)≤r:=by
  intro r l hr
  rcases I.dom r l hr with⟨_,h⟩|⟨j,hj,zA,h1,h2⟩
  ·exact .inl (Nat.lt_of_lt_of_le h (hmono 0 i aa aa))
  ·have hji:j≠i:=fun e=>qP (e▸zA)
   rcases Nat.lt_or_ge j i with h|h
   ·exact .inl (Nat.lt_of_lt_of_le h2 (hmono (j +1) i aa aa))
   ·exact .inr (Nat.le_trans (hmono (i +1) j aa aa) h1)
 have hm2:∀r l,m2 r=some l→r<nx S (i +1):=fun r l h=>by have:=rh.dom r l h;rw[hA']at this;exact this
 have hup:∀r l,m r=some l→r<nx S i→m2 r=some l:=fun r l h hr=>ex.le r l (Mp.sP h hr)
 have hnb:∀r l,m2 r=some l→m r≠some l→m r=none∧nx S i≤r∧m.upto (nx S i) r=none:=by
  intro r l h hne
  have Vl:m.upto (nx S i) r=none:=by
   cases hu:m.upto (nx S i) r with
   |none=>rfl
   |some l'=>
    have:=ex.le r l' hu
    rw[h]at this;cases this
    exact absurd (Mp.dY hu).2 hne
  have hge:=ex.new r l h Vl
  rw[hA]at hge
  refine⟨?_,hge,Vl⟩
  cases hm:m r with
  |none=>rfl
  |some l'=>
   have h1:=hm2 r l h
   rcases hrange r l' hm with h'|h'<;>omega
 have hj2:∀r l,m2 r=some l→join m2 m r=some l:=fun r l h=>by unfold join;rw[h]
 have hj1:∀r l,m r=some l→join m2 m r=some l:=by
  intro r l h
  unfold join
  cases h2:m2 r with
  |none=>exact h
  |some l2=>
   by_cases e:m r=some l2
   ·rw[h]at e;cases e;rfl
   ·have:=(hnb r l2 h2 e).1;rw[h]at this;cases this
 have hcs:∀r l,join m2 m r=some l→m r=some l∨(m r=none∧m2 r=some l∧nx S i≤r∧r<nx S (i +1)∧m.upto (nx S i) r=none):=by
  intro r l h
  unfold join at h
  cases h2:m2 r with
  |none=>rw[h2]at h;exact .inl h
  |some l2=>
   rw[h2]at h
   have hl:l2=l:=by injection h
   subst hl
   by_cases e:m r=some l2
   ·exact .inl e
   ·have:=hnb r l2 h2 e
    exact .inr ⟨this.1,rfl,this.2.1,hm2 r l2 h2,this.2.2⟩
 have hle2:Mp.le m2 ((join m2 m).upto (nx S (i +1))):=fun r l h=>Mp.sP (hj2 r l h) (hm2 r l h)
 have Tj:Mp.le m (join m2 m):=hj1
 have Vm:∀r l,m r=some l→((C i).k≠2∨nx S i≤r)→w'.heap[l.c]?=w.heap[l.c]?:=by
  intro r l h hor
  obtain⟨o,ho⟩:=I.JJ r l h
  refine ex.keep l.c (fO ho) ?_
  intro r1 l1 h1 hc1
  have hu:=Mp.dY h1
  rcases hcase with⟨hk,_,_⟩|⟨_,hlo⟩
  ·rcases hor with h'|h'
   ·exact absurd hk h'
   ·have:=(I.clash r r1 l l1 i h hu.2 hc1.symm hi qP hk).2 hu.1
    omega
  ·rw[hA]at hlo
   exact Nat.lt_of_lt_of_le hu.1 hlo
 have hsame:∀κ r,((C i).k≠2∨nx S i≤r)→r<nx S i→at' S κ r i=at' S κ r (i +1):=by
  intro κ r hor hr
  rcases hor with h|h
  ·show cont κ _=cont κ _;rw[g.same hi h h3 hr]
  ·omega
 have hborn:∀κ r l,m r=none→m2 r=some l→nx S i≤r→r<nx S (i +1)→qO S ops.size (sS D i) κ r (i +1):=by
  intro κ r l hm _ hge hlt
  refine⟨hlt,fun j hj CF hne=>?_⟩
  have hji:i<j:=by
   rcases Nat.lt_or_ge i j with h|h
   ·exact h
   ·have:=hmono j i h aa;omega
  constructor
  ·rintro(h|h)
   ·exact absurd (by show cont κ _=cont κ _;rw[I.hid j r hj h CF hm]) hne
   ·omega
  ·intro h;omega
 have hfr:∀r l,m2 r=some l→m.upto (nx S i) r=none→l.c<w.heap.size→(C i).k=2∧∃r0 l0,m r0=some l0∧l0.c=l.c∧r0<nx S i∧A'.low≤r0:=by
  intro r l h h0 hlt
  obtain⟨r0,l0,e1,e2,e3⟩:=ex.fresh r l h h0 hlt
  have hu:=Mp.dY e1
  refine⟨?_,r0,l0,hu.2,e2,hu.1,e3⟩
  rcases hcase with⟨hk,_,_⟩|⟨_,hlo⟩
  ·exact hk
  ·rw[hA]at hlo;omega
 have Vn:(C i).k=2→∀κ r,r<nx S i→qO S ops.size (sS D i) κ r (i +1):=fun hk κ r hr=>g.Yn hD hi qP dN hk hr
 have Fv:∀r l,join m2 m r=some l→(m r=some l∧((C i).k≠2∨nx S i≤r))∨(m2 r=some l∧(∀κ,qO S ops.size (sS D i) κ r (i +1))∧A'.obj r=(S (i +1)).H.obj r∧
  ((m r=none∧nx S i≤r∧r<nx S (i +1)∧m.upto (nx S i) r=none)∨((C i).k=2∧m r=some l∧r<nx S i))):=by
  intro r l h
  rcases hcs r l h with h|⟨h1,h2,h3',h4,h5⟩
  ·by_cases hor:(C i).k≠2∨nx S i≤r
   ·exact .inl ⟨h,hor⟩
   ·have hk:(C i).k=2:=Classical.byContradiction fun e=>hor (.inl e)
    have hr:r<nx S i:=Nat.lt_of_not_le fun e=>hor (.inr e)
    refine .inr ⟨hup r l h hr,fun κ=>Vn hk κ r hr,?_,.inr ⟨hk,h,hr⟩⟩
    rcases hcase with⟨_,h,_⟩|⟨h,_⟩
    ·exact h r
    ·exact absurd hk h
  ·exact .inr ⟨h2,fun κ=>hborn κ r l h1 h2 h3' h4,hnew r h3' h4,.inl ⟨h1,h3',h4,h5⟩⟩
 have Vo:∀r r' l l',m r=some l→((C i).k≠2∨nx S i≤r)→m2 r'=some l'→
  ((m r'=none∧nx S i≤r'∧r'<nx S (i +1)∧m.upto (nx S i) r'=none)∨((C i).k=2∧m r'=some l'∧r'<nx S i))→l.c=l'.c→False:=by
  intro r r' l l' e hor e' hk hcc
  obtain⟨o,ho⟩:=I.JJ r l e
  have hlt:=fO ho
  rcases hk with⟨_,_,_,hu0⟩|⟨hk2,h1,h2⟩
  ·obtain⟨hk2,r0,l0,f1,f2,f3,_⟩:=hfr r' l' e' hu0 (by rw[←hcc];exact hlt)
   rcases hor with h1|h1
   ·exact h1 hk2
   ·have:=(I.clash r r0 l l0 i e f1 (by rw[f2,hcc]) hi qP hk2).2 f3
    omega
  ·rcases hor with h3|h3
   ·exact h3 hk2
   ·have:=(I.clash r r' l l' i e h1 hcc hi qP hk2).2 h2
    omega
 refine⟨join m2 m,⟨?_,?_,?_,?_,?_,?_,?_,?_,?_,?_,?_,?_,?_⟩,Tj,hle2⟩
 ·
  intro r l h
  rcases hcs r l h with h|⟨_,_,h3',h4,_⟩
  ·exact(I.dom r l h).imp id fun⟨j,h1,h2,h3⟩=>⟨j,h1,.inl h2,h3⟩
  ·exact .inr ⟨i,hi,.inr rfl,h3',h4⟩
 ·
  intro r l h
  rcases hcs r l h with h|⟨_,h2,_⟩
  ·obtain⟨o,ho⟩:=I.JJ r l h
   have:l.c<w'.heap.size:=Nat.lt_of_lt_of_le (fO ho) ex.size
   exact⟨w'.heap[l.c],Array.getElem?_eq_getElem this⟩
  ·obtain⟨o,ho,_⟩:=rh.ok r l h2
   exact⟨o,ho⟩
 ·
  intro κ r l k o hk hm hc ho
  rcases Fv r l hm with⟨h,hor⟩|⟨h2,hcon,oK,_⟩
  ·rw[Vm r l h hor]at ho
   exact(I.cnt κ r l k o hk h (hc.less fun hr=>hsame κ r hor hr) ho).mono (Mp.jI Tj (Nat.le_refl _))
  ·obtain⟨o2,ho2,hok⟩:=rh.ok r l h2
   rw[ho]at ho2;cases ho2
   have hrel:Rel κ m2 l (cont κ (A'.obj r)) o:=Rel.mJ hok
   rw[oK]at hrel
   have heq:at' S κ r (i +1)=at' S κ r k:=qO.eq hmono aa hk (hcon κ) hc
   replace hrel:Rel κ m2 l (at' S κ r (i +1)) o:=hrel
   rw[heq]at hrel
   rcases Nat.lt_or_ge i k with hik|hik
   ·exact hrel.mono fun r1 l1 h1=>Mp.sP (hj2 r1 l1 h1) (Nat.lt_of_lt_of_le (hm2 r1 l1 h1) (hmono _ _ hik hk))
   ·
    have hrk:=hc.1
    have XP:r<nx S i:=Nat.lt_of_lt_of_le hrk (hmono k i hik aa)
    have hmr:m r=some l:=by
     rcases hcs r l hm with h|⟨_,_,h3',_⟩
     ·exact h
     ·omega
    have hnot:at' S κ r i=at' S κ r (i +1):=by
     apply Classical.byContradiction
     intro hne
     have:=(hc.2 i hi XP hne).1 (.inr rfl)
     omega
    obtain⟨o0,ho0⟩:=I.JJ r l hmr
    have hold:=I.cnt κ r l k o0 hk hmr (hc.less fun _=>hnot) ho0
    have hlr:Mp.le (m.upto (nx S k)) m2:=by
     intro r1 l1 h1
     have hu:=Mp.dY h1
     exact hup r1 l1 hu.2 (Nat.lt_of_lt_of_le hu.1 (hmono k i hik aa))
    exact(Rel.restrict hlr hrel hold).mono (Mp.jI Tj (Nat.le_refl _))
 ·
  intro r r' l l' k k' h h' hcc hk hk' hc hc' hd hd'
  rcases Fv r l h with⟨e,hor⟩|⟨e,hcon,oK,hw⟩<;>rcases Fv r' l' h' with⟨e',Vp⟩|⟨e',L6,Vq,hw'⟩
  ·exact I.sep r r' l l' k k' e e' hcc hk hk' (hc.less fun hr=>hsame none r hor hr) (hc'.less fun hr=>hsame none r' Vp hr) hd hd'
  ·exact(Vo r r' l l' e hor e' hw' hcc).elim
  ·exact(Vo r' r l' l e' Vp e hw hcc.symm).elim
  ·refine rh.sep r r' l l' e e' ?_ ?_ hcc
   ·rw[oK]
    exact nT (qO.eq hmono hk aa hc (hcon none)) hd
   ·rw[Vq]
    exact nT (qO.eq hmono hk' aa hc' (L6 none)) hd'
 ·
  intro r r' l l' j h h' hcc hj zA hkj
  have hji:j≠i:=fun e=>zA (.inr e)
  have Tm:¬D j:=fun e=>zA (.inl e)
  have hside:∀r1,nx S i≤r1→r1<nx S (i +1)→(r1<nx S j↔i<j):=by
   intro r1 h1 h2
   constructor
   ·intro h3
    rcases Nat.lt_or_ge i j with h4|h4
    ·exact h4
    ·have:=hmono j i h4 aa;omega
   ·intro h3;exact Nat.lt_of_lt_of_le h2 (hmono _ _ h3 aa)
  have hone:∀r r' l l',m r=none→m2 r=some l→nx S i≤r→r<nx S (i +1)→m.upto (nx S i) r=none→m r'=some l'→l.c=l'.c→(r<nx S j↔r'<nx S j):=by
   intro r r' l l' h1 h2 h3 h4 h5 h6 hcc
   obtain⟨o,ho⟩:=I.JJ r' l' h6
   obtain⟨hk2,r0,l0,f1,f2,f3,_⟩:=hfr r l h2 h5 (by rw[hcc];exact fO ho)
   have hij:i<j:=by
    rcases Nat.lt_or_ge i j with h7|h7
    ·exact h7
    ·have hlt:j<i:=by omega
     have hb:=BN (g.dyn j i hlt hi) (.inr hkj) (.inr hk2) (.inl hkj)
     exact absurd (dh g.back hD i _ (Array.getElem?_eq_getElem hi) dN j hb) Tm
   rw[hside r h3 h4]
   have h8:r0<nx S j:=Nat.lt_of_lt_of_le f3 (hmono i j aa aa)
   have:=(I.clash r' r0 l' l0 j h6 f1 (by rw[f2,hcc]) hj Tm hkj).2 h8
   exact⟨fun _=>this,fun _=>hij⟩
  rcases hcs r l h with e|⟨a1,a2,a3,a4,a5⟩<;>rcases hcs r' l' h' with e'|⟨b1,b2,b3,b4,b5⟩
  ·exact I.clash r r' l l' j e e' hcc hj Tm hkj
  ·exact(hone r' r l' l b1 b2 b3 b4 b5 e hcc.symm).symm
  ·exact hone r r' l l' a1 a2 a3 a4 a5 e' hcc
  ·rw[hside r a3 a4,hside r' b3 b4]
 ·
  intro j r hj zA hr hm
  have hmr:m r=none:=by
   cases h:m r with
   |none=>rfl
   |some l=>have:=hj1 r l h;rw[hm]at this;cases this
  rcases zA with h|rfl
  ·exact I.hid j r hj h hr hmr
  ·rcases hcase with⟨hk,h1,h2⟩|⟨hk,_⟩
   ·rw[←h1,←h2]
    refine ex.hid r (by rw[hA];exact hr) ?_
    unfold Mp.upto
    rw[hmr];simp
   ·exact g.same hi hk h3 hr
 ·exact fun r l h=>hj1 r l (I.le r l h)
 ·
  intro r l h h0 hlt
  rcases hcs r l h with e|⟨a1,a2,a3,a4,a5⟩
  ·exact I.fresh r l e h0 hlt
  ·obtain⟨hk2,r0,l0,f1,f2,f3,f4⟩:=hfr r l a2 a5 (Nat.lt_of_lt_of_le hlt I.size)
   have hl2:(S ops.size).H.low≤r0:=by
    rcases hlow with h1|h1
    ·rw[hA]at h1;omega
    ·exact Nat.le_trans h1 f4
   cases h1:m0 r0 with
   |some l1=>
    have:=I.le r0 l1 h1
    rw[f1]at this;cases this
    exact⟨r0,l0,h1,f2,hl2⟩
   |none=>
    obtain⟨r1,l1,g1,g2,g3⟩:=I.fresh r0 l0 f1 h1 (by rw[f2];exact hlt)
    exact⟨r1,l1,g1,g2.trans f2,g3⟩
 ·exact ex.os.trans I.os
 ·exact ex.tape.trans I.tape
 ·exact ex.output.trans I.output
 ·exact Nat.le_trans I.size ex.size
 ·
  intro c hc hk
  rw[ex.keep c (Nat.lt_of_lt_of_le hc I.size),I.keep c hc hk]
  intro r l h1 h2
  have hu:=Mp.dY h1
  rcases hlow with h3'|h3'
  ·rw[hA]at h3';exact Nat.lt_of_lt_of_le hu.1 h3'
  ·cases h0:m0 r with
   |some l0=>
    have:=I.le r l0 h0
    rw[hu.2]at this;cases this
    exact Nat.lt_of_lt_of_le (hk r l h0 h2) h3'
   |none=>
    obtain⟨r0,l0,e1,e2,e3⟩:=I.fresh r l hu.2 h0 (by rw[h2];exact hc)
    have:=hk r0 l0 e1 (e2.trans h2)
    omega
end rg
end Go.Ae
