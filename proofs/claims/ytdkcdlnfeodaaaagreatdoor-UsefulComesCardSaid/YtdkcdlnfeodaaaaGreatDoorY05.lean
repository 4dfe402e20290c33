/-
  Part 5 of the proof. No condition.
-/
import Derived.Test.YtdkcdlnfeodaaaaGreatDoorY04
set_option linter.unusedVariables false
set_option linter.unusedSimpArgs false
namespace Go.Ae
variable{S:List Nat}
def GB(ty:TypeId)(es:Nat)(v:Value)(cs:List Value)(gb:List aK):Prop:=
 (v=.slice none 0 0∧cs=[]∧gb=[])∨∃r n aQ,v=.slice (some ⟨r,0,none⟩) n (aT es)∧cs.length=n*es∧gb=[(r,ty,cs++aQ)]
theorem GB.nil(ty:TypeId)(es:Nat):GB ty es (.slice none 0 0) [] []:=.inl ⟨rfl,rfl,rfl⟩
section steps
variable{H0 H:aa}{L:List aK}{K:Value→aa→Prop}{ty:TypeId}{es:Nat}{v:Value}{cs xs:List Value}{gb:List aK}{rx:Nat}
theorem Vx{H H':aa}(h:H'.low<H.next):Df H H'=⟨2,0,0,0,H,H'⟩:=by
 show av (Nat.ble H.next H'.low) _ _=_
 rw[show Nat.ble H.next H'.low=false from by rw[←Bool.not_eq_true];intro g;have:=Nat.le_of_ble_eq_true g;omega];rfl
theorem GB.app(hg:GB ty es v cs gb)(hS:SH S H0 H ((rx,ty,xs)::(gb++L))){m:Nat}(he:0<es)(hx:xs.length=(m +1)*es)(hok:all' aU xs=true)(hm:m +1≤16777216)(hc:cs.length≤16777216){cx:Nat}:
 ∃v' H1 dD,xz ty es v (.slice (some ⟨rx,0,none⟩) (m +1) cx) H=some (v',H1)∧GB ty es v' (cs++xs) dD∧SH S H0 H1 (dD++L)∧kS (gb.map (·.1)) H H1:=by
 have hbx:=hS.get 0 rfl
 have ha:=sW (k:=m +1) (c:=cx) hbx hx
 have hS1:SH S H0 H (gb++L):=SH.drop (A:=[(rx,ty,xs)]) hS
 rcases hg with⟨rfl,rfl,rfl⟩|⟨r,n,aQ,rfl,hn,rfl⟩
 ·refine⟨_,_,[(H.next,ty,xs)],Fv ha hm,.inr ⟨H.next,m +1,[],rfl,hx,by simp⟩,hS1.grow ty xs,Ext.new _ _⟩
 ·have hb:=hS1.get 0 rfl
  have hr:=(hS1.lo _ (List.mem_cons_self ..)).2
  have hnn:n≤16777216:=by
   have:n*1≤n*es:=Nat.mul_le_mul_left n he
   omega
  obtain⟨r',H1,BL,h1,h2,h3,h4,h5,h6⟩:=Ml he hb hr hn ha hx hok hm hnn
  refine⟨_,H1,[(r',ty,cs++xs++BL)],h1,.inr ⟨r',n +(m +1),BL,rfl,?_,rfl⟩,?_,h5⟩
  ·rw[List.length_append,hn,hx,←Nat.add_mul]
  ·refine SH.turn (A:=[(r,ty,cs++aQ)]) hS1 h5 (fun e he'=>?_) (List.pairwise_singleton _ _)
   rw[List.mem_singleton]at he'
   subst he'
   refine⟨h2,?_,h4⟩
   rcases h3 with h3|h3
   ·exact .inl (by simp[h3])
   ·exact .inr (by show H.next≤r';omega)
theorem GB.add(hg:GB ty es v cs gb)(hS:SH S H0 H ((rx,ty,xs)::(gb++L)))(he:0<es)(hx:xs.length=es)(hok:all' aU xs=true)(hc:cs.length≤16777216){cx:Nat}
 (k:∀v' H1 dD,GB ty es v' (cs++xs) dD→SH S H0 H1 (dD++L)→kS (gb.map (·.1)) H H1→K v' H1):ME (xz ty es v (.slice (some ⟨rx,0,none⟩) 1 cx) H) K:=by
 obtain⟨v',H1,dD,h1,h2,h3,h4⟩:=hg.app (m:=0) (cx:=cx) hS he (by omega) hok (by omega) hc
 rw[h1]
 exact k v' H1 dD h2 h3 h4
theorem SH.o8(hS:SH S H0 H L):SH S (Go.Ae.hN H0) (Go.Ae.hN H) L:=
 ⟨⟨hS.ext.next,hS.ext.obj,fun b hl hn _=>Nat.le_trans hn hS.ext.next,fun _=>Nat.le_refl _⟩,hS.bk,hS.lo,hS.ne,Nat.le_refl _⟩
theorem GB.Ie(hg:GB ty es v cs gb)(hS:SH S H0 H ((rx,ty,xs)::(gb++L)))(he:0<es)(hx:xs.length=es)(hok:all' aU xs=true)(hc:cs.length≤16777216){cx:Nat}
 (k:∀v' H1 dD,GB ty es v' (cs++xs) dD→SH S H0 (hM H H1) (dD++L)→kS (gb.map (·.1)) H (hM H H1)→(∀r,r<H.next→r∉gb.map (·.1)→H1.obj r=H.obj r)→(Df H H1=cl 1∨Df H H1=⟨2,0,0,0,H,H1⟩)→K v' H1):ME (xz ty es v (.slice (some ⟨rx,0,none⟩) 1 cx) (Go.Ae.hN H)) K:=by
 have hS':SH [] (Go.Ae.hN H) (Go.Ae.hN H) []:=SH.refl (Nat.le_refl _)
 have hbx:=hS.get 0 rfl
 have ha:appended (Go.Ae.hN H) es (.slice (some ⟨rx,0,none⟩) (0 +1) cx)=some (0 +1,xs):=sW (H:=Go.Ae.hN H) (k:=0 +1) hbx (by omega)
 have hS1:SH S H0 H (gb++L):=SH.drop (A:=[(rx,ty,xs)]) hS
 have hcls:∀H1:aa,Df H H1=cl 1∨Df H H1=⟨2,0,0,0,H,H1⟩:=by
  intro H1
  show av (Nat.ble H.next H1.low) _ _=_∨av (Nat.ble H.next H1.low) _ _=_
  cases Nat.ble H.next H1.low with
  |true=>exact .inl rfl
  |false=>exact .inr rfl
 rcases hg with⟨rfl,rfl,rfl⟩|⟨r,n,aQ,rfl,hn,rfl⟩
 ·rw[show xz ty es (.slice none 0 0) (.slice (some ⟨rx,0,none⟩) 1 cx) (Go.Ae.hN H)=_ from Fv ha (by omega)]
  have hx':Ext (Go.Ae.hN H) ((Go.Ae.hN H).new (rowOf ty xs)):=Ext.new _ _
  exact k _ _ [(H.next,ty,xs)] (.inr ⟨H.next,1,[],rfl,by simp;omega,by simp⟩) (hS1.Ic ty xs) hx'.draw (fun q hq hn'=>hx'.obj q hq (by simp)) (hcls _)
 ·have hb:Bk (Go.Ae.hN H) r ty (cs++aQ):=hS1.get 0 rfl
  have hr:=(hS1.lo _ (List.mem_cons_self ..)).2
  have hnn:n≤16777216:=by
   have:n*1≤n*es:=Nat.mul_le_mul_left n he
   omega
  obtain⟨r',H1,BL,h1,h2,h3,h4,h5,h6⟩:=Ml he hb hr hn ha (by omega) hok (by omega) hnn
  rw[show xz ty es (.slice (some ⟨r,0,none⟩) n (aT es)) (.slice (some ⟨rx,0,none⟩) 1 cx) (Go.Ae.hN H)=_ from h1]
  refine k _ H1 [(r',ty,cs++xs++BL)] (.inr ⟨r',n +(0 +1),BL,rfl,?_,rfl⟩) ?_ h5.draw (fun q hq hn'=>h5.obj q hq hn') (hcls _)
  ·rw[List.length_append,hn,hx,Nat.add_mul];omega
  ·refine SH.turn (A:=[(r,ty,cs++aQ)]) hS1 h5.draw (fun e he'=>?_) (List.pairwise_singleton _ _)
   rw[List.mem_singleton]at he'
   subst he'
   refine⟨h2,?_,h4⟩
   rcases h3 with h3|h3
   ·exact .inl (by simp[h3])
   ·exact .inr (by show H.next≤r';rw[h3];exact Nat.le_refl _)
theorem GB.fl(hg:GB ty es v cs gb)(hS:SH S H0 H (gb++L)):∃a n c,v=.slice a n c∧cs.length=n*es∧Fl H a n es cs:=by
 rcases hg with⟨rfl,rfl,rfl⟩|⟨r,n,aQ,rfl,hn,rfl⟩
 ·exact⟨none,0,0,rfl,by simp,Fl.nil _ _ _⟩
 ·refine⟨_,n,_,rfl,hn,hn,fun i x hi=>⟨r,0,rfl,(hS.lo _ (List.mem_cons_self ..)).2,?_⟩⟩
  rw[Nat.zero_add]
  refine(hS.get 0 rfl).cell ?_
  rw[List.getElem?_append_left (List.getElem?_eq_some_iff.1 hi).1];exact hi
theorem GB.aU(hg:GB ty es v cs gb):all' Go.Ae.aU (ay v)=true∧(ay v).length=1∧ay v=[v]:=by
 rcases hg with⟨rfl,_,_⟩|⟨r,n,aQ,rfl,_,_⟩<;>exact⟨rfl,rfl,rfl⟩
end steps
theorem qc{A B:aa}{r off n:Nat}{vs:List Value}(ha:A.read r off n=some vs)(hb:B.read r off n=some vs)(hs:wV vs vs=true):sameAt A B r off n=true:=by
 unfold sameAt
 rw[ha,hb]
 show gK (gd (wV vs vs) (some ()))=true
 rw[hs];rfl
end Go.Ae
namespace Go.Ae
section bin
variable{P:Program}{t:TypeId}{ox oy:Operand}{a b:Int}{k:IntKind}
end bin
theorem Ru:∀(a b:List UInt8),UM a=UM b→a=b:=by
 intro a
 induction a with
 |nil=>intro b h;cases b with
  |nil=>rfl
  |cons y b=>cases h
 |cons x a ih=>intro b h;cases b with
  |nil=>cases h
  |cons y b=>
   have h1:x.toNat=y.toNat:=(List.cons.inj h).1
   have h2:UM a=UM b:=(List.cons.inj h).2
   rw[ih b h2,UInt8.toNat_inj.1 h1]
theorem Ig:∀(a b:List Nat),AX a b=true↔a=b:=by
 intro a
 induction a with
 |nil=>intro b;cases b with
  |nil=>exact⟨fun _=>rfl,fun _=>rfl⟩
  |cons y b=>exact⟨(fun h=>by cases h),(fun h=>by cases h)⟩
 |cons x a ih=>intro b;cases b with
  |nil=>exact⟨(fun h=>by cases h),(fun h=>by cases h)⟩
  |cons y b=>
   show av (Nat.beq x y) (AX a b) false=true↔_
   by_cases e:x=y
   ·subst e;rw[Nat.beq_refl,fV,ih];simp
   ·rw[show Nat.beq x y=false from by rw[←Bool.not_eq_true];exact fun g=>e (Nat.eq_of_beq_eq_true g),bX]
    simp[e]
theorem D_(a b:ByteArray):iJ a b=decide (a=b):=by
 rw[Bool.eq_iff_iff,decide_eq_true_iff]
 unfold iJ
 rw[Ig]
 constructor
 ·intro h
  have:=Ru _ _ h
  obtain⟨⟨x⟩⟩:=a
  obtain⟨⟨y⟩⟩:=b
  exact congrArg (fun l=>ByteArray.mk (Array.mk l)) this
 ·intro h;rw[h]
section bin
variable{P:Program}{t:TypeId}{ox oy:Operand}
theorem Ea(a b:ByteArray):eG P .eql t ox oy (.string a) (.string b)=some (.bool (decide (a=b))):=by
 show some (Value.bool (iJ a b))=_;rw[D_]
theorem Eb(a b:ByteArray):eG P .neq t ox oy (.string a) (.string b)=some (.bool (!decide (a=b))):=by
 show some (Value.bool (!(iJ a b)))=_;rw[D_]
end bin
def part(s:ByteArray)(lo hi:Nat):ByteArray:=⟨⟨(s.data.toList.drop lo).take (hi -lo)⟩⟩
theorem lN(s:ByteArray){lo hi:Nat}(h:lo≤hi)(h2:hi≤s.size):(part s lo hi).size=hi -lo:=by
 show((s.data.toList.drop lo).take (hi -lo)).length=_
 have:s.data.toList.length=s.size:=rfl
 simp;omega
theorem Ih{s:ByteArray}{lo hi:Nat}(h:lo≤hi)(h2:hi≤s.size):YT (.string s) (some (vn lo)) (some (vn hi)) none=some (.string (part s lo hi)):=by
 show gd (Nat.ble lo hi&&Nat.ble hi (len s.data.toList)) (some (Value.string ⟨⟨tk (Nat.sub hi lo) (dp lo s.data.toList)⟩⟩))=_
 rw[aO,Nat.ble_eq_true_of_le h,Nat.ble_eq_true_of_le (show hi≤s.data.toList.length from h2),yZ,Dz];rfl
theorem sZ{s:ByteArray}{lo:Nat}(h:lo≤s.size):YT (.string s) (some (vn lo)) none none=some (.string (part s lo s.size)):=by
 show gd (Nat.ble lo (len s.data.toList)&&Nat.ble (len s.data.toList) (len s.data.toList)) (some (Value.string ⟨⟨tk (Nat.sub (len s.data.toList) lo) (dp lo s.data.toList)⟩⟩))=_
 rw[aO,Nat.ble_eq_true_of_le (show lo≤s.data.toList.length from h),Nat.ble_eq_true_of_le (Nat.le_refl _),yZ,Dz];rfl
theorem YU{s:ByteArray}{hi:Nat}(h2:hi≤s.size):YT (.string s) none (some (vn hi)) none=some (.string (part s 0 hi)):=by
 show gd (Nat.ble 0 hi&&Nat.ble hi (len s.data.toList)) (some (Value.string ⟨⟨tk (Nat.sub hi 0) (dp 0 s.data.toList)⟩⟩))=_
 rw[aO,Nat.ble_eq_true_of_le (Nat.zero_le _),Nat.ble_eq_true_of_le (show hi≤s.data.toList.length from h2),yZ,Dz];rfl
noncomputable def cvI(k:IntKind)(x:Value):Option Value:=@Option.rec (IntKind×Int) (fun _=>Option Value) (ai (jh x) fun b=>gd false (some (.string b))) (fun a=>some (.int k (fQ k a.2))) (jg x)
noncomputable def cvT(x:Value):Option Value:=@Option.rec (IntKind×Int) (fun _=>Option Value) (ai (jh x) fun b=>gd true (some (.string b))) (fun a=>some (.string (Utf8.encode a.2))) (jg x)
theorem ny(k k':IntKind)(a:Int):cvI k (.int k' a)=some (.int k (fQ k a)):=rfl
theorem Mm(k:IntKind)(a:Int):cvT (.int k a)=some (.string (Utf8.encode a)):=rfl
theorem Mo(s:ByteArray):cvT (.string s)=some (.string s):=rfl
theorem YV(vs:List Value)(i:Nat):l8 (.tuple ⟨vs⟩) i=vs[i]?:=fC vs i
end Go.Ae
namespace Go.Ae
variable{S:List Nat}
theorem ae{p:Prop}[Decidable p]{A B:Prop}(h1:p→A)(h2:¬p→B):vk (some (decide p)) A B:=by
 by_cases h:p
 ·rw[decide_eq_true h];exact h1 h
 ·rw[decide_eq_false h];exact h2 h
theorem aP{p:Prop}[Decidable p]{A B:Prop}(h1:¬p→A)(h2:p→B):vk (some (!decide p)) A B:=by
 by_cases h:p
 ·rw[decide_eq_true h];exact h2 h
 ·rw[decide_eq_false h];exact h1 h
theorem aC{b:Bool}{A B:Prop}(h1:b=true→A)(h2:b=false→B):vk (some b) A B:=by
 cases b with
 |true=>exact h1 rfl
 |false=>exact h2 rfl
def Fw(k:IntKind)(a b:Int):Int:=k.wrap (BitVec.toNat (BitVec.ofInt k.bits a&&&BitVec.ofInt k.bits b))
def bOr(k:IntKind)(a b:Int):Int:=k.wrap (BitVec.toNat (BitVec.ofInt k.bits a|||BitVec.ofInt k.bits b))
def Vy(k:IntKind)(a b:Int):Int:=k.wrap (BitVec.toNat (BitVec.ofInt k.bits a&&&~~~BitVec.ofInt k.bits b))
def Fx(k:IntKind)(a b:Int):Int:=k.wrap (a*2^min b.toNat k.bits)
def BM(k:IntKind)(a b:Int):Int:=a.fdiv (2^min b.toNat k.bits)
section bits
variable{P:Program}{t:TypeId}{ox oy:Operand}{a b:Int}{k:IntKind}
theorem uK:eG P .and t ox oy (.int k a) (.int k b)=some (.int k (Fw k a b)):=bY rfl rfl
theorem Ii:eG P .or t ox oy (.int k a) (.int k b)=some (.int k (bOr k a b)):=bY rfl rfl
theorem xD:eG P .andNot t ox oy (.int k a) (.int k b)=some (.int k (Vy k a b)):=bY rfl rfl
theorem qf(h:0≤b):eG P .shl t ox oy (.int k a) (.int .u64 b)=some (.int k (Fx k a b)):=by
 show bP (Op.shift .shl k a .u64 b)=_
 unfold Op.shift
 rw[if_neg (by omega)];rfl
theorem iW(h:0≤b):eG P .shr t ox oy (.int k a) (.int .u64 b)=some (.int k (BM k a b)):=by
 show bP (Op.shift .shr k a .u64 b)=_
 unfold Op.shift
 rw[if_neg (by omega)];rfl
theorem BN:eG P .shl t ox oy (.int k a) (.int .u64 4)=some (.int k (Fx k a 4)):=qf (by decide)
theorem BO:eG P .shl t ox oy (.int k a) (.int .u64 6)=some (.int k (Fx k a 6)):=qf (by decide)
theorem zw:eG P .shl t ox oy (.int k a) (.int .u64 12)=some (.int k (Fx k a 12)):=qf (by decide)
theorem zx:eG P .shl t ox oy (.int k a) (.int .u64 18)=some (.int k (Fx k a 18)):=qf (by decide)
theorem zy:eG P .shl t ox oy (.int k a) (.int .u64 31)=some (.int k (Fx k a 31)):=qf (by decide)
theorem BP:eG P .shr t ox oy (.int k a) (.int .u64 4)=some (.int k (BM k a 4)):=iW (by decide)
theorem BQ:eG P .shr t ox oy (.int k a) (.int .u64 6)=some (.int k (BM k a 6)):=iW (by decide)
theorem zz:eG P .shr t ox oy (.int k a) (.int .u64 12)=some (.int k (BM k a 12)):=iW (by decide)
theorem zA:eG P .shr t ox oy (.int k a) (.int .u64 18)=some (.int k (BM k a 18)):=iW (by decide)
theorem zB:eG P .shr t ox oy (.int k a) (.int .u64 31)=some (.int k (BM k a 31)):=iW (by decide)
end bits
theorem Rv{n k es r o:Nat}{kk:IntKind}(h:k<n):idR n es (.pointer (some ⟨r,o,none⟩)) (.int kk (k:Int))=some (.pointer (some ⟨r,o +k*es,none⟩)):=by
 show gd (Nat.ble (Nat.succ k) n) (some (Value.pointer (some ⟨r,Nat.add o (Nat.mul k es),none⟩)))=_
 rw[Nat.ble_eq_true_of_le h];rfl
section ar
variable{P:Program}{t:TypeId}{ox oy:Operand}{a b:Int}
theorem zC:eG P .add t ox oy (.int .u8 a) (.int .u8 b)=some (.int .u8 (fQ .u8 (a +b))):=bY rfl rfl
theorem xE:eG P .add t ox oy (.int .i32 a) (.int .i32 b)=some (.int .i32 (fQ .i32 (a +b))):=bY rfl rfl
theorem zD:eG P .sub t ox oy (.int .u8 a) (.int .u8 b)=some (.int .u8 (fQ .u8 (a -b))):=bY rfl rfl
theorem xF:eG P .sub t ox oy (.int .i32 a) (.int .i32 b)=some (.int .i32 (fQ .i32 (a -b))):=bY rfl rfl
theorem zF:eG P .mul t ox oy (.int .u8 a) (.int .u8 b)=some (.int .u8 (fQ .u8 (a*b))):=bY rfl rfl
theorem xG:eG P .mul t ox oy (.int .i32 a) (.int .i32 b)=some (.int .i32 (fQ .i32 (a*b))):=bY rfl rfl
end ar
theorem lQ{t:Nat}{v:Value}{l:List (Nat×Value)}:zZ ((t,v)::l) t=v:=by
 show Go.Ae.look ((t,v)::l) t=v
 rw[uG,if_pos rfl]
theorem qP{d t:Nat}{v:Value}{l:List (Nat×Value)}(h:(d==t)=false):zZ ((d,v)::l) t=zZ l t:=by
 show Go.Ae.look ((d,v)::l) t=Go.Ae.look l t
 rw[uG,if_neg (by simpa using h)]
section quiet
variable{H0 H:aa}{L:List aK}{K:Value→aa→Prop}
theorem SH.xH(hS:SH S H0 H L)(i:Nat){r o:Nat}{ty:TypeId}{cs:List Value}{v:Value}(hi:L[i]?=some (r,ty,cs))(hv:cs[o]?=some v)(k:K v (Go.Ae.hN H)):ME (jX none (.pointer (some ⟨r,o,none⟩)) (Go.Ae.hN H)) K:=
 ME.ld (H:=Go.Ae.hN H) ((hS.get i hi).cell hv) k
theorem SH.YW(hS:SH S H0 H L)(i:Nat){r o n:Nat}{ty:TypeId}{cs:List Value}(hi:L[i]?=some (r,ty,cs))(hn:o +n≤cs.length)(k:K (.agg ⟨(cs.drop o).take n⟩) (Go.Ae.hN H)):ME (jX (some n) (.pointer (some ⟨r,o,none⟩)) (Go.Ae.hN H)) K:=
 ME.vW (H:=Go.Ae.hN H) ((hS.get i hi).read hn) k
theorem SH.Dh(hS:SH [] H0 H L){r o:Nat}{v:Value}(h:H0.cell r o=some v)(hr:r<H0.next)(k:K v (Go.Ae.hN H)):ME (jX none (.pointer (some ⟨r,o,none⟩)) (Go.Ae.hN H)) K:=
 ME.ld (H:=Go.Ae.hN H) ((hS.old hr).trans h) k
end quiet
section mem
variable{P:Program}{X:Xt}
noncomputable def Rw(a:Code)(R:Nat→Nat→St→Prop)(n:Nat)(K:Out→Prop):Out→Prop:=fun o=>
 @Out.rec (fun _=>Prop) False (fun s=>K (.norm s)) (fun i s=>K (.exit i s)) (fun l s=>@Option.rec Code (fun _=>Prop) (K (.goto l s)) (fun _=>∃m,m<n∧R m l s) (findLabel a l)) (fun s=>K (.ret s)) o
theorem Rx{a:Code}{R:Nat→Nat→St→Prop}{n:Nat}{K:Out→Prop}{s:St}:Rw a R n K (.norm s)=K (.norm s):=rfl
theorem Mq{a:Code}{R:Nat→Nat→St→Prop}{n:Nat}{K:Out→Prop}{s:St}:Rw a R n K (.ret s)=K (.ret s):=rfl
theorem BR{a rest:Code}{R:Nat→Nat→St→Prop}{n l:Nat}{K:Out→Prop}{s:St}(h:findLabel a l=some rest):Rw a R n K (.goto l s)=∃m,m<n∧R m l s:=by
 show(@Option.rec Code (fun _=>Prop) _ _ (findLabel a l))=_
 rw[h]
def ScP(P:Program)(X:Xt)(a:Code)(o:Out)(K:Out→Prop):Prop:=∃k o1 o2,eU (lv P X k).cx k a o=o1∧o1≠.fail∧qx o1 o2∧K o2
theorem Ry{a:Code}{K:Out→Prop}{R:Nat→Nat→St→Prop}(h:∀n l s rest,R n l s→findLabel a l=some rest→aR P X rest s (Rw a R n K)):
 ∀n o o',qx o o'→o≠.fail→Rw a R n K o'→ScP P X a o K:=by
 intro n
 induction n using Nat.strongRecOn with
 |_ n ih=>
  intro o o' he hne hg
  cases he with
  |fail=>exact absurd rfl hne
  |norm he=>exact⟨1,.norm _,_,rfl,(fun h=>nomatch h),.norm he,hg⟩
  |exit i he=>exact⟨1,.exit i _,_,rfl,(fun h=>nomatch h),.exit i he,hg⟩
  |ret he=>exact⟨1,.ret _,_,rfl,(fun h=>nomatch h),.ret he,hg⟩
  |goto l he=>
   rename_i s s'
   cases hf:findLabel a l with
   |none=>
    have hg':K (.goto l s'):=by
     have:(@Option.rec Code (fun _=>Prop) (K (.goto l s')) (fun _=>∃m,m<n∧R m l s') (findLabel a l)):=hg
     rw[hf]at this;exact this
    refine⟨1,.goto l s,_,?_,by simp,.goto l he,hg'⟩
    show(@Option.rec Code (fun _=>Out) (.goto l s) _ (findLabel a l))=_
    rw[hf]
   |some rest=>
    rw[BR hf]at hg
    obtain⟨m,hm,hR⟩:=hg
    obtain⟨o1,o1',h1,h2,h3⟩:=aR.alike he (h m l s' rest hR hf)
    obtain⟨n1,k1,h1⟩:=h1
    obtain⟨k2,o3,o4,h4,h5,h6,h7⟩:=ih m hm o1 o1' h2 n1 h3
    refine⟨max k1 k2 +1,o3,o4,?_,h5,h6,h7⟩
    show(@Option.rec Code (fun _=>Out) (.goto l s) (fun rest=>eU (lv P X (max k1 k2 +1)).cx (max k1 k2) a ((lv P X (max k1 k2 +1)).cx rest s)) (findLabel a l))=o3
    rw[hf]
    show eU (lv P X (max k1 k2 +1)).cx (max k1 k2) a (xx P X (max k1 k2) rest s)=o3
    rw[qM h1 n1 (Nat.le_max_left _ _),←h4]
    have hx:Q9 (lv P X k2).cx (lv P X (max k1 k2 +1)).cx:=(ng k2 _ (by omega)).2
    refine sQ hx a k2 _ (Nat.le_max_right _ _) o1 ?_
    rw[h4];exact h5
theorem aR.scope{a:Code}{K:Out→Prop}{s:St}(R:Nat→Nat→St→Prop)(h:∀n l s rest,R n l s→findLabel a l=some rest→aR P X rest s (Rw a R n K))(n:Nat)(h0:aR P X a s (Rw a R n K)):aR P X (.scope a) s K:=by
 obtain⟨o,o',h1,h2,h3⟩:=h0
 obtain⟨n1,k1,h1⟩:=h1
 obtain⟨k2,o3,o4,h4,h5,h6,h7⟩:=Ry h n o o' h2 n1 h3
 refine⟨o3,o4,⟨h5,max k1 k2,?_⟩,h6,h7⟩
 show eU (lv P X (max k1 k2)).cx (max k1 k2) a (xx P X (max k1 k2) a s)=o3
 rw[qM h1 n1 (Nat.le_max_left _ _),←h4]
 refine sQ (ng k2 _ (Nat.le_max_right _ _)).2 a k2 _ (Nat.le_max_right _ _) o ?_
 rw[h4];exact h5
end mem
end Go.Ae
namespace Go.Ae
theorem aG{es r o n c:Nat}{z:Int}(h0:0≤z)(h:z<n):q_ es (.slice (some ⟨r,o,none⟩) n c) (vi z)=some (.pointer (some ⟨r,o +z.toNat*es,none⟩)):=by
 obtain⟨k,rfl⟩:∃k:Nat,z=k:=⟨z.toNat,by omega⟩
 exact n_ (by omega)
section bin
variable{P:Program}{t:TypeId}{ox oy:Operand}{a b:Int}
theorem Rz(ha:0≤a)(hb:0<b)(h:a≤9223372036854775807):eG P .quo t ox oy (vi a) (vi b)=some (vi (a/b)):=bY rfl (by
 show bP (Op.intDiv .quo .i64 a b)=_
 unfold Op.intDiv
 rw[if_neg (by omega)]
 show some (Value.int .i64 (IntKind.i64.wrap (a.tdiv b)))=_
 have h1:a.tdiv b=a/b:=Int.tdiv_eq_ediv_of_nonneg ha
 have h2:0≤a/b:=Int.ediv_nonneg ha (by omega)
 have h3:a/b≤a:=Int.ediv_le_self b ha
 rw[h1]
 have:IntKind.i64.wrap (a/b)=a/b:=IntWalk.i64_in _ (by omega)
 rw[this])
theorem PU.quo{K:Value→Prop}(ha:0≤a)(hb:0<b)(h:a≤9223372036854775807)(k:∀q:Int,0≤q→b*q≤a→a<b*q +b→K (vi q)):PU (eG P .quo t ox oy (vi a) (vi b)) K:=by
 rw[Rz ha hb h]
 have h1:=Int.mul_ediv_add_emod a b
 have h2:=Int.emod_nonneg a (show b≠0 by omega)
 have h3:=Int.emod_lt_of_pos a hb
 exact k (a/b) (Int.ediv_nonneg ha (by omega)) (by omega) (by omega)
end bin
theorem SH.Px{H0 H:aa}{L:List aK}{K:Value→aa→Prop}(hS:SH [] H0 H L)(i:Nat){r o n:Nat}{ty:TypeId}{cs:List Value}{v:Value}(hi:L[i]?=some (r,ty,cs))(hl:(ay v).length=n)(hn:o +n≤cs.length)(hk:all' aU (ay v)=true)
 (k:∀H1,SH [] H0 (hM H H1) (L.set i (r,ty,splice cs o (ay v)))→K undef H1):ME (Aw n (.pointer (some ⟨r,o,none⟩)) v (Go.Ae.hN H)) K:=by
 obtain⟨H1,h1,h2,h3⟩:=hS.o8.qN (vs:=ay v) (o:=o) i hi (by omega) hk
 show ME (gd (Nat.beq (len (ay v)) n) (ai ((Go.Ae.hN H).write r o (ay v)) fun H'=>some (undef,H'))) K
 rw[aO,hl,Nat.beq_refl,h1]
 refine k H1 ⟨hS.ext.later h3.draw (fun q hq=>.inr ?_),fun e he=>(h2.bk e he).fO rfl,h2.lo,h2.ne,h3.draw.wf hS.wf⟩
 rw[List.mem_singleton]at hq
 subst hq
 exact hS.xA (List.mem_of_getElem? hi)
def El(cs:List Value)(es k:Nat):List Value:=(cs.drop (k*es)).take es
theorem jb(cs:List Value)(es k i:Nat):(El cs es k)[i]?=if i<es then cs[k*es +i]? else none:=by
 unfold El
 rw[List.getElem?_take]
 split
 ·rw[List.getElem?_drop]
 ·rfl
theorem yL{cs vs:List Value}{es k:Nat}(hv:vs.length=es)(h:k*es +es≤cs.length)(k':Nat):El (splice cs (k*es) vs) es k'=if k'=k then vs else El cs es k':=by
 apply List.ext_getElem?
 intro i
 rw[jb]
 by_cases hi:i<es
 ·rw[if_pos hi,gZ (by omega)]
  by_cases hk:k'=k
  ·subst hk
   rw[if_pos (by omega),if_pos rfl,Nat.add_sub_cancel_left]
  ·rw[if_neg hk,jb,if_pos hi,if_neg]
   rintro⟨h1,h2⟩
   rcases Nat.lt_or_ge k' k with h3|h3
   ·have:(k' +1)*es≤k*es:=Nat.mul_le_mul_right es h3
    rw[Nat.add_mul]at this
    omega
   ·have:(k +1)*es≤k'*es:=Nat.mul_le_mul_right es (by omega)
    rw[Nat.add_mul]at this
    omega
 ·rw[if_neg hi]
  split
  ·symm;exact List.getElem?_eq_none (by omega)
  ·rw[jb,if_neg hi]
def SB(P:List Value→Prop)(r:Nat)(ty:TypeId)(es n:Nat)(H0 H:aa)(L:List aK):Prop:=∃cs,n*es≤cs.length∧(∀k,k<n→P (El cs es k))∧SH [] H0 H ((r,ty,cs)::L)
section steps
variable{P:List Value→Prop}{r:Nat}{ty:TypeId}{es n:Nat}{H0 H:aa}{L:List aK}{K:Value→aa→Prop}
theorem SB.wf(h:SB P r ty es n H0 H L):Wf H:=by obtain⟨_,_,_,hS⟩:=h;exact hS.wf
theorem SB.ext(h:SB P r ty es n H0 H L):Ext H0 H:=by obtain⟨_,_,_,hS⟩:=h;exact hS.ext
theorem SB.call{H':aa}(h:SB P r ty es n H0 H L)(hx:Ext H H'):SB P r ty es n H0 H' L:=by obtain⟨cs,h1,h2,hS⟩:=h;exact⟨cs,h1,h2,hS.call hx⟩
theorem SB.new(h:SB P r ty es n H0 H L){t2:TypeId}{z:List Value}(k:∀H1 q,SB P r ty es n H0 H1 ((q,t2,z)::L)→K (.pointer (some ⟨q,0,none⟩)) H1):ME (cZ t2 z H) K:=by
 obtain⟨cs,h1,h2,hS⟩:=h
 exact hS.cZ fun H1 q hS=>k H1 q ⟨cs,h1,h2,hS.perm (List.Perm.swap _ _ _)⟩
theorem SB.ld(h:SB P r ty es n H0 H L)(i:Nat){q o:Nat}{t2:TypeId}{cs:List Value}{v:Value}(hi:L[i]?=some (q,t2,cs))(hv:cs[o]?=some v)(k:K v H):ME (jX none (.pointer (some ⟨q,o,none⟩)) H) K:=by
 obtain⟨cs,h1,h2,hS⟩:=h
 exact hS.ld (i +1) (by rw[List.getElem?_cons_succ];exact hi) hv k
theorem SB.xH(h:SB P r ty es n H0 H L)(i:Nat){q o:Nat}{t2:TypeId}{cs:List Value}{v:Value}(hi:L[i]?=some (q,t2,cs))(hv:cs[o]?=some v)(k:K v (Go.Ae.hN H)):ME (jX none (.pointer (some ⟨q,o,none⟩)) (Go.Ae.hN H)) K:=by
 obtain⟨cs,h1,h2,hS⟩:=h
 exact hS.xH (i +1) (by rw[List.getElem?_cons_succ];exact hi) hv k
theorem SB.st(h:SB P r ty es n H0 H L)(i:Nat){q o m:Nat}{t2:TypeId}{cs:List Value}{v:Value}(hi:L[i]?=some (q,t2,cs))(hl:(ay v).length=m)(hn:o +m≤cs.length)(hk:all' aU (ay v)=true)
 (k:∀H1,SB P r ty es n H0 H1 (L.set i (q,t2,splice cs o (ay v)))→K undef H1):ME (Aw m (.pointer (some ⟨q,o,none⟩)) v H) K:=by
 obtain⟨ds,h1,h2,hS⟩:=h
 exact hS.st (i +1) (by rw[List.getElem?_cons_succ];exact hi) hl hn hk fun H1 hS=>k H1 ⟨ds,h1,h2,hS⟩
theorem SB.row(h:SB P r ty es n H0 H L){k:Nat}(hk:k<n):∃cs,SH [] H0 H ((r,ty,cs)::L)∧P (El cs es k)∧k*es +es≤cs.length:=by
 obtain⟨cs,h1,h2,hS⟩:=h
 refine⟨cs,hS,h2 k hk,?_⟩
 have:(k +1)*es≤n*es:=Nat.mul_le_mul_right es hk
 rw[Nat.add_mul]at this
 omega
theorem SB.e1(h:SB P r ty 1 n H0 H L){z:Int}(h0:0≤z)(hz:z<n)(k:∀v,P [v]→K v H):ME (jX none (.pointer (some ⟨r,z.toNat*1,none⟩)) H) K:=by
 obtain⟨cs,hS,hp,hl⟩:=h.row (k:=z.toNat) (by omega)
 have hlt:z.toNat<cs.length:=by omega
 refine hS.ld 0 rfl (v:=cs[z.toNat]) (by rw[Nat.mul_one];exact List.getElem?_eq_getElem hlt) (k _ ?_)
 have:El cs 1 z.toNat=[cs[z.toNat]]:=by
  unfold El
  rw[Nat.mul_one,List.drop_eq_getElem_cons hlt];rfl
 rw[←this];exact hp
theorem SB.o8(h:SB P r ty es n H0 H L):SB P r ty es n (Go.Ae.hN H0) (Go.Ae.hN H) L:=by obtain⟨cs,h1,h2,hS⟩:=h;exact⟨cs,h1,h2,hS.o8⟩
theorem SB.e1Q(h:SB P r ty 1 n H0 H L){z:Int}(h0:0≤z)(hz:z<n)(k:∀v,P [v]→K v (Go.Ae.hN H)):ME (jX none (.pointer (some ⟨r,z.toNat*1,none⟩)) (Go.Ae.hN H)) K:=h.o8.e1 h0 hz k
theorem SB.em(h:SB P r ty es n H0 H L){z:Int}(h0:0≤z)(hz:z<n)(k:∀l,P l→K (.agg ⟨l⟩) H):ME (jX (some es) (.pointer (some ⟨r,z.toNat*es,none⟩)) H) K:=by
 obtain⟨cs,hS,hp,hl⟩:=h.row (k:=z.toNat) (by omega)
 exact hS.vW 0 rfl (by omega) (k _ hp)
theorem SB.emQ(h:SB P r ty es n H0 H L){z:Int}(h0:0≤z)(hz:z<n)(k:∀l,P l→K (.agg ⟨l⟩) (Go.Ae.hN H)):ME (jX (some es) (.pointer (some ⟨r,z.toNat*es,none⟩)) (Go.Ae.hN H)) K:=h.o8.em h0 hz k
theorem SB.w(h:SB P r ty es n H0 H L){z:Int}(h0:0≤z)(hz:z<n){v:Value}(hp:P (ay v))(hl:(ay v).length=es)(hk:all' aU (ay v)=true)(k:∀H1,SB P r ty es n H0 H1 L→K undef H1):
 ME (Aw es (.pointer (some ⟨r,z.toNat*es,none⟩)) v H) K:=by
 obtain⟨cs,h1,h2,hS⟩:=h
 have hle:z.toNat*es +es≤cs.length:=by
  have:(z.toNat +1)*es≤n*es:=Nat.mul_le_mul_right es (by omega)
  rw[Nat.add_mul]at this
  omega
 refine hS.st 0 rfl hl (by omega) hk fun H1 hS=>k H1 ⟨splice cs (z.toNat*es) (ay v),?_,fun j hj=>?_,?_⟩
 ·rw[dM (by omega)];exact h1
 ·rw[yL hl hle]
  split
  ·exact hp
  ·exact h2 j hj
 ·exact hS
theorem SB.wQ(h:SB P r ty es n H0 H L){z:Int}(h0:0≤z)(hz:z<n){v:Value}(hp:P (ay v))(hl:(ay v).length=es)(hk:all' aU (ay v)=true)(k:∀H1,SB P r ty es n H0 (hM H H1) L→K undef H1):
 ME (Aw es (.pointer (some ⟨r,z.toNat*es,none⟩)) v (Go.Ae.hN H)) K:=by
 obtain⟨cs,h1,h2,hS⟩:=h
 have hle:z.toNat*es +es≤cs.length:=by
  have:(z.toNat +1)*es≤n*es:=Nat.mul_le_mul_right es (by omega)
  rw[Nat.add_mul]at this
  omega
 refine hS.Px 0 rfl hl (by omega) hk fun H1 hS=>k H1 ⟨splice cs (z.toNat*es) (ay v),?_,fun j hj=>?_,?_⟩
 ·rw[dM (by omega)];exact h1
 ·rw[yL hl hle]
  split
  ·exact hp
  ·exact h2 j hj
 ·exact hS
def vX(Q:Int→Prop)(l:List Value):Prop:=∃z:Int,l=[vi z]∧Q z
theorem SB.i1{Q:Int→Prop}(h:SB (vX Q) r ty 1 n H0 H L){z:Int}(h0:0≤z)(hz:z<n)(k:∀x,Q x→K (vi x) H):ME (jX none (.pointer (some ⟨r,z.toNat*1,none⟩)) H) K:=
 h.e1 h0 hz fun v ⟨x,hx,hq⟩=>by cases hx;exact k x hq
theorem SB.wL{Q:Int→Prop}(h:SB (vX Q) r ty 1 n H0 H L){z:Int}(h0:0≤z)(hz:z<n)(k:∀x,Q x→K (vi x) (Go.Ae.hN H)):ME (jX none (.pointer (some ⟨r,z.toNat*1,none⟩)) (Go.Ae.hN H)) K:=
 h.e1Q h0 hz fun v ⟨x,hx,hq⟩=>by cases hx;exact k x hq
theorem SB.iw{Q:Int→Prop}(h:SB (vX Q) r ty 1 n H0 H L){z:Int}(h0:0≤z)(hz:z<n){x:Int}(hx:Q x)(k:∀H1,SB (vX Q) r ty 1 n H0 H1 L→K undef H1):ME (Aw 1 (.pointer (some ⟨r,z.toNat*1,none⟩)) (vi x) H) K:=
 h.w h0 hz ⟨x,rfl,hx⟩ rfl rfl k
theorem SB.Ke{Q:Int→Prop}(h:SB (vX Q) r ty 1 n H0 H L){z:Int}(h0:0≤z)(hz:z<n){x:Int}(hx:Q x)(k:∀H1,SB (vX Q) r ty 1 n H0 (hM H H1) L→K undef H1):ME (Aw 1 (.pointer (some ⟨r,z.toNat*1,none⟩)) (vi x) (Go.Ae.hN H)) K:=
 h.wQ h0 hz ⟨x,rfl,hx⟩ rfl rfl k
end steps
end Go.Ae
namespace Go.Ae
theorem aR.kK{P:Program}{X:Xt}{c:Code}{s:St}{K:Out→Prop}(h:∀K',K'=K→aR P X c s K'):aR P X c s K:=h K rfl
theorem xI{K:Out→Prop}{s:St}{i j:Nat}(h:(j==i)=false):gY i K (.exit j s)=K (.exit j s):=Hu (by simpa using h)
theorem fq.mono{P:Program}{X:Xt}{q:Option (FuncId×List Value×List Value)}{args:List Value}{H:aa}{K K':Value→aa→Prop}(h:fq P X q args H K)(hk:∀v H',K v H'→K' v H'):fq P X q args H K':=by
 cases q with
 |none=>exact h
 |some q=>exact ak.mono h hk
def acC(k:IntKind)(a b:Int):Int:=k.wrap (BitVec.toNat (BitVec.ofInt k.bits a^^^BitVec.ofInt k.bits b))
section bin
variable{P:Program}{t:TypeId}{ox oy:Operand}{a b:Int}{k k2:IntKind}
theorem nM:eG P .xor t ox oy (.int k a) (.int k b)=some (.int k (acC k a b)):=bY rfl rfl
theorem qg(h:0≤b):eG P .shl t ox oy (.int k a) (.int k2 b)=some (.int k (Fx k a b)):=by
 show bP (Op.shift .shl k a k2 b)=_
 unfold Op.shift
 rw[if_neg (by omega)];rfl
theorem BS(h:k.wrap (a -b)=a -b):eG P .sub t ox oy (.int k a) (.int k b)=some (.int k (a -b)):=bY rfl (by
 show some (Value.int k (fQ k (a -b)))=_
 rw[wY,h])
end bin
theorem mD{k:IntKind}{n:Int}(h:k.wrap n=n):fQ k n=n:=by rw[wY,h]
theorem u64_in{n:Int}(h:0≤n∧n<18446744073709551616):IntKind.u64.wrap n=n:=by
 show n %18446744073709551616=n
 omega
theorem u8_in{n:Int}(h:0≤n∧n<256):IntKind.u8.wrap n=n:=by
 show n %256=n
 omega
theorem Mr{a b:Int}(h:0≤b∧b<18446744073709551616):0≤Fw .u64 a b∧Fw .u64 a b≤b:=by
 unfold Fw
 have h1:(BitVec.ofInt IntKind.u64.bits a&&&BitVec.ofInt IntKind.u64.bits b).toNat≤(BitVec.ofInt IntKind.u64.bits b).toNat:=by
  rw[BitVec.toNat_and];exact Nat.and_le_right
 have h2:((BitVec.ofInt IntKind.u64.bits b).toNat:Int)=b:=by
  show((BitVec.ofInt 64 b).toNat:Int)=b
  rw[BitVec.toNat_ofInt]
  omega
 rw[u64_in (by omega)]
 omega
theorem RA{l:Nat}(h:l≤32):Fx .u64 1 (l:Int)=((2^l:Nat):Int):=by
 unfold Fx
 have h1:min ((l:Int).toNat) IntKind.u64.bits=l:=by
  show min ((l:Int).toNat) 64=l
  omega
 rw[h1]
 have h2:(2:Nat)^l≤2^32:=Nat.pow_le_pow_right (by omega) h
 have h3:(1:Int)*2^l=((2^l:Nat):Int):=by
  rw[Int.one_mul];simp
 rw[h3]
 have h4:(2:Nat)^l≤4294967296:=h2
 generalize(2:Nat)^l=m at h4
 exact u64_in (by omega)
theorem Mt{k:IntKind}{a:Int}{n:Nat}(h:n≤32)(h2:32≤k.bits):BM k a (n:Int)=a.fdiv ((2^n:Nat):Int):=by
 unfold BM
 have:min ((n:Int).toNat) k.bits=n:=by omega
 rw[this]
 simp
def YX(s:ByteArray):Bool:=(List.range 256).all fun k=>match s.data.toList[k]? with
 |none=>false
 |some t=>Nat.ble t.toNat 8&&Nat.ble (2^t.toNat) (2*k +(if k=0 then 1 else 0))
theorem PU.YX{s:ByteArray}{y:Int}{K:Value→Prop}(ht:Go.Ae.YX s=true)(h0:0≤y)(h1:y<256)(h:∀t:Nat,t≤8→(1≤y→((2^t:Nat):Int)≤2*y)→K (.int .u8 (t:Int))):PU (YS (.string s) (.int .u8 y)) K:=by
 obtain⟨k,rfl⟩:∃k:Nat,y=k:=⟨y.toNat,by omega⟩
 have hk:k<256:=by omega
 have:=List.all_eq_true.1 ht k (List.mem_range.2 hk)
 show PU (ai (nth s.data.toList k) fun b=>some (Value.int .u8 (.ofNat b.toNat))) K
 rw[fC]
 revert this
 cases s.data.toList[k]? with
 |none=>intro h;cases h
 |some t=>
  intro h2
  simp only[Bool.and_eq_true]at h2
  have h3:=Nat.le_of_ble_eq_true h2.1
  have h4:=Nat.le_of_ble_eq_true h2.2
  exact h t.toNat h3 fun h5=>by
   rw[if_neg (by omega)]at h4
   omega
section steps
variable{P:List Value→Prop}{r:Nat}{ty:TypeId}{es n:Nat}{H0 H:aa}{L:List aK}{K:Value→aa→Prop}
theorem SB.j4{H':aa}(h:SB P r ty es n H0 H L)(hx:Ext (Go.Ae.hN H) H'):SB P r ty es n H0 (hM H H') L:=by obtain⟨cs,h1,h2,hS⟩:=h;exact⟨cs,h1,h2,hS.j4 hx⟩
theorem SB.Px(h:SB P r ty es n H0 H L)(i:Nat){q o m:Nat}{t2:TypeId}{cs:List Value}{v:Value}(hi:L[i]?=some (q,t2,cs))(hl:(ay v).length=m)(hn:o +m≤cs.length)(hk:all' aU (ay v)=true)
 (k:∀H1,SB P r ty es n H0 (hM H H1) (L.set i (q,t2,splice cs o (ay v)))→K undef H1):ME (Aw m (.pointer (some ⟨q,o,none⟩)) v (Go.Ae.hN H)) K:=by
 obtain⟨ds,h1,h2,hS⟩:=h
 exact hS.Px (i +1) (by rw[List.getElem?_cons_succ];exact hi) hl hn hk fun H1 hS=>k H1 ⟨ds,h1,h2,hS⟩
theorem SB.drop{b:aK}(h:SB P r ty es n H0 H (b::L)):SB P r ty es n H0 H L:=by
 obtain⟨cs,g1,g2,hS⟩:=h
 exact⟨cs,g1,g2,SH.drop (A:=[_]) (hS.perm (List.Perm.swap _ _ _))⟩
end steps
def Gm(l:List Value):Prop:=∃a b:Int,l=[.int .i32 a,.int .i32 b]
theorem SB.xJ{r:Nat}{ty:TypeId}{n:Nat}{H0 H:aa}{L:List aK}{K:Value→aa→Prop}(h:SB Gm r ty 2 n H0 H L){z:Int}(h0:0≤z)(hz:z<n)(k:∀a b,K (.agg ⟨[.int .i32 a,.int .i32 b]⟩) (Go.Ae.hN H)):ME (jX (some 2) (.pointer (some ⟨r,z.toNat*2,none⟩)) (Go.Ae.hN H)) K:=
 h.emQ h0 hz fun l hl=>by obtain⟨a,b,rfl⟩:=hl;exact k a b
theorem SB.r1{r:Nat}{ty:TypeId}{n:Nat}{H0 H:aa}{L:List aK}{K:Value→aa→Prop}(h:SB Gm r ty 2 n H0 H L){z:Int}(h0:0≤z)(hz:z<n)(k:∀a b,K (.agg ⟨[.int .i32 a,.int .i32 b]⟩) H):ME (jX (some 2) (.pointer (some ⟨r,z.toNat*2,none⟩)) H) K:=
 h.em h0 hz fun l hl=>by obtain⟨a,b,rfl⟩:=hl;exact k a b
theorem SB.Kg{r:Nat}{ty:TypeId}{n:Nat}{H0 H:aa}{L:List aK}{K:Value→aa→Prop}(h:SB Gm r ty 2 n H0 H L){z:Int}(h0:0≤z)(hz:z<n){a b:Int}(k:∀H1,SB Gm r ty 2 n H0 (hM H H1) L→K undef H1):ME (Aw 2 (.pointer (some ⟨r,z.toNat*2,none⟩)) (.agg ⟨[.int .i32 a,.int .i32 b]⟩) (Go.Ae.hN H)) K:=
 h.wQ h0 hz ⟨a,b,rfl⟩ rfl rfl k
theorem SB.rw'{r:Nat}{ty:TypeId}{n:Nat}{H0 H:aa}{L:List aK}{K:Value→aa→Prop}(h:SB Gm r ty 2 n H0 H L){z:Int}(h0:0≤z)(hz:z<n){a b:Int}(k:∀H1,SB Gm r ty 2 n H0 H1 L→K undef H1):ME (Aw 2 (.pointer (some ⟨r,z.toNat*2,none⟩)) (.agg ⟨[.int .i32 a,.int .i32 b]⟩) H) K:=
 h.w h0 hz ⟨a,b,rfl⟩ rfl rfl k
end Go.Ae
namespace Go.Ae
def uO:List Nat:=List.replicate 128 240++(List.replicate 66 241++(List.replicate 30 2++(19::(List.replicate 12 3++([35,3,3,52,4,4,4,68]++List.replicate 11 241)))))
def z8:List Nat:=[128,191,160,191,128,159,144,191,128,143,0,0,0,0,0,0,0,0,0,0,0,0,0,0,0,0,0,0,0,0,0,0]
def pM(H:aa):Prop:=3≤H.next∧∃t1 t2,H.obj 1=jW t1 .u8 uO∧H.obj 2=jW t2 .u8 z8
theorem pM.ex{H H':aa}(h:pM H)(hx:Ext H H'):pM H':=by
 obtain⟨h0,t1,t2,h1,h2⟩:=h
 exact⟨Nat.le_trans h0 hx.next,t1,t2,(hx.obj 1 (by omega) (by simp)).trans h1,(hx.obj 2 (by omega) (by simp)).trans h2⟩
open Classical in
noncomputable def YY(args:List Value)(H:aa):Option (Value×aa):=if args=[]∧pM H then some (.bool true,H)else none
theorem RD{H:aa}(h:pM H):YY [] H=some (.bool true,H):=by unfold YY;rw[if_pos ⟨rfl,h⟩]
theorem YZ{args:List Value}{v:Value}{H H':aa}(h:YY args H=some (v,H')):args=[]∧pM H∧v=.bool true∧H'=H:=by
 unfold YY at h
 split at h
 ·next hc=>cases h;exact⟨hc.1,hc.2,rfl,rfl⟩
 ·cases h
theorem RE{ty:TypeId}{k:IntKind}{l:List Nat}{H:aa}{r i z:Nat}(h:H.obj r=jW ty k l)(hz:l[i]?=some z):H.cell r i=some (.int k (z:Int)):=by
 have hi:i<l.length:=(List.getElem?_eq_some_iff.1 hz).1
 unfold aa.cell
 rw[h]
 show gd (Nat.ble (Nat.succ i) (len l)) (some ((Tr.jE top (mp (fun n=>Value.int k (Int.ofNat n)) l) 0 .nil).get top i))=_
 rw[aO,Nat.ble_eq_true_of_le hi,uq,Tr.dY,wP,if_pos (by simp;omega),List.getD_eq_getElem?_getD,Nat.sub_zero,List.getElem?_map,hz];rfl
theorem Ot{ty:TypeId}{k:IntKind}{l:List Nat}{H:aa}{r i x y:Nat}(h:H.obj r=jW ty k l)(hx:l[i]?=some x)(hy:l[i +1]?=some y):H.read r i 2=some [.int k (x:Int),.int k (y:Int)]:=by
 have hi:i +1<l.length:=(List.getElem?_eq_some_iff.1 hy).1
 show(ai (ko (H.obj r)) fun w=>gd (Nat.ble (Nat.add i 2) w.n) (some (Tr.vD top w.cells i 2)))=_
 rw[h]
 show gd (Nat.ble (i +2) (len l)) (some (Tr.vD top (Tr.jE top (mp (fun n=>Value.int k (Int.ofNat n)) l) 0 .nil) i 2))=_
 rw[aO,Nat.ble_eq_true_of_le hi,uq,Tr.l6,Tr.l6,Tr.rX,Tr.dY,Tr.dY,wP,if_pos (by simp;omega),if_pos (by simp;omega),List.getD_eq_getElem?_getD,List.getD_eq_getElem?_getD,Nat.sub_zero,Nat.sub_zero,List.getElem?_map,List.getElem?_map,hx,hy];rfl
end Go.Ae
namespace Go.Ae
variable{S:List Nat}
theorem Ou(t:Tr Value):∀(n k:Nat)(cs:List Value),cs.length=n→(∀i(h:i<cs.length),t.get top (k +i)=cs[i])→Tr.vD top t k n=cs:=by
 intro n
 induction n with
 |zero=>intro k cs h _;rw[Tr.rX];exact(List.length_eq_zero_iff.1 h).symm
 |succ n ih=>
  intro k cs h hc
  cases cs with
  |nil=>cases h
  |cons x cs=>
   rw[Tr.l6,ih (k +1) cs (by simpa using h) (fun i hi=>by
    have:=hc (i +1) (by simpa using hi)
    rw[show k +1 +i=k +(i +1) by omega,this];rfl)]
   have:=hc 0 (by simp)
   rw[Nat.add_zero]at this
   rw[this];rfl
theorem vo{H:aa}{r o:Nat}{cs:List Value}(h:∀i x,cs[i]?=some x→H.cell r (o +i)=some x):H.read r o cs.length=some cs:=by
 cases cs with
 |nil=>rfl
 |cons x cs=>
  have hrow:∃R,H.obj r=.row R:=by
   have:=h 0 x rfl
   unfold aa.cell at this
   obtain⟨R,h1,_⟩:=ah this
   exact⟨R,jQ h1⟩
  obtain⟨R,hR⟩:=hrow
  have hcell:∀i(hi:i<(x::cs).length),o +i<R.n∧R.cells.get top (o +i)=(x::cs)[i]:=by
   intro i hi
   have h1:=h i _ (List.getElem?_eq_getElem hi)
   unfold aa.cell at h1
   rw[hR]at h1
   replace h1:gd (Nat.ble (Nat.succ (o +i)) R.n) (some (R.cells.get top (o +i)))=some _:=h1
   obtain⟨h2,h3⟩:=aH h1
   exact⟨Nat.le_of_ble_eq_true h2,Option.some.inj h3⟩
  show(ai (ko (H.obj r)) fun w=>gd (Nat.ble (Nat.add o (cs.length +1)) w.n) (some (Tr.vD top w.cells o (cs.length +1))))=_
  rw[hR]
  show gd (Nat.ble (o +(cs.length +1)) R.n) (some (Tr.vD top R.cells o (cs.length +1)))=_
  have hl:=(hcell cs.length (by simp)).1
  rw[Nat.ble_eq_true_of_le (by omega),uq,Ou R.cells (cs.length +1) o (x::cs) rfl fun i hi=>(hcell i hi).2]
theorem Fl.read{H:aa}{a:Option Addr}{n es k:Nat}{cs:List Value}(h:Fl H a n es cs)(he:0<es)(hk:k<n)(c:Nat):
 ∃r o,q_ es (.slice a n c) (vn k)=some (.pointer (some ⟨r,o,none⟩))∧r<H.next∧H.read r o es=some (El cs es k)∧(El cs es k).length=es∧∃o0,a=some ⟨r,o0,none⟩∧o=o0 +k*es:=by
 obtain⟨r,o,h1,h2,h3,h4⟩:=h.idx (c:=c) he hk
 have hl:(El cs es k).length=es:=by
  unfold El
  have:(k +1)*es≤n*es:=Nat.mul_le_mul_right es hk
  rw[Nat.add_mul]at this
  have:=h.1
  simp;omega
 refine⟨r,o,h1,h2,?_,hl,h4⟩
 have:=vo (H:=H) (r:=r) (o:=o) (cs:=El cs es k) fun i x hx=>by
  rw[jb]at hx
  split at hx
  ·next hi=>exact h3 i x hi hx
  ·cases hx
 rwa [hl]at this
theorem Ij{H:aa}{a:Option Addr}{n es c:Nat}{cs:List Value}(h:Fl H a n es cs)(he:0<es):appended H es (.slice a n c)=some (n,cs):=by
 rcases Nat.eq_zero_or_pos n with rfl|hn
 ·have hc:cs=[]:=List.length_eq_zero_iff.1 (by have:=h.1;omega)
  subst hc
  cases a with
  |none=>rfl
  |some a=>
   show(ai (H.read a.block a.off (Nat.mul 0 es)) fun l=>some (0,l))=_
   rw[show Nat.mul 0 es=0 from Nat.zero_mul es];rfl
 ·have hl:0<cs.length:=by rw[h.1];exact Nat.mul_pos hn he
  obtain⟨r,o,rfl,_,_⟩:=h.2 0 _ (List.getElem?_eq_getElem hl)
  show(ai (H.read r o (Nat.mul n es)) fun l=>some (n,l))=_
  have h1:=vo (H:=H) (r:=r) (o:=o) (cs:=cs) fun i x hx=>by
   obtain⟨r',o',e,_,h5⟩:=h.2 i x hx
   cases e;exact h5
  rw[h.1]at h1
  rw[show Nat.mul n es=n*es from rfl,h1];rfl
theorem RF{H:aa}{e:TypeId}{es n:Nat}{v x:Value}{xs:List Value}(hv:v=.slice none 0 0∨∃a,v=.slice (some a) 0 0)(ha:appended H es x=some (n,xs))(hn:n≤16777216):
 xz e es v x H=if n=0 then some (v,H)else some (.slice (some ⟨H.next,0,none⟩) n (aT es),H.new (rowOf e xs)):=by
 cases n with
 |zero=>
  rw[if_pos rfl]
  rcases hv with rfl|⟨a,rfl⟩
  ·unfold xz
   rw[ha]
   show gd (Nat.ble 0 16777216) (some (Value.slice none 0 0,H))=_
   rw[Nat.ble_eq_true_of_le (by omega)];rfl
  ·unfold xz
   rw[ha]
   show gd (Nat.ble 0 16777216) (some (Value.slice (some a) 0 0,H))=_
   rw[Nat.ble_eq_true_of_le (by omega)];rfl
 |succ k=>
  rw[if_neg (by omega)]
  rcases hv with rfl|⟨a,rfl⟩
  ·exact Fv ha hn
  ·unfold xz
   rw[ha]
   show gd (Nat.ble (k +1) 16777216) (gd (Nat.ble 0 16777216) (av (aY 0) (l9 (e,es) a 0 0 (k +1) xs H) (gd (Nat.beq 0 (aT es)) (jl (e,es) a 0 0 (k +1) xs H))))=_
   rw[Nat.ble_eq_true_of_le hn,Nat.ble_eq_true_of_le (by omega),show aY 0=true from rfl]
   show l9 (e,es) a 0 0 (k +1) xs H=_
   unfold l9
   have e1:Nat.ble (Nat.add 0 (k +1)) 0=false:=by
    rw[←Bool.not_eq_true];intro h;have:=Nat.le_of_ble_eq_true h;have e:Nat.add 0 (k +1)=k +1:=Nat.zero_add _;omega
   have e2:Nat.add 0 (k +1)=k +1:=Nat.zero_add _
   have e3:Nat.mul 0 es=0:=Nat.zero_mul es
   rw[e1,bX]
   show(ai (H.read a.block a.off (Nat.mul 0 es)) fun old=>some (pF e es (Nat.add 0 (k +1)) (app old xs) H))=_
   rw[e3,e2]
   rfl
section steps
variable{H0 H:aa}{L:List aK}{K:Value→aa→Prop}{ty:TypeId}{es n:Nat}{v x:Value}{cs xs:List Value}{gb:List aK}
end steps
theorem vY{r o n es w:Nat}(h:w≤n):WZ es (.slice (some ⟨r,o,none⟩) n (aT es)) none (some (vn w)) none=some (.slice (some ⟨r,o,none⟩) w (aT es)):=by
 show av (aY (aT es)) _ (gd (Nat.beq (aT es) (aT es)) (gd (Nat.ble 0 w&&Nat.ble w n) (some (Value.slice (some ⟨r,Nat.add o (Nat.mul 0 es),none⟩) (Nat.sub w 0) (aT es)))))=_
 rw[uJ,bX,Nat.beq_refl,Nat.ble_eq_true_of_le (Nat.zero_le _),Nat.ble_eq_true_of_le h,show Nat.mul 0 es=0 from Nat.zero_mul es];rfl
theorem RG{r o n es w:Nat}(h:w≤n):WZ es (.slice (some ⟨r,o,none⟩) n (aT es)) (some (vn w)) none none=some (.slice (some ⟨r,o +w*es,none⟩) (n -w) (aT es)):=by
 show av (aY (aT es)) _ (gd (Nat.beq (aT es) (aT es)) (gd (Nat.ble w n&&Nat.ble n n) (some (Value.slice (some ⟨r,Nat.add o (Nat.mul w es),none⟩) (Nat.sub n w) (aT es)))))=_
 rw[uJ,bX,Nat.beq_refl,Nat.ble_eq_true_of_le (Nat.le_refl _),Nat.ble_eq_true_of_le h];rfl
theorem Mv{es:Nat}:WZ es (.slice none 0 0) none (some (vn 0)) none=some (.slice none 0 0):=rfl
theorem GB.cut{H0 H:aa}{L:List aK}{ty:TypeId}{es w:Nat}{v:Value}{cs:List Value}{gb:List aK}(hg:GB ty es v cs gb)(he:0<es)(hw:w*es≤cs.length){K:Value→Prop}(k:∀v',GB ty es v' (cs.take (w*es)) gb→K v'):PU (WZ es v none (some (vn w)) none) K:=by
 rcases hg with⟨rfl,rfl,rfl⟩|⟨r,n,aQ,rfl,hn,rfl⟩
 ·have:w=0:=by
   rcases Nat.eq_zero_or_pos w with h|h
   ·exact h
   ·have:=Nat.mul_pos h he
    have h2:w*es≤0:=hw
    omega
  subst this
  rw[Mv]
  exact k _ (.inl ⟨rfl,by simp,rfl⟩)
 ·have hwn:w≤n:=by rw[hn]at hw;exact Nat.le_of_mul_le_mul_right hw he
  rw[vY hwn]
  refine k _ (.inr ⟨r,w,cs.drop (w*es)++aQ,rfl,?_,?_⟩)
  ·simp;omega
  ·rw[←List.append_assoc,List.take_append_drop]
section bin
variable{P:Program}{t:TypeId}{ox:Operand}
theorem tq{a:Option Addr}{n c:Nat}(ht:ym P t=2):eG P .eql t ox (.const (.slice none 0 0)) (.slice a n c) (.slice none 0 0)=some (.bool (aJ a)):=by
 show uX .eql (DC (ym P t) (.slice none 0 0) (.slice a n c))=_
 rw[ht];rfl
end bin
theorem Y0{e:TypeId}{z:List Value}{es:Nat}{H:aa}(he:es≤16777216):bS e z es 0 [] H=some (.slice (some ⟨H.next,0,none⟩) 0 0,H.new (rowOf e [])):=by
 unfold bS
 rw[show Nat.mul 0 es=0 from Nat.zero_mul es,Nat.ble_eq_true_of_le (Nat.zero_le _)];rfl
end Go.Ae
namespace Go.Ae
def RJ(w:World)(o:dn)(r:Nat):Prop:=o=.dead∨∃(R:Row)(cs:Array Value)(fr:Nat×Nat),o=.row R∧w.heap[r]?=some (.cells cs R.ty fr)∧R.dB=true∧R.n≤cs.size∧∀i,i<R.n→∃v,cs[i]?=some v∧(R.cells.get top i=top∨(eH v=true∧R.cells.get top i=v))
theorem aaI{w:World}{H:aa}(h:H.next≤w.heap.size)(ht:∀r,r<H.next→RJ w (H.obj r) r):RH (vT w H) H w:=by
 refine⟨?_,?_,?_⟩
 ·intro r l hr
  unfold vT at hr
  split at hr
  ·next h1=>exact h1
  ·cases hr
 ·intro r l hr
  unfold vT at hr
  split at hr
  ·next h1=>
   cases hr
   refine⟨w.heap[r]'(by omega),Array.getElem?_eq_getElem (i:=r) (by omega),?_⟩
   rcases ht r h1 with h2|⟨R,cs,fr,h2,h3,hse,hle,h4⟩
   ·rw[h2];trivial
   ·have hcn:sS w r=cs.size:=by unfold sS;rw[h3]
    have hget:w.heap[r]'(by omega)=.cells cs R.ty fr:=by
     have:=Array.getElem?_eq_getElem (xs:=w.heap) (i:=r) (by omega)
     rw[h3]at this;injection this with this;exact this.symm
    rw[hget,h2]
    refine⟨⟨rfl,rfl⟩,rfl,hcn.symm,Nat.zero_le _,?_,?_,?_⟩
    ·show 0 +(R.n -0)≤sS w r
     rw[hcn];omega
    ·rw[hse];intro h;cases h
    ·intro i _ hi
     obtain⟨v,h5,h6⟩:=h4 i hi
     refine⟨v,by simpa using h5,?_⟩
     rcases h6 with h6|⟨h6,h7⟩
     ·rw[h6];exact .top _
     ·rw[h7];exact .sc _ h6
  ·cases hr
 ·intro r r' l l' hr hr' _ _ hc
  unfold vT at hr hr'
  split at hr
  ·split at hr'
   ·cases hr;cases hr';exact hc
   ·cases hr'
  ·cases hr
section mem
variable{P:Program}
theorem Ov{X:Xt}{H:aa}{n:Nat}(hn:n≤H.next)(hmo:P.follows .mixedOrders=true)(hP:pX P n)(hX:Pt P X)(hO:yH P X n){g:FuncId}{fn:Func}(hg:P.funcs[g]?=some fn)(hb:fn.body.isSome=true)
 {args:List Value}{b:Bool}(h:ak P X g args H fun v H'=>v=.bool b∧H.next≤H'.low){w:World}(hw:H.next≤w.heap.size)
 (ht:∀r,r<H.next→RJ w (H.obj r) r){args':List Value}(ha:dh (vT w H) args args'):
 Calls P g ⟨args'⟩ w fun e w'=>e=.returned (.bool b)∧Go.RowKit.Below w.heap.size w w':=by
 obtain⟨v,H',⟨k,h⟩,rfl,hlow⟩:=h
 refine(levels hmo hP hX hO k g args _ _ H' fn h hg hb (vT w H) w args' (aaI hw ht) (fun g hg=>L9 w H g (by omega)) ha).mono ?_
 rintro e w' ⟨m',v',rfl,h1,h2,h3⟩
 rw[h1.of_bool]
 refine⟨rfl,⟨h3.os,h3.tape,h3.output,h3.size,fun c hc=>h3.keep c hc ?_⟩⟩
 intro r l hr _
 unfold vT at hr
 split at hr
 ·next h4=>exact Nat.lt_of_lt_of_le h4 hlow
 ·cases hr
noncomputable def Ik(v:Value):Value:=if eH v=true then v else top
noncomputable def Y2:Obj→dn
 |.cells cs ty _=>.row ⟨ty,Tr.jE top (cs.toList.map Ik) 0 .nil,cs.size,true,0⟩
 |_=>.dead
noncomputable def Vz(w:World)(T:Nat→Option dn)(r:Nat):dn:=(T r).getD (match w.heap[r]? with|some o=>Y2 o|none=>.dead)
noncomputable def Kh(w:World)(T:Nat→Option dn):aa:=⟨Tr.jE .dead ((List.range w.heap.size).map (Vz w T)) 0 .nil,w.heap.size,w.heap.size⟩
theorem Il(w:World)(T:Nat→Option dn){r:Nat}(h:r<w.heap.size):(Kh w T).obj r=Vz w T r:=by
 show(Tr.jE .dead ((List.range w.heap.size).map (Vz w T)) 0 .nil).get .dead r=_
 rw[Tr.dY,if_pos (by simp;omega),List.getD_eq_getElem?_getD]
 simp[h]
theorem VA{w:World}{T:Nat→Option dn}(hT:∀r o,T r=some o→RJ w o r):∀r,r<(Kh w T).next→RJ w ((Kh w T).obj r) r:=by
 intro r hr
 replace hr:r<w.heap.size:=hr
 rw[Il w T hr]
 unfold Vz
 cases hc:T r with
 |some o=>exact hT r o hc
 |none=>
  rw[Array.getElem?_eq_getElem hr]
  show RJ w (Y2 _) r
  cases ho:w.heap[r]with
  |cells cs ty fr=>
   refine .inr ⟨_,cs,fr,rfl,by rw[Array.getElem?_eq_getElem hr,ho],rfl,Nat.le_refl _,fun i hi=>?_⟩
   replace hi:i<cs.size:=hi
   refine⟨cs[i],Array.getElem?_eq_getElem hi,?_⟩
   show(Tr.jE top (cs.toList.map Ik) 0 .nil).get top i=top∨_
   have e:(Tr.jE top (cs.toList.map Ik) 0 .nil).get top i=Ik cs[i]:=by
    rw[Tr.dY,if_pos (by simp;omega),List.getD_eq_getElem?_getD]
    simp[hi]
   show(Tr.jE top (cs.toList.map Ik) 0 .nil).get top i=top∨(eH cs[i]=true∧(Tr.jE top (cs.toList.map Ik) 0 .nil).get top i=cs[i])
   rw[e]
   unfold Ik
   split
   ·next h=>exact .inr ⟨h,rfl⟩
   ·exact .inl rfl
  |_=>exact .inl rfl
end mem
end Go.Ae
namespace Go.Ae
variable{S:List Nat}
def GK(ty:TypeId)(es:Nat)(v:Value)(cs:List Value)(gb:List aK):Prop:=
 GB ty es v cs gb∨∃r n m aQ,v=.slice (some ⟨r,0,none⟩) n m∧m≤16777216∧cs.length=n*es∧(cs++aQ).length=m*es∧gb=[(r,ty,cs++aQ)]
theorem BU{m:Nat}(h:m≤16777216):aY m=true:=Nat.ble_eq_true_of_le (by omega)
section steps
variable{H0 H:aa}{L:List aK}{K:Value→aa→Prop}{ty:TypeId}{es:Nat}{v:Value}{cs xs:List Value}{gb:List aK}{rx:Nat}
theorem GK.app(hg:GK ty es v cs gb)(hS:SH S H0 H ((rx,ty,xs)::(gb++L))){m:Nat}(he:0<es)(hx:xs.length=(m +1)*es)(hok:all' aU xs=true)(hm:m +1≤16777216)(hc:cs.length≤16777216){cx:Nat}:
 ∃v' H1 dD,xz ty es v (.slice (some ⟨rx,0,none⟩) (m +1) cx) H=some (v',H1)∧GK ty es v' (cs++xs) dD∧SH S H0 H1 (dD++L)∧kS (gb.map (·.1)) H H1:=by
 rcases hg with hg|⟨r,n,mm,aQ,rfl,hmm,hn,hj,rfl⟩
 ·obtain⟨v',H1,dD,h1,h2,h3,h4⟩:=hg.app (cx:=cx) hS he hx hok hm hc
  exact⟨v',H1,dD,h1,.inl h2,h3,h4⟩
 have hbx:=hS.get 0 rfl
 have ha:=sW (k:=m +1) (c:=cx) hbx hx
 have hS1:SH S H0 H ([(r,ty,cs++aQ)]++L):=SH.drop (A:=[(rx,ty,xs)]) hS
 have hb:=hS1.get 0 rfl
 have hnn:n≤16777216:=by
  have:n*1≤n*es:=Nat.mul_le_mul_left n he
  omega
 have hap:xz ty es (.slice (some ⟨r,0,none⟩) n mm) (.slice (some ⟨rx,0,none⟩) (m +1) cx) H=l9 (ty,es) ⟨r,0,none⟩ n mm (m +1) xs H:=by
  unfold xz
  rw[ha]
  show gd (Nat.ble (m +1) 16777216) (gd (Nat.ble n 16777216) (av (aY mm) (l9 (ty,es) ⟨r,0,none⟩ n mm (m +1) xs H) _))=_
  rw[Nat.ble_eq_true_of_le hm,Nat.ble_eq_true_of_le hnn,BU hmm];rfl
 rw[hap]
 unfold l9
 show∃v' H1 dD,av (Nat.ble (n +(m +1)) mm) (ai (H.write r (Nat.add 0 (n*es)) xs) fun H'=>some (Value.slice (some ⟨r,0,none⟩) (n +(m +1)) mm,H')) (ai (H.read r 0 (n*es)) fun old=>some (pF ty es (n +(m +1)) (Go.Ae.app old xs) H))=some (v',H1)∧_
 rw[show Nat.add 0 (n*es)=n*es from Nat.zero_add _]
 have hmul:(n +(m +1))*es=n*es +(m +1)*es:=Nat.add_mul ..
 by_cases hfit:n +(m +1)≤mm
 ·rw[Nat.ble_eq_true_of_le hfit,fV]
  have hle:(n +(m +1))*es≤mm*es:=Nat.mul_le_mul_right es hfit
  obtain⟨H1,h1,h2,h3⟩:=hS1.qN (vs:=xs) (o:=n*es) 0 rfl (by omega) hok
  rw[h1]
  have hs:splice (cs++aQ) (n*es) xs=cs++xs++aQ.drop xs.length:=by
   unfold splice
   rw[←hn,List.take_left,List.drop_append,List.drop_of_length_le (by omega),List.nil_append,Nat.add_sub_cancel_left]
  rw[hs]at h2
  refine⟨_,H1,[(r,ty,cs++xs++aQ.drop xs.length)],rfl,.inr ⟨r,n +(m +1),mm,aQ.drop xs.length,rfl,hmm,?_,?_,rfl⟩,h2,h3⟩
  ·rw[List.length_append,hn,hx,hmul]
  ·rw[←hs,dM (by omega)];exact hj
 ·rw[show Nat.ble (n +(m +1)) mm=false from by rw[←Bool.not_eq_true];intro h;exact hfit (Nat.le_of_ble_eq_true h),bX]
  have hrd:H.read r 0 (n*es)=some cs:=by
   rw[hb.read (by simp;omega)]
   simp only[List.drop_zero]
   rw[←hn,List.take_left]
  rw[hrd]
  show∃v' H1 dD,some (pF ty es (n +(m +1)) (Go.Ae.app cs xs) H)=some (v',H1)∧_
  rw[iY]
  refine⟨_,_,[(H.next,ty,cs++xs)],rfl,.inl (.inr ⟨H.next,n +(m +1),[],rfl,?_,by simp⟩),?_,(Ext.new _ _).weaken (fun _ h=>nomatch h)⟩
  ·rw[List.length_append,hn,hx,hmul]
  ·exact(SH.drop (A:=[(r,ty,cs++aQ)]) hS1).grow ty (cs++xs)
theorem GK.fl(hg:GK ty es v cs gb)(hS:SH S H0 H (gb++L)):∃a n c,v=.slice a n c∧cs.length=n*es∧Fl H a n es cs:=by
 rcases hg with hg|⟨r,n,m,aQ,rfl,hmm,hn,hj,rfl⟩
 ·exact hg.fl hS
 ·refine⟨_,n,_,rfl,hn,hn,fun i x hi=>⟨r,0,rfl,(hS.lo _ (List.mem_cons_self ..)).2,?_⟩⟩
  rw[Nat.zero_add]
  refine(hS.get 0 rfl).cell ?_
  rw[List.getElem?_append_left (List.getElem?_eq_some_iff.1 hi).1];exact hi
end steps
end Go.Ae
namespace Go.Ae
theorem PP:type_of%(J @xI<|J @d_<|J @Me<|J @Mf<|J @Mi<|J @Mj<|J @Ib<|J @xB<|J @HY<|J @xC<|J @iU<|J @HZ<|J @H_<|J @Ea<|J @Eb<|J @Ia<|J @BK<|J @Hw<|J @D7<|J @dJ<|J @min2<|J @max2<|J @ny<|J @Mm<|J @Mo<|J @Ho<|J @Hq<|J @Ma<|J @Hr<|J @Mc<|J @Ht<|J @Hy<|J @HV<|J @Mg<|J @lQ<|J @qP<|J @uK<|J @Ii<|J @xD<|J @BN<|J @BO<|J @zw<|J @zx<|J @zy<|J @BP<|J @BQ<|J @zz<|J @zA<|J @zB<|J @zC<|J @xE<|J @zD<|J @xF<|J @zF<|J @xG<|J @YV<|J (@List.getElem?_cons_zero Value)<|J (@List.getElem?_cons_succ Value)<|J @Nat.zero_add<|J @Nat.add_zero<|J (@List.set_cons_zero aK) (@List.set_cons_succ aK)):=J @xI<|J @d_<|J @Me<|J @Mf<|J @Mi<|J @Mj<|J @Ib<|J @xB<|J @HY<|J @xC<|J @iU<|J @HZ<|J @H_<|J @Ea<|J @Eb<|J @Ia<|J @BK<|J @Hw<|J @D7<|J @dJ<|J @min2<|J @max2<|J @ny<|J @Mm<|J @Mo<|J @Ho<|J @Hq<|J @Ma<|J @Hr<|J @Mc<|J @Ht<|J @Hy<|J @HV<|J @Mg<|J @lQ<|J @qP<|J @uK<|J @Ii<|J @xD<|J @BN<|J @BO<|J @zw<|J @zx<|J @zy<|J @BP<|J @BQ<|J @zz<|J @zA<|J @zB<|J @zC<|J @xE<|J @zD<|J @xF<|J @zF<|J @xG<|J @YV<|J (@List.getElem?_cons_zero Value)<|J (@List.getElem?_cons_succ Value)<|J @Nat.zero_add<|J @Nat.add_zero<|J (@List.set_cons_zero aK) (@List.set_cons_succ aK)
class BV (L:List aK) (r:Nat) (ty:outParam TypeId) (cs:outParam (List Value)):Prop where
 at':∃i:Nat,L[i]?=some ((r,ty,cs):aK)
instance BV.there{r:Nat}{ty:TypeId}{cs:List Value}{b:aK}{L:List aK}[h:BV L r ty cs]:BV (b::L) r ty cs:=⟨let⟨i,hi⟩:=h.at';⟨i +1,hi⟩⟩
instance BV.here{r:Nat}{ty:TypeId}{cs:List Value}{L:List aK}:BV ((r,ty,cs)::L) r ty cs:=⟨⟨0,rfl⟩⟩
class Fy (L:List aK) (r:Nat) (F:List Value→List Value) (ty:outParam TypeId) (cs:outParam (List Value)) (L':outParam (List aK)):Prop where
 at':∃i:Nat,L[i]?=some ((r,ty,cs):aK)∧L'=L.set i (r,ty,F cs)
instance Fy.there{r:Nat}{F:List Value→List Value}{ty:TypeId}{cs:List Value}{b:aK}{L L':List aK}[h:Fy L r F ty cs L']:Fy (b::L) r F ty cs (b::L'):=⟨let⟨i,hi,e⟩:=h.at';⟨i +1,hi,by rw[e];rfl⟩⟩
instance Fy.here{r:Nat}{F:List Value→List Value}{ty:TypeId}{cs:List Value}{L:List aK}:Fy ((r,ty,cs)::L) r F ty cs ((r,ty,F cs)::L):=⟨⟨0,rfl,rfl⟩⟩
section steps
variable{S:List Nat}{H0 H:aa}{L L':List aK}{K:Value→aa→Prop}{r o n:Nat}{ty:TypeId}{cs:List Value}{v:Value}
theorem SH.aZ(hS:SH S H0 H L)[hb:BV L r ty cs](k:K v H)(hv:cs[o]?=some v:=by rfl):ME (jX none (.pointer (some ⟨r,o,none⟩)) H) K:=let⟨i,hi⟩:=hb.at';hS.ld i hi hv k
theorem SH.bZ(hS:SH S H0 H L)[hb:BV L r ty cs](k:K (.agg ⟨(cs.drop o).take n⟩) H)(hn:o +n≤cs.length:=by exact Nat.le_of_ble_eq_true rfl):ME (jX (some n) (.pointer (some ⟨r,o,none⟩)) H) K:=let⟨i,hi⟩:=hb.at';hS.vW i hi hn k
theorem SH.jf(hS:SH S H0 H L)[hb:BV L r ty cs](k:K v (Go.Ae.hN H))(hv:cs[o]?=some v:=by rfl):ME (jX none (.pointer (some ⟨r,o,none⟩)) (Go.Ae.hN H)) K:=let⟨i,hi⟩:=hb.at';hS.xH i hi hv k
theorem SH.og(hS:SH S H0 H L)[hb:BV L r ty cs](k:K (.agg ⟨(cs.drop o).take n⟩) (Go.Ae.hN H))(hn:o +n≤cs.length:=by exact Nat.le_of_ble_eq_true rfl):ME (jX (some n) (.pointer (some ⟨r,o,none⟩)) (Go.Ae.hN H)) K:=let⟨i,hi⟩:=hb.at';hS.YW i hi hn k
theorem SH.jd(hS:SH S H0 H L)[hb:Fy L r (fun cs=>splice cs o (ay v)) ty cs L'](k:∀H1,SH S H0 H1 L'→K undef H1)(hl:(ay v).length=n:=by rfl)(hn:o +n≤cs.length:=by exact Nat.le_of_ble_eq_true rfl)(hk:all' aU (ay v)=true:=by rfl):ME (Aw n (.pointer (some ⟨r,o,none⟩)) v H) K:=by
 obtain⟨i,hi,e⟩:=hb.at'
 subst e
 exact hS.st i hi hl hn hk k
end steps
section agg
variable{q:Option Value}{K:Value→Prop}{a b c d e f g h i:Value}
theorem PU.b1(hq:q=some (.agg ⟨[a]⟩))(k:K (.agg ⟨[a]⟩)):PU q K:=.of hq k
theorem PU.b2(hq:q=some (.agg ⟨[a,b]⟩))(k:K (.agg ⟨[a,b]⟩)):PU q K:=.of hq k
theorem PU.b3(hq:q=some (.agg ⟨[a,b,c]⟩))(k:K (.agg ⟨[a,b,c]⟩)):PU q K:=.of hq k
theorem PU.b4(hq:q=some (.agg ⟨[a,b,c,d]⟩))(k:K (.agg ⟨[a,b,c,d]⟩)):PU q K:=.of hq k
theorem PU.b5(hq:q=some (.agg ⟨[a,b,c,d,e]⟩))(k:K (.agg ⟨[a,b,c,d,e]⟩)):PU q K:=.of hq k
theorem PU.b6(hq:q=some (.agg ⟨[a,b,c,d,e,f]⟩))(k:K (.agg ⟨[a,b,c,d,e,f]⟩)):PU q K:=.of hq k
theorem PU.b7(hq:q=some (.agg ⟨[a,b,c,d,e,f,g]⟩))(k:K (.agg ⟨[a,b,c,d,e,f,g]⟩)):PU q K:=.of hq k
theorem PU.b8(hq:q=some (.agg ⟨[a,b,c,d,e,f,g,h]⟩))(k:K (.agg ⟨[a,b,c,d,e,f,g,h]⟩)):PU q K:=.of hq k
theorem PU.b9(hq:q=some (.agg ⟨[a,b,c,d,e,f,g,h,i]⟩))(k:K (.agg ⟨[a,b,c,d,e,f,g,h,i]⟩)):PU q K:=.of hq k
end agg
def qy(H:aa)(r:Nat)(ty:TypeId):Prop:=∃R,H.obj r=.row R∧R.ty=ty
theorem qy.one{H:aa}{r:Nat}{ty ty':TypeId}(h:qy H r ty)(h':qy H r ty'):ty=ty':=by
 obtain⟨R,h1,h2⟩:=h
 obtain⟨R',h3,h4⟩:=h'
 rw[h1]at h3;cases h3
 rw[←h2,←h4]
theorem Bk.Py{H:aa}{r:Nat}{ty:TypeId}{cs:List Value}(h:Bk H r ty cs):qy H r ty:=by
 obtain⟨R,h1,h2,_⟩:=h
 exact⟨R,h1,h2⟩
theorem qy.fO{H H':aa}{r:Nat}{ty:TypeId}(h:qy H r ty)(e:H'.obj r=H.obj r):qy H' r ty:=by
 obtain⟨R,h1,h2⟩:=h
 exact⟨R,e.trans h1,h2⟩
def fE(F:Nat→Prop)(ty:TypeId)(H:aa)(a:Option Addr)(n es:Nat)(cs:List Value):Prop:=Fl H a n es cs∧∀r o,a=some ⟨r,o,none⟩→0<n→F r∧r<H.next∧qy H r ty
theorem fE.nil(F:Nat→Prop)(ty:TypeId)(H:aa)(a:Option Addr)(es:Nat):fE F ty H a 0 es []:=⟨Fl.nil _ _ _,fun _ _ _ h=>absurd h (by omega)⟩
theorem fE.stay{S:List Nat}{F:Nat→Prop}{es n:Nat}{ty:TypeId}{a:Option Addr}{H H':aa}{cs:List Value}(h:fE F ty H a n es cs)(hx:kS S H H')(hS:∀q∈S,¬F q∨¬qy H q ty):fE F ty H' a n es cs:=by
 obtain⟨h1,h2⟩:=h
 have key:∀r o,a=some ⟨r,o,none⟩→0<n→r∉S:=fun r o e hn hr=>by
  obtain⟨h3,_,h4⟩:=h2 r o e hn
  rcases hS r hr with h5|h5
  ·exact h5 h3
  ·exact h5 h4
 rcases Nat.eq_zero_or_pos n with rfl|hn
 ·have:cs=[]:=List.length_eq_zero_iff.1 (by have:=h1.1;omega)
  subst this;exact fE.nil _ _ _ _ _
 ·refine⟨h1.ext hx fun r o e=>key r o e hn,fun r o e _=>?_⟩
  obtain⟨h3,h4,h5⟩:=h2 r o e hn
  exact⟨h3,Nat.lt_of_lt_of_le h4 hx.next,h5.fO (hx.obj r h4 (key r o e hn))⟩
theorem fE.ex{F:Nat→Prop}{es n:Nat}{ty:TypeId}{a:Option Addr}{H H':aa}{cs:List Value}(h:fE F ty H a n es cs)(hx:Ext H H'):fE F ty H' a n es cs:=h.stay hx (fun q h=>nomatch h)
theorem fE.wk{F F':Nat→Prop}{es n:Nat}{ty:TypeId}{a:Option Addr}{H:aa}{cs:List Value}(h:fE F ty H a n es cs)(hb:∀r,F r→F' r):fE F' ty H a n es cs:=⟨h.1,fun r o e hn=>⟨hb _ (h.2 r o e hn).1,(h.2 r o e hn).2⟩⟩
theorem fE.le{b b' es n:Nat}{ty:TypeId}{a:Option Addr}{H:aa}{cs:List Value}(h:fE (b≤·) ty H a n es cs)(hb:b'≤b):fE (b'≤·) ty H a n es cs:=h.wk fun _ h=>Nat.le_trans hb h
theorem SH.Ow{S:List Nat}{H0 H:aa}{L:List aK}(hS:SH S H0 H L){ty:TypeId}(h:L.all (fun e=>!(e.2.1==ty))=true):∀q∈L.map (·.1),¬qy H q ty:=fun q hq ht=>by
 obtain⟨e,he,rfl⟩:=List.mem_map.1 hq
 have h1:=(hS.bk e he).Py.one ht
 have h2:=List.all_eq_true.1 h e he
 simp[h1]at h2
theorem GB.W_{S:List Nat}{H0 H:aa}{L:List aK}{F:Nat→Prop}{ty:TypeId}{es:Nat}{v:Value}{cs:List Value}{gb:List aK}(hg:GB ty es v cs gb)(hS:SH S H0 H (gb++L))(hF:∀e∈gb,F e.1):∃a n c,v=.slice a n c∧cs.length=n*es∧fE F ty H a n es cs:=by
 rcases hg with⟨rfl,rfl,rfl⟩|⟨r,n,aQ,rfl,hn,rfl⟩
 ·exact⟨none,0,0,rfl,by simp,fE.nil _ _ _ _ _⟩
 ·refine⟨_,n,_,rfl,hn,⟨hn,fun i x hi=>⟨r,0,rfl,(hS.lo _ (List.mem_cons_self ..)).2,?_⟩⟩,fun r' o e _=>?_⟩
  ·rw[Nat.zero_add]
   refine(hS.get 0 rfl).cell ?_
   rw[List.getElem?_append_left (List.getElem?_eq_some_iff.1 hi).1];exact hi
  ·cases e
   exact⟨hF _ (List.mem_cons_self ..),(hS.lo _ (List.mem_cons_self ..)).2,(hS.get 0 rfl).Py⟩
theorem GB.Pz{H0 H:aa}{L:List aK}{ty:TypeId}{es:Nat}{v:Value}{cs:List Value}{gb:List aK}(hg:GB ty es v cs gb)(hS:SH [] H0 H (gb++L)):∃a n c,v=.slice a n c∧cs.length=n*es∧fE (H0.next≤·) ty H a n es cs:=
 hg.W_ hS fun e he=>hS.xA (List.mem_append_left _ he)
theorem GB.all{ty ty':TypeId}{es:Nat}{v:Value}{cs:List Value}{gb:List aK}(hg:GB ty es v cs gb)(h:(ty==ty')=false):gb.all (fun e=>!(e.2.1==ty'))=true:=by
 rcases hg with⟨_,_,rfl⟩|⟨r,n,aQ,_,_,rfl⟩
 ·rfl
 ·simp at h;simp[h]
section steps
variable{S:List Nat}{H0 H:aa}{L L':List aK}{K:Value→aa→Prop}{r o n:Nat}{ty:TypeId}{cs:List Value}{v:Value}
theorem SH.qh(hS:SH S H0 H L)[hb:Fy L r (fun cs=>splice cs o (ay v)) ty cs L'](k:∀H1,SH S H0 (hM H H1) L'→K undef H1)(hl:(ay v).length=n:=by rfl)(hn:o +n≤cs.length:=by exact Nat.le_of_ble_eq_true rfl)(hk:all' aU (ay v)=true:=by rfl):ME (Aw n (.pointer (some ⟨r,o,none⟩)) v (Go.Ae.hN H)) K:=by
 obtain⟨i,hi,e⟩:=hb.at'
 subst e
 obtain⟨H1,h1,h2,hx⟩:=(SH.o8 hS).qN (vs:=ay v) (o:=o) i hi (by omega) hk
 show ME (gd (Nat.beq (len (ay v)) n) (ai ((Go.Ae.hN H).write r o (ay v)) fun H'=>some (undef,H'))) K
 rw[aO,hl,Nat.beq_refl,h1]
 refine k H1 ?_
 have hm:hM H H1=hM H H1:=rfl
 exact⟨kS.later hS.ext hx.draw (fun q hq=>by
  simp at hq;subst hq
  exact(hS.lo _ (List.mem_of_getElem? hi)).1),h2.bk,fun e he=>⟨(h2.lo e he).1,(h2.lo e he).2⟩,h2.ne,hx.draw.wf hS.wf⟩
end steps
theorem SH.Ki{S:List Nat}{H0 H:aa}{L:List aK}{K:Value→aa→Prop}{ty:TypeId}{es n:Nat}{v:Value}{xs:List Value}(hS:SH S H0 H L)(he:0<es)(hv:v=.slice none 0 0∨∃a,v=.slice (some a) 0 0){a:Option Addr}{c:Nat}(hx:Fl H a n es xs)(hn:n≤16777216)
 (k:∀a' c' H1 L',fE (H.next≤·) ty H1 a' n es xs→SH S H0 H1 (L'++L)→K (.slice a' n c') H1):ME (xz ty es v (.slice a n c) H) K:=by
 rw[RF hv (Ij hx he) hn]
 split
 ·next h0=>
  subst h0
  have hc:xs=[]:=List.length_eq_zero_iff.1 (by have:=hx.1;omega)
  subst hc
  rcases hv with rfl|⟨a,rfl⟩
  ·exact k none 0 H [] (fE.nil _ _ _ _ _) hS
  ·exact k (some a) 0 H [] (fE.nil _ _ _ _ _) hS
 ·next h0=>
  have hb:=Bk.new H ty xs
  exact k _ _ _ [(H.next,ty,xs)] ⟨hb.fl (Nat.lt_succ_self _) hx.1,fun r o e _=>by cases e;exact⟨Nat.le_refl _,Nat.lt_succ_self _,hb.Py⟩⟩ (hS.grow ty xs)
theorem SH.own{S:List Nat}{H0 H:aa}{M L:List aK}(hS:SH S H0 H (M++L)):SH (M.map (·.1)) H H M:=(hS.sub (List.sublist_append_left M L)).base
theorem SH.frame{S:List Nat}{H0 H H':aa}{M M' L:List aK}(hS:SH S H0 H (M++L))(h:SH (M.map (·.1)) H H' M'):SH S H0 H' (M'++L):=
 hS.turn h.ext (fun e he=>⟨h.bk e he,h.lo e he⟩) h.ne
theorem Ec(x:aK)(L:List aK):(x::(L++[])).Perm (L++[x]):=by rw[List.append_nil];exact List.perm_append_comm (l₁:=[x])
theorem aaJ(x y z:aK)(L:List aK):(x::y::z::(L++[])).Perm (L++[x,y,z]):=by rw[List.append_nil];exact List.perm_append_comm (l₁:=[x,y,z])
theorem cK{ops:Array Oper}{cls:List Cl}{K:Prop}(h:noTwo cls=true)(k:K):bO ops cls=true∧K:=⟨zu h,k⟩
end Go.Ae
namespace Go.Ae
def jL(g:Nat→Nat)(c:Cl):Cl:=⟨c.k,g c.r,c.off,c.n,c.a,c.b⟩
noncomputable def rQ(m:Nat)(c:Cl):Bool:=av (Nat.beq c.k 3||Nat.beq c.k 4) (Nat.ble 1 c.r&&Nat.ble c.r m) true
noncomputable def kill(c:Cl):Cl:=av (Nat.beq c.k 2) ⟨2,0,0,0,hh0,hh0⟩ c
theorem Ox{g:Nat→Nat}{x y:Cl}(h:g x.r=g y.r→x.r=y.r):kE (jL g x) (jL g y)=kE x y:=by
 unfold kE jL
 have:Nat.beq (g x.r) (g y.r)=Nat.beq x.r y.r:=by
  rw[Bool.eq_iff_iff,Nat.beq_eq,Nat.beq_eq]
  exact⟨h,fun e=>by rw[e]⟩
 simp only[this]
theorem Ee{a b:aa}{l:Cl}(ha:a=hh0)(hn:l.n≠0):gI ⟨2,0,0,0,a,b⟩ l=false:=by
 subst ha
 unfold gI sameAt
 show gK (ai (aa.read hh0 l.r l.off l.n) _)=false
 obtain⟨k,hk⟩:=Nat.exists_eq_succ_of_ne_zero hn
 rw[hk]
 rfl
theorem Mw{m:Nat}{x:Cl}(h:rQ m x=true)(hk:x.k=3∨x.k=4):1≤x.r∧x.r≤m:=by
 unfold rQ at h
 have:(Nat.beq x.k 3||Nat.beq x.k 4)=true:=by
  rcases hk with e|e<;>rw[e]<;>rfl
 rw[this]at h
 replace h:(Nat.ble 1 x.r&&Nat.ble x.r m)=true:=h
 rw[Bool.and_eq_true]at h
 exact⟨Nat.le_of_ble_eq_true h.1,Nat.le_of_ble_eq_true h.2⟩
theorem o9{a b:Nat}(h:a≠b):Nat.beq a b=false:=by rw[←Bool.not_eq_true];exact fun e=>h (Nat.eq_of_beq_eq_true e)
theorem RN{g:Nat→Nat}{m:Nat}(hg:∀i j,1≤i→i≤m→1≤j→j≤m→g i=g j→i=j){x y:Cl}(hx:rQ m x=true)(hy:rQ m y=true)(b:Bool)(h:aL (kill y) (kill x) b=true):aL (jL g y) (jL g x) b=true:=by
 cases b with
 |true=>
  unfold aL at h⊢
  simp only[Bool.true_or]at h⊢
  have ek:∀c:Cl,(kill c).k=c.k:=fun c=>by
   unfold kill
   by_cases e:c.k=2
   ·rw[e];rfl
   ·rw[o9 e];rfl
  rw[ek,ek]at h
  show av (Nat.beq y.k 0||Nat.beq x.k 0||Nat.beq y.k 5||Nat.beq x.k 5) true _=true
  exact h
 |false=>
  by_cases hx2:x.k=2
  ·have kx:kill x=⟨2,0,0,0,hh0,hh0⟩:=by unfold kill;rw[hx2];rfl
   have ky:(kill y).k=y.k:=by
    unfold kill
    by_cases e:y.k=2
    ·rw[e];rfl
    ·rw[o9 e];rfl
   unfold aL at h⊢
   rw[kx]at h
   simp only[ky]at h
   simp only[jL,hx2]
   simp only[show Nat.beq 2 0=false from rfl,show Nat.beq 2 5=false from rfl,show Nat.beq 2 3=false from rfl,show Nat.beq 2 4=false from rfl,show Nat.beq 2 1=false from rfl,show Nat.beq 2 2=true from rfl,Bool.or_false,Bool.false_or,Bool.false_and,Bool.and_false,bX,fV]at h⊢
   by_cases h0:(Nat.beq y.k 0||Nat.beq y.k 5)=true
   ·rw[h0];rfl
   ·rw[Bool.not_eq_true]at h0
    rw[h0]at h⊢
    by_cases h3:y.k=3
    ·rw[h3]at h;cases h
    ·rw[o9 h3]at h⊢
     by_cases h4:y.k=4
     ·have hy2:kill y=y:=by unfold kill;rw[o9 (by omega)];rfl
      rw[hy2,h4]at h
      replace h:gI ⟨2,0,0,0,hh0,hh0⟩ y=true:=h
      by_cases hn:y.n=0
      ·rw[h4]
       show gI _ _=true
       unfold gI sameAt
       show gK (ai (aa.read x.a (g y.r) y.off y.n) fun u=>ai (aa.read x.b (g y.r) y.off y.n) fun v=>gd (wV u v) (some ()))=true
       rw[hn];rfl
      ·rw[Ee rfl hn]at h;cases h
     ·rw[o9 h4]at h;cases h
  ·have kx:kill x=x:=by unfold kill;rw[o9 hx2];rfl
   by_cases hy2:y.k=2
   ·have ky:kill y=⟨2,0,0,0,hh0,hh0⟩:=by unfold kill;rw[hy2];rfl
    unfold aL at h⊢
    rw[ky,kx]at h
    simp only[jL,hy2]
    simp only[show Nat.beq 2 0=false from rfl,show Nat.beq 2 5=false from rfl,show Nat.beq 2 3=false from rfl,show Nat.beq 2 4=false from rfl,show Nat.beq 2 1=false from rfl,show Nat.beq 2 2=true from rfl,Bool.or_false,Bool.false_or,Bool.false_and,Bool.and_false,bX,fV]at h⊢
    by_cases h0:(Nat.beq x.k 0||Nat.beq x.k 5)=true
    ·rw[h0];rfl
    ·rw[Bool.not_eq_true]at h0
     rw[h0]at h⊢
     by_cases h3:x.k=3
     ·rw[h3]at h;cases h
     ·rw[o9 h3]at h⊢
      by_cases h4:x.k=4
      ·rw[h4]at h
       replace h:gI ⟨2,0,0,0,hh0,hh0⟩ x=true:=h
       by_cases hn:x.n=0
       ·rw[h4]
        show gI _ _=true
        unfold gI sameAt
        show gK (ai (aa.read y.a (g x.r) x.off x.n) fun u=>ai (aa.read y.b (g x.r) x.off x.n) fun v=>gd (wV u v) (some ()))=true
        rw[hn];rfl
       ·rw[Ee rfl hn]at h;cases h
      ·rw[o9 h4]at h;cases h
   ·have ky:kill y=y:=by unfold kill;rw[o9 hy2];rfl
    rw[kx,ky]at h
    by_cases hm:(x.k=3∨x.k=4)∧(y.k=3∨y.k=4)
    ·obtain⟨a1,a2⟩:=Mw hx hm.1
     obtain⟨b1,b2⟩:=Mw hy hm.2
     have e2:=Ox (g:=g) (x:=x) (y:=y) (hg _ _ a1 a2 b1 b2)
     unfold aL at h⊢
     rw[e2]
     simp only[jL,o9 hx2,o9 hy2,bX]at h⊢
     exact h
    ·unfold aL at h⊢
     simp only[jL,o9 hx2,o9 hy2,bX]at h⊢
     by_cases x3:x.k=3
     ·have y3:y.k≠3:=fun e=>hm ⟨.inl x3,.inl e⟩
      have y4:y.k≠4:=fun e=>hm ⟨.inl x3,.inr e⟩
      rw[o9 y3,o9 y4]at h⊢
      exact h
     ·by_cases x4:x.k=4
      ·have y3:y.k≠3:=fun e=>hm ⟨.inr x4,.inl e⟩
       have y4:y.k≠4:=fun e=>hm ⟨.inr x4,.inr e⟩
       rw[o9 y3,o9 y4]at h⊢
       exact h
      ·rw[o9 x3,o9 x4]at h⊢
       exact h
theorem pN{a:Bool}{b:Bool}(h:av a b false=true):a=true∧b=true:=by
 cases a with
 |true=>exact⟨rfl,h⟩
 |false=>cases h
theorem BX{g:Nat→Nat}{m:Nat}(hg:∀i j,1≤i→i≤m→1≤j→j≤m→g i=g j→i=j):∀(ms:List Nat)(l:List Cl),(∀c∈l,rQ m c=true)→pairs aL ms (l.map kill)=true→pairs aL ms (l.map (jL g))=true:=by
 have row:∀(x:Cl)(k:Nat)(l:List Cl),rQ m x=true→(∀c∈l,rQ m c=true)→bF aL (kill x) k (l.map kill)=true→bF aL (jL g x) k (l.map (jL g))=true:=by
  intro x k l hx
  induction l with
  |nil=>intro _ _;rfl
  |cons y l ih=>
   intro h h1
   replace h1:av (aL (kill x) (kill y) (aS k (len (l.map kill)))) (bF aL (kill x) k (l.map kill)) false=true:=h1
   obtain⟨h2,h3⟩:=pN h1
   show av (aL (jL g x) (jL g y) (aS k (len (l.map (jL g))))) (bF aL (jL g x) k (l.map (jL g))) false=true
   rw[aO,List.length_map]at h2⊢
   rw[RN hg (h y (List.mem_cons_self ..)) hx _ h2,ih (fun c hc=>h c (List.mem_cons_of_mem _ hc)) h3];rfl
 intro ms
 induction ms with
 |nil=>intro l _ _;rfl
 |cons k ms ih=>
  intro l h h1
  cases l with
  |nil=>rfl
  |cons x l=>
   replace h1:av (bF aL (kill x) k (l.map kill)) (pairs aL ms (l.map kill)) false=true:=h1
   obtain⟨h2,h3⟩:=pN h1
   show av (bF aL (jL g x) k (l.map (jL g))) (pairs aL ms (l.map (jL g))) false=true
   rw[row x k l (h x (List.mem_cons_self ..)) (fun c hc=>h c (List.mem_cons_of_mem _ hc)) h2,ih l (fun c hc=>h c (List.mem_cons_of_mem _ hc)) h3];rfl
theorem tu{g:Nat→Nat}{m:Nat}(hg:∀i j,1≤i→i≤m→1≤j→j≤m→g i=g j→i=j){ops:Array Oper}{l:List Cl}(hl:all' (rQ m) l=true)(h:bO ops (l.map kill)=true):bO ops (l.map (jL g))=true:=by
 rw[all_eq,List.all_eq_true]at hl
 have e:noTwo (l.map (jL g))=noTwo (l.map kill):=by
  unfold noTwo
  rw[all_eq,all_eq,List.all_map,List.all_map]
  congr 1
  funext c
  show(!(Nat.beq c.k 2||Nat.beq c.k 3))=(!(Nat.beq (kill c).k 2||Nat.beq (kill c).k 3))
  unfold kill
  by_cases e:c.k=2
  ·rw[e];rfl
  ·rw[o9 e];rw[bX,o9 e]
 unfold bO at h⊢
 rw[e]
 by_cases h2:noTwo (l.map kill)=true
 ·rw[h2];rfl
 ·rw[Bool.not_eq_true]at h2
  rw[h2]at h⊢
  exact BX hg _ l hl h
def g3(a b c d:Nat):Nat→Nat
 |1=>a
 |2=>b
 |3=>c
 |4=>d
 |_=>0
theorem oh{ops:Array Oper}{C:Nat→Nat→List Cl}{a b:Nat}{K:Prop}(hab:a≠b)(hC:∀a b,C a b=(C 1 2).map (jL (g3 a b 0 0)))(hk:all' (rQ 2) (C 1 2)=true)(h:bO ops ((C 1 2).map kill)=true)(k:K):bO ops (C a b)=true∧K:=by
 refine⟨?_,k⟩
 rw[hC]
 refine tu (m:=2) (fun i j h1 h2 h3 h4 e=>?_) hk h
 have hi:i=1∨i=2:=by omega
 have hj:j=1∨j=2:=by omega
 rcases hi with rfl|rfl<;>rcases hj with rfl|rfl<;>first|rfl|exact absurd e hab|exact absurd e.symm hab
theorem Fz{ops:Array Oper}{C:Nat→Nat→Nat→List Cl}{a b c:Nat}{K:Prop}(hab:a≠b)(hac:a≠c)(hbc:b≠c)(hC:∀a b c,C a b c=(C 1 2 3).map (jL (g3 a b c 0)))(hk:all' (rQ 3) (C 1 2 3)=true)(h:bO ops ((C 1 2 3).map kill)=true)(k:K):bO ops (C a b c)=true∧K:=by
 refine⟨?_,k⟩
 rw[hC]
 refine tu (m:=3) (fun i j h1 h2 h3 h4 e=>?_) hk h
 have hi:i=1∨i=2∨i=3:=by omega
 have hj:j=1∨j=2∨j=3:=by omega
 rcases hi with rfl|rfl|rfl<;>rcases hj with rfl|rfl|rfl<;>first|rfl|exact absurd e hab|exact absurd e.symm hab|exact absurd e hac|exact absurd e.symm hac|exact absurd e hbc|exact absurd e.symm hbc
theorem Y3{ops:Array Oper}{C:Nat→Nat→Nat→Nat→List Cl}{a b c d:Nat}{K:Prop}(hab:a≠b)(hac:a≠c)(had:a≠d)(hbc:b≠c)(hbd:b≠d)(hcd:c≠d)(hC:∀a b c d,C a b c d=(C 1 2 3 4).map (jL (g3 a b c d)))(hk:all' (rQ 4) (C 1 2 3 4)=true)(h:bO ops ((C 1 2 3 4).map kill)=true)(k:K):bO ops (C a b c d)=true∧K:=by
 refine⟨?_,k⟩
 rw[hC]
 refine tu (m:=4) (fun i j h1 h2 h3 h4 e=>?_) hk h
 have hi:i=1∨i=2∨i=3∨i=4:=by omega
 have hj:j=1∨j=2∨j=3∨j=4:=by omega
 rcases hi with rfl|rfl|rfl|rfl<;>rcases hj with rfl|rfl|rfl|rfl<;>first|rfl|exact absurd e hab|exact absurd e.symm hab|exact absurd e hac|exact absurd e.symm hac|exact absurd e had|exact absurd e.symm had|exact absurd e hbc|exact absurd e.symm hbc|exact absurd e hbd|exact absurd e.symm hbd|exact absurd e hcd|exact absurd e.symm hcd
theorem RO{ops:Array Oper}{C:Nat→List Cl}{a:Nat}{K:Prop}(hC:∀a,C a=(C 1).map (jL (g3 a 0 0 0)))(hk:all' (rQ 1) (C 1)=true)(h:bO ops ((C 1).map kill)=true)(k:K):bO ops (C a)=true∧K:=by
 refine⟨?_,k⟩
 rw[hC]
 refine tu (m:=1) (fun i j h1 h2 h3 h4 e=>?_) hk h
 omega
theorem tC(H H':aa):Df H H'=cl 1∨Df H H'=⟨2,0,0,0,H,H'⟩:=by
 show av (Nat.ble H.next H'.low) _ _=_∨av (Nat.ble H.next H'.low) _ _=_
 cases Nat.ble H.next H'.low with
 |true=>exact .inl rfl
 |false=>exact .inr rfl
theorem SH.RP{S:List Nat}{H0 H H':aa}{M M' L:List aK}(hS:SH S H0 H (M++L))(h:SH (M.map (·.1)) (Go.Ae.hN H) H' M'):SH S H0 (hM H H') (M'++L):=
 hS.turn h.ext.draw (fun e he=>⟨h.bk e he,h.lo e he⟩) h.ne
theorem SH.apart{S:List Nat}{H0 H:aa}{A B:List aK}(hS:SH S H0 H (A++B)){x y:aK}(hx:x∈A)(hy:y∈B):x.1≠y.1:=(List.pairwise_append.1 hS.ne).2.2 x hx y hy
theorem fE.one{S:List Nat}{H0 H:aa}{L:List aK}{F:Nat→Prop}{r:Nat}{ty:TypeId}{es n:Nat}{cs:List Value}(hS:SH S H0 H L)(hm:((r,ty,cs):aK)∈L)(hn:cs.length=n*es)(hF:F r):fE F ty H (some ⟨r,0,none⟩) n es cs:=
 ⟨(hS.bk _ hm).fl (hS.lo _ hm).2 hn,fun r' o e _=>by cases e;exact⟨hF,(hS.lo _ hm).2,(hS.bk _ hm).Py⟩⟩
theorem SH.nq{S:List Nat}{H0 H:aa}{L:List aK}(hS:SH S H0 H L)(i j:Nat){r r':Nat}{t t':TypeId}{x y:List Value}(hi:L[i]?=some (r,t,x))(hj:L[j]?=some (r',t',y))(hij:i<j):r≠r':=by
 obtain⟨h1,e1⟩:=List.getElem?_eq_some_iff.1 hi
 obtain⟨h2,e2⟩:=List.getElem?_eq_some_iff.1 hj
 have:=List.pairwise_iff_getElem.1 hS.ne i j h1 h2 hij
 rw[e1,e2]at this
 exact this
theorem SH.neq{S:List Nat}{H0 H:aa}{L:List aK}(hS:SH S H0 H L)(i j:Nat){x y:aK}(hi:L[i]?=some x)(hj:L[j]?=some y)(hij:i<j):x.1≠y.1:=by
 obtain⟨h1,rfl⟩:=List.getElem?_eq_some_iff.1 hi
 obtain⟨h2,rfl⟩:=List.getElem?_eq_some_iff.1 hj
 exact List.pairwise_iff_getElem.1 hS.ne i j h1 h2 hij
end Go.Ae
namespace Go.Ae
def Az(ty:TypeId)(es:Nat):List (List Value)→List Value→List aK→Prop
 |[],[],R=>R=[]
 |ks::x_,v::vs,R=>∃gb R',R=gb++R'∧GB ty es v ks gb∧Az ty es x_ vs R'
 |_,_,_=>False
variable{ty:TypeId}{es:Nat}
theorem Az.len:∀{x_:List (List Value)}{vs:List Value}{R:List aK},Az ty es x_ vs R→x_.length=vs.length
 |[],[],R,h=>rfl
 |ks::x_,v::vs,R,⟨gb,R',_,_,h⟩=>congrArg Nat.succ h.len
 |[],v::vs,R,h=>h.elim
 |ks::x_,[],R,h=>h.elim
theorem Az.Oy:∀n,Az ty es (List.replicate n []) (List.replicate n (.slice none 0 0)) []
 |0=>rfl
 |n +1=>⟨[],[],rfl,GB.nil _ _,Az.Oy n⟩
theorem Az.at:∀{x_:List (List Value)}{vs:List Value}{R:List aK}(i:Nat),Az ty es x_ vs R→(h:i<vs.length)→∃A gb B,R=A++(gb++B)∧GB ty es vs[i] (x_[i]?.getD []) gb∧
 ∀v' ks' dD,GB ty es v' ks' dD→Az ty es (x_.set i ks') (vs.set i v') (A++(dD++B))
 |ks::x_,v::vs,R,0,h,_=>by
  obtain⟨gb,R',rfl,h1,h4⟩:=h
  exact⟨[],gb,R',rfl,h1,fun v' ks' dD g1=>⟨dD,R',rfl,g1,h4⟩⟩
 |ks::x_,v::vs,R,i +1,h,hi=>by
  obtain⟨gb,R',rfl,h1,h4⟩:=h
  obtain⟨A,Z5,B,rfl,g1,g4⟩:=Az.at i h4 (by simpa using hi)
  refine⟨gb++A,Z5,B,by rw[List.append_assoc],g1,fun v' ks' dD k1=>?_⟩
  exact⟨gb,A++(dD++B),by rw[List.append_assoc],h1,g4 v' ks' dD k1⟩
 |[],[],R,i,h,hi=>absurd hi (by simp)
 |[],v::vs,R,i,h,hi=>h.elim
 |ks::x_,[],R,i,h,hi=>h.elim
theorem Az.snoc:∀{x_:List (List Value)}{vs:List Value}{R gb:List aK}{ks:List Value}{v:Value},Az ty es x_ vs R→GB ty es v ks gb→Az ty es (x_++[ks]) (vs++[v]) (R++gb)
 |[],[],R,gb,ks,v,h,hg=>by
  subst h
  exact⟨gb,[],by simp,hg,rfl⟩
 |k::x_,w::vs,R,gb,ks,v,⟨gb0,R',h1,h2,h3⟩,hg=>⟨gb0,R'++gb,by rw[h1,List.append_assoc],h2,h3.snoc hg⟩
 |[],v::vs,R,gb,ks,w,h,hg=>h.elim
 |ks::x_,[],R,gb,k,v,h,hg=>h.elim
theorem Az.all{S:List Nat}{H0 H:aa}:∀{x_:List (List Value)}{vs:List Value}{R L:List aK},Az ty es x_ vs R→SH S H0 H (R++L)→∀i(h:i<vs.length),∃a n c,vs[i]=.slice a n c∧(x_[i]?.getD []).length=n*es∧fE (fun r=>r∈R.map (·.1)) ty H a n es (x_[i]?.getD [])
 |[],[],R,L,h,hS=>fun i hi=>absurd hi (by simp)
 |ks::x_,v::vs,R,L,⟨gb,R',h1,h2,h4⟩,hS=>by
  subst h1
  rw[List.append_assoc]at hS
  intro i hi
  cases i with
  |zero=>
   obtain⟨a,n,c,e,hl,hf⟩:=h2.W_ (F:=fun r=>r∈(gb++R').map (·.1)) hS fun e he=>List.mem_map.2 ⟨e,List.mem_append_left _ he,rfl⟩
   exact⟨a,n,c,e,hl,hf⟩
  |succ i=>
   obtain⟨a,n,c,e,hl,hf⟩:=Az.all h4 (SH.drop hS) i (by simpa using hi)
   refine⟨a,n,c,e,hl,hf.wk fun r hr=>?_⟩
   obtain⟨e,he,rfl⟩:=List.mem_map.1 hr
   exact List.mem_map.2 ⟨e,List.mem_append_right _ he,rfl⟩
 |[],v::vs,R,L,h,hS=>h.elim
 |ks::x_,[],R,L,h,hS=>h.elim
end Go.Ae
namespace Go.Ae
variable{S:List Nat}{H0 H:aa}{L L':List aK}{r n c k:Nat}{ty:TypeId}{cs:List Value}{v:Value}
theorem VB(h:k<n){o:Nat}:q_ 1 (.slice (some ⟨r,o,none⟩) n c) (vn k)=some (.pointer (some ⟨r,o +k,none⟩)):=by rw[n_ h,Nat.mul_one]
theorem Mx{cs:List Value}{i:Nat}{v:Value}(hi:i<cs.length):splice cs i [v]=cs.set i v:=by
 apply List.ext_getElem?
 intro j
 rw[gZ (by show i +1≤_;omega),List.getElem?_set]
 by_cases h:i≤j∧j<i +[v].length
 ·have:i=j:=by have:=h.2;simp at this;omega
  subst this
  rw[if_pos h,if_pos rfl,if_pos hi,Nat.sub_self];rfl
 ·rw[if_neg h,if_neg (fun e=>h (by subst e;simp))]
theorem SH.ix{K:Value→Value→aa→Prop}(hS:SH S H0 H L)[hb:BV L r ty cs](hk:k<n)(hv:cs[k]?=some v)(kk:∀p,K p v H):
 PU (q_ 1 (.slice (some ⟨r,0,none⟩) n c) (vn k)) fun p=>ME (jX none p H) (K p):=by
 obtain⟨i,hi⟩:=hb.at'
 refine PU.of (VB hk) ?_
 rw[Nat.zero_add]
 exact hS.ld i hi hv (kk _)
theorem SH.Y4{K:Value→Value→aa→Prop}(hS:SH S H0 H L)[hb:Fy L r (fun cs=>cs.set k v) ty cs L'](hk:k<n)(hl:k<cs.length)(hc:ay v=[v]:=by rfl)(ho:aU v=true:=by rfl)(kk:∀p H1,SH S H0 H1 L'→K p undef H1):
 PU (q_ 1 (.slice (some ⟨r,0,none⟩) n c) (vn k)) fun p=>ME (Aw 1 p v H) (K p):=by
 obtain⟨i,hi,e⟩:=hb.at'
 refine PU.of (VB hk) ?_
 rw[Nat.zero_add]
 refine hS.st i hi (by rw[hc];rfl) (by omega) (by rw[hc];show av (aU v) _ _=_;rw[ho];rfl) fun H1 h=>kk _ H1 ?_
 rw[e]
 rw[hc,Mx hl]at h
 exact h
theorem fE.ix{F:Nat→Prop}{a:Option Addr}{K:Value→Value→aa→Prop}(h:fE F ty H a n 1 cs)(hk:k<n)(hv:cs[k]?=some v)(kk:∀p,K p v H):
 PU (q_ 1 (.slice a n c) (vn k)) fun p=>ME (jX none p H) (K p):=by
 obtain⟨r,o,h1,h2,h3,_⟩:=h.1.idx (c:=c) (Nat.lt_succ_self 0) hk
 refine PU.of h1 ?_
 refine ME.ld ?_ (kk _)
 have:=h3 0 v (Nat.lt_succ_self 0) (by rw[Nat.mul_one,Nat.add_zero];exact hv)
 exact this
theorem fE.ixN{F:Nat→Prop}{a:Option Addr}{es:Nat}{K:Value→Value→aa→Prop}(h:fE F ty H a n es cs)(he:0<es)(hk:k<n){l:List Value}(hl:El cs es k=l)(kk:∀p,K p (.agg ⟨l⟩) H):
 PU (q_ es (.slice a n c) (vn k)) fun p=>ME (jX (some es) p H) (K p):=by
 obtain⟨r,o,h1,h2,h3,_⟩:=h.1.idx (c:=c) he hk
 refine PU.of h1 ?_
 have hlen:k*es +es≤cs.length:=by
  have:(k +1)*es≤n*es:=Nat.mul_le_mul_right es hk
  rw[Nat.add_mul]at this
  have:=h.1.1;omega
 refine ME.vW ?_ (kk _)
 obtain⟨v0,hv0⟩:∃v0,cs[k*es]?=some v0:=⟨_,List.getElem?_eq_getElem (by omega)⟩
 rw[←hl]
 have hn:∀m,m≤es→H.read r o m=some ((cs.drop (k*es)).take m):=by
  intro m hm
  have key:∀i,i<m→H.cell r (o +i)=cs[k*es +i]?:=fun i hi=>by
   have:k*es +i<cs.length:=by omega
   rw[List.getElem?_eq_getElem this]
   exact h3 i _ (by omega) (List.getElem?_eq_getElem this)
  cases m with
  |zero=>show some []=_;simp
  |succ m=>
   obtain⟨R,hR⟩:∃R,H.obj r=.row R:=by
    have h0:=key m (by omega)
    rw[List.getElem?_eq_getElem (by omega)]at h0
    unfold aa.cell at h0
    cases hr:H.obj r with
    |row R=>exact⟨R,rfl⟩
    |_=>rw[hr]at h0;cases h0
   have cl:∀i,i<m +1→o +i<R.n∧some (R.cells.get top (o +i))=cs[k*es +i]?:=fun i hi=>by
    have h0:=key i hi
    rw[List.getElem?_eq_getElem (by omega)]at h0
    unfold aa.cell at h0
    rw[hR]at h0
    have h0:gd (Nat.ble (Nat.succ (o +i)) R.n) (some (R.cells.get top (o +i)))=_:=h0
    cases hb:Nat.ble (Nat.succ (o +i)) R.n with
    |false=>rw[hb]at h0;cases h0
    |true=>
     rw[hb]at h0
     refine⟨Nat.le_of_ble_eq_true hb,?_⟩
     rw[List.getElem?_eq_getElem (by omega)]
     exact h0
   show(ai (ko (H.obj r)) fun w=>gd (Nat.ble (Nat.add o (m +1)) w.n) (some (Tr.vD top w.cells o (m +1))))=_
   rw[hR]
   show gd (Nat.ble (Nat.add o (m +1)) R.n) (some (Tr.vD top R.cells o (m +1)))=_
   rw[Nat.ble_eq_true_of_le (show Nat.add o (m +1)≤R.n from(cl m (by omega)).1)]
   refine congrArg some ?_
   have gen:∀j p,(∀i,i<j→some (R.cells.get top (o +p +i))=cs[k*es +p +i]?)→Tr.vD top R.cells (o +p) j=(cs.drop (k*es +p)).take j:=by
    intro j
    induction j with
    |zero=>intro p _;rw[Tr.rX];simp
    |succ j ih=>
     intro p hp
     have h0:=hp 0 (by omega)
     rw[Nat.add_zero,Nat.add_zero]at h0
     obtain⟨hl0,e0⟩:=List.getElem?_eq_some_iff.1 h0.symm
     rw[Tr.l6,show o +p +1=o +(p +1) by omega,ih (p +1) (fun i hi=>by
      have:=hp (i +1) (by omega)
      rw[show o +(p +1) +i=o +p +(i +1) by omega,show k*es +(p +1) +i=k*es +p +(i +1) by omega]
      exact this),List.drop_eq_getElem_cons hl0,List.take_succ_cons,e0]
     rfl
   have:=gen (m +1) 0 (fun i hi=>by rw[Nat.add_zero,Nat.add_zero];exact(cl i hi).2)
   exact this
 exact hn es (Nat.le_refl _)
theorem SH.ns{z:List Value}{m:Nat}{K:Value→Value→aa→Prop}(hS:SH S H0 H L)(hl:(ay v).length=m)(hz:z.length=m)(hk:all' aU (ay v)=true)
 (kk:∀H2 r,SH S H0 H2 ((r,ty,ay v)::L)→Ext H H2→K (.pointer (some ⟨r,0,none⟩)) undef H2):ME (Go.Ae.cZ ty z H) fun p H1=>ME (Go.Ae.Aw m p v H1) fun u H2=>K p u H2:=by
 have hO:=SH.refl hS.wf
 refine hO.cZ fun H1 r hO=>?_
 refine hO.st 0 rfl hl (by omega) hk fun H2 hO=>?_
 have hO:SH [] H H2 [(r,ty,splice z 0 (ay v))]:=hO
 rw[ni _ _ (by omega)]at hO
 exact kk H2 r (SH.frame (M:=[]) (L:=L) hS hO) hO.ext
theorem eY(P M L:List aK):(P++(M++L)).Perm (M++(P++L)):=by
 rw[←List.append_assoc,←List.append_assoc];exact List.Perm.append_right _ List.perm_append_comm
theorem SH.nD(hS:SH S H0 H L){e:TypeId}{z:List Value}{K:Value→aa→Prop}(k:∀H1 r,SH S H0 (hM H H1) ((r,e,z)::L)→Oo H H1=cl 5→K (.pointer (some ⟨r,0,none⟩)) H1):ME (Go.Ae.cZ e z (Go.Ae.hN H)) K:=
 ME.of rfl (k _ _ (hS.Ic e z) (Ay (Ext.new _ _)))
theorem GB.push{es:Nat}{x z:List Value}{w:Value}{xs:List Value}{gb:List aK}{K:Value→Value→aa→Prop}(hg:GB ty es v xs gb)(hS:SH S H0 H (gb++L))(he:0<es)(hz:z.length=es)(hw:ay w=x)(hx:x.length=es)(ht:kr w=true)(hok:all' Go.Ae.aU x=true)(hb:es≤16777216)(hc:xs.length≤16777216)
 (kk:∀q v' H' dD,GB ty es v' (xs++x) dD→SH S H0 H' (dD++L)→K q v' H'):ME (bS ty z es 1 [(0,w)] H) fun q H1=>ME (xz ty es v q H1) (K q):=by
 refine hS.bS hz ht (by rw[hw];exact hx) hb fun H1 rx hS1=>?_
 rw[hw]at hS1
 obtain⟨v',H6,dD,e1,hg',nN,_⟩:=hg.app (m:=0) (cx:=1) hS1 he (by omega) hok (by omega) hc
 exact ME.of e1 (kk _ v' H6 dD hg' nN)
end Go.Ae
namespace Go.Ae
noncomputable def g7(c:Cl):Cl:=av (Nat.beq c.k 2) ⟨7,0,0,0,hh0,hh0⟩ c
theorem RQ{c:Cl}(h:c.k=2):g7 c=⟨7,0,0,0,hh0,hh0⟩:=by unfold g7;rw[h];rfl
theorem RS{c:Cl}(h:c.k≠2):g7 c=c:=by unfold g7;rw[o9 h];rfl
theorem BZ{x y:Cl}{b:Bool}(h:aL (g7 y) (g7 x) b=true)(hx:y.k=2→x.k=4→gI y x=true)(hy:x.k=2→y.k=4→gI x y=true):aL y x b=true:=by
 by_cases y2:y.k=2
 ·rw[RQ y2]at h
  by_cases x2:x.k=2
  ·rw[RQ x2]at h
   unfold aL
   rw[y2,x2]
   exact h
  ·rw[RS x2]at h
   unfold aL at h⊢
   rw[y2]
   by_cases x0:x.k=0
   ·rw[x0];rfl
   by_cases x5:x.k=5
   ·rw[x5];rfl
   by_cases x3:x.k=3
   ·rw[x3]at h;cases h
   by_cases x4:x.k=4
   ·have:=hx y2 x4
    rw[x4]
    show(b||gI y x)=true
    rw[this];cases b<;>rfl
   ·rw[o9 x0,o9 x5,o9 x3,o9 x4]at h⊢
    have h:av (Nat.beq x.k 1&&false) true b=true:=h
    show av (Nat.beq x.k 1&&false) true b=true
    exact h
 ·rw[RS y2]at h
  by_cases x2:x.k=2
  ·rw[RQ x2]at h
   unfold aL at h⊢
   rw[x2]
   by_cases y0:y.k=0
   ·rw[y0];rfl
   by_cases y5:y.k=5
   ·rw[y5];rfl
   by_cases y3:y.k=3
   ·rw[y3]at h⊢;exact h
   by_cases y4:y.k=4
   ·have:=hy x2 y4
    rw[y4]
    show(b||gI x y)=true
    rw[this];cases b<;>rfl
   ·rw[o9 y0,o9 y5,o9 y3,o9 y4]at h⊢
    exact h
  ·rw[RS x2]at h
   exact h
def uP{α:Type}(p:α→Prop):List α→Prop
 |[]=>True
 |x::l=>p x∧uP p l
theorem uP.mem{α:Type}{p:α→Prop}:∀{l:List α},uP p l→∀x∈l,p x
 |y::l,h,x,hx=>by
  rcases List.mem_cons.1 hx with rfl|hx
  ·exact h.1
  ·exact uP.mem h.2 x hx
def Uy(A B:aa)(c:Cl):Prop:=(c.k=2→c.a=A∧c.b=B)∧(c.k=4→gI ⟨2,0,0,0,A,B⟩ c=true)
theorem Uy.rd{A B:aa}{x y:Cl}(hx:Uy A B x)(hy:Uy A B y)(h2:y.k=2)(h4:x.k=4):gI y x=true:=by
 obtain⟨e1,e2⟩:=hy.1 h2
 have:=hx.2 h4
 unfold gI at this⊢
 rw[e1,e2]
 exact this
theorem RU{A B:aa}:∀(ms:List Nat)(l:List Cl),uP (Uy A B) l→pairs aL ms (l.map g7)=true→pairs aL ms l=true:=by
 have row:∀(x:Cl)(k:Nat)(l:List Cl),Uy A B x→uP (Uy A B) l→bF aL (g7 x) k (l.map g7)=true→bF aL x k l=true:=by
  intro x k l hx
  induction l with
  |nil=>intro _ _;rfl
  |cons y l ih=>
   intro h h1
   replace h1:av (aL (g7 x) (g7 y) (aS k (len (l.map g7)))) (bF aL (g7 x) k (l.map g7)) false=true:=h1
   obtain⟨h2,h3⟩:=pN h1
   show av (aL x y (aS k (len l))) (bF aL x k l) false=true
   rw[aO,List.length_map]at h2
   rw[aO,BZ h2 (fun a b=>h.1.rd hx a b) (fun a b=>hx.rd h.1 a b),ih h.2 h3];rfl
 intro ms
 induction ms with
 |nil=>intro l _ _;rfl
 |cons k ms ih=>
  intro l h h1
  cases l with
  |nil=>rfl
  |cons x l=>
   replace h1:av (bF aL (g7 x) k (l.map g7)) (pairs aL ms (l.map g7)) false=true:=h1
   obtain⟨h2,h3⟩:=pN h1
   show av (bF aL x k l) (pairs aL ms l) false=true
   rw[row x k l h.1 h.2 h2,ih l h.2 h3];rfl
theorem My(l:List Cl):(l.map g7).map kill=l.map g7:=by
 rw[List.map_map]
 apply List.map_congr_left
 intro c _
 show kill (g7 c)=g7 c
 by_cases h:c.k=2
 ·rw[RQ h];rfl
 ·rw[RS h];unfold kill;rw[o9 h];rfl
theorem Kj{ops:Array Oper}{l l1:List Cl}{g:Nat→Nat}{m:Nat}{A B:aa}(hg:∀i j,1≤i→i≤m→1≤j→j≤m→g i=g j→i=j)(hC:l.map g7=(l1.map g7).map (jL g))(hk:all' (rQ m) (l1.map g7)=true)(h:pairs aL (iT ops.toList [] 0) (l1.map g7)=true)(hr:uP (Uy A B) l):bO ops l=true:=by
 unfold bO
 have:pairs aL (iT ops.toList [] 0) l=true:=by
  refine RU (A:=A) (B:=B) _ l hr ?_
  rw[hC]
  rw[all_eq,List.all_eq_true]at hk
  refine BX hg _ _ hk ?_
  rw[My]
  exact h
 rw[this]
 cases noTwo l<;>rfl
theorem MB{ops:Array Oper}{C:Nat→Nat→List Cl}{a b:Nat}{A B:aa}{K:Prop}(hab:a≠b)(hC:(C a b).map g7=((C 1 2).map g7).map (jL (g3 a b 0 0)))(hk:all' (rQ 2) ((C 1 2).map g7)=true)(h:pairs aL (iT ops.toList [] 0) ((C 1 2).map g7)=true)(k:K)(hr:uP (Uy A B) (C a b)):bO ops (C a b)=true∧K:=by
 refine⟨Kj (m:=2) (fun i j h1 h2 h3 h4 e=>?_) hC hk h hr,k⟩
 have hi:i=1∨i=2:=by omega
 have hj:j=1∨j=2:=by omega
 rcases hi with rfl|rfl<;>rcases hj with rfl|rfl<;>first|rfl|exact absurd e hab|exact absurd e.symm hab
theorem VC{ops:Array Oper}{C:Nat→Nat→Nat→List Cl}{a b c:Nat}{A B:aa}{K:Prop}(hab:a≠b)(hac:a≠c)(hbc:b≠c)(hC:(C a b c).map g7=((C 1 2 3).map g7).map (jL (g3 a b c 0)))(hk:all' (rQ 3) ((C 1 2 3).map g7)=true)(h:pairs aL (iT ops.toList [] 0) ((C 1 2 3).map g7)=true)(k:K)(hr:uP (Uy A B) (C a b c)):bO ops (C a b c)=true∧K:=by
 refine⟨Kj (m:=3) (fun i j h1 h2 h3 h4 e=>?_) hC hk h hr,k⟩
 have hi:i=1∨i=2∨i=3:=by omega
 have hj:j=1∨j=2∨j=3:=by omega
 rcases hi with rfl|rfl|rfl<;>rcases hj with rfl|rfl|rfl<;>first|rfl|exact absurd e hab|exact absurd e.symm hab|exact absurd e hac|exact absurd e.symm hac|exact absurd e hbc|exact absurd e.symm hbc
theorem nO(k:IntKind)(n:Int):gD (.int k n) (.int k n)=true:=by
 have h:P6 (.int k n) (.int k n)=true:=by
  show gK (gd (Nat.beq (ig k) (ig k)&&Gu n n) (some ()))=true
  rw[qO,Fu,decide_eq_true rfl];rfl
 unfold gD vI pP
 rw[h];rfl
theorem jM(a:Option Addr)(n c:Nat)(h:∀x,a=some x→x.spot=none):gD (.slice a n c) (.slice a n c)=true:=by
 have h1:Am a a=true:=by
  cases a with
  |none=>rfl
  |some x=>
   show addrEq x x=true
   unfold addrEq
   rw[h x rfl,Nat.beq_refl,Nat.beq_refl];rfl
 have h2:WL (.slice a n c) (.slice a n c)=true:=by
  show gK (gd (Am a a&&Nat.beq n n&&Nat.beq c c) (some ()))=true
  rw[h1,Nat.beq_refl,Nat.beq_refl];rfl
 unfold gD vI pP
 rw[h2]
 cases P6 (.slice a n c) (.slice a n c)<;>cases P5 (.slice a n c) (.slice a n c)<;>rfl
theorem nP:∀{l:List Value},(∀v∈l,gD v v=true)→wV l l=true
 |[],_=>rfl
 |x::l,h=>by
  show av (gD x x) (wV l l) false=true
  rw[h x (List.mem_cons_self ..),nP fun v hv=>h v (List.mem_cons_of_mem _ hv)];rfl
theorem kL{A B:aa}{r o n:Nat}{ty:TypeId}{cs:List Value}{a b:aa}(hA:Bk A r ty cs)(hB:Bk B r ty cs)(hn:o +n≤cs.length)(hs:∀v∈(cs.drop o).take n,gD v v=true):gI ⟨2,0,0,0,A,B⟩ ⟨4,r,o,n,a,b⟩=true:=
 qc (hA.read hn) (hB.read hn) (nP hs)
end Go.Ae
namespace Go.Ae
noncomputable def g8(c:Cl):Cl:=⟨av (Nat.beq c.k 2) 7 c.k,0,0,0,hh0,hh0⟩
def Xa(T:Cl→Prop)(c:Cl):Prop:=(c.k=2→T c)∧(c.k=4→∀w,T w→gI w c=true)
theorem RV{x y:Cl}{b:Bool}(x3:x.k≠3)(y3:y.k≠3)(h:aL (g8 y) (g8 x) b=true)(hx:y.k=2→x.k=4→gI y x=true)(hy:x.k=2→y.k=4→gI x y=true):aL y x b=true:=by
 refine BZ ?_ hx hy
 have e:∀c:Cl,c.k≠3→(g7 c).k=(g8 c).k∧(g7 c).k≠3∧(g7 c).k≠2:=fun c hc=>by
  by_cases h2:c.k=2
  ·rw[RQ h2];unfold g8;rw[h2];exact⟨rfl,by decide,by decide⟩
  ·rw[RS h2];unfold g8;rw[o9 h2];exact⟨rfl,hc,h2⟩
 obtain⟨e1,e2,e3⟩:=e x x3
 obtain⟨f1,f2,f3⟩:=e y y3
 have g1:(g8 x).k≠3:=by rw[←e1];exact e2
 have g2:(g8 y).k≠3:=by rw[←f1];exact f2
 have g3:(g8 x).k≠2:=by rw[←e1];exact e3
 have g4:(g8 y).k≠2:=by rw[←f1];exact f3
 unfold aL at h⊢
 rw[o9 g1,o9 g2,o9 g3,o9 g4]at h
 rw[o9 e2,o9 f2,o9 e3,o9 f3,e1,f1]
 exact h
theorem RX{T:Cl→Prop}:∀(ms:List Nat)(l:List Cl),uP (Xa T) l→(∀c∈l,c.k≠3)→pairs aL ms (l.map g8)=true→pairs aL ms l=true:=by
 have row:∀(x:Cl)(k:Nat)(l:List Cl),Xa T x→x.k≠3→uP (Xa T) l→(∀c∈l,c.k≠3)→bF aL (g8 x) k (l.map g8)=true→bF aL x k l=true:=by
  intro x k l hx hx3
  induction l with
  |nil=>intro _ _ _;rfl
  |cons y l ih=>
   intro h h3 h1
   replace h1:av (aL (g8 x) (g8 y) (aS k (len (l.map g8)))) (bF aL (g8 x) k (l.map g8)) false=true:=h1
   obtain⟨h2,h4⟩:=pN h1
   show av (aL x y (aS k (len l))) (bF aL x k l) false=true
   rw[aO,List.length_map]at h2
   rw[aO,RV (h3 y (List.mem_cons_self ..)) hx3 h2 (fun a b=>h.1.2 b x (hx.1 a)) (fun a b=>hx.2 b y (h.1.1 a)),ih h.2 (fun c hc=>h3 c (List.mem_cons_of_mem _ hc)) h4];rfl
 intro ms
 induction ms with
 |nil=>intro l _ _ _;rfl
 |cons k ms ih=>
  intro l h h3 h1
  cases l with
  |nil=>rfl
  |cons x l=>
   replace h1:av (bF aL (g8 x) k (l.map g8)) (pairs aL ms (l.map g8)) false=true:=h1
   obtain⟨h2,h4⟩:=pN h1
   show av (bF aL x k l) (pairs aL ms l) false=true
   rw[row x k l h.1 (h3 x (List.mem_cons_self ..)) h.2 (fun c hc=>h3 c (List.mem_cons_of_mem _ hc)) h2,ih l h.2 (fun c hc=>h3 c (List.mem_cons_of_mem _ hc)) h4];rfl
theorem FB{ops:Array Oper}{l:List Cl}{T:Cl→Prop}{K:Prop}(h3:all' (fun c=>!(Nat.beq c.k 3)) (l.map g8)=true)(h:pairs aL (iT ops.toList [] 0) (l.map g8)=true)(k:K)(hr:uP (Xa T) l):bO ops l=true∧K:=by
 refine⟨?_,k⟩
 unfold bO
 have:pairs aL (iT ops.toList [] 0) l=true:=by
  refine RX _ l hr (fun c hc e=>?_) h
  rw[all_eq,List.all_eq_true]at h3
  have:=h3 (g8 c) (List.mem_map_of_mem hc)
  unfold g8 at this
  rw[e]at this
  cases this
 rw[this]
 cases noTwo l<;>rfl
theorem Oz{T:Cl→Prop}:∀(ms:List Nat)(l:List Cl),uP (Xa T) l→pairs aL ms (l.map g7)=true→pairs aL ms l=true:=by
 have row:∀(x:Cl)(k:Nat)(l:List Cl),Xa T x→uP (Xa T) l→bF aL (g7 x) k (l.map g7)=true→bF aL x k l=true:=by
  intro x k l hx
  induction l with
  |nil=>intro _ _;rfl
  |cons y l ih=>
   intro h h1
   replace h1:av (aL (g7 x) (g7 y) (aS k (len (l.map g7)))) (bF aL (g7 x) k (l.map g7)) false=true:=h1
   obtain⟨h2,h3⟩:=pN h1
   show av (aL x y (aS k (len l))) (bF aL x k l) false=true
   rw[aO,List.length_map]at h2
   rw[aO,BZ h2 (fun a b=>h.1.2 b x (hx.1 a)) (fun a b=>hx.2 b y (h.1.1 a)),ih h.2 h3];rfl
 intro ms
 induction ms with
 |nil=>intro l _ _;rfl
 |cons k ms ih=>
  intro l h h1
  cases l with
  |nil=>rfl
  |cons x l=>
   replace h1:av (bF aL (g7 x) k (l.map g7)) (pairs aL ms (l.map g7)) false=true:=h1
   obtain⟨h2,h3⟩:=pN h1
   show av (bF aL x k l) (pairs aL ms l) false=true
   rw[row x k l h.1 h.2 h2,ih l h.2 h3];rfl
theorem VD{ops:Array Oper}{C:Nat→List Cl}{a:Nat}{T:Cl→Prop}{K:Prop}(hC:(C a).map g7=((C 1).map g7).map (jL (g3 a 0 0 0)))(hk:all' (rQ 1) ((C 1).map g7)=true)(h:pairs aL (iT ops.toList [] 0) ((C 1).map g7)=true)(k:K)(hr:uP (Xa T) (C a)):bO ops (C a)=true∧K:=by
 refine⟨?_,k⟩
 unfold bO
 have:pairs aL (iT ops.toList [] 0) (C a)=true:=by
  refine Oz (T:=T) _ _ hr ?_
  rw[hC]
  rw[all_eq,List.all_eq_true]at hk
  refine BX (m:=1) (fun i j h1 h2 h3 h4 e=>by omega) _ _ hk ?_
  rw[My]
  exact h
 rw[this]
 cases noTwo (C a)<;>rfl
theorem VE{S:List Nat}{X H3:aa}{r o n k:Nat}{vs:List Value}{a b:aa}{w:Cl}(hw:w.a=X∧w.b=H3)(hx:kS S (hN X) H3)(hr:r<X.next)(hn:r∉S)(h:X.read r o n=some vs)(hs:∀v∈vs,gD v v=true):gI w ⟨k,r,o,n,a,b⟩=true:=by
 unfold gI
 rw[hw.1,hw.2]
 have h2:H3.read r o n=some vs:=(o7 (hx.obj r hr hn) o n).trans h
 exact qc h h2 (nP hs)
theorem R4{H:aa}{r o:Nat}{v:Value}(h:H.cell r o=some v):H.read r o 1=some [v]:=by
 unfold aa.cell at h
 cases hr:H.obj r with
 |row R=>
  rw[hr]at h
  replace h:gd (Nat.ble (Nat.succ o) R.n) (some (R.cells.get top o))=some v:=h
  cases hb:Nat.ble (Nat.succ o) R.n with
  |false=>rw[hb]at h;cases h
  |true=>
   rw[hb]at h
   have h:some (R.cells.get top o)=some v:=h
   show(ai (ko (H.obj r)) fun w=>gd (Nat.ble (Nat.add o 1) w.n) (some (Tr.vD top w.cells o 1)))=_
   rw[hr]
   show gd (Nat.ble (Nat.succ o) R.n) (some (Tr.vD top R.cells o 1))=_
   rw[hb,Tr.l6,Tr.rX]
   rw[Option.some.inj h];rfl
 |_=>rw[hr]at h;cases h
theorem OA(r o:Nat):pP (.pointer (some ⟨r,o,none⟩)) (.pointer (some ⟨r,o,none⟩))=true:=by
 have h:P5 (.pointer (some ⟨r,o,none⟩)) (.pointer (some ⟨r,o,none⟩))=true:=by
  show gK (gd (Nat.beq r r&&Nat.beq o o&&true&&true) (some ()))=true
  rw[Nat.beq_refl,Nat.beq_refl];rfl
 unfold pP
 rw[h];rfl
theorem B5{f:Value→Value→Bool}:∀{l:List Value},(∀v∈l,f v v=true)→qA f l l=true
 |[],_=>rfl
 |x::l,h=>by
  show av (f x x) (qA f l l) false=true
  rw[h x (List.mem_cons_self ..),B5 fun v hv=>h v (List.mem_cons_of_mem _ hv)];rfl
theorem R5(g:Nat){l:List Value}(h:∀v∈l,∃r,v=.pointer (some ⟨r,0,none⟩)):gD (.func (.func g) ⟨[]⟩ ⟨l⟩) (.func (.func g) ⟨[]⟩ ⟨l⟩)=true:=by
 have h0:Lt pP (.func (.func g) ⟨[]⟩ ⟨l⟩) (.func (.func g) ⟨[]⟩ ⟨l⟩)=true:=by
  show gK (gd (Nat.beq g g&&qA pP [] []&&qA pP l l) (some ()))=true
  rw[Nat.beq_refl,show qA pP [] []=true from rfl,B5 (l:=l) fun v hv=>by obtain⟨r,rfl⟩:=h v hv;exact OA r 0];rfl
 unfold gD vI
 rw[h0]
 cases pP (.func (.func g) ⟨[]⟩ ⟨l⟩) (.func (.func g) ⟨[]⟩ ⟨l⟩)<;>rfl
end Go.Ae
namespace Go.Ae.M
noncomputable section
inductive Fr where
 |n
 |c(i:Nat)(v:Value)(l:Fr)
abbrev Rs:=List (Nat×Value)
def tsF(l:Fr):Tr Value:=@Fr.rec (fun _=>Tr Value) .nil (fun i v _ r=>r.set top i v) l
def S(nl nt:Nat)(sl:Fr)(rg:Rs)(H:aa):St:=⟨nl,nt,rg,tsF sl,[],H⟩
def lk(sl:Fr)(rg:Rs)(t:Nat):Value:=@Fr.rec (fun _=>Value) (look rg t) (fun i v _ r=>av (Nat.beq i t) v r) sl
def hs(sl:Fr)(t:Nat):Bool:=@Fr.rec (fun _=>Bool) false (fun i _ _ r=>av (Nat.beq i t) true r) sl
def up(sl:Fr)(t:Nat)(v:Value):Fr:=@Fr.rec (fun _=>Fr) .n (fun i w l r=>av (Nat.beq i t) (.c i v l) (.c i w r)) sl
def PD(nl nt:Nat)(sl:Fr):Bool:=Nat.ble (Nat.succ nl) (Nat.pow 2 nt)&&@Nat.rec (fun _=>Bool) true (fun t r=>av (hs sl t) (aS nl t) (!(aS nl t))&&r) nt&&@Fr.rec (fun _=>Bool) true (fun i _ _ r=>Nat.ble (Nat.succ i) nt&&r) sl
def eq'(sl:Fr)(rg:Rs)(x:Operand):Value:=@Operand.rec (fun _=>Value) (fun t=>lk sl rg t) (fun v=>v) (fun g=>.pointer (some ⟨g,0,none⟩)) (fun f=>.func (.func f) #[] #[]) x
def Uz(ρ:Operand→Value)(x:Option Operand):Option Value:=@Option.rec Operand (fun _=>Option Value) none (fun x=>some (ρ x)) x
def R6(ρ:Operand→Value)(ps:Array (Nat×Operand)):Rs:=mp (fun p=>(p.1,ρ p.2)) ps.toList
def VF(c:Callee):Program→(Operand→Value)→Option (FuncId×List Value×List Value):=
 @Callee.rec (fun _=>Program→(Operand→Value)→Option (FuncId×List Value×List Value))
  (fun f _ ρ=>CW (ρ f)) (fun r name P ρ=>ai (vE (ρ r)) fun p=>ai (methodOf P p.1 name) fun q=>some (q.1,[p.2],[]))
  (fun _ _ _=>none) c
def aaK(P:Program)(X:Xt)(c:Call)(ρ:Operand→Value)(H:aa)(Kp:Value→Prop)(Km:Value→aa→Prop):Prop:=
 @Option.rec Builtin (fun _=>Prop) (fq P X (VF c.callee P ρ) (mp ρ c.args.toList) H Km)
  (fun b=>sU b c.argTypes.toList (mp ρ c.args.toList) P H Kp Km) (isBuiltin c.callee)
def opG(o:Op):Program→Xt→(Operand→Value)→aa→(Value→Prop)→(Value→aa→Prop)→Prop:=
 @Op.rec (fun _=>Program→Xt→(Operand→Value)→aa→(Value→Prop)→(Value→aa→Prop)→Prop)
  (fun x P X ρ H Kp Km=>Kp (ρ x)) (fun x P X ρ H Kp Km=>Kp (ρ x)) (fun c a b P X ρ H Kp Km=>PU (AY (ρ c) (ρ a) (ρ b)) Kp) (fun e P X ρ H Kp Km=>ME (sD P e H) Km) (fun e x P X ρ H Kp Km=>ME (EF e (ρ x) H) Km) (fun t ps P X ρ H Kp Km=>PU (su P t (R6 ρ ps)) Kp) (fun t n ps P X ρ H Kp Km=>ME (jk P t n (R6 ρ ps) H) Km) (fun t m k v P X ρ H Kp Km=>ME (jc P t (ρ m) (ρ k) (ρ v) H) Km) (fun t x P X ρ H Kp Km=>ME (kz P t (ρ x) H) Km) (fun t x v P X ρ H Kp Km=>ME (nS P t (ρ x) (ρ v) H) Km) (fun _ _ _ _ _ _ _=>False) (fun _ _ _ _ _ _ _=>False) (fun x P X ρ H Kp Km=>PU (EC (ρ x)) Kp) (fun op t x y _ P X ρ H Kp Km=>PU (eG P op t x y (ρ x) (ρ y)) Kp) (fun op _ x P X ρ H Kp Km=>PU (bP (Op.unary op (ρ x))) Kp) (fun a b x P X ρ H Kp Km=>CV (uY P a b (ρ x)) (kC P a b (ρ x) H) Kp Km) (fun _ _ _ _ _ _ _ _=>False) (fun t x P X ρ H Kp Km=>PU (Jv P t (ρ x)) Kp) (fun f fi ca P X ρ H Kp Km=>Kp (.func f ⟨mp ρ fi.toList⟩ ⟨mp ρ ca.toList⟩)) (fun t r P X ρ H Kp Km=>ME (kD P t (Uz ρ r) H) Km) (fun _ _ _ _ _ _ _ _=>False) (fun t l c P X ρ H Kp Km=>ME (gW P t (ρ l) (ρ c) H) Km) (fun t x lo hi mx P X ρ H Kp Km=>PU (pE P t (ρ x) (Uz ρ lo) (Uz ρ hi) (Uz ρ mx)) Kp) (fun t x f P X ρ H Kp Km=>PU (iO P t (ρ x) f) Kp) (fun t x f P X ρ H Kp Km=>PU (si P t (ρ x) f) Kp) (fun t x i P X ρ H Kp Km=>PU (iN P t (ρ x) (ρ i)) Kp) (fun t x i P X ρ H Kp Km=>PU (r_ P t (ρ x) (ρ i)) Kp) (fun t x k ok P X ρ H Kp Km=>ME (lX P t (ρ x) (ρ k) ok H) Km) (fun t m k v P X ρ H Kp Km=>ME (jc P t (ρ m) (ρ k) (ρ v) H) Km) (fun _ _ _ _ _ _ _ _ _=>False) (fun _ _ _ _ _ _ _ _ _ _=>False) (fun t x P X ρ H Kp Km=>ME (yx P t (ρ x) H) Km) (fun x b P X ρ H Kp Km=>ME (DF (ρ x) b H) Km) (fun _ _ _ _ _ _ _=>False) (fun _ _ _ _ _ _ _ _ _ _=>False) (fun t i P X ρ H Kp Km=>PU (l8 (ρ t) i) Kp) (fun c P X ρ H Kp Km=>aaK P X c ρ H Kp Km) (fun _ _ _ _ _ _ _=>False) (fun _ _ _ _ _ _ _=>False) (fun _ _ _ _ _ _ _=>False) (fun _ _ _ _ _ _ _ _=>False) (fun _ _ _ _ _ _ _ _ _=>False) (fun _ _ _ _ _ _ _ _=>False) o
def R7(P:Program)(o:Op)(ρ:Operand→Value):Cl:=
 (ai (yz o) fun p=>ai (gJ (ρ p.2)) fun a=>ai (Ps P p.1) fun l=>some (Cl.mk 4 a.block a.off (l.getD 1) hh0 hh0)).getD (cl 1)
def uL(P:Program)(o:Op)(ρ:Operand→Value)(H H':aa):Cl:=
 @Option.rec (Operand×Operand) (fun _=>Cl) (av (Nat.ble H.next H'.low) (av (oZ o) (cl 5) (R7 P o ρ)) ⟨2,0,0,0,H,H'⟩)
  (fun p=>@Option.rec Addr (fun _=>Cl) ⟨2,0,0,0,H,H'⟩ (fun a=>⟨3,a.block,a.off,len (ay (ρ p.2)),hh0,hh0⟩) (gJ (ρ p.1))) (qD o)
inductive Kd where
 |norm
 |exit(i:Nat)
 |goto(l:Nat)
 |ret
def Kd.out(k:Kd)(s:St):Out:=@Kd.rec (fun _=>Out) (.norm s) (fun i=>.exit i s) (fun l=>.goto l s) (.ret s) k
def Xb(id:Nat)(k:Kd):Kd:=@Kd.rec (fun _=>Kd) .norm (fun i=>av (Nat.beq i id) .norm (.exit i)) (fun l=>.goto l) .ret k
inductive Fm where
 |sq(p:List Nat)(c:Code)
 |sj(p:List Nat)
 |bk(id:Nat)
inductive Md where
 |pl
 |dr(O:Array Oper)(acc:List Cl)
def vv(m:Md):Md:=@Md.rec (fun _=>Md) .pl (fun O acc=>.dr O (cl 0::acc)) m
def CX(m:Md)(c:Cl):Md:=@Md.rec (fun _=>Md) .pl (fun O acc=>.dr O (c::acc)) m
def hX(m:Md)(H:aa):aa:=@Md.rec (fun _=>aa) H (fun _ _=>hN H) m
def hY(m:Md)(H H':aa):aa:=@Md.rec (fun _=>aa) H' (fun _ _=>hM H H') m
inductive Ct where
 |co(c:Code)(p:List Nat)
 |cd(v:Option Bool)(a b:Code)(p:List Nat)
 |ou(k:Kd)
 |op(L l:List Oper)(m:Md)(sk:List Nat)
 |gu(L l:List Oper)(m:Md)(sk:List Nat)(d:Option Nat)(o:Op)(gb:Bool)(t:Option Nat)
 |gv(L l:List Oper)(m:Md)(sk:List Nat)(d:Option Nat)(o:Op)(gb:Bool)(t:Nat)(e:Bool)(v:Option Bool)
 |ge(L l:List Oper)(m:Md)(sk:List Nat)(d:Option Nat)(o:Op)(b:Bool)
 |ex(L l:List Oper)(m:Md)(sk:List Nat)(d:Option Nat)(o:Op)
 |pk(L l:List Oper)(m:Md)(sk:List Nat)(d:Option Nat)(c:Option Bool)(a b:Value)
 |af(L l:List Oper)(m:Md)(sk:List Nat)(d:Option Nat)(v:Value)
 |pt(h:Bool)(t:Nat)(v:Value)(nx:Ct)
def oP(p:List Nat):List Nat→List Nat:=@List.rec Nat (fun _=>List Nat→List Nat) (fun q=>q) (fun i _ ih q=>ih (i::q)) p
def kO(P:Program)(X:Xt)(B:Code)(st:List Fm)(E:Out→Prop):Out→Prop:=
 @List.rec Fm (fun _=>Out→Prop) E (fun f _ r=>@Fm.rec (fun _=>Out→Prop) (fun p _=>kH P X (sub B (oP p [])) r) (fun p=>kH P X (sub B (oP p [])) r) (fun id=>gY id r) f) st
def Z6(l:List Oper)(j:Nat):Option Nat:=ai (nth l j) fun o=>o.dst
def OB(sk:List Nat)(d:Option Nat):List Nat:=@Option.rec Nat (fun _=>List Nat) sk (fun d=>d::sk) d
def R(P:Program)(X:Xt)(nl nt:Nat)(B:Code):Nat→Ct→List Fm→Fr→Rs→aa→(Out→Prop)→Prop
 |0,_,_,_,_,_,_=>False
 |n +1,.co .skip _,st,sl,rg,H,E=>R P X nl nt B n (.ou .norm) st sl rg H E
 |n +1,.co (.region _ ops false) _,st,sl,_,H,E=>R P X nl nt B n (.op ops.toList ops.toList .pl []) st sl [] H E
 |n +1,.co (.region _ ops true) p,st,sl,_,H,E=>(bV ops&&f_ ops)=true∧R P X nl nt B n (.op ops.toList ops.toList (.dr (opsOf (sub B (oP p []))) []) []) st sl [] H E
 |n +1,.co (.seq a b) p,st,sl,rg,H,E=>R P X nl nt B n (.co a (0::p)) (av (xy a b) (.sj (1::p)) (.sq (1::p) b)::st) sl rg H E
 |n +1,.co (.cond x a b) p,st,sl,rg,H,E=>R P X nl nt B n (.cd (bK (eq' sl rg x)) a b p) st sl rg H E
 |n +1,.co (.block id a) p,st,sl,rg,H,E=>R P X nl nt B n (.co a (0::p)) (.bk id::st) sl rg H E
 |_ +1,.co (.loop _) p,st,sl,rg,H,E=>aR P X (.loop (sub B (oP (0::p) []))) (S nl nt sl rg H) (kO P X B st E)
 |_ +1,.co (.scope _) p,st,sl,rg,H,E=>aR P X (.scope (sub B (oP (0::p) []))) (S nl nt sl rg H) (kO P X B st E)
 |n +1,.co (.exit i) _,st,sl,rg,H,E=>R P X nl nt B n (.ou (.exit i)) st sl rg H E
 |n +1,.co (.goto i) _,st,sl,rg,H,E=>R P X nl nt B n (.ou (.goto i)) st sl rg H E
 |n +1,.co (.label _) _,st,sl,rg,H,E=>R P X nl nt B n (.ou .norm) st sl rg H E
 |n +1,.co .ret _,st,sl,rg,H,E=>R P X nl nt B n (.ou .ret) st sl rg H E
 |_ +1,.co _ _,_,_,_,_,_=>False
 |n +1,.cd v a b p,st,sl,rg,H,E=>vk v (R P X nl nt B n (.co a (0::p)) st sl rg H E) (R P X nl nt B n (.co b (1::p)) st sl rg H E)
 |_ +1,.ou k,[],sl,rg,H,E=>E (k.out (S nl nt sl rg H))
 |n +1,.ou .norm,.sq p c::st,sl,rg,H,E=>R P X nl nt B n (.co c p) st sl rg H E
 |_ +1,.ou .norm,.sj p::st,sl,rg,H,E=>aR P X (sub B (oP p [])) (S nl nt sl rg H) (kO P X B st E)
 |n +1,.ou k,.bk id::st,sl,rg,H,E=>R P X nl nt B n (.ou (Xb id k)) st sl rg H E
 |n +1,.ou k,_::st,sl,rg,H,E=>R P X nl nt B n (.ou k) st sl rg H E
 |n +1,.op L [] m sk,st,sl,rg,H,E=>@Md.rec (fun _=>Prop) (R P X nl nt B n (.ou .norm) st sl rg H E) (fun O acc=>bO O acc=true∧R P X nl nt B n (.ou .norm) st sl rg H E) m
 |n +1,.op L (o::l) m sk,st,sl,rg,H,E=>@Option.rec (Nat×Bool) (fun _=>Prop) (R P X nl nt B n (.ex L l m sk o.dst o.op) st sl rg H E)
    (fun g=>R P X nl nt B n (.gu L l m sk o.dst o.op g.2 (Z6 L g.1)) st sl rg H E) o.guard
 |_ +1,.gu _ _ _ _ _ _ _ none,_,_,_,_,_=>False
 |n +1,.gu L l m sk d o gb (some t),st,sl,rg,H,E=>R P X nl nt B n (.gv L l m sk d o gb t (pZ sk t) (bK (lk sl rg t))) st sl rg H E
 |n +1,.gv L l m sk d o gb t e v,st,sl,rg,H,E=>@Bool.rec (fun _=>Prop)
    (vk v (R P X nl nt B n (.pt (hs sl t) t (.bool true) (.ge L l m (j_ sk t) d o (qw true gb))) st sl rg H E) (R P X nl nt B n (.pt (hs sl t) t (.bool false) (.ge L l m (j_ sk t) d o (qw false gb))) st sl rg H E))
    (R P X nl nt B n (.ge L l m sk d o false) st sl rg H E) e
 |n +1,.ge L l m sk d o b,st,sl,rg,H,E=>@Bool.rec (fun _=>Prop) (R P X nl nt B n (.af L l (vv m) (OB sk d) d undef) st sl rg H E) (R P X nl nt B n (.ex L l m sk d o) st sl rg H E) b
 |n +1,.ex L l m sk d (.move x),st,sl,rg,H,E=>R P X nl nt B n (.af L l (vv m) (cz sk d) d (eq' sl rg x)) st sl rg H E
 |n +1,.ex L l m sk d (.assign x),st,sl,rg,H,E=>R P X nl nt B n (.af L l (vv m) (cz sk d) d (eq' sl rg x)) st sl rg H E
 |n +1,.ex L l m sk d (.makeFunc f ps1 ps2),st,sl,rg,H,E=>R P X nl nt B n (.af L l (vv m) (cz sk d) d (.func f ⟨mp (eq' sl rg) ps1.toList⟩ ⟨mp (eq' sl rg) ps2.toList⟩)) st sl rg H E
 |n +1,.ex L l m sk d (.pick c a b),st,sl,rg,H,E=>R P X nl nt B n (.pk L l (vv m) (cz sk d) d (bK (eq' sl rg c)) (eq' sl rg a) (eq' sl rg b)) st sl rg H E
 |n +1,.ex L l m sk d o,st,sl,rg,H,E=>opG o P X (eq' sl rg) (hX m H) (fun v=>R P X nl nt B n (.af L l (vv m) (cz sk d) d v) st sl rg H E) (fun v H'=>R P X nl nt B n (.af L l (CX m (uL P o (eq' sl rg) H H')) (cz sk d) d v) st sl rg (hY m H H') E)
 |n +1,.pk L l m sk d c a b,st,sl,rg,H,E=>PU (ai c fun t=>some (av t a b)) fun v=>R P X nl nt B n (.af L l m sk d v) st sl rg H E
 |n +1,.af L l m sk none v,st,sl,rg,H,E=>R P X nl nt B n (.op L l m sk) st sl rg H E
 |n +1,.af L l m sk (some t) v,st,sl,rg,H,E=>R P X nl nt B n (.pt (hs sl t) t v (.op L l m sk)) st sl rg H E
 |n +1,.pt true t v nx,st,sl,rg,H,E=>R P X nl nt B n nx st (up sl t v) rg H E
 |n +1,.pt false t v nx,st,sl,rg,H,E=>R P X nl nt B n nx st sl ((t,v)::rg) H E
end
section eqs
variable{P:Program}{X:Xt}{nl nt n i j:Nat}{B a b c:Code}{p q sk:List Nat}{st:List Fm}{sl:Fr}{rg:Rs}{H H':aa}{E:Out→Prop}{L l:List Oper}{m:Md}{d:Option Nat}{o:Op}{gb:Bool}{t u:Nat}{v w:Value}{x y z:Operand}{k:Kd}{O:Array Oper}{acc:List Cl}{cs:Cl}{ρ:Operand→Value}{s:St}{ty:TypeId}{pos:String}{R8:Array Edge}{nx:Ct}
theorem nr{α:Sort _}{a b:α}(h:a=b):a=b:=h
theorem aaL{α:Type}{x y:α}:av true x y=x:=nr rfl
theorem aaM{α:Type}{x y:α}:av false x y=y:=nr rfl
theorem nb{i j:Nat}:Nat.beq i j=(i==j):=nr (by
 by_cases h:i=j
 ·subst h;rw[show Nat.beq i i=true from Nat.beq_refl i];simp
 ·rw[show(i==j)=false by simp[h]]
  rw[←Bool.not_eq_true];intro e;exact h (Nat.eq_of_beq_eq_true e))
theorem ct{α:Type}{b:Bool}{x y:α}:av b x y=if b=true then x else y:=by cases b<;>rfl
theorem cb{α:Type}{x y:α}:av (Nat.beq j i) x y=if(j==i)=true then x else y:=by rw[ct,nb]
theorem aaN:lk .n rg i=zZ rg i:=nr rfl
theorem aaO:lk (.c j v sl) rg i=if(j==i)=true then v else lk sl rg i:=cb
theorem aaP:zZ [] i=top:=nr rfl
theorem aaQ:zZ ((j,v)::rg) i=if(j==i)=true then v else zZ rg i:=cb
theorem aaR:hs .n i=false:=nr rfl
theorem aaS:hs (.c j v sl) i=if(j==i)=true then true else hs sl i:=cb
theorem yM:up .n i v=.n:=nr rfl
theorem yN:up (.c j w sl) i v=if(j==i)=true then .c j v sl else .c j w (up sl i v):=cb
theorem Xc:eq' sl rg (.tmp i)=lk sl rg i:=nr rfl
theorem MC:eq' sl rg (.const v)=v:=by cases v<;>rfl
theorem Im:eq' sl rg (.global i)=.pointer (some ⟨i,0,none⟩):=nr rfl
theorem R9:eq' sl rg (.func i)=.func (.func i) #[] #[]:=nr rfl
theorem R_:Uz ρ none=none:=nr rfl
theorem Sa:Uz ρ (some x)=some (ρ x):=nr rfl
theorem aaT:bK (.bool true)=some true:=nr rfl
theorem aaU:bK (.bool false)=some false:=nr rfl
theorem Sb{α β:Type}{f:α→β}:mp f []=[]:=nr rfl
theorem MF{α β:Type}{f:α→β}{x:α}{l:List α}:mp f (x::l)=f x::mp f l:=nr rfl
theorem Xd{ps:Array (Nat×Operand)}:R6 ρ ps=mp (fun p=>(p.1,ρ p.2)) ps.toList:=nr rfl
theorem Sc{α:Type}(l:List α):app l []=l:=by rw[iY,List.append_nil]
theorem aaV:Xb i .norm=.norm:=nr rfl
theorem aaW:Xb i (.exit j)=if(j==i)=true then .norm else .exit j:=cb
theorem aaX:Xb i (.goto j)=.goto j:=nr rfl
theorem aaY:Xb i .ret=.ret:=nr rfl
theorem aaZ:Kd.out .norm s=.norm s:=nr rfl
theorem aa0:Kd.out (.exit i) s=.exit i s:=nr rfl
theorem aa1:Kd.out (.goto i) s=.goto i s:=nr rfl
theorem aa2:Kd.out .ret s=.ret s:=nr rfl
theorem Xe:vv .pl=.pl:=nr rfl
theorem Xf:vv (.dr O acc)=.dr O (cl 0::acc):=nr rfl
theorem Xg:CX .pl cs=.pl:=nr rfl
theorem Xh:CX (.dr O acc) cs=.dr O (cs::acc):=nr rfl
theorem Xi:hX .pl H=H:=nr rfl
theorem Xj:hX (.dr O acc) H=hN H:=nr rfl
theorem Xk:hY .pl H H'=H':=nr rfl
theorem Xl:hY (.dr O acc) H H'=hM H H':=nr rfl
theorem aa3:oP [] q=q:=nr rfl
theorem aa4:oP (i::p) q=oP p (i::q):=nr rfl
theorem aa5:kO P X B [] E=E:=nr rfl
theorem aa6:kO P X B (.sq p c::st) E=kH P X (sub B (oP p [])) (kO P X B st E):=nr rfl
theorem aa7:kO P X B (.sj p::st) E=kH P X (sub B (oP p [])) (kO P X B st E):=nr rfl
theorem aa8:kO P X B (.bk i::st) E=gY i (kO P X B st E):=nr rfl
theorem aa9{g:Option (Nat×Bool)}:Z6 (⟨d,o,ty,pos,R8,g⟩::l) 0=d:=nr rfl
theorem aba{o:Oper}:Z6 (o::l) (j +1)=Z6 l j:=nr rfl
theorem Xm:pZ [] i=false:=nr rfl
theorem Sd:pZ (j::sk) i=if(j==i)=true then true else pZ sk i:=cb
theorem Se:OB sk none=sk:=nr rfl
theorem Sf:OB sk (some i)=i::sk:=nr rfl
theorem Xn:j_ [] i=[]:=nr rfl
theorem Sg:j_ (j::sk) i=if(j==i)=true then j_ sk i else j::j_ sk i:=cb
theorem Si:cz sk (some i)=j_ sk i:=nr rfl
theorem Sj:cz sk none=sk:=nr rfl
theorem Xo:qw true true=true:=nr rfl
theorem Xp:qw true false=false:=nr rfl
theorem Xq:qw false true=false:=nr rfl
theorem Xr:qw false false=true:=nr rfl
theorem Sk:R P X nl nt B (n +1) (.co .skip p) st sl rg H E=R P X nl nt B n (.ou .norm) st sl rg H E:=rfl
theorem Xu:R P X nl nt B (n +1) (.co (.region i (List.toArray l) false) p) st sl rg H E=R P X nl nt B n (.op l l .pl []) st sl [] H E:=rfl
theorem Y5(h:(bV (List.toArray l)&&f_ (List.toArray l))=true):R P X nl nt B (n +1) (.co (.region i (List.toArray l) true) p) st sl rg H E=R P X nl nt B n (.op l l (.dr (opsOf (sub B (oP p []))) []) []) st sl [] H E:=by
 show((bV (List.toArray l)&&f_ (List.toArray l))=true∧R P X nl nt B n (.op l l (.dr (opsOf (sub B (oP p []))) []) []) st sl [] H E)=_
 rw[h];simp
theorem Y6(h:xy a b=true):R P X nl nt B (n +1) (.co (.seq a b) p) st sl rg H E=R P X nl nt B n (.co a (0::p)) (.sj (1::p)::st) sl rg H E:=by
 show R P X nl nt B n (.co a (0::p)) (av (xy a b) _ _::st) sl rg H E=_;rw[h];rfl
theorem Y7(h:xy a b=false):R P X nl nt B (n +1) (.co (.seq a b) p) st sl rg H E=R P X nl nt B n (.co a (0::p)) (.sq (1::p) b::st) sl rg H E:=by
 show R P X nl nt B n (.co a (0::p)) (av (xy a b) _ _::st) sl rg H E=_;rw[h];rfl
theorem Sl:R P X nl nt B (n +1) (.co (.cond x a b) p) st sl rg H E=R P X nl nt B n (.cd (bK (eq' sl rg x)) a b p) st sl rg H E:=rfl
theorem MG:R P X nl nt B (n +1) (.co (.block i a) p) st sl rg H E=R P X nl nt B n (.co a (0::p)) (.bk i::st) sl rg H E:=rfl
theorem Sm:R P X nl nt B (n +1) (.co (.loop a) p) st sl rg H E=aR P X (.loop (sub B (oP (0::p) []))) (S nl nt sl rg H) (kO P X B st E):=rfl
theorem MH:R P X nl nt B (n +1) (.co (.scope a) p) st sl rg H E=aR P X (.scope (sub B (oP (0::p) []))) (S nl nt sl rg H) (kO P X B st E):=rfl
theorem Sn:R P X nl nt B (n +1) (.co (.exit i) p) st sl rg H E=R P X nl nt B n (.ou (.exit i)) st sl rg H E:=rfl
theorem Sq:R P X nl nt B (n +1) (.co (.goto i) p) st sl rg H E=R P X nl nt B n (.ou (.goto i)) st sl rg H E:=rfl
theorem MI:R P X nl nt B (n +1) (.co (.label i) p) st sl rg H E=R P X nl nt B n (.ou .norm) st sl rg H E:=rfl
theorem Xv:R P X nl nt B (n +1) (.co .ret p) st sl rg H E=R P X nl nt B n (.ou .ret) st sl rg H E:=rfl
theorem Xw:R P X nl nt B (n +1) (.cd (some true) a b p) st sl rg H E=R P X nl nt B n (.co a (0::p)) st sl rg H E:=rfl
theorem Xx:R P X nl nt B (n +1) (.cd (some false) a b p) st sl rg H E=R P X nl nt B n (.co b (1::p)) st sl rg H E:=rfl
theorem Xy:R P X nl nt B (n +1) (.cd (bK v) a b p) st sl rg H E=vk (bK v) (R P X nl nt B n (.co a (0::p)) st sl rg H E) (R P X nl nt B n (.co b (1::p)) st sl rg H E):=rfl
theorem Y8:R P X nl nt B (n +1) (.ou k) [] sl rg H E=E (k.out (S nl nt sl rg H)):=by cases k<;>rfl
theorem Sr:R P X nl nt B (n +1) (.ou .norm) (.sq p c::st) sl rg H E=R P X nl nt B n (.co c p) st sl rg H E:=rfl
theorem Ss:R P X nl nt B (n +1) (.ou .norm) (.sj p::st) sl rg H E=aR P X (sub B (oP p [])) (S nl nt sl rg H) (kO P X B st E):=rfl
theorem Kk:R P X nl nt B (n +1) (.ou k) (.bk i::st) sl rg H E=R P X nl nt B n (.ou (Xb i k)) st sl rg H E:=by cases k<;>rfl
theorem Su:R P X nl nt B (n +1) (.ou (.exit i)) (.sq p c::st) sl rg H E=R P X nl nt B n (.ou (.exit i)) st sl rg H E:=rfl
theorem Sv:R P X nl nt B (n +1) (.ou (.exit i)) (.sj p::st) sl rg H E=R P X nl nt B n (.ou (.exit i)) st sl rg H E:=rfl
theorem Sw:R P X nl nt B (n +1) (.ou (.goto i)) (.sq p c::st) sl rg H E=R P X nl nt B n (.ou (.goto i)) st sl rg H E:=rfl
theorem Sy:R P X nl nt B (n +1) (.ou (.goto i)) (.sj p::st) sl rg H E=R P X nl nt B n (.ou (.goto i)) st sl rg H E:=rfl
theorem Sz:R P X nl nt B (n +1) (.ou .ret) (.sq p c::st) sl rg H E=R P X nl nt B n (.ou .ret) st sl rg H E:=rfl
theorem SA:R P X nl nt B (n +1) (.ou .ret) (.sj p::st) sl rg H E=R P X nl nt B n (.ou .ret) st sl rg H E:=rfl
theorem Xz:R P X nl nt B (n +1) (.op L [] .pl sk) st sl rg H E=R P X nl nt B n (.ou .norm) st sl rg H E:=rfl
theorem XA:R P X nl nt B (n +1) (.op L [] (.dr O acc) sk) st sl rg H E=(bO O acc=true∧R P X nl nt B n (.ou .norm) st sl rg H E):=rfl
theorem abb:R P X nl nt B (n +1) (.op L (⟨d,o,ty,pos,R8,none⟩::l) m sk) st sl rg H E=R P X nl nt B n (.ex L l m sk d o) st sl rg H E:=rfl
theorem XB:R P X nl nt B (n +1) (.op L (⟨d,o,ty,pos,R8,some (j,gb)⟩::l) m sk) st sl rg H E=R P X nl nt B n (.gu L l m sk d o gb (Z6 L j)) st sl rg H E:=rfl
theorem abd:R P X nl nt B (n +1) (.gu L l m sk d o gb (some t)) st sl rg H E=R P X nl nt B n (.gv L l m sk d o gb t (pZ sk t) (bK (lk sl rg t))) st sl rg H E:=rfl
theorem XC{v:Option Bool}:R P X nl nt B (n +1) (.gv L l m sk d o gb t true v) st sl rg H E=R P X nl nt B n (.ge L l m sk d o false) st sl rg H E:=rfl
theorem XD:R P X nl nt B (n +1) (.gv L l m sk d o gb t false (some true)) st sl rg H E=R P X nl nt B n (.pt (hs sl t) t (.bool true) (.ge L l m (j_ sk t) d o (qw true gb))) st sl rg H E:=rfl
theorem XE:R P X nl nt B (n +1) (.gv L l m sk d o gb t false (some false)) st sl rg H E=R P X nl nt B n (.pt (hs sl t) t (.bool false) (.ge L l m (j_ sk t) d o (qw false gb))) st sl rg H E:=rfl
theorem XF:R P X nl nt B (n +1) (.gv L l m sk d o gb t false (bK v)) st sl rg H E=vk (bK v) (R P X nl nt B n (.pt (hs sl t) t (.bool true) (.ge L l m (j_ sk t) d o (qw true gb))) st sl rg H E) (R P X nl nt B n (.pt (hs sl t) t (.bool false) (.ge L l m (j_ sk t) d o (qw false gb))) st sl rg H E):=rfl
theorem XG:R P X nl nt B (n +1) (.ge L l m sk d o true) st sl rg H E=R P X nl nt B n (.ex L l m sk d o) st sl rg H E:=rfl
theorem XH:R P X nl nt B (n +1) (.ge L l m sk d o false) st sl rg H E=R P X nl nt B n (.af L l (vv m) (OB sk d) d undef) st sl rg H E:=rfl
theorem SC:R P X nl nt B (n +1) (.ex L l m sk d (.move x)) st sl rg H E=R P X nl nt B n (.af L l (vv m) (cz sk d) d (eq' sl rg x)) st sl rg H E:=rfl
theorem Io:R P X nl nt B (n +1) (.ex L l m sk d (.assign x)) st sl rg H E=R P X nl nt B n (.af L l (vv m) (cz sk d) d (eq' sl rg x)) st sl rg H E:=rfl
theorem abe{f:Fn}{ps1 ps2:Array Operand}:R P X nl nt B (n +1) (.ex L l m sk d (.makeFunc f ps1 ps2)) st sl rg H E=R P X nl nt B n (.af L l (vv m) (cz sk d) d (.func f ⟨mp (eq' sl rg) ps1.toList⟩ ⟨mp (eq' sl rg) ps2.toList⟩)) st sl rg H E:=rfl
theorem SE:R P X nl nt B (n +1) (.ex L l m sk d (.pick x y z)) st sl rg H E=R P X nl nt B n (.pk L l (vv m) (cz sk d) d (bK (eq' sl rg x)) (eq' sl rg y) (eq' sl rg z)) st sl rg H E:=rfl
theorem XI:R P X nl nt B (n +1) (.pk L l m sk d (some true) v w) st sl rg H E=R P X nl nt B n (.af L l m sk d v) st sl rg H E:=rfl
theorem XJ:R P X nl nt B (n +1) (.pk L l m sk d (some false) v w) st sl rg H E=R P X nl nt B n (.af L l m sk d w) st sl rg H E:=rfl
theorem XK{u:Value}:R P X nl nt B (n +1) (.pk L l m sk d (bK u) v w) st sl rg H E=PU (AY u v w) fun v=>R P X nl nt B n (.af L l m sk d v) st sl rg H E:=rfl
theorem XL:R P X nl nt B (n +1) (.af L l m sk none v) st sl rg H E=R P X nl nt B n (.op L l m sk) st sl rg H E:=rfl
theorem XM:R P X nl nt B (n +1) (.af L l m sk (some t) v) st sl rg H E=R P X nl nt B n (.pt (hs sl t) t v (.op L l m sk)) st sl rg H E:=rfl
theorem XN:R P X nl nt B (n +1) (.pt true t v nx) st sl rg H E=R P X nl nt B n nx st (up sl t v) rg H E:=rfl
theorem XO:R P X nl nt B (n +1) (.pt false t v nx) st sl rg H E=R P X nl nt B n nx st sl ((t,v)::rg) H E:=rfl
theorem l_call{c:Call}:uL P (.call c) ρ H H'=Df H H':=nr rfl
theorem MK:uL P (.store t x y) ρ H H'=clS (ρ x) (ρ y) H H':=nr rfl
theorem ML:uL P (.alloc t) ρ H H'=Oo H H':=nr rfl
theorem XP:uL P (.box t x) ρ H H'=Oo H H':=nr rfl
theorem abf{ps:Array (Nat×Operand)}:uL P (.buildSlice t i ps) ρ H H'=Oo H H':=nr rfl
theorem abg:uL P (.makeSlice t x y) ρ H H'=Oo H H':=nr rfl
theorem abh{r:Option Operand}:uL P (.makeMap t r) ρ H H'=Oo H H':=nr rfl
theorem Ip{ok:Bool}:uL P (.lookup t x y ok) ρ H H'=Df H H':=nr rfl
theorem l_conv:uL P (.convert t u x) ρ H H'=Df H H':=nr rfl
theorem SF{ok:Bool}:uL P (.next x ok) ρ H H'=Df H H':=nr rfl
theorem MM:uL P (.range t x) ρ H H'=Df H H':=nr rfl
theorem abj:uL P (.mapUpdate t x y z) ρ H H'=Df H H':=nr rfl
theorem MN:R P X nl nt B (n +1) (.ex L l m sk d (.alloc t)) st sl rg H E=ME (sD P t (hX m H)) (fun v H'=>R P X nl nt B n (.af L l (CX m (uL P (.alloc t) (eq' sl rg) H H')) (cz sk d) d v) st sl rg (hY m H H') E):=rfl
theorem XQ:R P X nl nt B (n +1) (.ex L l m sk d (.box t x)) st sl rg H E=ME (EF t (eq' sl rg x) (hX m H)) (fun v H'=>R P X nl nt B n (.af L l (CX m (uL P (.box t x) (eq' sl rg) H H')) (cz sk d) d v) st sl rg (hY m H H') E):=rfl
theorem MO{ps:Array (Nat×Operand)}:R P X nl nt B (n +1) (.ex L l m sk d (.build t ps)) st sl rg H E=PU (su P t (R6 (eq' sl rg) ps)) (fun v=>R P X nl nt B n (.af L l (vv m) (cz sk d) d v) st sl rg H E):=rfl
theorem xK{ps:Array (Nat×Operand)}:R P X nl nt B (n +1) (.ex L l m sk d (.buildSlice t i ps)) st sl rg H E=ME (jk P t i (R6 (eq' sl rg) ps) (hX m H)) (fun v H'=>R P X nl nt B n (.af L l (CX m (uL P (.buildSlice t i ps) (eq' sl rg) H H')) (cz sk d) d v) st sl rg (hY m H H') E):=rfl
theorem Iq:R P X nl nt B (n +1) (.ex L l m sk d (.insert t x y z)) st sl rg H E=ME (jc P t (eq' sl rg x) (eq' sl rg y) (eq' sl rg z) (hX m H)) (fun v H'=>R P X nl nt B n (.af L l (CX m (uL P (.insert t x y z) (eq' sl rg) H H')) (cz sk d) d v) st sl rg (hY m H H') E):=rfl
theorem SG:R P X nl nt B (n +1) (.ex L l m sk d (.load t x)) st sl rg H E=ME (kz P t (eq' sl rg x) (hX m H)) (fun v H'=>R P X nl nt B n (.af L l (CX m (uL P (.load t x) (eq' sl rg) H H')) (cz sk d) d v) st sl rg (hY m H H') E):=rfl
theorem MP:R P X nl nt B (n +1) (.ex L l m sk d (.store t x y)) st sl rg H E=ME (nS P t (eq' sl rg x) (eq' sl rg y) (hX m H)) (fun v H'=>R P X nl nt B n (.af L l (CX m (uL P (.store t x y) (eq' sl rg) H H')) (cz sk d) d v) st sl rg (hY m H H') E):=rfl
theorem B6:R P X nl nt B (n +1) (.ex L l m sk d (.nilCheck x)) st sl rg H E=PU (EC (eq' sl rg x)) (fun v=>R P X nl nt B n (.af L l (vv m) (cz sk d) d v) st sl rg H E):=rfl
theorem MQ{bo:BinOp}{u:TypeId}:R P X nl nt B (n +1) (.ex L l m sk d (.binOp bo t x y u)) st sl rg H E=PU (eG P bo t x y (eq' sl rg x) (eq' sl rg y)) (fun v=>R P X nl nt B n (.af L l (vv m) (cz sk d) d v) st sl rg H E):=rfl
theorem SI{uo:UnOp}:R P X nl nt B (n +1) (.ex L l m sk d (.unOp uo t x)) st sl rg H E=PU (bP (Op.unary uo (eq' sl rg x))) (fun v=>R P X nl nt B n (.af L l (vv m) (cz sk d) d v) st sl rg H E):=rfl
theorem Ef{u:TypeId}:R P X nl nt B (n +1) (.ex L l m sk d (.convert t u x)) st sl rg H E=CV (uY P t u (eq' sl rg x)) (kC P t u (eq' sl rg x) (hX m H)) (fun v=>R P X nl nt B n (.af L l (vv m) (cz sk d) d v) st sl rg H E) (fun v H'=>R P X nl nt B n (.af L l (CX m (uL P (.convert t u x) (eq' sl rg) H H')) (cz sk d) d v) st sl rg (hY m H H') E):=rfl
theorem rA:R P X nl nt B (n +1) (.ex L l m sk d (.makeInterface t x)) st sl rg H E=PU (Jv P t (eq' sl rg x)) (fun v=>R P X nl nt B n (.af L l (vv m) (cz sk d) d v) st sl rg H E):=rfl
theorem Eg{r:Option Operand}:R P X nl nt B (n +1) (.ex L l m sk d (.makeMap t r)) st sl rg H E=ME (kD P t (Uz (eq' sl rg) r) (hX m H)) (fun v H'=>R P X nl nt B n (.af L l (CX m (uL P (.makeMap t r) (eq' sl rg) H H')) (cz sk d) d v) st sl rg (hY m H H') E):=rfl
theorem zG:R P X nl nt B (n +1) (.ex L l m sk d (.makeSlice t x y)) st sl rg H E=ME (gW P t (eq' sl rg x) (eq' sl rg y) (hX m H)) (fun v H'=>R P X nl nt B n (.af L l (CX m (uL P (.makeSlice t x y) (eq' sl rg) H H')) (cz sk d) d v) st sl rg (hY m H H') E):=rfl
theorem MR{lo:Option Operand}{hi:Option Operand}{mx:Option Operand}:R P X nl nt B (n +1) (.ex L l m sk d (.slice t x lo hi mx)) st sl rg H E=PU (pE P t (eq' sl rg x) (Uz (eq' sl rg) lo) (Uz (eq' sl rg) hi) (Uz (eq' sl rg) mx)) (fun v=>R P X nl nt B n (.af L l (vv m) (cz sk d) d v) st sl rg H E):=rfl
theorem zH:R P X nl nt B (n +1) (.ex L l m sk d (.fieldAddr t x i)) st sl rg H E=PU (iO P t (eq' sl rg x) i) (fun v=>R P X nl nt B n (.af L l (vv m) (cz sk d) d v) st sl rg H E):=rfl
theorem MS:R P X nl nt B (n +1) (.ex L l m sk d (.field t x i)) st sl rg H E=PU (si P t (eq' sl rg x) i) (fun v=>R P X nl nt B n (.af L l (vv m) (cz sk d) d v) st sl rg H E):=rfl
theorem zI:R P X nl nt B (n +1) (.ex L l m sk d (.indexAddr t x y)) st sl rg H E=PU (iN P t (eq' sl rg x) (eq' sl rg y)) (fun v=>R P X nl nt B n (.af L l (vv m) (cz sk d) d v) st sl rg H E):=rfl
theorem MU:R P X nl nt B (n +1) (.ex L l m sk d (.index t x y)) st sl rg H E=PU (r_ P t (eq' sl rg x) (eq' sl rg y)) (fun v=>R P X nl nt B n (.af L l (vv m) (cz sk d) d v) st sl rg H E):=rfl
theorem Ir{ok:Bool}:R P X nl nt B (n +1) (.ex L l m sk d (.lookup t x y ok)) st sl rg H E=ME (lX P t (eq' sl rg x) (eq' sl rg y) ok (hX m H)) (fun v H'=>R P X nl nt B n (.af L l (CX m (uL P (.lookup t x y ok) (eq' sl rg) H H')) (cz sk d) d v) st sl rg (hY m H H') E):=rfl
theorem zJ:R P X nl nt B (n +1) (.ex L l m sk d (.mapUpdate t x y z)) st sl rg H E=ME (jc P t (eq' sl rg x) (eq' sl rg y) (eq' sl rg z) (hX m H)) (fun v H'=>R P X nl nt B n (.af L l (CX m (uL P (.mapUpdate t x y z) (eq' sl rg) H H')) (cz sk d) d v) st sl rg (hY m H H') E):=rfl
theorem MV:R P X nl nt B (n +1) (.ex L l m sk d (.range t x)) st sl rg H E=ME (yx P t (eq' sl rg x) (hX m H)) (fun v H'=>R P X nl nt B n (.af L l (CX m (uL P (.range t x) (eq' sl rg) H H')) (cz sk d) d v) st sl rg (hY m H H') E):=rfl
theorem SK{ok:Bool}:R P X nl nt B (n +1) (.ex L l m sk d (.next x ok)) st sl rg H E=ME (DF (eq' sl rg x) ok (hX m H)) (fun v H'=>R P X nl nt B n (.af L l (CX m (uL P (.next x ok) (eq' sl rg) H H')) (cz sk d) d v) st sl rg (hY m H H') E):=rfl
theorem Eh:R P X nl nt B (n +1) (.ex L l m sk d (.extract x i)) st sl rg H E=PU (l8 (eq' sl rg x) i) (fun v=>R P X nl nt B n (.af L l (vv m) (cz sk d) d v) st sl rg H E):=rfl
theorem SL{args:Array Operand}{ats:Array TypeId}:R P X nl nt B (n +1) (.ex L l m sk d (.call ⟨.value (.func i),args,ats⟩)) st sl rg H E=ak P X i (mp (eq' sl rg) args.toList) (hX m H) (fun v H'=>R P X nl nt B n (.af L l (CX m (uL P (.call ⟨.value (.func i),args,ats⟩) (eq' sl rg) H H')) (cz sk d) d v) st sl rg (hY m H H') E):=by
 show ak P X i (app [] (app (mp (eq' sl rg) args.toList) [])) (hX m H) _=_
 rw[Sc];rfl
theorem XR{args:Array Operand}{ats:Array TypeId}:R P X nl nt B (n +1) (.ex L l m sk d (.call ⟨.value (.tmp i),args,ats⟩)) st sl rg H E=fq P X (CW (lk sl rg i)) (mp (eq' sl rg) args.toList) (hX m H) (fun v H'=>R P X nl nt B n (.af L l (CX m (uL P (.call ⟨.value (.tmp i),args,ats⟩) (eq' sl rg) H H')) (cz sk d) d v) st sl rg (hY m H H') E):=rfl
theorem MW{args:Array Operand}{ats:Array TypeId}:R P X nl nt B (n +1) (.ex L l m sk d (.call ⟨.value (.const w),args,ats⟩)) st sl rg H E=fq P X (CW w) (mp (eq' sl rg) args.toList) (hX m H) (fun v H'=>R P X nl nt B n (.af L l (CX m (uL P (.call ⟨.value (.const w),args,ats⟩) (eq' sl rg) H H')) (cz sk d) d v) st sl rg (hY m H H') E):=rfl
theorem XT{nm:String}{args:Array Operand}{ats:Array TypeId}:R P X nl nt B (n +1) (.ex L l m sk d (.call ⟨.invoke x nm,args,ats⟩)) st sl rg H E=fq P X (ai (vE (eq' sl rg x)) fun p=>ai (methodOf P p.1 nm) fun q=>some (q.1,[p.2],[])) (mp (eq' sl rg) args.toList) (hX m H) (fun v H'=>R P X nl nt B n (.af L l (CX m (uL P (.call ⟨.invoke x nm,args,ats⟩) (eq' sl rg) H H')) (cz sk d) d v) st sl rg (hY m H H') E):=rfl
theorem abk{bi:Builtin}{args:Array Operand}{ats:Array TypeId}:R P X nl nt B (n +1) (.ex L l m sk d (.call ⟨.builtin bi,args,ats⟩)) st sl rg H E=sU bi ats.toList (mp (eq' sl rg) args.toList) P (hX m H) (fun v=>R P X nl nt B n (.af L l (vv m) (cz sk d) d v) st sl rg H E) (fun v H'=>R P X nl nt B n (.af L l (CX m (uL P (.call ⟨.builtin bi,args,ats⟩) (eq' sl rg) H H')) (cz sk d) d v) st sl rg (hY m H H') E):=rfl
end eqs
theorem EE:type_of%(J @aaN<|J @aaO<|J @aaP<|J @aaQ<|J @aaR<|J @aaS<|J @yM<|J @yN<|J @Xc<|J @MC<|J @Im<|J @R9<|J @R_<|J @Sa<|J @aaT<|J @aaU<|J @Sb<|J @MF<|J @Xd<|J @aaV<|J @aaW<|J @aaX<|J @aaY<|J @aaZ<|J @aa0<|J @aa1<|J @aa2<|J @Xe<|J @Xf<|J @Xh<|J @Xi<|J @Xj<|J @Xk<|J @Xl<|J @aa3<|J @aa4<|J @aa5<|J @aa6<|J @aa7<|J @aa8<|J @aa9<|J @aba<|J @Xm<|J @Sd<|J @Se<|J @Sf<|J @Xn<|J @Sg<|J @Si<|J @Sj<|J @Xo<|J @Xp<|J @Xq<|J @Xr<|J @Xw<|J @Xx<|J @Xy<|J @Y8<|J @Sr<|J @Ss<|J @Kk<|J @Su<|J @Sv<|J @Sw<|J @Sy<|J @Sz<|J @SA<|J @Xz<|J @XA<|J @abb<|J @XB<|J @abd<|J @XC<|J @XD<|J @XE<|J @XF<|J @XG<|J @XH<|J @SC<|J @Io<|J @abe<|J @SE<|J @XI<|J @XJ<|J @XK<|J @XL<|J @XM<|J @XN<|J @XO<|J @l_call<|J @MK<|J @ML<|J @XP<|J @abf<|J @abg<|J @abh<|J @Ip<|J @l_conv<|J @SF<|J @MM<|J @abj<|J @MN<|J @XQ<|J @MO<|J @xK<|J @Iq<|J @SG<|J @MP<|J @B6<|J @MQ<|J @SI<|J @Ef<|J @rA<|J @Eg<|J @zG<|J @MR<|J @zH<|J @MS<|J @zI<|J @MU<|J @Ir<|J @zJ<|J @MV<|J @SK<|J @Eh<|J @SL<|J @XR<|J @MW<|J @XT @abk):=J @aaN<|J @aaO<|J @aaP<|J @aaQ<|J @aaR<|J @aaS<|J @yM<|J @yN<|J @Xc<|J @MC<|J @Im<|J @R9<|J @R_<|J @Sa<|J @aaT<|J @aaU<|J @Sb<|J @MF<|J @Xd<|J @aaV<|J @aaW<|J @aaX<|J @aaY<|J @aaZ<|J @aa0<|J @aa1<|J @aa2<|J @Xe<|J @Xf<|J @Xh<|J @Xi<|J @Xj<|J @Xk<|J @Xl<|J @aa3<|J @aa4<|J @aa5<|J @aa6<|J @aa7<|J @aa8<|J @aa9<|J @aba<|J @Xm<|J @Sd<|J @Se<|J @Sf<|J @Xn<|J @Sg<|J @Si<|J @Sj<|J @Xo<|J @Xp<|J @Xq<|J @Xr<|J @Xw<|J @Xx<|J @Xy<|J @Y8<|J @Sr<|J @Ss<|J @Kk<|J @Su<|J @Sv<|J @Sw<|J @Sy<|J @Sz<|J @SA<|J @Xz<|J @XA<|J @abb<|J @XB<|J @abd<|J @XC<|J @XD<|J @XE<|J @XF<|J @XG<|J @XH<|J @SC<|J @Io<|J @abe<|J @SE<|J @XI<|J @XJ<|J @XK<|J @XL<|J @XM<|J @XN<|J @XO<|J @l_call<|J @MK<|J @ML<|J @XP<|J @abf<|J @abg<|J @abh<|J @Ip<|J @l_conv<|J @SF<|J @MM<|J @abj<|J @MN<|J @XQ<|J @MO<|J @xK<|J @Iq<|J @SG<|J @MP<|J @B6<|J @MQ<|J @SI<|J @Ef<|J @rA<|J @Eg<|J @zG<|J @MR<|J @zH<|J @MS<|J @zI<|J @MU<|J @Ir<|J @zJ<|J @MV<|J @SK<|J @Eh<|J @SL<|J @XR<|J @MW<|J @XT @abk
theorem ED:type_of%(J @aaL<|J @aaM<|J @Xg<|J @Sk<|J @Xu<|J @Sl<|J @MG<|J @Sm<|J @MH<|J @Sn<|J @Sq<|J @MI @Xv):=J @aaL<|J @aaM<|J @Xg<|J @Sk<|J @Xu<|J @Sl<|J @MG<|J @Sm<|J @MH<|J @Sn<|J @Sq<|J @MI @Xv
section sound
variable{P:Program}{X:Xt}{nl nt:Nat}{B:Code}{sl:Fr}{rg:Rs}{H H':aa}{s:St}{st:List Fm}{E:Out→Prop}{t d u:Nat}{v:Value}
def KO(nl nt:Nat)(sl:Fr):Prop:=(∀t,hs sl t=aS nl t)∧∀t,aS nl t=true→t<nt
theorem B_{i t:Nat}(h:i≠t):Nat.beq i t=false:=by
 rw[←Bool.not_eq_true];exact fun g=>h (Nat.eq_of_beq_eq_true g)
theorem XU:hs (up sl t v) u=hs sl u:=by
 induction sl with
 |n=>rfl
 |c i w l ih=>
  show hs (av (Nat.beq i t) (.c i v l) (.c i w (up l t v))) u=av (Nat.beq i u) true (hs l u)
  cases Nat.beq i t
  ·show av (Nat.beq i u) true (hs (up l t v) u)=_
   rw[ih]
  ·rfl
theorem KO.up(h:KO nl nt sl):KO nl nt (up sl t v):=⟨fun u=>by rw[XU];exact h.1 u,h.2⟩
theorem Cb:lk sl rg t=av (hs sl t) ((tsF sl).get top t) (look rg t):=by
 induction sl with
 |n=>rfl
 |c i v l ih=>
  show av (Nat.beq i t) v (lk l rg t)=av (av (Nat.beq i t) true (hs l t)) (((tsF l).set top i v).get top t) (look rg t)
  rw[Tr.jP]
  by_cases e:i=t
  ·subst e;rw[show Nat.beq i i=true from Nat.beq_refl i,if_pos rfl];rfl
  ·rw[B_ e,if_neg (fun h=>e h.symm),ih];rfl
theorem qQ(h:KO nl nt sl)(t:Nat):aX (S nl nt sl rg H) t=lk sl rg t:=by
 rw[Cb,h.1];rfl
theorem abl:lk (up sl d v) rg t=av (hs sl d&&Nat.beq d t) v (lk sl rg t):=by
 induction sl with
 |n=>rfl
 |c i w l ih=>
  show lk (av (Nat.beq i d) (.c i v l) (.c i w (up l d v))) rg t=av (av (Nat.beq i d) true (hs l d)&&Nat.beq d t) v (av (Nat.beq i t) w (lk l rg t))
  by_cases e:i=d
  ·subst e
   rw[show Nat.beq i i=true from Nat.beq_refl i]
   show av (Nat.beq i t) v (lk l rg t)=av (Nat.beq i t) v (av (Nat.beq i t) w (lk l rg t))
   cases Nat.beq i t<;>rfl
  ·rw[B_ e]
   show av (Nat.beq i t) w (lk (up l d v) rg t)=av (hs l d&&Nat.beq d t) v (av (Nat.beq i t) w (lk l rg t))
   rw[ih]
   by_cases e2:i=t
   ·subst e2
    rw[B_ (fun h=>e h.symm),Bool.and_false];rfl
   ·rw[B_ e2];rfl
theorem abm(hk:KO nl nt sl)(he:fF s (S nl nt sl rg H))(d:Nat)(v:Value)(H':aa):fF (gX s d v H') (S nl nt (av (hs sl d) (up sl d v) sl) (av (hs sl d) rg ((d,v)::rg)) H'):=by
 refine(he.gX d v H').trans ?_
 obtain⟨a1,a2,a3,a4⟩:=Av (S nl nt sl rg H) d v H'
 refine⟨a1,a2,a3,a4,fun t=>?_⟩
 have hw:wr (S nl nt sl rg H) d=true:=by
  show av (aS nl d) (Nat.ble (Nat.succ d) nt) true=true
  cases hb:aS nl d with
  |true=>exact Nat.ble_eq_true_of_le (hk.2 d hb)
  |false=>rfl
 rw[nK,hw,qQ hk]
 cases hh:hs sl d with
 |true=>
  show _=aX (S nl nt (up sl d v) rg H') t
  rw[qQ hk.up,abl,hh]
  by_cases e:d=t
  ·subst e;rw[if_pos ⟨rfl,rfl⟩,show Nat.beq d d=true from Nat.beq_refl d];rfl
  ·rw[if_neg (fun h=>e h.1),B_ e];rfl
 |false=>
  show _=aX (S nl nt sl ((d,v)::rg) H') t
  rw[qQ hk,Cb,Cb,uG]
  by_cases e:d=t
  ·subst e;rw[if_pos ⟨rfl,rfl⟩,if_pos rfl,hh];rfl
  ·rw[if_neg (fun h=>e h.1),if_neg e]
theorem acD(hk:KO nl nt sl)(he:fF s (S nl nt sl rg H)):wr s d=true:=by
 show av (aS s.nl d) (Nat.ble (Nat.succ d) s.nt) true=true
 rw[he.nl,he.nt]
 show av (aS nl d) (Nat.ble (Nat.succ d) nt) true=true
 cases hb:aS nl d with
 |true=>exact Nat.ble_eq_true_of_le (hk.2 d hb)
 |false=>rfl
theorem KO.of(h:PD nl nt sl=true):KO nl nt sl:=by
 unfold PD at h
 rw[Bool.and_eq_true,Bool.and_eq_true]at h
 obtain⟨⟨h1,h2⟩,h3⟩:=h
 have hn:nl<2^nt:=Nat.le_of_ble_eq_true h1
 have hb:∀t,nt≤t→aS nl t=false:=fun t ht=>by
  show Nat.beq (Nat.mod (Nat.shiftRight nl t) 2) 1=false
  have:Nat.shiftRight nl t=0:=by
   show nl>>>t=0
   rw[Nat.shiftRight_eq_div_pow]
   exact Nat.div_eq_of_lt (Nat.lt_of_lt_of_le hn (Nat.pow_le_pow_right (by omega) ht))
  rw[this];rfl
 have hq:∀t,t<nt→hs sl t=aS nl t:=by
  intro t ht
  clear h1 h3 hn hb
  induction nt with
  |zero=>omega
  |succ n ih=>
   replace h2:(av (hs sl n) (aS nl n) (!(aS nl n))&&_)=true:=h2
   rw[Bool.and_eq_true]at h2
   by_cases e:t=n
   ·subst e
    have:=h2.1
    cases h5:hs sl t with
    |true=>rw[h5]at this;exact this.symm
    |false=>rw[h5,bX]at this;rw[Bool.not_eq_true']at this;exact this.symm
   ·exact ih h2.2 (by omega)
 have hz:∀t,nt≤t→hs sl t=false:=by
  intro t ht
  clear h1 h2 hn hb hq
  induction sl with
  |n=>rfl
  |c i w l ih=>
   replace h3:(Nat.ble (Nat.succ i) nt&&_)=true:=h3
   rw[Bool.and_eq_true]at h3
   have:=Nat.le_of_ble_eq_true h3.1
   show av (Nat.beq i t) true (hs l t)=false
   rw[B_ (by omega)]
   exact ih h3.2
 refine⟨fun t=>?_,fun t ht=>?_⟩
 ·by_cases h:t<nt
  ·exact hq t h
  ·rw[hz t (by omega),hb t (by omega)]
 ·by_cases h:t<nt
  ·exact h
  ·rw[hb t (by omega)]at ht;cases ht
theorem SN{o:Op}{Kp:Value→Prop}{Km:Value→aa→Prop}:Pw o P X s Kp Km=opG o P X (ev s) s.H Kp Km:=by
 cases o with
 |call c=>
  obtain⟨callee,args,ats⟩:=c
  cases callee with
  |builtin b=>cases b<;>rfl
  |_=>rfl
 |_=>rfl
theorem PUm{q:Option Value}{K K':Value→Prop}(hp:∀v,K v→K' v)(h:PU q K):PU q K':=by
 cases q with
 |none=>exact h.elim
 |some v=>exact hp v h
theorem MEm{q:Option (Value×aa)}{K K':Value→aa→Prop}(hp:∀v H,K v H→K' v H)(h:ME q K):ME q K':=by
 cases q with
 |none=>exact h.elim
 |some v=>exact hp _ _ h
theorem CVm{q:Option Value}{r:Option (Value×aa)}{Kp Kp':Value→Prop}{K K':Value→aa→Prop}(hp:∀v,Kp v→Kp' v)(hm:∀v H,K v H→K' v H)(h:CV q r Kp K):CV q r Kp' K':=by
 cases q with
 |none=>exact MEm hm h
 |some v=>exact hp _ h
theorem SQ{q:Option (FuncId×List Value×List Value)}{args:List Value}{K K':Value→aa→Prop}(hm:∀v H,K v H→K' v H)(h:fq P X q args H K):fq P X q args H K':=by
 cases q with
 |none=>exact h.elim
 |some v=>exact ak.mono (K:=K) h hm
theorem Iu{o:Op}{ρ:Operand→Value}{Kp Kp':Value→Prop}{Km Km':Value→aa→Prop}(hp:∀v,Kp v→Kp' v)(hm:∀v H,Km v H→Km' v H)(h:opG o P X ρ H Kp Km):opG o P X ρ H Kp' Km':=by
 cases o with
 |call c=>
  obtain⟨callee,args,ats⟩:=c
  cases callee with
  |builtin b=>cases b<;>first|exact CVm hp hm h|exact PUm hp h|exact MEm hm h|exact False.elim h
  |value f=>exact SQ hm h
  |invoke r n=>exact SQ hm h
 |_=>first|exact hp _ h|exact CVm hp hm h|exact PUm hp h|exact MEm hm h|exact False.elim h
def KK(P:Program)(X:Xt)(B:Code)(st:List Fm)(E:Out→Prop)(o:Out):Prop:=∃o',qx o o'∧kO P X B st E o'
theorem aR.kk{c:Code}(h:aR P X c s (KK P X B st E)):aR P X c s (kO P X B st E):=by
 obtain⟨o,o',h1,h2,o2,h3,h4⟩:=h
 exact⟨o,o2,h1,h2.trans h3,h4⟩
noncomputable def WM(P:Program)(X:Xt)(B:Code)(st:List Fm)(E:Out→Prop)(L l:List Oper)(m:Md)(s:St)(sk:List Nat):Prop:=
 @Md.rec (fun _=>Prop) (p8 P X ⟨L⟩ l s sk (fun s=>KK P X B st E (.norm s))) (fun O acc=>Kb P X ⟨L⟩ l s sk acc (fun s cls=>bO O cls=true∧KK P X B st E (.norm s))) m
noncomputable def KG(P:Program)(X:Xt)(B:Code)(st:List Fm)(E:Out→Prop)(L l:List Oper)(m:Md)(d:Option Nat)(o:Op)(b:Bool)(s:St)(sk:List Nat):Prop:=
 @Md.rec (fun _=>Prop)
  (@Bool.rec (fun _=>Prop) (p8 P X ⟨L⟩ l (bG s d undef s.H) (De s sk d) (fun s=>KK P X B st E (.norm s)))
    (@Option.rec Call (fun _=>Prop) (Pw o P X s (fun v=>p8 P X ⟨L⟩ l (bG s d v s.H) (cz sk d) (fun s=>KK P X B st E (.norm s))) (fun v H=>p8 P X ⟨L⟩ l (bG s d v H) (cz sk d) (fun s=>KK P X B st E (.norm s)))) (fun _=>False) (iE o)) b)
  (fun O acc=>@Bool.rec (fun _=>Prop) (Kb P X ⟨L⟩ l (bG s d undef s.H) (De s sk d) (cl 0::acc) (fun s cls=>bO O cls=true∧KK P X B st E (.norm s)))
   (Pw o P X (aV s) (fun v=>Kb P X ⟨L⟩ l (bG s d v s.H) (cz sk d) (cl 0::acc) (fun s cls=>bO O cls=true∧KK P X B st E (.norm s))) (fun v H=>Kb P X ⟨L⟩ l (bG s d v ⟨H.j6,H.next,fH s.H.low H.low⟩) (cz sk d) (iR P o s H::acc) (fun s cls=>bO O cls=true∧KK P X B st E (.norm s)))) b) m
noncomputable def Sem(P:Program)(X:Xt)(B:Code)(st:List Fm)(E:Out→Prop):Ct→St→Prop
 |.co c _,s=>aR P X c s (kO P X B st E)
 |.cd v a b _,s=>vk v (aR P X a s (kO P X B st E)) (aR P X b s (kO P X B st E))
 |.ou k,s=>∃s',fF s s'∧kO P X B st E (k.out s')
 |.op L l m sk,s=>WM P X B st E L l m s sk
 |.gu L l m sk d o gb t,s=>@Option.rec Nat (fun _=>Prop) False (fun t=>@Bool.rec (fun _=>Prop)
  (vk (bK (aX s t)) (KG P X B st E L l m d o (qw true gb) (gX s t (.bool true) s.H) (j_ sk t)) (KG P X B st E L l m d o (qw false gb) (gX s t (.bool false) s.H) (j_ sk t)))
  (KG P X B st E L l m d o false s sk) (pZ sk t)) t
 |.gv L l m sk d o gb t e v,s=>@Bool.rec (fun _=>Prop)
  (vk v (KG P X B st E L l m d o (qw true gb) (gX s t (.bool true) s.H) (j_ sk t)) (KG P X B st E L l m d o (qw false gb) (gX s t (.bool false) s.H) (j_ sk t)))
  (KG P X B st E L l m d o false s sk) e
 |.ge L l m sk d o b,s=>KG P X B st E L l m d o b s sk
 |.ex L l m sk d o,s=>KG P X B st E L l m d o true s sk
 |.pk L l m sk d c a b,s=>PU (ai c fun t=>some (av t a b)) fun v=>WM P X B st E L l m (bG s d v s.H) sk
 |.af L l m sk d v,s=>WM P X B st E L l m (bG s d v s.H) sk
 |.pt _ t v nx,s=>Sem P X B st E nx (gX s t v s.H)
def FOk(B:Code)(st:List Fm):Prop:=∀p c,Fm.sq p c∈st→sub B (oP p [])=c
def COk(B:Code)(g:Nat→Bool):Ct→Prop
 |.co c p=>sub B (oP p [])=c
 |.cd _ a b p=>∃x,sub B (oP p [])=.cond x a b
 |.pt h t _ nx=>h=g t∧COk B g nx
 |_=>True
theorem Y9:∀{p q:List Nat},sub B (oP p q)=sub (sub B (oP p [])) q:=by
 intro p
 induction p with
 |nil=>intro q;rfl
 |cons i p ih=>
  intro q
  show sub B (oP p (i::q))=sub (sub B (oP p [i])) q
  rw[ih (q:=i::q),ih (q:=[i])];rfl
theorem Cc{i:Nat}{p:List Nat}{c:Code}(h:sub B (oP p [])=c):sub B (oP (i::p) [])=kid c i:=by
 show sub B (oP p [i])=_
 rw[Y9,h];rfl
theorem acE(hk:KO nl nt sl)(he:fF s (S nl nt sl rg H)):ev s=eq' sl rg:=by
 rw[he.ev]
 funext x
 cases x with
 |tmp t=>exact qQ hk t
 |_=>rfl
theorem snd:∀n ct st sl rg H s,FOk B st→KO nl nt sl→COk B (hs sl) ct→fF s (S nl nt sl rg H)→R P X nl nt B n ct st sl rg H E→Sem P X B st E ct s:=by
 intro n
 induction n with
 |zero=>intro ct st sl rg H s _ _ _ _ h;exact False.elim (by simp only[R]at h)
 |succ n ih=>
  intro ct st sl rg H s hf hk hc he h
  have hH:s.H=H:=he.H
  have hev:=acE hk he
  cases ct with
  |co c p=>
   replace hc:sub B (oP p [])=c:=hc
   cases c with
   |skip=>
    obtain⟨s',e,h⟩:=ih (.ou .norm) st sl rg H s hf hk trivial he h
    exact⟨_,_,Ev.skip,.norm e,h⟩
   |region id ops dr=>
    have hcl:fF (clear s) (S nl nt sl [] H):=by
     refine⟨he.nl,he.nt,he.df,he.H,fun t=>?_⟩
     rw[vU,he.lk,qQ hk,qQ hk,Cb,Cb,he.nl]
     show av (aS nl t) _ top=_
     rw[←hk.1]
     show av (hs sl t) (av (hs sl t) _ _) top=av (hs sl t) _ top
     cases hs sl t<;>rfl
    refine aR.kk (Vv ?_)
    cases dr with
    |false=>exact ih (.op ops.toList ops.toList .pl []) st sl [] H (clear s) hf hk trivial hcl h
    |true=>
     obtain⟨h1,h⟩:(bV ops&&f_ ops)=true∧R P X nl nt B n (.op ops.toList ops.toList (.dr (opsOf (sub B (oP p []))) []) []) st sl [] H E:=h
     have h2:=ih (.op ops.toList ops.toList (.dr (opsOf (sub B (oP p []))) []) []) st sl [] H (clear s) hf hk trivial hcl h
     rw[hc]at h2
     show @Bool.rec (fun _=>Prop) False (Kb P X ops ops.toList (clear s) [] [] (fun s cls=>bO ops cls=true∧KK P X B st E (.norm s))) (bV ops&&f_ ops)
     rw[h1];exact h2
   |seq a b=>
    refine aR.seq ?_
    have h1:=Cc (i:=1) hc
    have key:∀f:Fm,f=.sj (1::p)∨f=.sq (1::p) b→kO P X B (f::st) E=kH P X b (kO P X B st E)∧FOk B (f::st):=by
     intro f hff
     refine⟨?_,fun q c hq=>?_⟩
     ·rcases hff with rfl|rfl<;>(show kH P X (sub B (oP (1::p) [])) _=_;rw[h1];rfl)
     ·rcases List.mem_cons.1 hq with e|hq
      ·rcases hff with rfl|rfl
       ·cases e
       ·cases e;exact h1
      ·exact hf q c hq
    replace h:R P X nl nt B n (.co a (0::p)) (av (xy a b) (.sj (1::p)) (.sq (1::p) b)::st) sl rg H E:=h
    obtain⟨k1,k2⟩:=key (av (xy a b) (.sj (1::p)) (.sq (1::p) b)) (by cases xy a b;exact .inr rfl;exact .inl rfl)
    have:=ih (.co a (0::p)) _ sl rg H s k2 hk (Cc (i:=0) hc) he h
    replace this:aR P X a s (kO P X B (av (xy a b) (.sj (1::p)) (.sq (1::p) b)::st) E):=this
    rw[k1]at this
    exact this
   |cond x a b=>
    have:=ih (.cd (bK (eq' sl rg x)) a b p) st sl rg H s hf hk ⟨x,hc⟩ he h
    replace this:vk (bK (eq' sl rg x)) (aR P X a s (kO P X B st E)) (aR P X b s (kO P X B st E)):=this
    rw[←hev]at this
    rcases Fq this with⟨hv,h⟩|⟨hv,h⟩
    ·obtain⟨o,o',h1,h2,h3⟩:=h;exact⟨o,o',Ev.cond hv h1,h2,h3⟩
    ·obtain⟨o,o',h1,h2,h3⟩:=h;exact⟨o,o',Ev.cond hv h1,h2,h3⟩
   |block id a=>
    refine aR.block ?_
    exact ih (.co a (0::p)) (.bk id::st) sl rg H s (fun q c hq=>by
     rcases List.mem_cons.1 hq with e|hq
     ·cases e
     ·exact hf q c hq) hk (Cc (i:=0) hc) he h
   |loop a=>
    replace h:aR P X (.loop (sub B (oP (0::p) []))) (S nl nt sl rg H) (kO P X B st E):=h
    rw[Cc hc]at h
    exact aR.alike he h
   |scope a=>
    replace h:aR P X (.scope (sub B (oP (0::p) []))) (S nl nt sl rg H) (kO P X B st E):=h
    rw[Cc hc]at h
    exact aR.alike he h
   |exit i=>
    obtain⟨s',e,h⟩:=ih (.ou (.exit i)) st sl rg H s hf hk trivial he h
    exact⟨_,_,Ev.exit,.exit i e,h⟩
   |goto i=>
    obtain⟨s',e,h⟩:=ih (.ou (.goto i)) st sl rg H s hf hk trivial he h
    exact⟨.goto i s,_,⟨by simp,0,rfl⟩,.goto i e,h⟩
   |label i=>
    obtain⟨s',e,h⟩:=ih (.ou .norm) st sl rg H s hf hk trivial he h
    exact⟨_,_,Ev.label,.norm e,h⟩
   |ret=>
    obtain⟨s',e,h⟩:=ih (.ou .ret) st sl rg H s hf hk trivial he h
    exact⟨_,_,Ev.ret,.ret e,h⟩
   |_=>exact False.elim h
  |cd v a b p=>
   obtain⟨x,hc⟩:=hc
   replace h:vk v (R P X nl nt B n (.co a (0::p)) st sl rg H E) (R P X nl nt B n (.co b (1::p)) st sl rg H E):=h
   show vk v (aR P X a s (kO P X B st E)) (aR P X b s (kO P X B st E))
   rcases Fq h with⟨rfl,h⟩|⟨rfl,h⟩
   ·exact ih (.co a (0::p)) st sl rg H s hf hk (Cc (i:=0) hc) he h
   ·exact ih (.co b (1::p)) st sl rg H s hf hk (Cc (i:=1) hc) he h
  |ou k=>
   show∃s',fF s s'∧kO P X B st E (k.out s')
   cases st with
   |nil=>
    rw[Y8]at h
    exact⟨_,he,h⟩
   |cons f st=>
    have hf':FOk B st:=fun q c hq=>hf q c (List.mem_cons_of_mem _ hq)
    cases f with
    |sq p c=>
     cases k with
     |norm=>
      have h1:aR P X c s (kO P X B st E):=ih (.co c p) st sl rg H s hf' hk (hf p c (List.mem_cons_self ..)) he h
      refine⟨s,fF.refl s,?_⟩
      show aR P X (sub B (oP p [])) s (kO P X B st E)
      rw[hf p c (List.mem_cons_self ..)];exact h1
     |exit i=>exact ih (.ou (.exit i)) st sl rg H s hf' hk trivial he h
     |goto i=>exact ih (.ou (.goto i)) st sl rg H s hf' hk trivial he h
     |ret=>exact ih (.ou .ret) st sl rg H s hf' hk trivial he h
    |sj p=>
     cases k with
     |norm=>exact⟨_,he,h⟩
     |exit i=>exact ih (.ou (.exit i)) st sl rg H s hf' hk trivial he h
     |goto i=>exact ih (.ou (.goto i)) st sl rg H s hf' hk trivial he h
     |ret=>exact ih (.ou .ret) st sl rg H s hf' hk trivial he h
    |bk id=>
     rw[Kk]at h
     obtain⟨s',e,h⟩:=ih (.ou (Xb id k)) st sl rg H s hf' hk trivial he h
     refine⟨s',e,?_⟩
     show kO P X B st E (lD id (k.out s'))
     have:lD id (k.out s')=(Xb id k).out s':=by
      cases k with
      |exit i=>
       show av (Nat.beq i id) _ _=Kd.out (av (Nat.beq i id) _ _) s'
       cases Nat.beq i id<;>rfl
      |_=>rfl
     rw[this];exact h
  |op L l m sk=>
   cases l with
   |nil=>
    cases m with
    |pl=>
     obtain⟨s',e,h⟩:=ih (.ou .norm) st sl rg H s hf hk trivial he h
     exact⟨_,.norm e,h⟩
    |dr O acc=>
     obtain⟨h1,h⟩:bO O acc=true∧R P X nl nt B n (.ou .norm) st sl rg H E:=h
     obtain⟨s',e,h⟩:=ih (.ou .norm) st sl rg H s hf hk trivial he h
     exact⟨h1,_,.norm e,h⟩
   |cons o l=>
    obtain⟨d,op,ty,pos,af,g⟩:=o
    cases g with
    |none=>
     have:=ih (.ex L l m sk d op) st sl rg H s hf hk trivial he h
     cases m<;>exact this
    |some g=>
     have:=ih (.gu L l m sk d op g.2 (Z6 L g.1)) st sl rg H s hf hk trivial he h
     replace this:@Option.rec Nat (fun _=>Prop) False _ (ai (nth L g.1) fun o=>o.dst):=this
     have key:YL ⟨L⟩ s sk (some g) (KG P X B st E L l m d op):=by
      show @Option.rec Oper (fun _=>Prop) False _ (nth L g.1)
      cases hn:nth L g.1 with
      |none=>rw[hn]at this;exact this
      |some o=>
       rw[hn]at this
       replace this:@Option.rec Nat (fun _=>Prop) False _ o.dst:=this
       show @Option.rec Nat (fun _=>Prop) False _ o.dst
       cases ho:o.dst with
       |none=>rw[ho]at this;exact this
       |some t=>rw[ho]at this;exact this
     cases m<;>exact key
  |gu L l m sk d o gb t=>
   cases t with
   |none=>exact False.elim h
   |some t=>
    have:=ih (.gv L l m sk d o gb t (pZ sk t) (bK (lk sl rg t))) st sl rg H s hf hk trivial he h
    have hl:aX s t=lk sl rg t:=by rw[he.lk,qQ hk]
    rw[←hl]at this
    exact this
  |gv L l m sk d o gb t e v=>
   cases e with
   |true=>exact ih (.ge L l m sk d o false) st sl rg H s hf hk trivial he h
   |false=>
    replace h:vk v (R P X nl nt B n (.pt (hs sl t) t (.bool true) (.ge L l m (j_ sk t) d o (qw true gb))) st sl rg H E) (R P X nl nt B n (.pt (hs sl t) t (.bool false) (.ge L l m (j_ sk t) d o (qw false gb))) st sl rg H E):=h
    show vk v (KG P X B st E L l m d o (qw true gb) (gX s t (.bool true) s.H) (j_ sk t)) (KG P X B st E L l m d o (qw false gb) (gX s t (.bool false) s.H) (j_ sk t))
    rcases Fq h with⟨rfl,h⟩|⟨rfl,h⟩
    ·exact ih (.pt (hs sl t) t (.bool true) (.ge L l m (j_ sk t) d o (qw true gb))) st sl rg H s hf hk ⟨rfl,trivial⟩ he h
    ·exact ih (.pt (hs sl t) t (.bool false) (.ge L l m (j_ sk t) d o (qw false gb))) st sl rg H s hf hk ⟨rfl,trivial⟩ he h
  |ge L l m sk d o b=>
   cases b with
   |true=>exact ih (.ex L l m sk d o) st sl rg H s hf hk trivial he h
   |false=>
    have:=ih (.af L l (vv m) (OB sk d) d undef) st sl rg H s hf hk trivial he h
    have ha:De s sk d=OB sk d:=by
     cases d with
     |none=>rfl
     |some d=>show av (wr s d) _ _=_;rw[acD hk he];rfl
    cases m with
    |pl=>show p8 P X ⟨L⟩ l (bG s d undef s.H) (De s sk d) _;rw[ha];exact this
    |dr O acc=>show Kb P X ⟨L⟩ l (bG s d undef s.H) (De s sk d) (cl 0::acc) _;rw[ha];exact this
  |ex L l m sk d o=>
   show KG P X B st E L l m d o true s sk
   have val:∀v,R P X nl nt B n (.af L l (vv m) (cz sk d) d v) st sl rg H E→WM P X B st E L l (vv m) (bG s d v s.H) (cz sk d):=fun v hv=>ih (.af L l (vv m) (cz sk d) d v) st sl rg H s hf hk trivial he hv
   have gen:iE o=none→opG o P X (eq' sl rg) (hX m H) (fun v=>R P X nl nt B n (.af L l (vv m) (cz sk d) d v) st sl rg H E) (fun v H'=>R P X nl nt B n (.af L l (CX m (uL P o (eq' sl rg) H H')) (cz sk d) d v) st sl rg (hY m H H') E)→KG P X B st E L l m d o true s sk:=by
    intro hd h
    have hmem:∀v H2 m2,R P X nl nt B n (.af L l m2 (cz sk d) d v) st sl rg H2 E→WM P X B st E L l m2 (bG s d v H2) (cz sk d):=by
     intro v H2 m2 hv
     have:=ih (.af L l m2 (cz sk d) d v) st sl rg H2 ⟨s.nl,s.nt,s.reg,s.tm,s.df,H2⟩ hf hk trivial ⟨he.nl,he.nt,he.df,rfl,he.lk⟩ hv
     cases d<;>exact this
    cases m with
    |pl=>
     show @Option.rec Call (fun _=>Prop) _ (fun _=>False) (iE o)
     rw[hd]
     show Pw o P X s _ _
     rw[SN,hev,hH]
     refine Iu (fun v hv=>?_) (fun v H' hv=>hmem v H' .pl hv) h
     have:=val v hv
     rw[hH]at this
     exact this
    |dr O acc=>
     show Pw o P X (aV s) _ _
     rw[SN]
     have h1:ev (aV s)=ev s:=by funext x;cases x<;>rfl
     rw[h1,hev]
     have h2:(aV s).H=hN H:=by rw[←hH];rfl
     rw[h2]
     refine Iu (fun v hv=>val v hv) (fun v H' hv=>?_) h
     have h3:iR P o s H'=uL P o (eq' sl rg) H H':=by rw[←hev,←hH];rfl
     rw[h3,hH]
     exact hmem v _ _ hv
   cases o with
   |pick x y z=>
    have:=ih (.pk L l (vv m) (cz sk d) d (bK (eq' sl rg x)) (eq' sl rg y) (eq' sl rg z)) st sl rg H s hf hk trivial he h
    rw[←hev]at this
    cases m with
    |pl=>exact this
    |dr O acc=>
     show Pw (.pick x y z) P X (aV s) (fun v=>Kb P X ⟨L⟩ l (bG s d v s.H) (cz sk d) (cl 0::acc) (fun s cls=>bO O cls=true∧KK P X B st E (.norm s))) (fun _ _=>True)
     rw[SN,show ev (aV s)=ev s from by funext x;cases x<;>rfl]
     exact this
   |_=>first|exact gen rfl h|exact False.elim h
  |pk L l m sk d c a b=>
   exact PUm (fun v hv=>ih (.af L l m sk d v) st sl rg H s hf hk trivial he hv) h
  |af L l m sk d v=>
   cases d with
   |none=>exact ih (.op L l m sk) st sl rg H s hf hk trivial he h
   |some t=>exact ih (.pt (hs sl t) t v (.op L l m sk)) st sl rg H s hf hk ⟨rfl,trivial⟩ he h
  |pt b t v nx=>
   obtain⟨rfl,hc⟩:=hc
   have h1:=abm hk he t v s.H
   rw[hH]at h1
   show Sem P X B st E nx (gX s t v s.H)
   rw[hH]
   cases hb:hs sl t with
   |true=>
    rw[hb]at h h1
    exact ih nx st (up sl t v) rg H _ hf hk.up (by rw[show hs (up sl t v)=hs sl from funext fun u=>XU];exact hc) h1 h
   |false=>
    rw[hb]at h h1
    exact ih nx st sl ((t,v)::rg) H _ hf hk hc h1 h
theorem aR.go{p:List Nat}{c:Code}{n:Nat}(hk:PD nl nt sl=true)(hc:sub B (oP p [])=c)(h:R P X nl nt B n (.co c p) [] sl rg H E):aR P X c (S nl nt sl rg H) E:=
 snd n (.co c p) [] sl rg H _ (fun p c h=>nomatch h) (KO.of hk) hc (fF.refl _) h
end sound
end Go.Ae.M
