/-
  Part 18 of the proof. No condition.
-/
import Derived.Test.YtpngmpbmokhmiaaGreatDoorZ05
import Derived.Shelf.Sort.Plain
import Derived.Shelf.SlSortCmp.WholeK
import Derived.Shelf.SlLaysF0
import Derived.Lib.Small
import Derived.Lib.Walk
set_option linter.unusedVariables false
set_option linter.unusedSimpArgs false
set_option maxRecDepth 100000
set_option maxHeartbeats 4000000
set_option linter.defProp false
open Option renaming some->D,none->Q
open Bool renaming true->f,false->aC
open Go renaming Value->Z,TypeId->aH,Program->aU,World->bY
open Go.Value renaming int->bX,slice->I
open Nat renaming beq->aA
noncomputable section
namespace Go.Ae
open Go.Sort
variable{ρ:Go.Shelf.Ren}{α:Type}{args args':C Z}{m:Mp}{w:bY}{v:Z}{es gc:Nat}{H T:R}
def aln(zs:C Int):zs.flatMap enI=zs.map (bX .i64):=by
 induction zs with
 |nil=>rfl
 |cons z zs ih=>rw[nN,ih];rfl
def U1[Inhabited α](enc:α->Z)(w:bY)(b o:Nat)(d:C α):putRow enc w b o d.toArray=putRow id w b o (d.map enc).toArray:=by
 unfold putRow;refine mapBlock_congr _ _ _ _ λc _ _ _=>?_;unfold putCells;apply sJ;intro k;simp only[uO,List.size_toArray,aK];cases c[k]? with
 |none=>rfl
 |some x=>
  simp only[Option.map_some]
  by_cases h:o<=k/\k<o+d.length
  .have:k-o<d.length:=N;rw[if_pos h,if_pos h];simp[this]
  .rw[if_neg h,if_neg h]
def afk{P:aU}(Ly:Go.Proofs.Lays.n189 P ρ)(ho:orW enI srt 1 [] args H=D (v,T))(rh:RH m H w)(ha:k_ m args args'):
 Calls P (ρ.f 189) ⟨args'⟩ w λe w'=>∃m' v',e=.returned v'/\VR m' v v'/\RH m' T w'/\Ex m m' H T w w':=by
 refine abD aj1 ho rh ha λblk off cap zs rest' _ y h0 W hb hh=>?_;cases y;rw[aln]at hh|-;refine(Go.Proofs.Any.slices_Sort_int Ly blk off cap zs w (λj hj=>?_) hb N).mono ?_
 .have hj:j<zs.length:=hj;rw[show(zs.toArray)[j]! =zs[j] by simp[hj]];exact hh j _ (by rw[bF,av hj];rfl)
 .rintro e w' ⟨rfl,k,os,rfl⟩;refine⟨O,k,os,?_⟩;rw[U1];rfl
section
open Go.Sort Go.Proofs
def Put.flatK[Inhabited α]{enc:α->C Z}{ay:C α->C α}(hp:Put enc ay es)(zs:C α):Go.Sort.flatK enc es zs.toArray=(zs.flatMap enc).toArray:=by
 apply sJ;intro t
 by_cases h:t<zs.length*es
 .have hq:t/es<zs.length:=Nat.div_lt_of_lt_mul (by rw[vB];exact h);have y:t %es<es:=qA _ hp.pos;have e1:=hp.el zs (t/es) hq [];rw[bq]at e1;have e2:=mR (zs.flatMap enc) es (t/es)<|t %es;rw[if_pos y,e1,Nat.div_add_mod' t es]at e2;rw[show(zs.flatMap enc).toArray[t]?=(zs.flatMap enc)[t]? by simp,<-e2];have e3:=get_flatK enc es zs.toArray t h;have hs:t<(Go.Sort.flatK enc es zs.toArray).size:=by rw[size_flatK];exact h
  rw[vD _ t hs]at e3;rw[bC hs,e3];have hl:t %es<(enc zs[t/es]).length:=by rw[hp.len];exact y
  have e4:(zs.toArray)[t/es]! =zs[t/es]:=by rw[pY,vD zs _ hq]
  rw[show zs.toArray[t/es]! =zs[t/es]from e4,vD (enc zs[t/es]) (t %es) hl,av hl]
 .rw[Array.getElem?_eq_none (by rw[size_flatK];exact qP h),show(zs.flatMap enc).toArray[t]?=(zs.flatMap enc)[t]? by simp,fE (by rw[hp.flat];exact qP h)]
def cfR(x hr:Int×Int):Int:=Go.Lib.compareInt x.1 hr.1
def adi:ltOf cfR=ltR:=by
 funext x hr;unfold ltOf cfR Go.Lib.compareInt ltR
 by_cases W:x.1<hr.1
 .simp[W]
 .by_cases J:hr.1<x.1<;>simp[W,J]
def afl{P:aU}(L:SlLaysF0.n14 P ρ)(aE:∀w,(isAgg<|ρ.t 24).run P w=.ok f w)(zE:∀w,(Go.sizeOf<|ρ.t 24).run P w=.ok 2 w)(eg:∀args w,(callFunc gc args).run P w=.ok (.enter gc args) w)(hcmp:∀blk off size w,CmpLays P gc #[] enR 2 cfR blk off size w)(ho:orR (.func (.func gc) ⟨[]⟩ ⟨[]⟩) args H=D (v,T))(rh:RH m H w)(ha:k_ m args args'):
 Calls P (ρ.f 14) ⟨args'⟩ w λe w'=>∃m' v',e=.returned v'/\VR m' v v'/\RH m' T w'/\Ex m m' H T w w':=by
 unfold orR at ho;split at ho
 .next a n c l=>
  split at ho
  .next hl=>
   generalize aev (I a (n+1) c::l)=k at ho hl;refine abD (aeu k) ho rh ha λblk off cap zs rest' he y h0 W hb hh=>?_;have⟨r,c',he⟩:=he;injection he with e1 e2
   injection e1 with e3 e4 e5
   subst e2
   have y:rest'=[.int .i64 0,.int .i64 ((n+1:Nat):Int),.int .i64 (k:Nat),.func (.func gc) ⟨[]⟩ ⟨[]⟩]:=by
    obtain _|⟨_,_,_,_,v1,y⟩:=y;obtain _|⟨_,_,_,_,v2,y⟩:=y;obtain _|⟨_,_,_,_,v3,y⟩:=y;obtain _|⟨_,_,_,_,v4,y⟩:=y;cases y;rw[v1.of_int,v2.of_int,v3.of_int];cases v4 with
    |sc _ h=>rfl
    |func _ _ _ _ _ E hy=>cases E;cases hy;rfl
   subst y
   have hH:HoldsK enR 2 w blk off zs.toArray:=λj hj=>by
    rw[(aeu k).flatK]at hj|-;have hj:j<(zs.flatMap enR).length:=hj;rw[pY,vD (zs.flatMap enR) j hj];exact hh j _<|av hj
   have:=AnyQ.pdqsortCmpFunc_all L 2 aE zE enR cfR gc #[] (adi▸aj2) blk off cap zs.toArray w eg (hcmp _ _ _ _) ⟨λ_=>rfl,λx v hv=>by simp[enR]at hv;rcases hv with rfl|rfl<;>rfl,hH,hb⟩ (zs.length+1) 0 zs.length k zs.toArray w N rfl (SWK.start hH) (bA _) (ax _) (by show zs.length<_;omega) N<|.inl rfl;rw[e4];apply this.mono;rintro e w' ⟨rfl,q,os,rfl⟩;refine⟨O,q,os,?_⟩;show grow (putRow id (Sort.ahead w q) blk off<|Go.Sort.flatK enR 2<|pdq (ltOf cfR) zs.toArray 0 zs.length k f f) os=_;rw[adi];rw[<-(aeu k).flatK (fR k zs)];rfl
  .cases ho
 .cases ho
end
end Go.Ae
namespace Go.Proofs.Lu
def qf{P:Go.Program}{n:Nat}{x hr:Go.Func}(h:P.funcs[n]?=D x)(e:x=hr):P.funcs[n]?=D hr:=e▸h
def adj:Go.Shelf.Ren:=⟨λ|189=>160|125=>191|257=>190|128=>217|129=>218|294=>208|295=>209|296=>210|297=>211|298=>212|299=>213|216=>214|300=>215|301=>216|328=>230|329=>231|330=>232|331=>233|332=>234|215=>235|343=>247|n=>n,λ|28=>22|46=>164|51=>323|53=>105|183=>317|182=>316|131=>214|218=>333|222=>337|228=>349|229=>245|n=>n,id⟩
def am3:Go.Proofs.Lays.n189 Tryz.prog adj:=⟨by kernel_rfl,qf Tryz.func191 jr,qf Tryz.func217 jr,qf Tryz.func218 jr,qf Tryz.func160 jr,qf Tryz.func235 jr,qf Tryz.func214 jr,qf Tryz.func190 jr,qf Tryz.func208 jr,qf Tryz.func209 jr,qf Tryz.func210 jr,qf Tryz.func211 jr,qf Tryz.func212 jr,qf Tryz.func213 jr,qf Tryz.func215 jr,qf Tryz.func216 jr,qf Tryz.func230 jr,qf Tryz.func231 jr,qf Tryz.func232 jr,qf Tryz.func233 jr,qf Tryz.func234 jr,qf Tryz.func247 jr,Tryz.underlying0,Tryz.isAgg0,Tryz.sizeOf0,Tryz.zeroValue0,Tryz.underlying3,Tryz.isAgg3,Tryz.sizeOf3,Tryz.zeroValue3,Tryz.underlying4,Tryz.isAgg4,Tryz.sizeOf4,Tryz.zeroValue4,Tryz.underlying5,Tryz.isAgg5,Tryz.sizeOf5,Tryz.zeroValue5,Tryz.underlying9,Tryz.isAgg9,Tryz.sizeOf9,Tryz.zeroValue9,Tryz.underlying22,Tryz.isAgg22,Tryz.sizeOf22,Tryz.zeroValue22,Tryz.underlying164,Tryz.isAgg164,Tryz.sizeOf164,Tryz.zeroValue164,Tryz.underlying323,Tryz.isAgg323,Tryz.sizeOf323,Tryz.zeroValue323,Tryz.underlying105,Tryz.isAgg105,Tryz.sizeOf105,Tryz.zeroValue105,Tryz.underlying214,Tryz.isAgg214,Tryz.sizeOf214,Tryz.zeroValue214,Tryz.underlying316,Tryz.isAgg316,Tryz.sizeOf316,Tryz.zeroValue316,Tryz.underlying317,Tryz.isAgg317,Tryz.sizeOf317,Tryz.zeroValue317,Tryz.underlying333,Tryz.isAgg333,Tryz.sizeOf333,Tryz.zeroValue333,Tryz.underlying337,Tryz.isAgg337,Tryz.sizeOf337,Tryz.zeroValue337,Tryz.underlying349,Tryz.isAgg349,Tryz.sizeOf349,Tryz.zeroValue349,Tryz.underlying245,Tryz.isAgg245,Tryz.sizeOf245,Tryz.zeroValue245⟩
def adk:Go.Shelf.Ren:=⟨λ|14=>249|20=>251|21=>252|22=>253|23=>254|24=>255|25=>256|26=>257|27=>258|46=>259|47=>231|48=>232|49=>260|50=>261|15=>191|57=>262|28=>217|29=>218|n=>n,λ|24=>331|22=>218|25=>347|46=>317|45=>316|50=>214|66=>333|39=>164|55=>105|70=>337|76=>349|77=>245|53=>323|n=>n,id⟩
def am4:Go.Proofs.SlLaysF0.n14 Tryz.prog adk:=⟨by kernel_rfl,⟨Tryz.f249.name,by decide,qf Tryz.func249 jr⟩,qf Tryz.func191 jr,⟨Tryz.f251.name,by decide,qf Tryz.func251 jr⟩,⟨Tryz.f252.name,by decide,qf Tryz.func252 jr⟩,⟨Tryz.f253.name,by decide,qf Tryz.func253 jr⟩,⟨Tryz.f254.name,by decide,qf Tryz.func254 jr⟩,⟨Tryz.f255.name,by decide,qf Tryz.func255 jr⟩,⟨Tryz.f256.name,by decide,qf Tryz.func256 jr⟩,⟨Tryz.f257.name,by decide,qf Tryz.func257 jr⟩,⟨Tryz.f258.name,by decide,qf Tryz.func258 jr⟩,qf Tryz.func217 jr,qf Tryz.func218 jr,⟨Tryz.f259.name,by decide,qf Tryz.func259 jr⟩,qf Tryz.func231 jr,qf Tryz.func232 jr,⟨Tryz.f260.name,by decide,qf Tryz.func260 jr⟩,⟨Tryz.f261.name,by decide,qf Tryz.func261 jr⟩,⟨Tryz.f262.name,by decide,qf Tryz.func262 jr⟩,Tryz.underlying0,Tryz.isAgg0,Tryz.sizeOf0,Tryz.zeroValue0,Tryz.underlying3,Tryz.isAgg3,Tryz.sizeOf3,Tryz.zeroValue3,Tryz.underlying4,Tryz.isAgg4,Tryz.sizeOf4,Tryz.zeroValue4,Tryz.underlying5,Tryz.isAgg5,Tryz.sizeOf5,Tryz.zeroValue5,Tryz.underlying9,Tryz.isAgg9,Tryz.sizeOf9,Tryz.zeroValue9,Tryz.underlying218,Tryz.isAgg218,Tryz.sizeOf218,Tryz.zeroValue218,Tryz.underlying347,Tryz.isAgg347,Tryz.sizeOf347,Tryz.zeroValue347,Tryz.underlying164,Tryz.isAgg164,Tryz.sizeOf164,Tryz.zeroValue164,Tryz.underlying316,Tryz.isAgg316,Tryz.sizeOf316,Tryz.zeroValue316,Tryz.underlying317,Tryz.isAgg317,Tryz.sizeOf317,Tryz.zeroValue317,Tryz.underlying214,Tryz.isAgg214,Tryz.sizeOf214,Tryz.zeroValue214,Tryz.underlying323,Tryz.isAgg323,Tryz.sizeOf323,Tryz.zeroValue323,Tryz.underlying105,Tryz.isAgg105,Tryz.sizeOf105,Tryz.zeroValue105,Tryz.underlying333,Tryz.isAgg333,Tryz.sizeOf333,Tryz.zeroValue333,Tryz.underlying337,Tryz.isAgg337,Tryz.sizeOf337,Tryz.zeroValue337,Tryz.underlying349,Tryz.isAgg349,Tryz.sizeOf349,Tryz.zeroValue349,Tryz.underlying245,Tryz.isAgg245,Tryz.sizeOf245,Tryz.zeroValue245⟩
section
open Go.Shelf Go.Lib Go.RowKit Go.Ae
def am5(x:Int)(w:bY):Calls Tryz.prog 250 #[.int .i32 x] w λe w'=>e=.returned (.bool aC)/\w'=w:=by
 go_enter Tryz.func250,Tryz.ntmps250
 go_wp2
 go_ret
 exact⟨by simp,rfl⟩
def am6(x hr:Int)(w:bY):Calls Tryz.prog 243 #[.int .i32 x,.int .i32 hr] w λe w'=>e=.returned (.int .i64<|compareInt x hr)/\w'=w:=by
 go_enter Tryz.func243,Tryz.ntmps243
 go_wp2_with (go_at_call 250;refine(am5 _ _).mono ?_;rintro e w' ⟨rfl,hw⟩;rw[hw])
 all_goals(go_ret;refine⟨?_,O⟩;unfold compareInt;(repeat' split)<;>first|rfl|(exfalso;omega))
def am7(x hr:Int×Int)(h1:bY):Calls Tryz.prog 242 #[.agg #[.int .i32 x.1,.int .i32 x.2],.agg #[.int .i32 hr.1,.int .i32 hr.2]] h1 λe w'=>e=.returned (.int .i64<|compareInt x.1 hr.1)/\∃q os',w'=Go.Sort.grow (h1.drewN q) os':=by
 have hcon:=λW'=>am6 x.1 hr.1 W';generalize compareInt x.1 hr.1=r at hcon|-
 go_enter Tryz.func242,Tryz.ntmps242
 go_wp2_with (go_at_call 243;refine(hcon _).mono ?_;rintro e w' ⟨rfl,rfl⟩)
 go_ret
 exact⟨O,0,_,by rw[Go.Sort.alloc_eq_grow,Go.Sort.alloc_eq_grow,Go.Sort.grow_grow];rfl⟩
def alo(blk off size:Nat)(w:bY):CmpLays Tryz.prog 242 #[] enR 2 cfR blk off size w:=λ_ _ _ _ x hr=>am7 x hr _
end
section
open Go.Ae
def X0:Xt:=⟨λg=>bV (aA g 239) 1<|bV (aA g 220) 3 0,λ_ _ _=>Q⟩
def fns:all' (Z8 3) Pg.funcs.toList=f:=by kernel_rfl
def xat(g:Nat):X0 g=0\/TG Pg g (X0 g):=by
 by_cases W:g=239
 .subst W;exact .inr<|TG.same Tryz.func239 (by kernel_rfl) (by kernel_rfl) (by kernel_rfl) (by kernel_rfl)
 .by_cases J:g=220
  .subst J;exact .inr<|TG.index Tryz.func220 (by kernel_rfl) (by kernel_rfl) (by kernel_rfl) (by kernel_rfl)
  .left;have e1:aA g 239=aC:=by rw[<-b_];exactλh=>W<|aW h
   have e2:aA g 220=aC:=by rw[<-b_];exactλh=>J<|aW h
   show bV (aA g 239) 1 (bV (aA g 220) 3 0)=0;rw[e1,e2];rfl
def xs0:Zc Pg X0:=Zc.of xat
def xs:Zc Pg X:=Zc.of xat
def mixed:Pg.follows .mixedOrders=f:=by kernel_rfl
def alp:∀t1 t2:aH,Vz 3 f (kE Pg X0 4000 10 []<|hpT 3 t1 t2)=f:=λt1 t2=>by kernel_rfl
def alq:∀t1 t2:aH,Vz 3 f (kE Pg X0 4000 30 []<|hpT 3 t1 t2)=f:=λt1 t2=>by kernel_rfl
end
section
open Go.Ae
def ors:I_ Pg X 3:=by
 intro g args v H T h;replace h:bV (aA g 10||aA g 30) (orT args H) (bV (aA g 160) (orW enI srt 1 [] args H)<|bV (aA g 249) (orR (.func (.func 242) ⟨[]⟩ ⟨[]⟩) args H) Q)=D (v,T):=h
 by_cases W:g=10
 .subst W;exact V_ (ax _) mixed (Ce.TE fns) xs0 (I_.none λ_ _ _=>rfl) Tryz.func10 (by kernel_rfl) alp h
 by_cases h3:g=30
 .subst h3;exact V_ (ax _) mixed (Ce.TE fns) xs0 (I_.none λ_ _ _=>rfl) Tryz.func30 (by kernel_rfl) alq h
 by_cases h4:g=160
 .subst h4;exact⟨⟨_,Tryz.func160,by kernel_rfl⟩,λm w args' rh gl ha=>afk am3 h rh ha⟩
 by_cases h5:g=249
 .subst h5;exact⟨⟨_,Tryz.func249,by kernel_rfl⟩,λm w args' rh gl ha=>afl am4 Tryz.isAgg331 Tryz.sizeOf331 (Go.Proofs.enters_of Tryz.func242 (by kernel_rfl) O) alo h rh ha⟩
 have e:∀k,g≠k->aA g k=aC:=λk hk=>by rw[<-b_];exactλh=>hk<|aW h
 rw[e 10 W,e 30 h3,e 160 h4,e 249 h5]at h;cases h
end
end Go.Proofs.Lu
