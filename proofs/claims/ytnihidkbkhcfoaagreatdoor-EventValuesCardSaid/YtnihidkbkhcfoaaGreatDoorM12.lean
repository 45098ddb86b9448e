/-
  A part of the proof: the members' sort: the shelf's contract, in the words of the own base; byKey walked; the reader's push, walked; the reader's key, walked; the reader's pop, walked: a list's frame; the reader's pop, walked: a map's frame; the reader's add, walked: a list's frame; the reader's add, walked: a map's frame; the reader's begin, walked; what the reader's value asks of the plain machine; a block made private. No condition of its own.
-/
import Derived.Test.YtnihidkbkhcfoaaGreatDoorM3
import Derived.Test.YtnihidkbkhcfoaaGreatDoorM11
import Derived.Test.YtnihidkbkhcfoaaGreatDoorM1
import Derived.Shelf.SlGeneric
import Derived.Shelf.SlSortCmp.WholeK
import Derived.Shelf.Strings.Trim
import Derived.Shelf.Small.Utf8
import Derived.Shelf.Small.Bits
import Derived.Shelf.Small.Strs
import Derived.Shelf.Small.Wraps
import Derived.Shelf.Utf8.AppendRune
import Derived.Shelf.Strconv.Atoi
import Derived.Shelf.Strconv.Itoa0
import Derived.Shelf.Strconv.Itoa1
import Derived.Shelf.LaysM
import Derived.Shelf.Strconv.Itoa2
import Derived.Shelf.Strconv.Itoa3
import Derived.Shelf.Strconv.AtoiErrFast
import Derived.Shelf.Strconv.ParseIntEmpty
import Derived.Shelf.Strconv.AtoiFail
import Derived.Shelf.Strconv.Clone
import Derived.Shelf.Strconv.SyntaxError
import Derived.Shelf.LaysC
import Derived.Shelf.Strconv.ToError
import Derived.Shelf.Strconv.Lower
import Derived.Shelf.Strconv.ParseUint10
import Derived.Shelf.Strconv.ParseUint10Empty
import Derived.Shelf.Strconv.ParseUint10Any
import Derived.Shelf.Strconv.ParseInt10
import Derived.Shelf.Strconv.AtoiLong
import Derived.Shelf.Strconv.AtoiInnerAll
import Derived.Shelf.Strconv.RangeError
import Derived.Shelf.Strconv.ToErrorRange
import Derived.Shelf.Strconv.AtoiAll
import Derived.Shelf.Strconv.ErrVarAll
import Derived.Shelf.Strings.Search1
import Derived.Shelf.Strings.Search2
import Derived.Shelf.Strings.Cut
import Derived.Shelf.Strings.Shaped
import Derived.Shelf.Strings.Prefix
import Derived.Shelf.Strings.Runes
import Derived.Shelf.Strings.AsciiSet
import Derived.Shelf.Unicode.DecodeSlow
import Derived.Shelf.Unicode.DecodeAny
import Derived.Shelf.Slices.Clone
import Derived.Shelf.SlSortCmp.NoneTotal
import Derived.Test.YtnihidkbkhcfoaaGreatDoorM6
set_option linter.unusedVariables false
set_option linter.unusedSimpArgs false
set_option maxRecDepth 10000
namespace Go.Proofs
open Go.Shelf
def Tryz.Ik:Go.Shelf.Ren:=⟨fun | 6=>150 | 15=>183 | 14=>182 | 28=>214 | 29=>215 | 20=>206 | 21=>207 | 22=>208 | 23=>209 | 24=>210 | 25=>211 | 26=>212 | 27=>213 | 46=>236 | 47=>237 | 48=>238 | 49=>239 | 50=>240 | 57=>253 | n=>n,fun | 22=>23 | 24=>51 | 25=>141 | 3=>3 | 39=>114 | 0=>0 | 53=>117 | 55=>154 | 4=>4 | 46=>212 | 45=>211 | 50=>87 | 5=>5 | 9=>9 | 66=>232 | 70=>236 | 76=>258 | 77=>171 | n=>n,fun | n=>n⟩
theorem Tryz.ei:Go.Proofs.SlLaysF0.n6 Tryz.prog Tryz.Ik:={
 mixed:=by kernel_rfl
 f6:=⟨Tryz.f150.name,by decide,Tryz.func150.trans (congrArg some (by kernel_rfl))⟩
 f14:=⟨Tryz.f182.name,by decide,Tryz.func182.trans (congrArg some (by kernel_rfl))⟩
 f15:=Tryz.func183.trans (congrArg some (by kernel_rfl))
 f20:=⟨Tryz.f206.name,by decide,Tryz.func206.trans (congrArg some (by kernel_rfl))⟩
 f21:=⟨Tryz.f207.name,by decide,Tryz.func207.trans (congrArg some (by kernel_rfl))⟩
 f22:=⟨Tryz.f208.name,by decide,Tryz.func208.trans (congrArg some (by kernel_rfl))⟩
 f23:=⟨Tryz.f209.name,by decide,Tryz.func209.trans (congrArg some (by kernel_rfl))⟩
 f24:=⟨Tryz.f210.name,by decide,Tryz.func210.trans (congrArg some (by kernel_rfl))⟩
 f25:=⟨Tryz.f211.name,by decide,Tryz.func211.trans (congrArg some (by kernel_rfl))⟩
 f26:=⟨Tryz.f212.name,by decide,Tryz.func212.trans (congrArg some (by kernel_rfl))⟩
 f27:=⟨Tryz.f213.name,by decide,Tryz.func213.trans (congrArg some (by kernel_rfl))⟩
 f28:=Tryz.func214.trans (congrArg some (by kernel_rfl))
 f29:=Tryz.func215.trans (congrArg some (by kernel_rfl))
 f46:=⟨Tryz.f236.name,by decide,Tryz.func236.trans (congrArg some (by kernel_rfl))⟩
 f47:=Tryz.func237.trans (congrArg some (by kernel_rfl))
 f48:=Tryz.func238.trans (congrArg some (by kernel_rfl))
 f49:=⟨Tryz.f239.name,by decide,Tryz.func239.trans (congrArg some (by kernel_rfl))⟩
 f50:=⟨Tryz.f240.name,by decide,Tryz.func240.trans (congrArg some (by kernel_rfl))⟩
 f57:=⟨Tryz.f253.name,by decide,Tryz.func253.trans (congrArg some (by kernel_rfl))⟩
 t0:=Tryz.underlying0
 a0:=Tryz.isAgg0
 z0:=Tryz.sizeOf0
 v0:=Tryz.zeroValue0
 t3:=Tryz.underlying3
 a3:=Tryz.isAgg3
 z3:=Tryz.sizeOf3
 v3:=Tryz.zeroValue3
 t4:=Tryz.underlying4
 a4:=Tryz.isAgg4
 z4:=Tryz.sizeOf4
 v4:=Tryz.zeroValue4
 t5:=Tryz.underlying5
 a5:=Tryz.isAgg5
 z5:=Tryz.sizeOf5
 v5:=Tryz.zeroValue5
 t9:=Tryz.underlying9
 a9:=Tryz.isAgg9
 z9:=Tryz.sizeOf9
 v9:=Tryz.zeroValue9
 t22:=Tryz.underlying23
 a22:=Tryz.isAgg23
 z22:=Tryz.sizeOf23
 v22:=Tryz.zeroValue23
 t25:=Tryz.underlying141
 a25:=Tryz.isAgg141
 z25:=Tryz.sizeOf141
 v25:=Tryz.zeroValue141
 t39:=Tryz.underlying114
 a39:=Tryz.isAgg114
 z39:=Tryz.sizeOf114
 v39:=Tryz.zeroValue114
 t45:=Tryz.underlying211
 a45:=Tryz.isAgg211
 z45:=Tryz.sizeOf211
 v45:=Tryz.zeroValue211
 t46:=Tryz.underlying212
 a46:=Tryz.isAgg212
 z46:=Tryz.sizeOf212
 v46:=Tryz.zeroValue212
 t50:=Tryz.underlying87
 a50:=Tryz.isAgg87
 z50:=Tryz.sizeOf87
 v50:=Tryz.zeroValue87
 t53:=Tryz.underlying117
 a53:=Tryz.isAgg117
 z53:=Tryz.sizeOf117
 v53:=Tryz.zeroValue117
 t55:=Tryz.underlying154
 a55:=Tryz.isAgg154
 z55:=Tryz.sizeOf154
 v55:=Tryz.zeroValue154
 t66:=Tryz.underlying232
 a66:=Tryz.isAgg232
 z66:=Tryz.sizeOf232
 v66:=Tryz.zeroValue232
 t70:=Tryz.underlying236
 a70:=Tryz.isAgg236
 z70:=Tryz.sizeOf236
 v70:=Tryz.zeroValue236
 t76:=Tryz.underlying258
 a76:=Tryz.isAgg258
 z76:=Tryz.sizeOf258
 v76:=Tryz.zeroValue258
 t77:=Tryz.underlying171
 a77:=Tryz.isAgg171
 z77:=Tryz.sizeOf171
 v77:=Tryz.zeroValue171}
def Tryz.Dm:Go.Shelf.Ren:=⟨fun | 106=>160 | 213=>192 | 265=>226 | n=>n,fun | 9=>9 | 3=>3 | n=>n,fun | n=>n⟩
theorem Tryz.PK:Go.Proofs.Lays.n106 Tryz.prog Tryz.Dm:={
 mixed:=by kernel_rfl
 f106:=Tryz.func160.trans (congrArg some (by kernel_rfl))
 f213:=Tryz.func192.trans (congrArg some (by kernel_rfl))
 f265:=Tryz.func226.trans (congrArg some (by kernel_rfl))
 t3:=Tryz.underlying3
 a3:=Tryz.isAgg3
 z3:=Tryz.sizeOf3
 v3:=Tryz.zeroValue3
 t9:=Tryz.underlying9
 a9:=Tryz.isAgg9
 z9:=Tryz.sizeOf9
 v9:=Tryz.zeroValue9}
open Go.RowKit in
theorem Tryz.strings_Compare (a b:ByteArray) (w:World) :
  Calls Tryz.prog 160 #[.string a,.string b] w fun e w'=>e = .returned (.int .i64 (Lib.compareBytes a.data.toList b.data.toList))∧w'=w:=Any.strings_Compare Tryz.PK a b w
end Go.Proofs
namespace Go.Proofs.YtnihidkbkhcfoaaGreatDoor.V
open Go Go.Proofs Go.Sort
theorem Ws:aP Tryz.prog 160:=aP.of Tryz.func160 (by kernel_rfl) (by kernel_rfl)
theorem PL:ix Tryz.prog 51 0 0 1=true:=by kernel_rfl
theorem Wt (w:World) (a b:aa):Calls Tryz.prog 160 [S a,S b].toArray w (bM fun u w'=>u = .int .i64 (Lib.compareBytes a b)∧w'=w):=by
 refine(Tryz.strings_Compare ⟨⟨a⟩⟩ ⟨⟨b⟩⟩ w).mono fun e w' he=>?_;obtain⟨rfl,rfl⟩:=he;exact⟨rfl,rfl⟩
theorem Mi (w:World) (a b:aa) (us vs:List Value):Calls Tryz.prog 124 [.agg (S a::us).toArray,.agg (S b::vs).toArray].toArray w (bM fun u w'=>u = .int .i64 (Lib.compareBytes a b)∧w'=(w.alloc (.cells (S a::us).toArray 51)).alloc (.cells (S b::vs).toArray 51)):=by
 refine enter Tryz.func124 rfl rfl rfl (l:=[(1,_),(0,_)]) ⟨rfl,rfl,trivial⟩ ?_;refine nj fun K1 aV=>?_;refine bP ?_;refine fN (Il rfl rfl) rfl ?_;refine fN (Il rfl rfl) rfl ?_;refine fN (cq rfl) rfl ?_;refine cF ?_;refine dT (aV _ _ _ _ ?_);have bT:=ko.mk' w 51 (S a::us);have cW:=ko.mk' (w.alloc (.cells (S a::us).toArray 51)) 51 (S b::vs);have gM:=bT.aA.I cW.mod;have dy:=cW.aA;refine nj fun K2 aL=>?_;refine bP ?_;refine fN (av PL rfl) rfl ?_;refine fN (bg bB rfl (gM.cell rfl)) rfl ?_;refine fN (av PL rfl) rfl ?_;refine fN (bg bB rfl (dy.cell rfl)) rfl ?_;refine fv (bE Ws rfl) (Wt _ a b) rfl fun cK aB az=>?_;obtain⟨rfl,rfl⟩:=az;refine fN (cq rfl) rfl ?_;refine cF ?_;refine dT (aL _ _ _ _ ?_);refine ba ?_;exact ar rfl rfl ⟨rfl,rfl⟩
theorem Wu {w:World} {g o n:Nat}:CmpLays Tryz.prog 124 #[] dP.enc 7 Mj g o n w:=by
 intro m os arQ bV x y;refine(Mi _ x.key y.key x.1.2 y.1.2).mono fun e w' he=>?_
 match e,he with
 | .returned u,⟨h1,aq⟩=>
  refine⟨by rw [h1];rfl,0,#[.cells (S x.key::x.1.2).toArray 51,.cells (S y.key::y.1.2).toArray 51],aq.trans ?_⟩;rw [alloc_eq_grow,alloc_eq_grow,grow_grow];rfl
theorem PM (w:World) {wr:World} {e n c:Nat} {ad:Addr} {acc:List (aa×JV)} {vs:List Value} {A:List Nat} (O:Own w e 7 (.slice (some ad) n c) n vs) (bl:ao A wr (acc.map JV.hP).flatten vs) (cj:(acc.map (·.1)).Nodup) (bb:acc.length≤1000000) :
  Calls Tryz.prog 150 [.slice (some ad) n c,.func (.func 124) #[] #[]].toArray w (bM fun u w'=>u = .tuple #[]∧Mod [ad.block] w w'∧∃ jB,Own w' e 7 (.slice (some ad) n c) n jB∧ao A wr ((ei acc).map JV.hP).flatten jB∧(ei acc).length=n):=by
 obtain⟨rows,bk,rfl,kO⟩:=Fu acc vs bl
 obtain⟨g,o,rfl⟩:∃ g o,ad=⟨g,o,none⟩:=by
  rcases O.2 with⟨h,_⟩ | ⟨g,o,_,_,h,_⟩
  ·cases h
  cases h;exact⟨g,o,rfl⟩
 have EA:Own w e 7 (.slice (some ⟨g,o,none⟩) n c) n (rows.toArray.toList.map dP.enc).flatten:=O
 obtain⟨hH,bH,ij⟩:=w5 EA
 have PN:rows.length=acc.length:=by rw [← bk,List.length_map]
 subst ij
 refine(AnyQ.slices_SortFunc Tryz.ei 7 (fun w=>Tryz.isAgg51 w) (fun w=>Tryz.sizeOf51 w) dP.enc dP.yW dP.PO Mj PQ 124 #[] g o c rows.toArray w (enters_of Tryz.func124 (by kernel_rfl) rfl) Wu hH bH (by rw [List.size_toArray];omega)).mono fun w6 w' he=>?_
 obtain⟨rfl,sX,m,os,cn,jr,rfl⟩:=he
 obtain⟨h1,aq⟩:=Dn cj bk cn jr
 obtain⟨aT,bL⟩:=Fv (m:=m) (os:=os) EA cn.1
 refine⟨rfl,bL,_,aT,?_,?_⟩
 ·rw [← aq]
  exact yX _ fun r oE=>kO r (h1.mem_iff.1 oE)
 rw [← aq,List.length_map,Array.length_toList,cn.1]
theorem PR (w:World) (p:Option Addr) (c:Nat):Calls Tryz.prog 150 [.slice p 0 c,.func (.func 124) #[] #[]].toArray w (bM fun u w'=>u = .tuple #[]∧w'=w):=by
 refine(AnyF.slices_SortFunc_none Tryz.ei p c (.func (.func 124) #[] #[]) w).mono fun e w' he=>?_;obtain⟨rfl,rfl⟩:=he;exact⟨rfl,rfl⟩
theorem PS (w:World) {wr:World} {e n:Nat} {v:Value} {acc:List (aa×JV)} {vs:List Value} {A:List Nat} (O:Own w e 7 v n vs) (bl:ao A wr (acc.map JV.hP).flatten vs) (cj:(acc.map (·.1)).Nodup) (bb:acc.length≤1000000) (cg:acc.length=n) :
  Calls Tryz.prog 150 [v,.func (.func 124) #[] #[]].toArray w (bM fun u w'=>u = .tuple #[]∧Mod (aY v) w w'∧∃ jB,Own w' e 7 v n jB∧ao A wr ((ei acc).map JV.hP).flatten jB∧(ei acc).length=n):=by
 obtain⟨ad,c,rfl,_,_⟩:=O.form
 cases n with
 | zero=>
  have:acc = []:=List.eq_nil_of_length_eq_zero cg
  subst this
  refine(PR w ad c).mono fun w6 w' he=>?_
  match w6,he with
  | .returned u,⟨h1,aq⟩=>exact⟨h1,aq▸Mod.refl _ _,vs,aq▸O,bl,rfl⟩
 | succ n=>
  obtain⟨ad,rfl⟩:∃ a,ad=some a:=by
   rcases O.2 with⟨_,h⟩ | ⟨g,o,_,_,h,_⟩
   ·cases h
   cases h;exact⟨_,rfl⟩
  exact PM w O bl cj bb
end Go.Proofs.YtnihidkbkhcfoaaGreatDoor.V
set_option maxRecDepth 10000
namespace Go.Proofs.YtnihidkbkhcfoaaGreatDoor.V
open Go Go.Proofs
abbrev nv (Z:List Nat):aaa:=⟨75,20,163,129,165,168,25,51,Z⟩
theorem fD:ix Tryz.prog 75 2 2 1=true:=by kernel_rfl
theorem tb:ly Tryz.prog 73 20 1 16=true:=by kernel_rfl
theorem agN:hD Tryz.prog 20 [.nilIface]:=by unfold hD;kernel_rfl
theorem kj:nL Tryz.prog 73=true:=by kernel_rfl
theorem QI.eq {w w':World} {g:Nat} {T:TypeId} {cs cs':List Value} (h:QI w w' g T cs) (e:cs=cs'):aE w' g T cs':=e▸h.aA
theorem KV {aB:World} {g k:Nat} {s:aa} {sk:Value} {aoN:TypeId} {aoO:Option Addr} {cs:List Value} (B:aE aB g 75 [S s,.int .i64 (k:Int),sk]) (O:Own aB 20 1 sk cs.length cs.reverse) (uS:∀ x∈aY sk,x≠g)
  (bb:s.length≤65536) (hk:k≤s.length) (bV:cs.length≤32) :
  Calls Tryz.prog 148 [.pointer (some ⟨g,0,none⟩),.iface aoN (.pointer aoO)].toArray aB (My 124 (g::aY sk) aB (if cs.length=32 then (.error 5:Except Int Unit)else .ok ()) (fun _ u w'=>u = .tuple #[]∧∃ gI,aE w' g 75 [S s,.int .i64 ((k+1:Nat):Int),gI]∧Own w' 20 1 gI (cs.length+1) (cs.reverse ++ [.iface aoN (.pointer aoO)])∧∀ x∈aY gI,x∈aY sk∨aB.heap.size≤x)):=by
 refine enter Tryz.func148 rfl rfl rfl (l:=[(0,_),(1,_)]) ⟨rfl,rfl,trivial⟩ ?_
 obtain⟨ad,c0,rfl,fA,gB⟩:=O.form
 have bH:=B.lt
 have hO:∀ {a b:World},Mod [g] a b→Own a 20 1 (.slice ad cs.length c0) cs.length cs.reverse→Own b 20 1 (.slice ad cs.length c0) cs.length cs.reverse:=fun ak1 aqu=>aqu.mod ak1 (fun x ae e=>uS x ae (by simpa using e))
 have E:=Mod.refl [g] aB
 refine ax fun aV=>ab fun aL=>ak 2 rfl (ag (av fD rfl) (ag (bg kj rfl (B.cell rfl)) (ag (bs Tryz.underlying73 rfl) (ag (lS rfl rfl) (J aL ?_)))))
 refine a1 rfl (fun k9=>?_) (fun k9=>?_)
 ·have k9:cs.length=32:=by have:=of_decide_eq_true k9;omega
  refine bP ?_
  refine fP (bE gf rfl) (eT _ 5) rfl (fun cH az=>az.elim) (fun lV iv az=>?_) fun cK iv az=>?_
  ·obtain⟨rfl,rfl⟩:=az
   exact aR (by simp) (ea ⟨5,by rw [if_pos k9],by decide,rfl,Mod.refl _ _⟩)
  exact az.elim
 have k9:¬ cs.length=32:=fun e=>of_decide_eq_false k9 (by omega)
 refine b8 (au aV (ab fun aX=>ak 2 rfl (ag (av c6 rfl) (ag (bg dN rfl (B.cell rfl)) (ag (cS (r:=((k+1:Nat):Int)) rfl rfl (by rw [wrap64_in _ (by omega)];omega)) (ak 1 rfl (ag (av c6 rfl) (dZ dN B rfl rfl rfl (by simp) fun cO DC=>?_))))))))
 replace O:=hO DC.mod O
 replace B:=DC.eq rfl
 replace E:=E.trans DC.mod
 refine J aX (bP (ak 3 rfl (ag (av fD rfl) (ag (bg kj rfl (B.cell rfl)) (ak 1 rfl (bC (cs:=[_]) tb agN rfl rfl rfl (by decide) rfl fun g1 gb bT=>?_))))))
 have U:=bT.aA
 replace B:=B.I bT.mod
 replace O:=O.I bT.mod
 replace E:=E.then bT.mod
 refine bq tb rfl rfl O (Src.own Tryz.underlying73 (Own.all (cs:=[_]) U rfl (by omega)) (by simp [Value.oneCell'])) (by decide) (by omega) (by omega) rfl fun v1 iu jh=>?_
 replace B:=B.mod jh.mod (fun ae=>uS _ ae rfl)
 refine ak 1 rfl (ag (av fD rfl) ?_)
 obtain⟨rK,c1,bk,_,_⟩:=jh.own.form
 refine dZ kj B rfl rfl (by rw [bk];rfl) (by simp) fun js hs=>?_
 have Dt:Mod (g::aY (.slice ad cs.length c0)) aB js:=((E.mono (by simp)).trans (jh.mod.mono (fun x ae=>List.mem_cons_of_mem _ ae))).trans (hs.mod.mono (by simp))
 have cN:∀ x∈aY v1,x∈aY (.slice ad cs.length c0)∨aB.heap.size≤x:=fun x ae=>(jh.lX x ae).imp id (Nat.le_trans E.size)
 refine cF ?_
 exact kp rfl ⟨(),by rw [if_neg k9],⟨rfl,v1,hs.eq rfl,jh.own.mod hs.mod (fun x ae e=>by
  rw [List.mem_singleton.1 e] at ae
  rcases cN g ae with h | h
  ·exact uS _ h rfl
  omega),cN⟩,Dt⟩
set_option maxRecDepth 10000
theorem zp:ix Tryz.prog 168 0 0 1=true:=by kernel_rfl
theorem FW:ix Tryz.prog 168 1 1 1=true:=by kernel_rfl
theorem uT:ix Tryz.prog 168 2 2 1=true:=by kernel_rfl
theorem QJ:nL Tryz.prog 166=true:=by kernel_rfl
theorem QK:Tryz.prog.underlying 166=some (.map 9 4):=by kernel_rfl
theorem ak2:(Tryz.prog.info? 4).bind (·.zero)=some (.bool false):=by kernel_rfl
theorem KW:aP Tryz.prog 147:=aP.of Tryz.func147 (by kernel_rfl) (by kernel_rfl)
theorem DD:aP Tryz.prog 61:=aP.of Tryz.func61 (by kernel_rfl) (by kernel_rfl)
theorem oM:aP Tryz.prog 108:=aP.of Tryz.func108 (by kernel_rfl) (by kernel_rfl)
theorem KX {w:World} {g g1 b k:Nat} {s t0:aa} {sk eu:Value} {K:List aa} {m:List (aa×JV)} (B:aE w g 75 [S s,.int .i64 (k:Int),sk]) (gM:aE w g1 168 [eu,.map (some b),S t0]) (hm:jU w b (nt K)) (A7:g1≠g) (MM:g≠b) (QL:g1≠b)
  (pY:∀ t,(look m t).isSome=decide (t∈K)) (bb:s.length≤65536) (hk:k≤s.length) (e1:Env w) (dv:MK<g) :
  Calls Tryz.prog 110 [.pointer (some ⟨g,0,none⟩),.pointer (some ⟨g1,0,none⟩)].toArray w (My 124 [g,g1,b] w (jT s k m) (fun x u w'=>u = .tuple #[]∧aE w' g 75 [S s,.int .i64 (x.2:Int),sk]∧aE w' g1 168 [eu,.map (some b),S x.1]∧jU w' b (nt (K ++ [x.1]))∧x.2≤s.length)):=by
 refine enter Tryz.func110 rfl rfl rfl (l:=[(0,_),(1,_)]) ⟨rfl,rfl,trivial⟩ ?_
 have E:=Mod.refl [g,g1,b] w
 have nT:=cw (p:=aW) (s:=s) hk
 refine ab fun aV=>aG rfl (fv (bE DD rfl) (uQ _ g s k sk B bb hk) rfl fun cK aB az=>?_)
 obtain⟨B,R⟩:=az
 replace gM:=gM.mod R (by simpa using A7)
 replace hm:=hm.mod R (by simpa using Ne.symm MM)
 have ak3:=e1.oK dv R
 replace E:=E.trans (R.mono (by simp))
 refine J aV (ab fun aL=>ak 1 rfl (aG rfl ?_))
 refine fP (bE KW rfl) (FT _ g s (ai aW s k) sk B bb nT ak3.abX) rfl (fun cH az=>az) (fun lV cO az=>?_) fun cK cO az=>?_
 ·obtain⟨e,he,b3,rfl,R⟩:=az
  refine aR (by simp) ?_
  refine ea ⟨e,?_,b3,rfl,E.trans (R.mono (by simp))⟩
  unfold jT
  cases h:e9 s (ai aW s k)with
  | none=>rw [h] at he;exact he
  | some x=>rw [h] at he;cases he
 obtain⟨⟨t,dX⟩,he,⟨rfl,B⟩,R⟩:=az
 have cc:e9 s (ai aW s k)=some (t,dX):=by
  cases h:e9 s (ai aW s k)with
  | none=>rw [h] at he;cases he
  | some x=>rw [h] at he;cases he;rfl
 have bn:dX≤s.length:=(pr cc).2.1
 have MN:jT s k m=if (look m t).isSome then .error 6 else if aC s (ai aW s dX) [58] then .ok (t,ai aW s dX+1)else .error 4:=by
  unfold jT;rw [cc]
 rw [pY t] at MN
 replace gM:=gM.mod R (by simpa using A7)
 replace hm:=hm.mod R (by simpa using Ne.symm MM)
 replace E:=E.trans (R.mono (by simp))
 refine ak 1 rfl (ag (av uT rfl) (dZ bB gM rfl rfl rfl (by simp) fun gb sw=>?_))
 replace B:=B.mod sw.mod (by simpa using Ne.symm A7)
 replace hm:=hm.mod sw.mod (by simpa using Ne.symm QL)
 replace E:=E.trans (sw.mod.mono (by simp))
 replace gM:=sw.eq (cs':=[eu,.map (some b),S t]) rfl
 refine J aL (ax fun aX=>ax fun bt=>bQ wide (by kernel_rfl) (f' 2 rfl rfl (aj (fun R=>(av FW rfl)) (aj (fun R=>(bg QJ rfl ((gM.I R).cell rfl))) (f' 2 rfl rfl (aj (fun R=>(av uT rfl)) (aj (fun R=>(bg bB rfl ((gM.I R).cell rfl))) ?_)))))))
 refine ak4 (fun cH R=>(agO QK Tryz.underlying9 ak2 rfl (.inr ⟨b,rfl,hm.I R⟩) rfl).to (v':=.bool (decide (t∈K))) (by
  rw [tJ]
  by_cases h:t∈K
  ·rw [if_pos h,bd h];rfl
  rw [if_neg h,bJ h];rfl)) rfl rfl ?_
 refine bS rfl fun iu R=>?_
 replace B:=B.I R
 replace gM:=gM.I R
 replace hm:=hm.I R
 replace E:=E.then R
 refine au bt ?_
 refine aK rfl (fun nK=>?_) (fun nK=>?_)
 ·refine bP ?_
  refine fP (bE gf rfl) (eT _ 6) rfl (fun cH az=>az.elim) (fun lV iv az=>?_) fun cK iv az=>?_
  ·obtain⟨rfl,rfl⟩:=az
   exact aR (by simp) (ea ⟨6,by rw [MN,if_pos (bd nK)],by decide,rfl,E⟩)
  exact az.elim
 rw [if_neg (by simpa using nK)] at MN
 refine b8 (au aX (ax fun bN=>zq 8 wide (by kernel_rfl) (f' 2 rfl rfl (aj (fun R=>(av FW rfl)) (aj (fun R=>(bg QJ rfl ((gM.I R).cell rfl))) (f' 2 rfl rfl (aj (fun R=>(av uT rfl)) (aj (fun R=>(bg bB rfl ((gM.I R).cell rfl))) (mG rfl fun js R=>?_)))))))))
 replace B:=B.I R
 replace gM:=gM.I R
 replace hm:=hm.I R
 replace E:=E.then R
 refine WX QK Tryz.underlying9 rfl hm rfl rfl fun jD sT R=>?_
 replace B:=B.mod R (by simpa using MM)
 replace gM:=gM.mod R (by simpa using QL)
 replace E:=E.trans (R.mono (by simp))
 rw [Mz nK] at sT
 refine J bN (ab fun b2=>aG rfl (fv (bE oM rfl) (tP _ g s dX sk B bb bn 58) rfl fun cK iv az=>?_))
 obtain⟨rfl,B,R⟩:=az
 replace gM:=gM.mod R (by simpa using A7)
 replace sT:=sT.mod R (by simpa using Ne.symm MM)
 replace E:=E.trans (R.mono (by simp))
 refine ag (e4 rfl) (J b2 ?_)
 refine a1 rfl (fun ib=>?_) (fun ib=>?_)
 ·have ib:aC s (ai aW s dX) [58]=false:=by simpa using ib
  refine bP ?_
  refine fP (bE gf rfl) (eT _ 4) rfl (fun cH az=>az.elim) (fun lV iv az=>?_) fun cK iv az=>?_
  ·obtain⟨rfl,rfl⟩:=az
   exact ea ⟨4,by rw [MN,ib];rfl,by decide,rfl,E⟩
  exact az.elim
 have ib:aC s (ai aW s dX) [58]=true:=by simpa using ib
 rw [ib,if_pos rfl] at MN B
 exact b8 (kp rfl ⟨(t,ai aW s dX+1),MN,⟨rfl,B,gM,sT,by have:=cY ib (by simp);simpa using this⟩,E⟩)
set_option maxRecDepth 10000
theorem B5:nL Tryz.prog 20=true:=by kernel_rfl
theorem zr:ix Tryz.prog 165 0 0 1=true:=by kernel_rfl
theorem zs:Tryz.prog.underlying 163=some (.pointer 165):=by kernel_rfl
theorem zt:Tryz.prog.underlying 129=some (.pointer 168):=by kernel_rfl
theorem QM:(Tryz.prog.info? 163).bind (·.zero)=some (.pointer none):=by kernel_rfl
theorem qj {w:World} {fN c:Value} {cs:List Value} (O:Own w 20 1 fN (c::cs).length (c::cs).reverse):∃ ad c0,fN = .slice (some ad) (cs.length+1) c0∧cs.length+1≤c0∧c0≤9223372036854775807∧q7 w ad (cs.reverse ++ [c]):=by
 rcases O.2 with⟨_,b3⟩ | ⟨g,o,c0,UE,h1,_⟩
 ·simp at b3
 subst h1;have:=O.form;obtain⟨_,_,aq,aT,bL⟩:=this;cases aq;exact⟨_,_,rfl,aT,bL,by have:=O.cs;rwa [List.reverse_cons] at this⟩
theorem n5 {w:World} {c:Value} {cs:List Value} {ad:Addr} (C:q7 w ad (cs.reverse ++ [c])):w.cell? (ad.add ((cs.length:Int).toNat*1))=some c:=by
 rw [Int.toNat_natCast,Nat.mul_one];exact C _ _ (by rw [List.getElem?_append_right (by simp),List.length_reverse,Nat.sub_self];rfl)
theorem FX {w:World} {c:Value} {cs:List Value} {ad:Addr} {c0:Nat} (O:Own w 20 1 (.slice (some ad) (cs.length+1) c0) (c::cs).length (c::cs).reverse):Own w 20 1 (.slice (some ad) cs.length c0) cs.length cs.reverse:=by
 have:=Own.take (m:=cs.length) O (by simp)
 rwa [List.reverse_cons,List.take_append_of_le_length (by simp),List.take_of_length_le (by simp)] at this
/-- the private blocks are as they were -/
def zu (Z:List Nat) (w w':World):Prop:=∀ z∈Z,w'.heap[z]? = w.heap[z]?
theorem zu.of {Z M:List Nat} {w w':World} (h:Mod M w w') (cg:∀ z∈Z,z<w.heap.size) (cj:∀ z∈Z,z∉M):zu Z w w':=fun z di=>h.block z (cg z di) (cj z di)
theorem nn.xK {Z:List Nat} {w0 w:World} {g k:Nat} {s:aa} {st:List lU} {sk:Value} {cs:List Value} {fp:List Nat} (H:nn (nv Z) w0 w g s k st sk cs fp):∀ z∈Z,z<w.heap.size∧z≠g∧z∉aY sk:=fun z di=>by
 have dK:=H.sZ.z z di;exact⟨H.lt z (by simp [dK]),fun e=>H.s0 (by subst e;simp [dK]),fun h=>H.xc z h dK⟩
theorem FY {w:World} {g k g1 n cl:Nat} {s:aa} {sk:Value} {al:Option Addr} {eM:List Value} (B:aE w g 75 [S s,.int .i64 (k:Int),sk]) (O:Own w 20 1 sk (.iface 163 (.pointer (some ⟨g1,0,none⟩))::eM).length (.iface 163 (.pointer (some ⟨g1,0,none⟩))::eM).reverse)
  (gM:aE w g1 165 [.slice al n cl]) (nm:g1≠g) (uS:∀ x∈aY sk,x≠g) (bV:eM.length≤32) :
  Calls Tryz.prog 109 [.pointer (some ⟨g,0,none⟩)].toArray w (bM fun u w'=>u = .agg #[.int .i64 4,.bool false,.int .i64 0,S [],.slice al n cl,.slice none 0 0]∧(∃ gI,aE w' g 75 [S s,.int .i64 (k:Int),gI]∧Own w' 20 1 gI eM.length eM.reverse∧aY gI=aY sk)∧Mod [g] w w'):=by
 refine enter Tryz.func109 rfl rfl rfl (l:=[(0,_)]) ⟨rfl,trivial⟩ ?_
 obtain⟨ad,c0,rfl,fA,gB,C⟩:=qj O
 have rV:eM.length≤32:=bV
 have E:=Mod.refl [g] w
 refine ab fun aV=>bp cA rfl fun g2 aB bT=>?_
 have uR:=bT.le E
 have n3:=bT.ne B
 have n4:=bT.ne gM
 have UI:=bT.b4 O
 replace B:=B.I bT.mod
 replace gM:=gM.I bT.mod
 replace O:=O.I bT.mod
 replace C:=C.mod bT.mod (by simp)
 replace E:=E.then bT.mod
 have dy:=bT.aA
 refine J aV (ax fun aL=>bQ wide (by kernel_rfl) (f' 2 rfl rfl (aj (fun R=>(av fD rfl)) (aj (fun R=>(bg kj rfl ((B.I R).cell rfl))) (f' 2 rfl rfl (aj (fun R=>(av fD rfl)) (aj (fun R=>(bg kj rfl ((B.I R).cell rfl))) (aj (fun R=>(bs Tryz.underlying73 rfl)) (aj (fun R=>(ew (r:=((eM.length:Nat):Int)) rfl rfl (by rw [wrap64_in _ (by omega)];omega))) (aj (fun R=>(ca tb rfl rfl (by omega))) (aj (fun R=>(bg B5 rfl (n5 (C.mod R (by simp))))) (aj (fun R=>(cq rfl)) ?_))))))))))))
 refine bS rfl fun cO R=>?_
 replace B:=B.I R
 replace gM:=gM.I R
 replace dy:=dy.I R
 replace O:=O.I R
 replace E:=E.then R
 refine au aL (ax fun aX=>zq 12 wide (by kernel_rfl) (f' 3 rfl rfl (aj (fun R=>(av fD rfl)) (aj (fun R=>(bg kj rfl ((B.I R).cell rfl))) (f' 2 rfl rfl (aj (fun R=>(av fD rfl)) (aj (fun R=>(bg kj rfl ((B.I R).cell rfl))) (aj (fun R=>(bs Tryz.underlying73 rfl)) (aj (fun R=>(ew (r:=((eM.length:Nat):Int)) rfl rfl (by rw [wrap64_in _ (by omega)];omega))) (aj (fun R=>(FZ tb rfl rfl rfl (by simp only [hU,iz];omega) (by omega)).to (v':=.slice (some ad) eM.length c0) (by simp only [hU,iz,Int.toNat_natCast];rw [show(0:Int).toNat=0 from rfl,wo];simp)) (mG rfl fun gb R=>?_)))))))))))
 replace B:=B.I R
 replace gM:=gM.I R
 replace dy:=dy.I R
 replace O:=O.I R
 replace E:=E.then R
 refine ak 1 rfl (ag (av fD rfl) (dZ kj B rfl rfl rfl (by simp) fun iu kS=>?_))
 replace B:=kS.eq (cs':=[S s,.int .i64 (k:Int),.slice (some ad) eM.length c0]) rfl
 replace gM:=gM.mod kS.mod (by simpa using nm)
 replace dy:=dy.mod kS.mod (by simpa using Ne.symm n3)
 replace O:=(FX O).mod kS.mod (fun x ae e=>uS x ae (by simpa using e))
 replace E:=E.trans kS.mod
 refine J aX (ax fun bt=>ab fun bN=>aG rfl (ag (KY zs rfl rfl) (aG rfl (ag (eD rfl rfl) (ag (eD rfl rfl) (aU rfl (aU rfl (J bN (ab fun b2=>aG rfl (J b2 ?_))))))))))
 refine a1 rfl (fun qM=>?_) (fun qM=>absurd qM (by decide))
 refine ab fun cd=>ak 2 rfl (ag (av zr rfl) (ag (bg jH rfl (gM.cell rfl)) (ag (a7 (cs:=[_,_,_,_,_,_]) gT cA rfl rfl) (bm (vs:=[_,_,_,_,_,_]) aJ dy rfl rfl rfl (by simp [Value.oneCell']) (by simp) fun js hs=>?_))))
 have nw:=hs.eq (cs':=[.int .i64 4,.bool false,.int .i64 0,S [],.slice al n cl,.slice none 0 0]) rfl
 have ak5:=E.own hs.mod (by omega)
 exact J cd (ba (aR (by simp) (kd rfl aJ rfl rfl (nw.cs rfl) ⟨rfl,⟨_,B.mod hs.mod (by simpa using n3),O.mod hs.mod (fun x ae e=>UI x ae (by simpa using e)),rfl⟩,ak5⟩)))
theorem WY {Z:List Nat} {w0 w:World} {g k:Nat} {s:aa} {st:List lU} {sk:Value} {cs:List Value} {fp:List Nat} {acc:List JV} (H:nn (nv Z) w0 w g s k (.L acc::st) sk cs fp) (bV:cs.length≤33) :
  Calls Tryz.prog 109 [.pointer (some ⟨g,0,none⟩)].toArray w (bM fun u w'=>∃ us gI eM fg,u = .agg us.toArray∧nn (nv Z) w0 w' g s k st gI eM fg∧mf w w' g sk fp gI fg∧ao (g::(aY gI++fg)) w' (JV.cT acc).D us∧zu Z w w'):=by
 have ak6:=H.own
 have di:=H.xK
 obtain⟨g1,eu,vs,eM,fg,rfl,rfl,gM,eR,DE,rB,nm,MO,_,ak7⟩:=H.Qf
 obtain⟨al,cl,rfl,_,_⟩:=eR.form
 refine Calls.imp (FY H.rd ak6 gM nm (fun x ae e=>H.s0 (by subst e;simp [ae])) (by simpa using bV)) fun u w' az=>?_
 obtain⟨rfl,⟨gI,agP,EA,iV⟩,E⟩:=az
 obtain⟨sE,re,_,UJ⟩:=ak7 w' gI E agP EA iV
 exact⟨_,_,eM,fg,rfl,sE,re,JV.cz (v:=JV.cT acc) (am:=none) (cm:=0) UJ a8.ej,zu.of E (fun z fY=>(di z fY).1) (fun z fY=>by simpa using (di z fY).2.1)⟩
set_option maxRecDepth 10000
theorem WZ:aP Tryz.prog 150:=aP.of Tryz.func150 (by kernel_rfl) (by kernel_rfl)
theorem F0 {w wr:World} {A:List Nat} {g k g1:Nat} {s:aa} {sk m1 t1 eu:Value} {acc:List (aa×JV)} {vs:List Value} {eM:List Value} (B:aE w g 75 [S s,.int .i64 (k:Int),sk]) (O:Own w 20 1 sk (.iface 129 (.pointer (some ⟨g1,0,none⟩))::eM).length (.iface 129 (.pointer (some ⟨g1,0,none⟩))::eM).reverse)
  (gM:aE w g1 168 [eu,m1,t1]) (eR:Own w 51 7 eu acc.length vs) (DE:ao A wr (acc.map JV.hP).flatten vs) (Im:(acc.map (·.1)).Nodup) (nm:g1≠g) (uS:∀ x∈aY sk,x≠g) (IJ:∀ x∈aY eu,x≠g) (n11:∀ x∈aY sk,x∉aY eu) (bV:eM.length≤32) (cg:acc.length≤1000000) :
  Calls Tryz.prog 109 [.pointer (some ⟨g,0,none⟩)].toArray w (bM fun u w'=>u = .agg #[.int .i64 5,.bool false,.int .i64 0,S [],.slice none 0 0,eu]∧(∃ gI,aE w' g 75 [S s,.int .i64 (k:Int),gI]∧Own w' 20 1 gI eM.length eM.reverse∧aY gI=aY sk)∧Mod (g::aY eu) w w'∧(∃ jB,Own w' 51 7 eu (ei acc).length jB∧ao A wr ((ei acc).map JV.hP).flatten jB)∧(ei acc).length=acc.length):=by
 refine enter Tryz.func109 rfl rfl rfl (l:=[(0,_)]) ⟨rfl,trivial⟩ ?_
 obtain⟨ad,c0,rfl,fA,gB,C⟩:=qj O
 obtain⟨al,cl,rfl,_,_⟩:=eR.form
 have rV:eM.length≤32:=bV
 have E:=Mod.refl [g] w
 refine ab fun aV=>bp cA rfl fun g2 aB bT=>?_
 have uR:=bT.le E
 have n3:=bT.ne B
 have n4:=bT.ne gM
 have UI:=bT.b4 O
 have n10:=bT.b4 eR
 replace B:=B.I bT.mod
 replace gM:=gM.I bT.mod
 replace eR:=eR.I bT.mod
 replace O:=O.I bT.mod
 replace C:=C.mod bT.mod (by simp)
 replace E:=E.then bT.mod
 have dy:=bT.aA
 refine J aV (ax fun aL=>bQ wide (by kernel_rfl) (f' 2 rfl rfl (aj (fun R=>(av fD rfl)) (aj (fun R=>(bg kj rfl ((B.I R).cell rfl))) (f' 2 rfl rfl (aj (fun R=>(av fD rfl)) (aj (fun R=>(bg kj rfl ((B.I R).cell rfl))) (aj (fun R=>(bs Tryz.underlying73 rfl)) (aj (fun R=>(ew (r:=((eM.length:Nat):Int)) rfl rfl (by rw [wrap64_in _ (by omega)];omega))) (aj (fun R=>(ca tb rfl rfl (by omega))) (aj (fun R=>(bg B5 rfl (n5 (C.mod R (by simp))))) (aj (fun R=>(cq rfl)) ?_))))))))))))
 refine bS rfl fun cO R=>?_
 replace B:=B.I R
 replace gM:=gM.I R
 replace eR:=eR.I R
 replace dy:=dy.I R
 replace O:=O.I R
 replace E:=E.then R
 refine au aL (ax fun aX=>zq 12 wide (by kernel_rfl) (f' 3 rfl rfl (aj (fun R=>(av fD rfl)) (aj (fun R=>(bg kj rfl ((B.I R).cell rfl))) (f' 2 rfl rfl (aj (fun R=>(av fD rfl)) (aj (fun R=>(bg kj rfl ((B.I R).cell rfl))) (aj (fun R=>(bs Tryz.underlying73 rfl)) (aj (fun R=>(ew (r:=((eM.length:Nat):Int)) rfl rfl (by rw [wrap64_in _ (by omega)];omega))) (aj (fun R=>(FZ tb rfl rfl rfl (by simp only [hU,iz];omega) (by omega)).to (v':=.slice (some ad) eM.length c0) (by simp only [hU,iz,Int.toNat_natCast];rw [show(0:Int).toNat=0 from rfl,wo];simp)) (mG rfl fun gb R=>?_)))))))))))
 replace B:=B.I R
 replace gM:=gM.I R
 replace eR:=eR.I R
 replace dy:=dy.I R
 replace O:=O.I R
 replace E:=E.then R
 refine ak 1 rfl (ag (av fD rfl) (dZ kj B rfl rfl rfl (by simp) fun iu kS=>?_))
 replace B:=kS.eq (cs':=[S s,.int .i64 (k:Int),.slice (some ad) eM.length c0]) rfl
 replace gM:=gM.mod kS.mod (by simpa using nm)
 replace eR:=eR.mod kS.mod (fun x ae e=>IJ x ae (by simpa using e))
 replace dy:=dy.mod kS.mod (by simpa using Ne.symm n3)
 replace O:=(FX O).mod kS.mod (fun x ae e=>uS x ae (by simpa using e))
 replace E:=E.trans kS.mod
 refine J aX (ax fun bt=>ab fun bN=>aG rfl (ag (IK zs (by decide) QM rfl) (aG rfl (ag (eD rfl rfl) (ag (eD rfl rfl) (aU rfl (aU rfl (J bN (ab fun b2=>aG rfl (J b2 ?_))))))))))
 refine a1 rfl (fun qM=>absurd qM (by decide)) (fun qM=>b8 (au bt (ab fun cd=>aG rfl (ag (QN zt rfl rfl) (ak 1 rfl (ag (av zp rfl) (ag (bg dz rfl (gM.cell rfl)) (aU rfl (J cd (ab fun cD=>aG rfl (fv (bE WZ rfl) (PS _ eR DE Im cg rfl) rfl fun cK js az=>?_)))))))))))
 obtain⟨_,R,jB,ak8,ak9,hlen⟩:=az
 replace B:=B.mod R (fun ae=>IJ g ae rfl)
 replace dy:=dy.mod R (fun ae=>n10 g2 ae rfl)
 replace O:=O.mod R (fun x ae e=>n11 x ae e)
 replace E:=(E.mono (N:=g::aY (.slice al acc.length cl)) (by simp)).trans (R.mono (fun x ae=>List.mem_cons_of_mem _ ae))
 refine J cD (ab fun cJ=>ak 1 rfl (ag (a7 (cs:=[_,_,_,_,_,_]) gT cA rfl rfl) (bm (vs:=[_,_,_,_,_,_]) aJ dy rfl rfl rfl (by simp [Value.oneCell']) (by simp) fun jD np=>?_)))
 have nw:=np.eq (cs':=[.int .i64 5,.bool false,.int .i64 0,S [],.slice none 0 0,.slice al acc.length cl]) rfl
 have ak':=E.own np.mod (by omega)
 exact J cJ (ba (kd rfl aJ rfl rfl (nw.cs rfl) ⟨rfl,⟨_,B.mod np.mod (by simpa using n3),O.mod np.mod (fun x ae e=>UI x ae (by simpa using e)),rfl⟩,ak',⟨jB,hlen▸ak8.mod np.mod (fun x ae e=>n10 x ae (by simpa using e)),ak9⟩,hlen⟩))
theorem W6 {Z:List Nat} {w0 w:World} {g k:Nat} {s t:aa} {st:List lU} {sk:Value} {cs:List Value} {fp:List Nat} {acc:List (aa×JV)} (H:nn (nv Z) w0 w g s k (.A acc t::st) sk cs fp) (bV:cs.length≤33) (cg:acc.length≤1000000) :
  Calls Tryz.prog 109 [.pointer (some ⟨g,0,none⟩)].toArray w (bM fun u w'=>∃ us gI eM fg,u = .agg us.toArray∧nn (nv Z) w0 w' g s k st gI eM fg∧mf w w' g sk fp gI fg∧ao (g::(aY gI++fg)) w' (JV.obj (ei acc)).D us∧zu Z w w'):=by
 have ak6:=H.own
 have di:=H.xK
 obtain⟨g1,b,eu,vs,eM,fg,rfl,rfl,gM,hm,eR,DE,rB,nm,n6,n7,n8,IJ,MO,_,ak7⟩:=H.Qh (fm:=.A acc t) (acc:=acc) (K:=acc.map (fun q:aa×JV=>q.1)) (t:=t) (fun A w c m h=>h)
 have Im:(acc.map (·.1)).Nodup:=by have h:=hm.keys;rw [show ∀ L:List aa,(nt L).map (·.1)=L from fun L=>by simp [nt,Function.comp_def]] at h;exact h
 obtain⟨al,cl,rfl,_,_⟩:=eR.form
 refine Calls.imp (F0 H.rd ak6 gM eR DE Im nm (fun x ae e=>H.s0 (by subst e;simp [ae])) IJ (fun x ae h=>H.xc x ae (by simp [h])) (by simpa using bV) cg) fun u w' az=>?_
 obtain⟨rfl,⟨gI,agP,EA,iV⟩,E,⟨jB,qw,xw⟩,hlen⟩:=az
 obtain⟨sE,re,UJ⟩:=ak7 w' gI jB (ei acc) E agP EA iV qw xw
 refine⟨_,_,eM,fg,rfl,sE,re,?_,zu.of E (fun z fY=>(di z fY).1) (fun z fY h=>?_)⟩
 ·rw [← hlen] at UJ ⊢
  exact JV.cz (v:=JV.obj (ei acc)) (al:=none) (cl:=0) a8.ej UJ
 rcases List.mem_cons.1 h with h | h
 ·exact(di z fY).2.1 h
 exact MO z fY (by simp [h])
set_option maxRecDepth 10000
theorem b4 {w:World} {e sz n:Nat} {v:Value} {vs:List Value} (O:Own w e sz v n vs) (cj:n≠0):∃ ad c,v = .slice (some ad) n c:=by
 rcases O.2 with⟨_,b3⟩ | ⟨g,o,c,cs,h,_⟩
 ·exact absurd b3 cj
 exact⟨_,_,h⟩
theorem uU {w:World} {e sz n:Nat} {v:Value} {vs gC us:List Value} (cg:vs.length=n*sz) (di:gC.length=sz) (O:Own w e sz v (n+1) ((vs++gC).take (n*sz)++us++(vs++gC).drop ((n+1)*sz))):Own w e sz v (n+1) (vs++us):=by
 have h1:(vs++gC).take (n*sz)=vs:=by rw [List.take_append_of_le_length (by omega),List.take_of_length_le (by omega)]
 have aq:(vs++gC).drop ((n+1)*sz) = []:=List.drop_eq_nil_of_le (by rw [List.length_append,cg,di,Nat.add_mul,Nat.one_mul];exact Nat.le_refl _)
 rwa [h1,aq,List.append_nil] at O
theorem W7 {Z:List Nat} {w0 w:World} {g k:Nat} {s:aa} {st:List lU} {sk:Value} {cs:List Value} {fp:List Nat} {acc:List JV} {v:JV} {us:List Value} (H:nn (nv Z) w0 w g s k (.L acc::st) sk cs fp) (arZ:ao (g::(aY sk++fp)) w v.D us) (bV:cs.length≤32) (ay:acc.length≤1000000) :
  Calls Tryz.prog 107 [.pointer (some ⟨g,0,none⟩),.agg us.toArray].toArray w (bM fun u w'=>u = .int .u8 93∧∃ h6,nn (nv Z) w0 w' g s k (.L (acc ++ [v])::st) sk cs h6∧mf w w' g sk fp sk h6∧zu Z w w'):=by
 refine enter Tryz.func107 rfl rfl rfl (l:=[(0,_),(1,_)]) ⟨rfl,rfl,trivial⟩ ?_
 have di:=H.xK
 have B:=H.rd
 have O:=H.own
 obtain⟨g1,eu,vs,eM,fg,rfl,rfl,gM,eR,DE,rB,nm,MO,acg,_⟩:=H.Qf
 obtain⟨ad,c0,rfl,fA,gB,C⟩:=qj O
 have rV:eM.length+1≤32:=by simpa using bV
 replace B:aE w g 75 _:=B
 have E:=Mod.refl (g1::aY eu) w
 have Ot:=arZ
 obtain⟨al,cl,am,cm,rfl,kP,jF⟩:=JV.a' arZ
 refine ab fun aV=>ep rfl rfl rfl fun g2 aB bT=>?_
 have uR:=bT.le E
 have n3:=bT.ne B
 have n4:=bT.ne gM
 have UI:=bT.b4 eR
 replace B:=B.I bT.mod
 replace gM:=gM.I bT.mod
 replace eR:=eR.I bT.mod
 replace C:=C.mod bT.mod (by simp)
 replace E:=E.then bT.mod
 have dy:=bT.aA
 refine aU rfl (J aV (ax fun aL=>bQ wide (by kernel_rfl) (f' 2 rfl rfl (aj (fun R=>(av fD rfl)) (aj (fun R=>(bg kj rfl ((B.I R).cell rfl))) (f' 2 rfl rfl (aj (fun R=>(av fD rfl)) (aj (fun R=>(bg kj rfl ((B.I R).cell rfl))) (aj (fun R=>(bs Tryz.underlying73 rfl)) (aj (fun R=>(ew (r:=((eM.length:Nat):Int)) rfl rfl (by rw [wrap64_in _ (by omega)];omega))) (aj (fun R=>(ca tb rfl rfl (by omega))) (aj (fun R=>(bg B5 rfl (n5 (C.mod R (by simp))))) ?_))))))))))))
 refine aj (fun R=>(cq rfl)) (bS rfl fun cO R=>?_)
 replace B:=B.I R
 replace gM:=gM.I R
 replace dy:=dy.I R
 replace eR:=eR.I R
 replace E:=E.then R
 refine au aL (ax fun bt=>ab fun bN=>aG rfl (ag (KY zs rfl rfl) (aG rfl (ag (eD rfl rfl) (ag (eD rfl rfl) (aU rfl (aU rfl (J bN (ab fun b2=>aG rfl (J b2 ?_))))))))))
 refine a1 rfl (fun jC=>?_) (fun jC=>absurd jC (by decide))
 refine ax fun cd=>?_
 obtain⟨ach,W8,bk,hf,eV⟩:=eR.form
 subst bk
 refine F1 [] [0,1,2,3,4,5,6] 7 [8,10,11] 9 12 wide (by kernel_rfl) (fun _ _ _ h=>h.2) (iN (f' 2 rfl rfl (aj (fun R=>(av zr rfl)) (aj (fun R=>(bg jH rfl ((gM.I R).cell rfl))) (aj (fun R=>(bc (vs:=[_,_,_,_,_,_]) aJ rfl rfl ((dy.I R).cs rfl))) (aj (fun R=>(bs Tryz.underlying22 rfl)) (aju (fun u cH=>Own cH 25 6 u 1 [.int .i64 0,.bool false,.int .i64 0,S [],.slice none 0 0,.slice none 0 0]) (fun cK mX iE iY az=>az.I iY) (fun cH R=>⟨_,_,n9 (cs:=[_,_,_,_,_,_]) ke cA rfl rfl rfl (by decide),(ko.mk' cH 25 _).mod,Own.all (cs:=[_,_,_,_,_,_]) (ko.mk' cH 25 _).aA rfl (by omega)⟩) rfl rfl rfl (mh (t:=33) rfl rfl rfl rfl fun gb cK R az=>?_))))))))
 replace B:=B.I R
 replace gM:=gM.I R
 replace dy:=dy.I R
 replace eR:=eR.I R
 replace E:=E.then R
 have E3:=E.size
 have uA:=dy.lt
 refine bq ke rfl rfl eR (Src.own Tryz.underlying22 az (by simp [Value.oneCell'])) (by decide) (by omega) (by omega) rfl fun v1 iu jh=>?_
 obtain⟨o7,c1,rfl⟩:=b4 jh.own (by omega)
 replace gM:=gM.mod jh.mod rB
 replace dy:=dy.mod jh.mod (fun ae=>UI g2 ae rfl)
 replace E:=E.trans (jh.mod.mono (fun x ae=>List.mem_cons_of_mem _ ae))
 have r2:∀ x∈aY (.slice (some o7) (acc.length+1) c1),x∈aY (.slice ach acc.length W8)∨w.heap.size≤x:=fun x ae=>(jh.lX x ae).imp id (Nat.le_trans E3)
 have n6:g1∉aY (.slice (some o7) (acc.length+1) c1):=fun ae=>by
  rcases r2 g1 ae with h | h
  ·exact rB h
  have:=H.lt g1 (by simp);omega
 have QO:∀ {a b:World},Mod (aY (.slice (some o7) (acc.length+1) c1)) a b→Mod (g1::aY (.slice ach acc.length W8)) w a→Mod (g1::aY (.slice ach acc.length W8)) w b:=fun iY az=>az.trans' iY fun x ae=>(r2 x ae).imp (fun h=>List.mem_cons_of_mem _ h) id
 have F2:=jh.own
 have nq:vs.length=acc.length*6:=eR.len
 refine QP (VO (fun cH=>ca ke rfl rfl (by omega)) rfl rfl (VO (fun cH=>eb rfl) rfl rfl (VO (fun cH=>av zr rfl) rfl rfl (iN ?_))))
 refine⟨?_,?_⟩
 ·refine uV (us:=[_,_,_,_,_,_]) (i:=acc.length) aJ F2 rfl rfl rfl (by simp [Value.oneCell']) (by omega) fun js ala aci _=>?_
  replace gM:=gM.mod aci (by simpa [aY] using n6)
  replace E:=QO aci E
  refine dZ jH gM rfl rfl rfl (by simp) fun jD np=>?_
  replace gM:=np.eq (cs':=[.slice (some o7) (acc.length+1) c1]) rfl
  replace F2:=(uU nq rfl ala).mod np.mod (fun x ae e=>n6 (by rw [List.mem_singleton.1 e] at ae;exact ae))
  replace E:=E.trans (np.mod.mono (by simp))
  obtain⟨sE,re⟩:=acg jD _ _ v E gM F2 r2 Ot
  exact J cd (nj fun acj cD=>bP (aU rfl (J cD (ba (aR (by simp) (ar rfl rfl ⟨rfl,_,sE,re,zu.of E (fun z fY=>(di z fY).1) MO⟩))))))
 refine dZ jH gM rfl rfl rfl (by simp) fun js hs=>?_
 replace gM:=hs.eq (cs':=[.slice (some o7) (acc.length+1) c1]) rfl
 replace F2:=F2.mod hs.mod (fun x ae e=>n6 (by rw [List.mem_singleton.1 e] at ae;exact ae))
 replace E:=E.trans (hs.mod.mono (by simp))
 refine uV (us:=[_,_,_,_,_,_]) (i:=acc.length) aJ F2 rfl rfl rfl (by simp [Value.oneCell']) (by omega) fun jD alb ack _=>?_
 replace gM:=gM.mod ack (by simpa [aY] using n6)
 replace E:=QO ack E
 replace F2:=uU nq rfl alb
 obtain⟨sE,re⟩:=acg jD _ _ v E gM F2 r2 Ot
 exact J cd (nj fun acj cD=>bP (aU rfl (J cD (ba (aR (by simp) (ar rfl rfl ⟨rfl,_,sE,re,zu.of E (fun z fY=>(di z fY).1) MO⟩))))))
set_option maxRecDepth 10000
theorem W9 {Z:List Nat} {w0 w:World} {g k:Nat} {s:aa} {st:List lU} {sk:Value} {cs:List Value} {fp:List Nat} {acc:List (aa×JV)} {t:aa} {v:JV} {us:List Value} (H:nn (nv Z) w0 w g s k (.M acc t::st) sk cs fp) (arZ:ao (g::(aY sk++fp)) w v.D us) (bV:cs.length≤32) (ay:acc.length≤1000000) :
  Calls Tryz.prog 107 [.pointer (some ⟨g,0,none⟩),.agg us.toArray].toArray w (bM fun u w'=>u = .int .u8 125∧∃ h6,nn (nv Z) w0 w' g s k (.A (acc ++ [(t,v)]) t::st) sk cs h6∧mf w w' g sk fp sk h6∧zu Z w w'):=by
 refine enter Tryz.func107 rfl rfl rfl (l:=[(0,_),(1,_)]) ⟨rfl,rfl,trivial⟩ ?_
 have di:=H.xK
 have B:=H.rd
 have O:=H.own
 obtain⟨g1,b,eu,vs,eM,fg,rfl,rfl,gM,hm,eR,DE,rB,nm,n7,n8,IJ,n10,MO,acg,_⟩:=H.Qh (fm:=.M acc t) (acc:=acc) (K:=acc.map (fun q:aa×JV=>q.1) ++ [t]) (t:=t) (fun A w c m h=>h)
 obtain⟨ad,c0,rfl,fA,gB,C⟩:=qj O
 have rV:eM.length+1≤32:=by simpa using bV
 replace B:aE w g 75 _:=B
 have E:=Mod.refl (g::g1::b::aY eu) w
 have Ot:=arZ
 obtain⟨al,cl,am,cm,rfl,kP,jF⟩:=JV.a' arZ
 refine ab fun aV=>ep rfl rfl rfl fun g2 aB bT=>?_
 have uR:=bT.le E
 have n3:=bT.ne B
 have n4:=bT.ne gM
 have UI:=bT.b4 eR
 replace B:=B.I bT.mod
 replace gM:=gM.I bT.mod
 replace hm:=hm.I bT.mod
 replace eR:=eR.I bT.mod
 replace C:=C.mod bT.mod (by simp)
 replace E:=E.then bT.mod
 have dy:=bT.aA
 refine aU rfl (J aV (ax fun aL=>bQ wide (by kernel_rfl) (f' 2 rfl rfl (aj (fun R=>(av fD rfl)) (aj (fun R=>(bg kj rfl ((B.I R).cell rfl))) (f' 2 rfl rfl (aj (fun R=>(av fD rfl)) (aj (fun R=>(bg kj rfl ((B.I R).cell rfl))) (aj (fun R=>(bs Tryz.underlying73 rfl)) (aj (fun R=>(ew (r:=((eM.length:Nat):Int)) rfl rfl (by rw [wrap64_in _ (by omega)];omega))) (aj (fun R=>(ca tb rfl rfl (by omega))) (aj (fun R=>(bg B5 rfl (n5 (C.mod R (by simp))))) ?_))))))))))))
 refine aj (fun R=>(cq rfl)) (bS rfl fun cO R=>?_)
 replace B:=B.I R
 replace gM:=gM.I R
 replace hm:=hm.I R
 replace dy:=dy.I R
 replace eR:=eR.I R
 replace E:=E.then R
 refine au aL (ax fun bt=>ab fun bN=>aG rfl (ag (IK zs (show ¬ (129:Nat)=163 by decide) QM rfl) (aG rfl (ag (eD rfl rfl) (ag (eD rfl rfl) (aU rfl (aU rfl (J bN (ab fun b2=>aG rfl (J b2 ?_))))))))))
 refine a1 rfl (fun jC=>absurd jC (by decide)) (fun jC=>b8 (au bt (ab fun cJ=>aG rfl (ag (QN zt rfl rfl) (aU rfl (J cJ (ax fun cd=>?_)))))))
 obtain⟨ach,W8,bk,hf,eV⟩:=eR.form
 subst bk
 refine F1 [] [0,1,2,3,4,5,6,7,8,9,10,11] 12 [13,15,16] 14 17 wide (by kernel_rfl) (fun _ _ _ h=>h.2) (iN (f' 2 rfl rfl (aj (fun R=>(av zp rfl)) (aj (fun R=>(bg dz rfl ((gM.I R).cell rfl))) (f' 2 rfl rfl (aj (fun R=>(av uT rfl)) (aj (fun R=>(bg bB rfl ((gM.I R).cell rfl))) (aj (fun R=>(bc (vs:=[_,_,_,_,_,_]) aJ rfl rfl ((dy.I R).cs rfl))) (aj (fun R=>(a7 (cs:=[_,_,_,_,_,_,_]) hC ev rfl rfl)) (aj (fun R=>(bs Tryz.underlying23 rfl)) (aju (fun u cH=>Own cH 51 7 u 1 [S [],.int .i64 0,.bool false,.int .i64 0,S [],.slice none 0 0,.slice none 0 0]) (fun cK mX iE iY az=>az.I iY) (fun cH R=>⟨_,_,n9 (cs:=[_,_,_,_,_,_,_]) cP ev rfl rfl rfl (by decide),(ko.mk' cH 51 _).mod,Own.all (cs:=[_,_,_,_,_,_,_]) (ko.mk' cH 51 _).aA rfl (by omega)⟩) rfl rfl rfl (mh (t:=51) rfl rfl rfl rfl fun gb cK R az=>?_))))))))))))
 replace B:=B.I R
 replace gM:=gM.I R
 replace hm:=hm.I R
 replace dy:=dy.I R
 replace eR:=eR.I R
 replace E:=E.then R
 have E3:=E.size
 have uA:=dy.lt
 refine bq cP rfl rfl eR (Src.own Tryz.underlying23 az (by simp [Value.oneCell'])) (by decide) (by omega) (by omega) rfl fun v1 iu jh=>?_
 obtain⟨o7,c1,rfl⟩:=b4 jh.own (by omega)
 replace gM:=gM.mod jh.mod rB
 replace dy:=dy.mod jh.mod (fun ae=>UI g2 ae rfl)
 replace E:=E.trans (jh.mod.mono (fun x ae=>List.mem_cons_of_mem _ (List.mem_cons_of_mem _ (List.mem_cons_of_mem _ ae))))
 replace hm:=hm.mod jh.mod IJ
 replace B:=B.mod jh.mod (fun ae=>n10 g ae rfl)
 have r2:∀ x∈aY (.slice (some o7) (acc.length+1) c1),x∈aY (.slice ach acc.length W8)∨w.heap.size≤x:=fun x ae=>(jh.lX x ae).imp id (Nat.le_trans E3)
 have n6:g1∉aY (.slice (some o7) (acc.length+1) c1):=fun ae=>by
  rcases r2 g1 ae with h | h
  ·exact rB h
  have:=H.lt g1 (by simp);omega
 have n11:b∉aY (.slice (some o7) (acc.length+1) c1):=fun ae=>by
  rcases r2 b ae with h | h
  ·exact IJ h
  have:=H.lt b (by simp);omega
 have n12:g∉aY (.slice (some o7) (acc.length+1) c1):=fun ae=>by
  rcases r2 g ae with h | h
  ·exact n10 g h rfl
  have:=H.lt g (by simp);omega
 have QO:∀ {xh cK:World},Mod (aY (.slice (some o7) (acc.length+1) c1)) xh cK→Mod (g::g1::b::aY (.slice ach acc.length W8)) w xh→Mod (g::g1::b::aY (.slice ach acc.length W8)) w cK:=fun iY az=>az.trans' iY fun x ae=>(r2 x ae).imp (fun h=>List.mem_cons_of_mem _ (List.mem_cons_of_mem _ (List.mem_cons_of_mem _ h))) id
 have F2:=jh.own
 have nq:vs.length=acc.length*7:=eR.len
 refine QP (VO (fun cH=>ca cP rfl rfl (by omega)) rfl rfl (VO (fun cH=>eb rfl) rfl rfl (VO (fun cH=>av zp rfl) rfl rfl (iN ?_))))
 refine⟨?_,?_⟩
 ·refine uV (us:=[_,_,_,_,_,_,_]) (i:=acc.length) jM F2 rfl rfl rfl (by simp [Value.oneCell']) (by omega) fun js ala aci _=>?_
  replace gM:=gM.mod aci (by simpa [aY] using n6)
  replace hm:=hm.mod aci (by simpa [aY] using n11)
  replace B:=B.mod aci (by simpa [aY] using n12)
  replace E:=QO aci E
  refine dZ dz gM rfl rfl rfl (by simp) fun jD np=>?_
  replace gM:=np.eq (cs':=[.slice (some o7) (acc.length+1) c1,.map (some b),S t]) rfl
  replace F2:=(uU nq rfl ala).mod np.mod (fun x ae e=>n6 (by rw [List.mem_singleton.1 e] at ae;exact ae))
  replace E:=E.trans (np.mod.mono (by simp))
  replace hm:=hm.mod np.mod (by simpa using Ne.symm n8)
  replace B:=B.mod np.mod (by simpa using Ne.symm nm)
  obtain⟨sE,re⟩:=acg jD _ _ k (.A (acc ++ [(t,v)]) t) (acc ++ [(t,v)]) (acc.map (fun q:aa×JV=>q.1) ++ [t]) t E B gM hm (by rw [List.length_append];exact F2) r2 (JV.ow DE (JV.du (p:=(t,v)) Ot)) (fun A w c m h=>by rw [show acc.map (fun q:aa×JV=>q.1) ++ [t]=(acc ++ [(t,v)]).map (fun q:aa×JV=>q.1)by simp] at h;exact h)
  exact J cd (nj fun acj cD=>bP (aU rfl (J cD (ba (ar rfl rfl ⟨rfl,_,sE,re,zu.of E (fun z fY=>(di z fY).1) (fun z fY h=>(List.mem_cons.1 h).elim (di z fY).2.1 (MO z fY))⟩)))))
 refine dZ dz gM rfl rfl rfl (by simp) fun js hs=>?_
 replace gM:=hs.eq (cs':=[.slice (some o7) (acc.length+1) c1,.map (some b),S t]) rfl
 replace F2:=F2.mod hs.mod (fun x ae e=>n6 (by rw [List.mem_singleton.1 e] at ae;exact ae))
 replace E:=E.trans (hs.mod.mono (by simp))
 replace hm:=hm.mod hs.mod (by simpa using Ne.symm n8)
 replace B:=B.mod hs.mod (by simpa using Ne.symm nm)
 refine uV (us:=[_,_,_,_,_,_,_]) (i:=acc.length) jM F2 rfl rfl rfl (by simp [Value.oneCell']) (by omega) fun jD alb ack _=>?_
 replace gM:=gM.mod ack (by simpa [aY] using n6)
 replace hm:=hm.mod ack (by simpa [aY] using n11)
 replace B:=B.mod ack (by simpa [aY] using n12)
 replace E:=QO ack E
 replace F2:=uU nq rfl alb
 obtain⟨sE,re⟩:=acg jD _ _ k (.A (acc ++ [(t,v)]) t) (acc ++ [(t,v)]) (acc.map (fun q:aa×JV=>q.1) ++ [t]) t E B gM hm (by rw [List.length_append];exact F2) r2 (JV.ow DE (JV.du (p:=(t,v)) Ot)) (fun A w c m h=>by rw [show acc.map (fun q:aa×JV=>q.1) ++ [t]=(acc ++ [(t,v)]).map (fun q:aa×JV=>q.1)by simp] at h;exact h)
 exact J cd (nj fun acj cD=>bP (aU rfl (J cD (ba (ar rfl rfl ⟨rfl,_,sE,re,zu.of E (fun z fY=>(di z fY).1) (fun z fY h=>(List.mem_cons.1 h).elim (di z fY).2.1 (MO z fY))⟩)))))
set_option maxRecDepth 10000
theorem DF {w:World} {g T b:Nat} {cs:List Value} {m:List (aa×Value)} (B:aE w g T cs) (ar1:jU w b m):g≠b:=fun e=>by
 subst e;obtain⟨es,c,h,_⟩:=ar1.at_;rw [show w.heap[g]? = _ from B] at h;cases h
abbrev rf:List Value:=[.int .i64 0,.bool false,.int .i64 0,S [],.slice none 0 0,.slice none 0 0]
theorem wq {s:aa} {k n:Nat} {x:JV×Nat} (h:hq s (ai aW s k)=some x):mT s k n = .ok (.inl x):=by
 unfold hq at h;unfold mT
 dsimp only
 split at h
 ·rename_i h1;rw [if_pos h1];injection h with h;rw [h]
 rename_i h1
 rw [if_neg h1]
 split at h
 ·rename_i aq;rw [if_pos aq];injection h with h;rw [h]
 rename_i aq
 rw [if_neg aq]
 split at h
 ·rename_i aT;rw [if_pos aT];injection h with h;rw [h]
 cases h
noncomputable def px (s:aa) (k n:Nat):Except Int (Sum (JV×Nat) (lU×Nat)):=
 if aC s k [34] then
  match e9 s k with
  | none=>.error 4
  | some (t,dX)=>.ok (.inl (JV.aN t,dX))
 else if aC s k [91]||aC s k [123] then
  if n=32 then .error 5
  else
   let dX:=ai aW s (k+1)
   if aC s k [91] then
    if aC s dX [93] then .ok (.inl (JV.cT [],dX+1))else .ok (.inr (.L [],dX))
   else
    if aC s dX [125] then .ok (.inl (JV.obj [],dX+1))
    else match jT s dX [] with
     | .error e=>.error e
     | .ok (t,j3)=>.ok (.inr (.M [] t,j3))
 else match iL s k with
  | .error e=>.error e
  | .ok x=>.ok (.inl x)
theorem wu {s:aa} {k n:Nat} (h:hq s (ai aW s k)=none):mT s k n=px s (ai aW s k) n:=by
 unfold hq at h;unfold mT px
 dsimp only
 split at h
 ·cases h
 rename_i h1
 rw [if_neg h1]
 split at h
 ·cases h
 rename_i aq
 rw [if_neg aq]
 split at h
 ·cases h
 rename_i aT
 rw [if_neg aT];rfl
theorem MP {s:aa} {k n:Nat} (h:k=s.length):px s k n = .error 4:=by
 have b3:∀ c:UInt8,aC s k [c]=false:=fun c=>bW (by omega) (by simp);have di:s.drop k = []:=List.drop_eq_nil_of_le (by omega);have cj:iL s k = .error 4:=by
  unfold iL h4;rw [di,List.take_nil,if_pos (by decide)];rfl
 unfold px;rw [b3,b3,b3,cj];rfl
theorem pP {s:aa} {k:Nat} {c:UInt8} (bh:s[k]? = some c) (d:UInt8):aC s k [d]=decide (c=d):=bA bh
theorem MQ {s:aa} {k n:Nat} (bh:s[k]? = some 34):px s k n=match e9 s k with | none=>.error 4 | some (t,dX)=>.ok (.inl (JV.aN t,dX)):=by
 unfold px;rw [pP bh,if_pos (by decide)]
theorem MR {s:aa} {k n:Nat} (bh:s[k]? = some 91):px s k n=if n=32 then .error 5 else if aC s (ai aW s (k+1)) [93] then .ok (.inl (JV.cT [],ai aW s (k+1)+1))else .ok (.inr (.L [],ai aW s (k+1))):=by
 unfold px;rw [pP bh,pP bh,pP bh,if_neg (by decide),if_pos (by decide)]
 by_cases cj:n=32
 ·rw [if_pos cj,if_pos cj]
 rw [if_neg cj,if_neg cj];exact if_pos (by decide)
theorem MS {s:aa} {k n:Nat} (bh:s[k]? = some 123):px s k n=if n=32 then .error 5 else if aC s (ai aW s (k+1)) [125] then .ok (.inl (JV.obj [],ai aW s (k+1)+1))else match jT s (ai aW s (k+1)) [] with | .error e=>.error e | .ok (t,j3)=>.ok (.inr (.M [] t,j3)):=by
 unfold px;rw [pP bh,pP bh,pP bh,if_neg (by decide),if_pos (by decide)]
 by_cases cj:n=32
 ·rw [if_pos cj,if_pos cj]
 rw [if_neg cj,if_neg cj];exact if_neg (by decide)
theorem MT {s:aa} {k n:Nat} {c:UInt8} (bh:s[k]? = some c) (h1:¬ c=34) (aq:¬ c=91) (aT:¬ c=123):px s k n=match iL s k with | .error e=>.error e | .ok x=>.ok (.inl x):=by
 unfold px;rw [pP bh,pP bh,pP bh,bJ h1,bJ aq,bJ aT];rfl
def alc (Z:List Nat) (w0 w:World) (g:Nat) (s:aa) (st:List lU) (sk:Value) (fp:List Nat):Sum (JV×Nat) (lU×Nat)→Value→World→Prop
 | .inl (v,dX),u,w'=>∃ us gI cs' h6,u = .tuple #[.agg us.toArray,.bool true]∧nn (nv Z) w0 w' g s dX st gI cs' h6∧mf w w' g sk fp gI h6∧ao (g::(aY gI++h6)) w' v.D us∧zu Z w w'
 | .inr (fm,dX),u,w'=>∃ us gI cs' h6,u = .tuple #[.agg us.toArray,.bool false]∧us=rf∧nn (nv Z) w0 w' g s dX (fm::st) gI cs' h6∧mf w w' g sk fp gI h6∧zu Z w w'
theorem W':aP Tryz.prog 146:=aP.of Tryz.func146 (by kernel_rfl) (by kernel_rfl)
theorem KZ:aP Tryz.prog 148:=aP.of Tryz.func148 (by kernel_rfl) (by kernel_rfl)
theorem Xa:aP Tryz.prog 149:=aP.of Tryz.func149 (by kernel_rfl) (by kernel_rfl)
theorem Xb:aP Tryz.prog 84:=aP.of Tryz.func84 (by kernel_rfl) (by kernel_rfl)
theorem x6:aP Tryz.prog 109:=aP.of Tryz.func109 (by kernel_rfl) (by kernel_rfl)
theorem K0:aP Tryz.prog 110:=aP.of Tryz.func110 (by kernel_rfl) (by kernel_rfl)
theorem acm:vM Tryz.prog 165 [(0,1)]=true:=by kernel_rfl
theorem acn:hD Tryz.prog 165 [.slice none 0 0]:=by unfold hD;kernel_rfl
theorem aco:vM Tryz.prog 168 [(0,1),(1,1),(2,1)]=true:=by kernel_rfl
theorem acp:hD Tryz.prog 168 [.slice none 0 0,.map none,S []]:=by unfold hD;kernel_rfl
theorem QQ {Z:List Nat} {w0 w:World} {g k:Nat} {s:aa} {st:List lU} {sk:Value} {cs:List Value} {fp:List Nat} (H:nn (nv Z) w0 w g s k st sk cs fp) (bb:s.length≤65536) (hk:k≤s.length) (bV:cs.length≤32) (e1:Env w) (dv:MK<g) (ald:∀ x∈aY sk,MK<x) :
  Calls Tryz.prog 106 [.pointer (some ⟨g,0,none⟩)].toArray w (My 124 (g::aY sk) w (mT s k st.length) (alc Z w0 w g s st sk fp)):=by
 refine enter Tryz.func106 rfl rfl rfl (l:=[(0,_)]) ⟨rfl,trivial⟩ ?_
 have acq:=e1
 have hlen:=H.len
 have di:=H.xK
 have B:aE w g 75 _:=H.rd
 have uS:∀ x∈aY sk,x≠g:=fun x ae e=>H.s0 (by subst e;simp [ae])
 have E:=Mod.refl [g] w
 have nT:ai aW s k≤s.length:=cw hk
 refine ab fun aV=>bp cA rfl fun g2 aB bT=>?_
 have uR:=bT.le E
 have nm:=bT.ne B
 have UI:=bT.b4 H.own
 replace B:=B.I bT.mod
 replace E:=E.then bT.mod
 have dy:=bT.aA
 refine aU rfl (J aV (ab fun aL=>aG rfl (fv (bE DD rfl) (uQ _ g s k sk B bb hk) rfl fun cK cO az=>?_)))
 obtain⟨B,R⟩:=az
 replace dy:=dy.mod R (by simpa using Ne.symm nm)
 replace E:=E.trans R
 refine J aL (ax fun aX=>ab fun bt=>aG rfl (fv (bE W' rfl) (WW _ g s _ sk B bb nT) rfl fun cK gb az=>?_))
 obtain⟨us,rfl,aZ,cj,R⟩:=az
 replace dy:=dy.mod R (by simpa using Ne.symm nm)
 replace E:=E.trans R
 cases hw:hq s (ai aW s k)with
 | some x=>
  obtain⟨v,q⟩:=x
  obtain⟨v',ale,alf,arZ,B⟩:=aZ (by rw [hw];rfl)
  obtain⟨al,cl,am,cm,rfl,_,_⟩:=JV.a' (arZ [] w)
  refine aG rfl (ag (eD rfl rfl) (ag (eD rfl rfl) (bp cA rfl fun g4 iu N4=>?_)))
  have acr:=N4.le E
  have n3:=N4.ne B
  have n4:=N4.ne dy
  replace B:=B.I N4.mod
  replace dy:=dy.I N4.mod
  replace E:=E.then N4.mod
  refine bm (vs:=[_,_,_,_,_,_]) aJ N4.aA rfl rfl rfl (by simp [Value.oneCell']) (by simp) fun js hs=>?_
  have aoP:=hs.eq (cs':=[_,_,_,_,_,_]) rfl
  replace B:=B.mod hs.mod (by simpa using n3)
  replace dy:=dy.mod hs.mod (by simpa using n4)
  replace E:=E.own hs.mod acr
  refine aU rfl (J bt (nj fun K5 bN=>bP (aG rfl (J bN ?_))))
  refine a1 rfl (fun p6=>?_) (fun p6=>absurd p6 (by simp))
  refine ab fun b2=>ag (bc (vs:=[_,_,_,_,_,_]) aJ rfl rfl (aoP.cs rfl)) (bm (vs:=[_,_,_,_,_,_]) aJ dy rfl rfl rfl (by simp [Value.oneCell']) (by simp) fun jD np=>?_)
  have nw:=np.eq (cs':=[_,_,_,_,_,_]) rfl
  replace B:=B.mod np.mod (by simpa using nm)
  replace E:=E.own np.mod uR
  exact aU rfl (J b2 (ba (aR (by simp) (qN (vs:=[_,_,_,_,_,_]) rfl aJ rfl rfl (nw.cs rfl) rfl ⟨.inl (v',ale),wq alf,⟨_,sk,cs,fp,rfl,H.rW B E,mf.of E,arZ _ _,(zu.of E (fun z fY=>(di z fY).1) (fun z fY=>by simpa using (di z fY).2.1))⟩,E.mono (by simp)⟩))))
 | none=>
  obtain⟨_,rfl,B⟩:=cj (by rw [hw];rfl)
  have nx:=wu (n:=st.length) hw
  refine aG rfl (ag (eD rfl rfl) (ag (eD rfl rfl) (bp cA rfl fun g4 iu N4=>?_)))
  have acr:=N4.le E
  have n3:=N4.ne B
  have n4:=N4.ne dy
  replace B:=B.I N4.mod
  replace dy:=dy.I N4.mod
  replace E:=E.then N4.mod
  refine bm (vs:=[_,_,_,_,_,_]) aJ N4.aA rfl rfl rfl (by simp [Value.oneCell']) (by simp) fun js hs=>?_
  have aoP:=hs.eq (cs':=rf) rfl
  replace B:=B.mod hs.mod (by simpa using n3)
  replace dy:=dy.mod hs.mod (by simpa using n4)
  replace E:=E.own hs.mod acr
  refine aU rfl (J bt (nj fun K5 bN=>bP (aG rfl (J bN (a1 rfl (fun p6=>absurd p6 (by simp)) (fun p6=>b8 (au aX (ax fun cd=>eE (ax fun cD=>bQ wide (by kernel_rfl) (f' 2 rfl rfl ?_))))))))))
  refine aj (fun R=>(av c6 rfl)) (aj (fun R=>(bg dN rfl ((B.I R).cell rfl))) (f' 2 rfl rfl (aj (fun R=>(av fo rfl)) (aj (fun R=>(bg bB rfl ((B.I R).cell rfl))) (aj (fun R=>(br Tryz.underlying9 rfl)) (aj (fun R=>(lS rfl rfl)) (aj (fun R=>(cq rfl)) (bS rfl fun jD R=>?_))))))))
  replace B:=B.I R
  replace dy:=dy.I R
  replace E:=E.then R
  refine au cD ?_
  refine aK rfl (fun mH=>?_) (fun mH=>?_)
  ·refine bP ?_
   refine fP (bE gf rfl) (eT _ 4) rfl (fun cH az=>az.elim) (fun lV iv az=>?_) fun cK iv az=>?_
   ·obtain⟨rfl,rfl⟩:=az
    exact bz (by simp) (aR (by simp) (ea ⟨4,by rw [nx,MP (by omega)],by decide,rfl,E.mono (by simp)⟩))
   exact az.elim
  obtain⟨c,bh⟩:∃ c,s[ai aW s k]? = some c:=⟨_,List.getElem?_eq_getElem (by omega)⟩
  refine ax fun cJ=>bQ wide (by kernel_rfl) (f' 2 rfl rfl (aj (fun R=>(av fo rfl)) (aj (fun R=>(bg bB rfl ((B.I R).cell rfl))) (f' 2 rfl rfl (aj (fun R=>(av c6 rfl)) (aj (fun R=>(bg dN rfl ((B.I R).cell rfl))) (aj (fun R=>(b6 Tryz.underlying9 rfl rfl (by omega) (by rw [Int.toNat_natCast];exact bh))) (aj (fun R=>(lS rfl rfl)) (aj (fun R=>(cq rfl)) (bS rfl fun aqv R=>?_))))))))))
  replace B:=B.I R
  replace dy:=dy.I R
  replace E:=E.then R
  refine au cJ ?_
  refine aK rfl (fun Da=>?_) (fun Da=>?_)
  ·obtain rfl:c=34:=dt (by rw [Da];rfl)
   rw [MQ bh] at nx
   refine ab fun cf=>aG rfl ?_
   refine fP (bE KW rfl) (FT _ g s (ai aW s k) sk B bb nT (acq.oK dv E).abX) rfl (fun cH az=>az) (fun lV iv az=>?_) fun cK iv az=>?_
   ·obtain⟨e,he,b3,rfl,R⟩:=az
    refine aR (by simp) (bz (by simp) (aR (by simp) ?_))
    refine ea ⟨e,?_,b3,rfl,(E.trans R).mono (by simp)⟩
    rw [nx]
    cases h:e9 s (ai aW s k)with
    | none=>rw [h] at he;cases he;rfl
    | some x=>rw [h] at he;cases he
   obtain⟨⟨t,dX⟩,he,⟨rfl,B⟩,R⟩:=az
   have cc:e9 s (ai aW s k)=some (t,dX):=by
    cases h:e9 s (ai aW s k)with
    | none=>rw [h] at he;cases he
    | some x=>rw [h] at he;cases he;rfl
   rw [cc] at nx
   replace dy:=dy.mod R (by simpa using Ne.symm nm)
   replace E:=E.trans R
   refine cQ (bE Xb rfl) (mY _ t) fun oj R=>?_
   replace B:=B.I R
   replace dy:=dy.I R
   replace E:=E.then R
   refine bm (vs:=[_,_,_,_,_,_]) aJ dy rfl rfl rfl (by simp [Value.oneCell']) (by simp) fun l1 om=>?_
   have nw:=om.eq (cs':=[_,_,_,_,_,_]) rfl
   replace B:=B.mod om.mod (by simpa using nm)
   replace E:=E.own om.mod uR
   exact aU rfl (J cf (ba (bz (by simp) (aR (by simp) (qN (vs:=[_,_,_,_,_,_]) rfl aJ rfl rfl (nw.cs rfl) rfl ⟨.inl (JV.aN t,dX),nx,⟨_,sk,cs,fp,rfl,H.rW B E,mf.of E,JV.cz (v:=JV.aN t) (al:=none) (am:=none) (cl:=0) (cm:=0) a8.ej a8.ej,(zu.of E (fun z fY=>(di z fY).1) (fun z fY=>by simpa using (di z fY).2.1))⟩,E.mono (by simp)⟩)))))
  have agQ:¬ c=34:=fun e=>Da (by rw [e];rfl)
  refine ax fun b1=>bQ wide (by kernel_rfl) (f' 2 rfl rfl (aj (fun R=>(av fo rfl)) (aj (fun R=>(bg bB rfl ((B.I R).cell rfl))) (f' 2 rfl rfl (aj (fun R=>(av c6 rfl)) (aj (fun R=>(bg dN rfl ((B.I R).cell rfl))) (aj (fun R=>(b6 Tryz.underlying9 rfl rfl (by omega) (by rw [Int.toNat_natCast];exact bh))) (aj (fun R=>(lS rfl rfl)) (aj (fun R=>(cq rfl)) (bS rfl fun aoQ R=>?_))))))))))
  replace B:=B.I R
  replace dy:=dy.I R
  replace E:=E.then R
  refine au b1 ?_
  refine aK rfl (fun E0=>?_) (fun E0=>?_)
  ·obtain rfl:c=91:=dt (by rw [E0];rfl)
   rw [MR bh] at nx
   refine ab fun cX=>aG rfl (ag (a7 (us:=[]) (cs:=[_]) acm acn rfl rfl) (ep rfl rfl rfl fun g5 iv fx=>?_))
   have QR:=fx.le E
   have n6:=fx.ne B
   have n7:=fx.ne dy
   replace B:=B.I fx.mod
   replace dy:=dy.I fx.mod
   have gP:=dy.lt
   replace E:=E.then fx.mod
   have B6:=fx.aA
   refine ag (IL zs rfl rfl) ?_
   refine fP (bE KZ rfl) (KV B (H.own.mod E (fun x ae e=>uS x ae (by simpa using e))) uS bb nT bV) rfl (fun cH az=>az) (fun lV oj az=>?_) fun cK oj az=>?_
   ·obtain⟨e,he,b3,rfl,R⟩:=az
    refine aR (by simp) (bz (by simp) (aR (by simp) ?_))
    refine ea ⟨e,?_,b3,rfl,(E.mono (by simp)).trans R⟩
    by_cases wv:cs.length=32
    ·rw [if_pos wv] at he
     rw [nx,if_pos (by omega)]
     cases he;rfl
    rw [if_neg wv] at he;cases he
   obtain⟨_,he,⟨_,gI,B,EA,tS⟩,R⟩:=az
   have wv:¬ cs.length=32:=fun h=>by rw [if_pos h] at he;cases he
   rw [if_neg (by omega)] at nx
   have fA:cs.length+1≤32:=by omega
   have n8:g5∉g::aY sk:=fun h=>by
    rcases List.mem_cons.1 h with h | h
    ·exact n6 h.symm
    have:=H.lt g5 (by simp [h]);omega
   have IJ:g2∉g::aY sk:=fun h=>by
    rcases List.mem_cons.1 h with h | h
    ·exact nm h.symm
    have:=H.lt g2 (by simp [h]);omega
   replace dy:=dy.mod R IJ
   replace B6:=B6.mod R n8
   have alg:=E.size
   have IM:=fx.aA.lt
   have nu:∀ x∈aY gI,x∈aY sk∨iv.heap.size≤x:=tS
   replace E:Mod (g::aY sk) w oj:=(E.mono (by simp)).trans R
   have AP:∀ x∈aY gI,x≠g2:=fun x ae e=>by
    subst e
    rcases tS x ae with h | h
    ·exact IJ (by simp [h])
    omega
   have agR:∀ x∈aY gI,x≠g5:=fun x ae e=>by
    subst e
    rcases tS x ae with h | h
    ·exact n8 (by simp [h])
    omega
   have MU:∀ x∈aY gI,x≠g:=fun x ae e=>by
    subst e
    rcases tS x ae with h | h
    ·exact uS x h rfl
    have:=H.rd.lt;have:=fx.at_;omega
   have DG:∀ z∈Z,z∉g::aY sk:=fun z fY h=>by
    rcases List.mem_cons.1 h with h | h
    ·exact(di z fY).2.1 h
    exact(di z fY).2.2 h
   refine J cX (ax fun cb=>ab fun cU=>aG rfl ?_)
   have bn:ai aW s k+1≤s.length:=(List.getElem?_eq_some_iff.1 bh).1
   refine fv (bE oM rfl) (tP _ g s _ gI B bb bn 93) rfl fun cK l1 az=>?_
   obtain⟨rfl,B,R⟩:=az
   replace dy:=dy.mod R (by simpa using Ne.symm nm)
   replace B6:=B6.mod R (by simpa using Ne.symm n6)
   replace EA:=EA.mod R (fun x ae e=>MU x ae (by simpa using e))
   replace E:=E.trans (R.mono (by simp))
   refine J cU ?_
   refine a1 rfl (fun acs=>?_) (fun acs=>?_)
   ·rw [if_pos acs] at nx B
    refine ab fun dj=>aG rfl (fv (bE x6 rfl) (FY B (by simpa using EA) B6 (Ne.symm n6) MU (by omega)) rfl fun cK iw az=>?_)
    obtain⟨rfl,⟨alh,B,qw,iV⟩,R⟩:=az
    replace dy:=dy.mod R (by simpa using Ne.symm nm)
    replace E:=E.trans (R.mono (by simp))
    refine bm (vs:=[_,_,_,_,_,_]) aJ dy rfl rfl rfl (by simp [Value.oneCell']) (by simp) fun kl e7=>?_
    have nw:=e7.eq (cs':=[_,_,_,_,_,_]) rfl
    replace B:=B.mod e7.mod (by simpa using nm)
    replace E:=E.own e7.mod uR
    refine aU rfl (J dj (ba (aR (by simp) (bz (by simp) (aR (by simp) ?_)))))
    obtain⟨sE,re⟩:=H.KG E B (qw.mod e7.mod (fun x ae e=>AP x (iV▸ae) (by simpa using e))) (fun x ae=>(nu x (iV▸ae)).imp id (fun h=>by have:=fx.at_;omega))
    exact qN (vs:=[_,_,_,_,_,_]) rfl aJ rfl rfl (nw.cs rfl) rfl ⟨.inl (JV.cT [],_),nx,⟨_,_,cs,fp,rfl,sE,re,JV.cz (v:=JV.cT []) (al:=none) (am:=none) (cl:=0) (cm:=0) a8.ej a8.ej,(zu.of E (fun z fY=>(di z fY).1) DG)⟩,E⟩
   rw [if_neg (by simpa using acs)] at nx B
   refine b8 (au cb (ab fun dO=>ag (a7 (us:=[]) (cs:=[_,_,_,_,_,_]) gT cA rfl rfl) (bm (vs:=[_,_,_,_,_,_]) aJ dy rfl rfl rfl (by simp [Value.oneCell']) (by simp) fun kl e7=>?_)))
   have nw:=e7.eq (cs':=[_,_,_,_,_,_]) rfl
   replace B:=B.mod e7.mod (by simpa using nm)
   replace B6:=B6.mod e7.mod (by simpa using Ne.symm n7)
   replace E:=E.own e7.mod uR
   refine aU rfl (J dO (ba (bz (by simp) (aR (by simp) ?_))))
   obtain⟨sE,re⟩:=H.push (N:=iv.heap.size) (fm:=.L []) (c:=.iface 163 (.pointer (some ⟨g5,0,none⟩))) (m:=[g5]) E (by have:=fx.at_;omega) (fun x ae=>by rw [List.mem_singleton.1 ae];exact⟨QR,IM⟩) B (EA.mod e7.mod (fun x ae e=>AP x ae (by simpa using e))) nu (fun A=>⟨g5,.slice none 0 0,rfl,⟨B6,⟨[],Own.nil _ _ _,ao.mL⟩,by simp [aY]⟩,rfl⟩)
   exact qN (vs:=[_,_,_,_,_,_]) rfl aJ rfl rfl (nw.cs rfl) rfl ⟨.inr (.L [],_),nx,⟨_,_,_,_,rfl,rfl,sE,re,(zu.of E (fun z fY=>(di z fY).1) DG)⟩,E⟩
  have agS:¬ c=91:=fun e=>E0 (by rw [e];rfl)
  refine ax fun eH=>bQ wide (by kernel_rfl) (f' 2 rfl rfl (aj (fun R=>(av fo rfl)) (aj (fun R=>(bg bB rfl ((B.I R).cell rfl))) (f' 2 rfl rfl (aj (fun R=>(av c6 rfl)) (aj (fun R=>(bg dN rfl ((B.I R).cell rfl))) (aj (fun R=>(b6 Tryz.underlying9 rfl rfl (by omega) (by rw [Int.toNat_natCast];exact bh))) (aj (fun R=>(lS rfl rfl)) (aj (fun R=>(cq rfl)) (bS rfl fun aoR R=>?_))))))))))
  replace B:=B.I R
  replace dy:=dy.I R
  replace E:=E.then R
  refine au eH ?_
  refine aK rfl (fun acu=>?_) (fun acu=>?_)
  rotate_left
  ·have acx:¬ c=123:=fun e=>acu (by rw [e];rfl)
   refine b8 (bz (by simp) (au cd ?_))
   rw [MT bh agQ agS acx] at nx
   refine ab fun hg=>aG rfl ?_
   refine fP (bE Xa rfl) (ID _ g s (ai aW s k) sk B bb nT (acq.oK dv E) dv) rfl (fun cH az=>az) (fun lV iv az=>?_) fun cK iv az=>?_
   ·obtain⟨e,he,b3,rfl,R⟩:=az
    exact aR (by simp) (ea ⟨e,by rw [nx,he],b3,rfl,(E.trans R).mono (by simp)⟩)
   obtain⟨⟨v,dX⟩,he,⟨us,rfl,arZ,B⟩,R⟩:=az
   rw [he] at nx
   obtain⟨al,cl,am,cm,rfl,_,_⟩:=JV.a' (arZ [] w)
   replace dy:=dy.mod R (by simpa using Ne.symm nm)
   replace E:=E.trans R
   refine bm (vs:=[_,_,_,_,_,_]) aJ dy rfl rfl rfl (by simp [Value.oneCell']) (by simp) fun l1 om=>?_
   have nw:=om.eq (cs':=[_,_,_,_,_,_]) rfl
   replace B:=B.mod om.mod (by simpa using nm)
   replace E:=E.own om.mod uR
   exact aU rfl (J hg (ba (qN (vs:=[_,_,_,_,_,_]) rfl aJ rfl rfl (nw.cs rfl) rfl ⟨.inl (v,dX),nx,⟨_,sk,cs,fp,rfl,H.rW B E,mf.of E,arZ _ _,(zu.of E (fun z fY=>(di z fY).1) (fun z fY=>by simpa using (di z fY).2.1))⟩,E.mono (by simp)⟩)))
  obtain rfl:c=123:=dt (by rw [acu];rfl)
  rw [MS bh] at nx
  refine ab fun ee=>Xc rfl fun b s5 qk ali alj=>?_
  have alk:w.heap.size≤b:=by have:=E.size;omega
  replace B:=B.I alj
  replace dy:=dy.I alj
  replace E:=E.then alj
  have acv:=DF B qk
  have agT:=DF dy qk
  refine ag (a7 (cs:=[_,_,_]) aco acp rfl rfl) (ep rfl rfl rfl fun g5 iv fx=>?_)
  have QR:=fx.le E
  have n6:=fx.ne B
  have n7:=fx.ne dy
  replace B:=B.I fx.mod
  replace dy:=dy.I fx.mod
  replace qk:=qk.I fx.mod
  have gP:=dy.lt
  have Ba:=qk.lt
  replace E:=E.then fx.mod
  have B6:=fx.aA
  have agU:=DF B6 qk
  refine aU rfl (J ee (ab fun fE=>aG rfl (aG rfl (ag (IL zt rfl rfl) ?_))))
  refine fP (bE KZ rfl) (KV B (H.own.mod E (fun x ae e=>uS x ae (by simpa using e))) uS bb nT bV) rfl (fun cH az=>az) (fun lV oj az=>?_) fun cK oj az=>?_
  ·obtain⟨e,he,b3,rfl,R⟩:=az
   refine aR (by simp) (bz (by simp) (aR (by simp) ?_))
   refine ea ⟨e,?_,b3,rfl,(E.mono (by simp)).trans R⟩
   by_cases wv:cs.length=32
   ·rw [if_pos wv] at he
    rw [nx,if_pos (by omega)]
    cases he;rfl
   rw [if_neg wv] at he;cases he
  obtain⟨_,he,⟨_,gI,B,EA,tS⟩,R⟩:=az
  have wv:¬ cs.length=32:=fun h=>by rw [if_pos h] at he;cases he
  rw [if_neg (by omega)] at nx
  have fA:cs.length+1≤32:=by omega
  have n8:g5∉g::aY sk:=fun h=>by
   rcases List.mem_cons.1 h with h | h
   ·exact n6 h.symm
   have:=H.lt g5 (by simp [h]);omega
  have agV:b∉g::aY sk:=fun h=>by
   rcases List.mem_cons.1 h with h | h
   ·exact acv h.symm
   have:=H.lt b (by simp [h]);omega
  have IJ:g2∉g::aY sk:=fun h=>by
   rcases List.mem_cons.1 h with h | h
   ·exact nm h.symm
   have:=H.lt g2 (by simp [h]);omega
  replace dy:=dy.mod R IJ
  replace B6:=B6.mod R n8
  replace qk:=qk.mod R agV
  have alg:=E.size
  have IM:=fx.aA.lt
  have nu:∀ x∈aY gI,x∈aY sk∨iv.heap.size≤x:=tS
  replace E:Mod (g::aY sk) w oj:=(E.mono (by simp)).trans R
  have AP:∀ x∈aY gI,x≠g2:=fun x ae e=>by
   subst e
   rcases tS x ae with h | h
   ·exact IJ (by simp [h])
   omega
  have agR:∀ x∈aY gI,x≠g5:=fun x ae e=>by
   subst e
   rcases tS x ae with h | h
   ·exact n8 (by simp [h])
   omega
  have MM:∀ x∈aY gI,x≠b:=fun x ae e=>by
   subst e
   rcases tS x ae with h | h
   ·exact agV (by simp [h])
   omega
  have MU:∀ x∈aY gI,x≠g:=fun x ae e=>by
   subst e
   rcases tS x ae with h | h
   ·exact uS x h rfl
   have:=H.rd.lt;have:=fx.at_;omega
  have DG:∀ z∈Z,z∉g::aY sk:=fun z fY h=>by
   rcases List.mem_cons.1 h with h | h
   ·exact(di z fY).2.1 h
   exact(di z fY).2.2 h
  refine J fE (ax fun fT=>ab fun fF=>aG rfl ?_)
  have bn:ai aW s k+1≤s.length:=(List.getElem?_eq_some_iff.1 bh).1
  refine fv (bE oM rfl) (tP _ g s _ gI B bb bn 125) rfl fun cK l1 az=>?_
  obtain⟨rfl,B,R⟩:=az
  replace dy:=dy.mod R (by simpa using Ne.symm nm)
  replace B6:=B6.mod R (by simpa using Ne.symm n6)
  replace qk:=qk.mod R (by simpa using Ne.symm acv)
  replace EA:=EA.mod R (fun x ae e=>MU x ae (by simpa using e))
  replace E:=E.trans (R.mono (by simp))
  refine J fF ?_
  refine a1 rfl (fun acw=>?_) (fun acw=>?_)
  ·rw [if_pos acw] at nx B
   refine nj fun alm fG=>bP (aG rfl (fv (bE x6 rfl) (F0 (A:=[]) (wr:=w) (acc:=[]) (vs:=[]) B (by simpa using EA) B6 (Own.nil _ _ _) ao.mL List.nodup_nil (Ne.symm n6) MU (by simp [aY]) (by simp [aY]) (by omega) (by simp)) rfl fun cK iw az=>?_))
   obtain⟨rfl,⟨alh,B,qw,iV⟩,R,_,_⟩:=az
   replace R:Mod [g] l1 iw:=R
   replace dy:=dy.mod R (by simpa using Ne.symm nm)
   replace E:=E.trans (R.mono (by simp))
   refine bm (vs:=[_,_,_,_,_,_]) aJ dy rfl rfl rfl (by simp [Value.oneCell']) (by simp) fun kl e7=>?_
   have nw:=e7.eq (cs':=[_,_,_,_,_,_]) rfl
   replace B:=B.mod e7.mod (by simpa using nm)
   replace E:=E.own e7.mod uR
   refine aU rfl (J fG (ba (aR (by simp) (bz (by simp) (aR (by simp) ?_)))))
   obtain⟨sE,re⟩:=H.KG E B (qw.mod e7.mod (fun x ae e=>AP x (iV▸ae) (by simpa using e))) (fun x ae=>(nu x (iV▸ae)).imp id (fun h=>by have:=fx.at_;omega))
   exact qN (vs:=[_,_,_,_,_,_]) rfl aJ rfl rfl (nw.cs rfl) rfl ⟨.inl (JV.obj [],_),nx,⟨_,_,cs,fp,rfl,sE,re,JV.cz (v:=JV.obj []) (al:=none) (am:=none) (cl:=0) (cm:=0) a8.ej a8.ej,(zu.of E (fun z fY=>(di z fY).1) DG)⟩,E⟩
  rw [if_neg (by simpa using acw)] at nx B
  refine b8 (au fT (nj fun alm fG=>bP (aG rfl (aG rfl ?_))))
  refine fP (bE K0 rfl) (KX (K:=[]) (m:=[]) B B6 qk (Ne.symm n6) acv agU (fun t=>by simp [look]) bb (cw bn) (acq.mod E (fun x ae=>by
   rcases List.mem_cons.1 ae with rfl | ae
   ·exact dv
   exact ald x ae)) dv) rfl (fun cH az=>az) (fun lV iw az=>?_) fun cK iw az=>?_
  ·obtain⟨e,he,b3,rfl,R⟩:=az
   refine aR (by simp) (bz (by simp) (aR (by simp) ?_))
   refine ea ⟨e,by rw [nx,he],b3,rfl,E.trans' R (fun x ae=>?_)⟩
   simp only [List.mem_cons,List.not_mem_nil,or_false] at ae
   rcases ae with rfl | rfl | rfl
   ·exact .inl (by simp)
   ·exact .inr QR
   exact .inr alk
  obtain⟨⟨t,j3⟩,he,⟨rfl,B,B6,qk,_⟩,R⟩:=az
  rw [he] at nx
  have QS:∀ {x:Nat},x≠g→x≠g5→x≠b→x∉[g,g5,b]:=fun h1 aq aT=>by simp [h1,aq,aT]
  replace dy:=dy.mod R (QS (Ne.symm nm) n7 agT)
  replace EA:=EA.mod R (fun x ae=>QS (MU x ae) (agR x ae) (MM x ae))
  replace E:=E.trans' R (fun x ae=>by
   simp only [List.mem_cons,List.not_mem_nil,or_false] at ae
   rcases ae with rfl | rfl | rfl
   ·exact .inl (by simp)
   ·exact .inr QR
   exact .inr alk)
  refine J fG (ab fun gU=>ag (a7 (us:=[]) (cs:=[_,_,_,_,_,_]) gT cA rfl rfl) (bm (vs:=[_,_,_,_,_,_]) aJ dy rfl rfl rfl (by simp [Value.oneCell']) (by simp) fun kl e7=>?_))
  have nw:=e7.eq (cs':=[_,_,_,_,_,_]) rfl
  replace B:=B.mod e7.mod (by simpa using nm)
  replace B6:=B6.mod e7.mod (by simpa using Ne.symm n7)
  replace qk:=qk.mod e7.mod (by simpa using Ne.symm agT)
  replace E:=E.own e7.mod uR
  refine aU rfl (J gU (ba (bz (by simp) (aR (by simp) ?_))))
  obtain⟨sE,re⟩:=H.push (N:=iv.heap.size) (fm:=.M [] t) (c:=.iface 129 (.pointer (some ⟨g5,0,none⟩))) (m:=[g5,b]) E (by have:=fx.at_;omega) (fun x ae=>by
   simp only [List.mem_cons,List.not_mem_nil,or_false] at ae
   rcases ae with rfl | rfl
   ·exact⟨QR,IM⟩
   exact⟨alk,Ba⟩) B (EA.mod e7.mod (fun x ae e=>AP x ae (by simpa using e))) nu (fun A=>⟨g5,b,.slice none 0 0,rfl,⟨B6,qk,⟨[],Own.nil _ _ _,ao.mL⟩,agU,by simp [aY],by simp [aY]⟩,rfl⟩)
  exact qN (vs:=[_,_,_,_,_,_]) rfl aJ rfl rfl (nw.cs rfl) rfl ⟨.inr (.M [] t,j3),nx,⟨_,_,_,_,rfl,rfl,sE,re,(zu.of E (fun z fY=>(di z fY).1) DG)⟩,E⟩
theorem xj (p:UInt8→Bool) (s:aa):∀ (n k:Nat),s.length-k≤n→ai p s (ai p s k)=ai p s k
 | 0,k,h=>by
  have e:ai p s k=k:=kW (by omega)
  rw [e,e]
 | n+1,k,h=>by
  rcases Nat.lt_or_ge k s.length with hk | hk
  ·obtain⟨c,bh⟩:∃ c,s[k]? = some c:=⟨_,List.getElem?_eq_getElem hk⟩
   cases cn:p c with
   | true=>rw [← vZ bh cn];exact xj p s n (k+1) (by omega)
   | false=>
    have e:=lj bh cn
    rw [e,e]
  have e:ai p s k=k:=kW hk
  rw [e,e]
theorem n' {p:UInt8→Bool} {s:aa} {k:Nat}:ai p s (ai p s k)=ai p s k:=xj p s _ k (Nat.le_refl _)
def lU.sz:lU→Nat
 | .L acc=>acc.length
 | .M acc _=>acc.length
 | .A acc _=>acc.length
section
variable {s:aa} {k:Nat} {st:List lU} {r:A6}
theorem QU {e:Int} (h:hV s none k st r) (aQ:mT s k st.length = .error e):r = .error e:=by
 cases h with
 | err h1=>rw [aQ] at h1;injection h1 with h1;rw [h1]
 | whole h1 _=>rw [aQ] at h1;cases h1
 | push h1 _=>rw [aQ] at h1;cases h1
theorem IQ {v:JV} {dX:Nat} (h:hV s none k st r) (aQ:mT s k st.length = .ok (.inl (v,dX))):hV s (some v) dX st r:=by
 cases h with
 | err h1=>rw [aQ] at h1;cases h1
 | whole h1 aq=>rw [aQ] at h1;cases h1;exact aq
 | push h1 _=>rw [aQ] at h1;cases h1
theorem M0 {x:lU} {dX:Nat} (h:hV s none k st r) (aQ:mT s k st.length = .ok (.inr (x,dX))):hV s none dX (x::st) r:=by
 cases h with
 | err h1=>rw [aQ] at h1;cases h1
 | whole h1 aq=>rw [aQ] at h1;cases h1
 | push h1 aq=>rw [aQ] at h1;cases h1;exact aq
theorem M3 {v:JV} (h:hV s (some v) k [] r):r = .ok (v,k):=by cases h;rfl
theorem M4 {v:JV} {acc:List JV} (h:hV s (some v) k (.L acc::st) r) (h1:aC s (ai aW s k) [93]=true):hV s (some (JV.cT (acc ++ [v]))) (ai aW s k+1) st r:=by
 cases h with
 | Kz _ aT=>exact aT
 | y2 aq _ _=>rw [h1] at aq;cases aq
 | KA aq _=>rw [h1] at aq;cases aq
theorem IT {v:JV} {acc:List JV} (h:hV s (some v) k (.L acc::st) r) (h1:aC s (ai aW s k) [93]=false) (aq:aC s (ai aW s k) [44]=true):hV s none (ai aW s k+1) (.L (acc ++ [v])::st) r:=by
 cases h with
 | Kz aT _=>rw [h1] at aT;cases aT
 | y2 _ _ aT=>exact aT
 | KA _ aT=>rw [aq] at aT;cases aT
theorem M5 {v:JV} {acc:List JV} (h:hV s (some v) k (.L acc::st) r) (h1:aC s (ai aW s k) [93]=false) (aq:aC s (ai aW s k) [44]=false):r = .error 4:=by
 cases h with
 | Kz aT _=>rw [h1] at aT;cases aT
 | y2 _ aT _=>rw [aq] at aT;cases aT
 | KA _ aT=>rfl
theorem M6 {v:JV} {acc:List (aa×JV)} {t:aa} (h:hV s (some v) k (.M acc t::st) r) (h1:aC s (ai aW s k) [125]=true):hV s (some (JV.obj (ei (acc ++ [(t,v)])))) (ai aW s k+1) st r:=by
 cases h with
 | FD _ aT=>exact aT
 | v7 aq _ _ _=>rw [h1] at aq;cases aq
 | FE aq _ _=>rw [h1] at aq;cases aq
 | FF aq _=>rw [h1] at aq;cases aq
theorem IU {v:JV} {acc:List (aa×JV)} {t t':aa} {iA:Nat} (h:hV s (some v) k (.M acc t::st) r) (h1:aC s (ai aW s k) [125]=false) (aq:aC s (ai aW s k) [44]=true) (aT:jT s (ai aW s k+1) (ei (acc ++ [(t,v)])) = .ok (t',iA)):hV s none iA (.M (acc ++ [(t,v)]) t'::st) r:=by
 cases h with
 | FD bL _=>rw [h1] at bL;cases bL
 | v7 _ _ bL cN=>rw [aT] at bL;cases bL;exact cN
 | FE _ _ bL=>rw [aT] at bL;cases bL
 | FF _ bL=>rw [aq] at bL;cases bL
theorem M8 {v:JV} {acc:List (aa×JV)} {t:aa} {e:Int} (h:hV s (some v) k (.M acc t::st) r) (h1:aC s (ai aW s k) [125]=false) (aq:aC s (ai aW s k) [44]=true) (aT:jT s (ai aW s k+1) (ei (acc ++ [(t,v)])) = .error e):r = .error e:=by
 cases h with
 | FD bL _=>rw [h1] at bL;cases bL
 | v7 _ _ bL cN=>rw [aT] at bL;cases bL
 | FE _ _ bL=>rw [aT] at bL;injection bL with bL;rw [bL]
 | FF _ bL=>rw [aq] at bL;cases bL
theorem M7 {v:JV} {acc:List (aa×JV)} {t:aa} (h:hV s (some v) k (.M acc t::st) r) (h1:aC s (ai aW s k) [125]=false) (aq:aC s (ai aW s k) [44]=false):r = .error 4:=by
 cases h with
 | FD bL _=>rw [h1] at bL;cases bL
 | v7 _ bL _ _=>rw [aq] at bL;cases bL
 | FE _ bL _=>rw [aq] at bL;cases bL
 | FF _ bL=>rfl
theorem acC {v:JV} {acc:List (aa×JV)} {t:aa} (h:hV s (some v) k (.A acc t::st) r):False:=by cases h
end
theorem F6 {s:aa} {k q:Nat} {v:JV} (h:hq s k=some (v,q)):k<q∧q≤s.length:=by
 unfold hq at h
 split at h
 ·rename_i h1;have:=cY h1 (by decide);cases h;simp [JV.jS] at this;omega
 split at h
 ·rename_i h1;have:=cY h1 (by decide);cases h;simp [JV.iT] at this;omega
 split at h
 ·rename_i h1;have:=cY h1 (by decide);cases h;simp [JV.gE] at this;omega
 cases h
theorem QX {s:aa} {k n dX:Nat} {v:JV} (h:mT s k n = .ok (.inl (v,dX))) (hk:k≤s.length):k<dX∧dX≤s.length:=by
 have dv:=b' aW s k;have cg:=cw (p:=aW) hk;cases hw:hq s (ai aW s k)with
 | some x=>
  rw [wq hw] at h;cases h;have:=F6 hw;omega
 | none=>
  rw [wu hw] at h;unfold px at h
  split at h
  ·cases cc:e9 s (ai aW s k)with
   | none=>rw [cc] at h;cases h
   | some x=>
    rw [cc] at h;cases h;have:=pr cc;omega
  split at h
  rotate_left
  ·cases ae:iL s (ai aW s k)with
   | error e=>rw [ae] at h;cases h
   | ok x=>
    rw [ae] at h;cases h;have:=w9 ae cg;omega
  split at h
  ·cases h
  rename_i aT bL
  have cN:ai aW s k<s.length:=by
   rcases Nat.lt_or_ge (ai aW s k) s.length with eU | eU
   ·exact eU
   rw [bW eU (by simp),bW eU (by simp)] at aT;cases aT
  have kB:=b' aW s (ai aW s k+1)
  dsimp only at h
  split at h
  ·split at h
   ·rename_i kt
    have:=cY kt (by simp);cases h;simp at this;omega
   cases h
  split at h
  ·rename_i kt
   have:=cY kt (by simp);cases h;simp at this;omega
  cases ae:jT s (ai aW s (ai aW s k+1)) [] with
  | error e=>rw [ae] at h;cases h
  | ok x=>rw [ae] at h;cases h
theorem QY {s:aa} {k n dX:Nat} {fm:lU} (h:mT s k n = .ok (.inr (fm,dX))) (hk:k≤s.length):k<dX∧dX≤s.length∧n≠32∧fm.sz=0:=by
 have dv:=b' aW s k;cases hw:hq s (ai aW s k)with
 | some x=>rw [wq hw] at h;cases h
 | none=>
  rw [wu hw] at h;unfold px at h
  split at h
  ·cases cc:e9 s (ai aW s k)with
   | none=>rw [cc] at h;cases h
   | some x=>rw [cc] at h;cases h
  split at h
  rotate_left
  ·cases ae:iL s (ai aW s k)with
   | error e=>rw [ae] at h;cases h
   | ok x=>rw [ae] at h;cases h
  split at h
  ·cases h
  rename_i aT bL
  have cN:ai aW s k<s.length:=by
   rcases Nat.lt_or_ge (ai aW s k) s.length with eU | eU
   ·exact eU
   rw [bW eU (by simp),bW eU (by simp)] at aT;cases aT
  have kB:=b' aW s (ai aW s k+1);have k9:=cw (p:=aW) (show ai aW s k+1≤s.length by omega)
  dsimp only at h
  split at h
  ·split at h
   ·cases h
   cases h;exact⟨by omega,k9,bL,rfl⟩
  split at h
  ·cases h
  cases ae:jT s (ai aW s (ai aW s k+1)) [] with
  | error e=>rw [ae] at h;cases h
  | ok x=>
   rw [ae] at h;cases h;have:=ps ae;exact⟨by omega,by omega,bL,rfl⟩
theorem xG.ag8 {Z aoL A:List Nat} {w:World} {fm:lU} {c:Value} {m:List Nat} (h:xG (nv Z) A w fm c m):xG (nv aoL) A w fm c m:=by
 cases fm with
 | L acc=>obtain⟨g,eu,h1,aq,aT⟩:=h;exact⟨g,eu,h1,⟨aq.aA,aq.own,aq.UH⟩,aT⟩
 | M acc t=>obtain⟨g,b,eu,h1,aq,aT⟩:=h;exact⟨g,b,eu,h1,⟨aq.aA,aq.map,aq.own,aq.agq,aq.UH,aq.agr⟩,aT⟩
 | A acc t=>obtain⟨g,b,eu,h1,aq,aT⟩:=h;exact⟨g,b,eu,h1,⟨aq.aA,aq.map,aq.own,aq.agq,aq.UH,aq.agr⟩,aT⟩
/-- a new block becomes private -/
theorem nn.ag0 {Z:List Nat} {w0 w w':World} {g k z:Nat} {s:aa} {st:List lU} {sk:Value} {cs:List Value} {fp:List Nat} (H:nn (nv Z) w0 w g s k st sk cs fp) (hm:Mod [] w w') (di:w.heap.size≤z) (fY:z<w'.heap.size) :
  ∃ h6,nn (nv (z::Z)) w0 w' g s k st sk cs h6∧(∀ x∈h6,x∈fp∨x=z):=by
 have bH:=H.lt
 have key:∀ {A:List Nat} {st:List lU} {cs:List Value} {f:List Nat},oF (nv Z) A w st cs f→(∀ x∈f,x<w.heap.size)→∀ A',(∀ x∈A',x∈A∨w.heap.size≤x)→∃ F7,oF (nv (z::Z)) A' w' st cs F7∧∀ x,x∈F7↔(x∈f∨x=z):=by
  intro A st
  induction st with
  | nil=>
   intro cs f h dK A' dD
   obtain⟨h1,aq,aT⟩:=h
   refine⟨z::Z,⟨h1,rfl,fun x ae=>?_⟩,fun x=>?_⟩
   ·rcases List.mem_cons.1 ae with rfl | ae
    ·exact fY
    exact Nat.lt_of_lt_of_le (aT x ae) hm.size
   rw [aq]
   simp only [List.mem_cons]
   exact Or.comm
  | cons fm st dF=>
   intro cs f h dK A' dD
   obtain⟨c,cs',m,f2,rfl,rfl,h1,aq,aT⟩:=h
   obtain⟨F7,bL,cN⟩:=dF aq (fun x ae=>dK x (by simp [ae])) A' dD
   refine⟨m++F7,⟨c,cs',m,F7,rfl,rfl,(h1.to hm (by simp) (by simp) dD).ag8,bL,fun x ae h=>?_⟩,fun x=>?_⟩
   ·rcases(cN x).1 h with h | h
    ·exact aT x ae h
    have:=dK x (by simp [ae]);omega
   simp only [List.mem_append,cN]
   exact or_assoc.symm
 have agc:∀ F7,(∀ x,x∈F7↔(x∈fp∨x=z))→∀ x∈g::(aY sk++F7),x∈g::(aY sk++fp)∨w.heap.size≤x:=fun F7 cN x ae=>by
  simp only [List.mem_cons,List.mem_append,cN] at ae ⊢
  rcases ae with ae | ae | ae | ae
  ·exact .inl (.inl ae)
  ·exact .inl (.inr (.inl ae))
  ·exact .inl (.inr (.inr ae))
  exact .inr (by omega)
 obtain⟨F7,bL,cN⟩:=key H.sZ (fun x ae=>bH x (by simp [ae])) (g::(aY sk++fp) ++ [z]) (fun x ae=>by
  simp only [List.mem_append,List.mem_singleton] at ae
  rcases ae with ae | ae
  ·exact .inl ae
  exact .inr (by omega))
 refine⟨F7,⟨H.rd.I hm,H.own.I hm,bL.to (Mod.refl [] _) (by simp) (fun x ae=>?_) (by simp),fun h=>?_,fun x ae h=>?_,fun x ae=>?_,H.mod.then hm⟩,fun x ae=>(cN x).1 ae⟩
 ·simp only [List.mem_cons,List.mem_append,cN,List.not_mem_nil,or_false] at ae ⊢
  rcases ae with ae | ae | ae | ae
  ·exact .inl (.inl (.inl ae))
  ·exact .inl (.inl (.inr (.inl ae)))
  ·exact .inl (.inl (.inr (.inr ae)))
  exact .inl (.inr ae)
 ·rcases List.mem_append.1 h with h | h
  ·exact H.s0 (by simp [h])
  rcases(cN g).1 h with h | h
  ·exact H.s0 (by simp [h])
  have:=H.rd.lt;omega
 ·rcases(cN x).1 h with h | h
  ·exact H.xc x ae h
  have:=bH x (by simp [ae]);omega
 rcases List.mem_append.1 ae with ae | ae
 ·exact H.ta x (by simp [ae])
 rcases(cN x).1 ae with h | h
 ·exact H.ta x (by simp [h])
 have:=H.mod.size;omega
end Go.Proofs.YtnihidkbkhcfoaaGreatDoor.V
