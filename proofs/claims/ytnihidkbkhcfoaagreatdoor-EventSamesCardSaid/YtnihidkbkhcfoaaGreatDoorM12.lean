/-
  A part of the proof: the members' sort: the shelf's contract, in the words of the own base; byKey walked; the reader's push, walked; the reader's key, walked; the reader's pop, walked: a list's frame; the reader's pop, walked: a map's frame; the reader's add, walked: a list's frame; the reader's add, walked: a map's frame; the reader's begin, walked; what the reader's value asks of the plain machine; a block made private. No condition of its own.
-/
import Derived.Test.YtnihidkbkhcfoaaGreatDoorM3
import Derived.Test.YtnihidkbkhcfoaaGreatDoorM11
import Derived.Test.YtnihidkbkhcfoaaGreatDoorM1
import Derived.Shelf.SlGeneric
import Derived.Shelf.SlSortCmp.WholeK
import Derived.Shelf.Strings.Trim
import Derived.Shelf.Small.Utf8
import Derived.Shelf.Small.Bits
import Derived.Shelf.Small.Strs
import Derived.Shelf.Small.Wraps
import Derived.Shelf.Utf8.AppendRune
import Derived.Shelf.Strconv.Atoi
import Derived.Shelf.Strconv.Itoa0
import Derived.Shelf.Strconv.Itoa1
import Derived.Shelf.LaysM
import Derived.Shelf.Strconv.Itoa2
import Derived.Shelf.Strconv.Itoa3
import Derived.Shelf.Strconv.AtoiErrFast
import Derived.Shelf.Strconv.ParseIntEmpty
import Derived.Shelf.Strconv.AtoiFail
import Derived.Shelf.Strconv.Clone
import Derived.Shelf.Strconv.SyntaxError
import Derived.Shelf.LaysC
import Derived.Shelf.Strconv.ToError
import Derived.Shelf.Strconv.Lower
import Derived.Shelf.Strconv.ParseUint10
import Derived.Shelf.Strconv.ParseUint10Empty
import Derived.Shelf.Strconv.ParseUint10Any
import Derived.Shelf.Strconv.ParseInt10
import Derived.Shelf.Strconv.AtoiLong
import Derived.Shelf.Strconv.AtoiInnerAll
import Derived.Shelf.Strconv.RangeError
import Derived.Shelf.Strconv.ToErrorRange
import Derived.Shelf.Strconv.AtoiAll
import Derived.Shelf.Strconv.ErrVarAll
import Derived.Shelf.Strings.Search1
import Derived.Shelf.Strings.Search2
import Derived.Shelf.Strings.Cut
import Derived.Shelf.Strings.Shaped
import Derived.Shelf.Strings.Prefix
import Derived.Shelf.Strings.Runes
import Derived.Shelf.Strings.AsciiSet
import Derived.Shelf.Unicode.DecodeSlow
import Derived.Shelf.Unicode.DecodeAny
import Derived.Shelf.Slices.Clone
import Derived.Shelf.SlSortCmp.NoneTotal
import Derived.Test.YtnihidkbkhcfoaaGreatDoorM6
set_option linter.unusedVariables false
set_option linter.unusedSimpArgs false
set_option maxRecDepth 10000
namespace Go.Proofs
open Go.Shelf
def Tryz.IJ:Go.Shelf.Ren:=⟨fun | 6=>150 | 15=>183 | 14=>182 | 28=>214 | 29=>215 | 20=>206 | 21=>207 | 22=>208 | 23=>209 | 24=>210 | 25=>211 | 26=>212 | 27=>213 | 46=>236 | 47=>237 | 48=>238 | 49=>239 | 50=>240 | 57=>253 | n=>n,fun | 22=>23 | 24=>51 | 25=>141 | 3=>3 | 39=>114 | 0=>0 | 53=>117 | 55=>154 | 4=>4 | 46=>212 | 45=>211 | 50=>87 | 5=>5 | 9=>9 | 66=>232 | 70=>236 | 76=>258 | 77=>171 | n=>n,fun | n=>n⟩
theorem Tryz.ek:Go.Proofs.SlLaysF0.n6 Tryz.prog Tryz.IJ:={
 mixed:=by kernel_rfl
 f6:=⟨Tryz.f150.name,by decide,Tryz.func150.trans (congrArg some (by kernel_rfl))⟩
 f14:=⟨Tryz.f182.name,by decide,Tryz.func182.trans (congrArg some (by kernel_rfl))⟩
 f15:=Tryz.func183.trans (congrArg some (by kernel_rfl))
 f20:=⟨Tryz.f206.name,by decide,Tryz.func206.trans (congrArg some (by kernel_rfl))⟩
 f21:=⟨Tryz.f207.name,by decide,Tryz.func207.trans (congrArg some (by kernel_rfl))⟩
 f22:=⟨Tryz.f208.name,by decide,Tryz.func208.trans (congrArg some (by kernel_rfl))⟩
 f23:=⟨Tryz.f209.name,by decide,Tryz.func209.trans (congrArg some (by kernel_rfl))⟩
 f24:=⟨Tryz.f210.name,by decide,Tryz.func210.trans (congrArg some (by kernel_rfl))⟩
 f25:=⟨Tryz.f211.name,by decide,Tryz.func211.trans (congrArg some (by kernel_rfl))⟩
 f26:=⟨Tryz.f212.name,by decide,Tryz.func212.trans (congrArg some (by kernel_rfl))⟩
 f27:=⟨Tryz.f213.name,by decide,Tryz.func213.trans (congrArg some (by kernel_rfl))⟩
 f28:=Tryz.func214.trans (congrArg some (by kernel_rfl))
 f29:=Tryz.func215.trans (congrArg some (by kernel_rfl))
 f46:=⟨Tryz.f236.name,by decide,Tryz.func236.trans (congrArg some (by kernel_rfl))⟩
 f47:=Tryz.func237.trans (congrArg some (by kernel_rfl))
 f48:=Tryz.func238.trans (congrArg some (by kernel_rfl))
 f49:=⟨Tryz.f239.name,by decide,Tryz.func239.trans (congrArg some (by kernel_rfl))⟩
 f50:=⟨Tryz.f240.name,by decide,Tryz.func240.trans (congrArg some (by kernel_rfl))⟩
 f57:=⟨Tryz.f253.name,by decide,Tryz.func253.trans (congrArg some (by kernel_rfl))⟩
 t0:=Tryz.underlying0
 a0:=Tryz.isAgg0
 z0:=Tryz.sizeOf0
 v0:=Tryz.zeroValue0
 t3:=Tryz.underlying3
 a3:=Tryz.isAgg3
 z3:=Tryz.sizeOf3
 v3:=Tryz.zeroValue3
 t4:=Tryz.underlying4
 a4:=Tryz.isAgg4
 z4:=Tryz.sizeOf4
 v4:=Tryz.zeroValue4
 t5:=Tryz.underlying5
 a5:=Tryz.isAgg5
 z5:=Tryz.sizeOf5
 v5:=Tryz.zeroValue5
 t9:=Tryz.underlying9
 a9:=Tryz.isAgg9
 z9:=Tryz.sizeOf9
 v9:=Tryz.zeroValue9
 t22:=Tryz.underlying23
 a22:=Tryz.isAgg23
 z22:=Tryz.sizeOf23
 v22:=Tryz.zeroValue23
 t25:=Tryz.underlying141
 a25:=Tryz.isAgg141
 z25:=Tryz.sizeOf141
 v25:=Tryz.zeroValue141
 t39:=Tryz.underlying114
 a39:=Tryz.isAgg114
 z39:=Tryz.sizeOf114
 v39:=Tryz.zeroValue114
 t45:=Tryz.underlying211
 a45:=Tryz.isAgg211
 z45:=Tryz.sizeOf211
 v45:=Tryz.zeroValue211
 t46:=Tryz.underlying212
 a46:=Tryz.isAgg212
 z46:=Tryz.sizeOf212
 v46:=Tryz.zeroValue212
 t50:=Tryz.underlying87
 a50:=Tryz.isAgg87
 z50:=Tryz.sizeOf87
 v50:=Tryz.zeroValue87
 t53:=Tryz.underlying117
 a53:=Tryz.isAgg117
 z53:=Tryz.sizeOf117
 v53:=Tryz.zeroValue117
 t55:=Tryz.underlying154
 a55:=Tryz.isAgg154
 z55:=Tryz.sizeOf154
 v55:=Tryz.zeroValue154
 t66:=Tryz.underlying232
 a66:=Tryz.isAgg232
 z66:=Tryz.sizeOf232
 v66:=Tryz.zeroValue232
 t70:=Tryz.underlying236
 a70:=Tryz.isAgg236
 z70:=Tryz.sizeOf236
 v70:=Tryz.zeroValue236
 t76:=Tryz.underlying258
 a76:=Tryz.isAgg258
 z76:=Tryz.sizeOf258
 v76:=Tryz.zeroValue258
 t77:=Tryz.underlying171
 a77:=Tryz.isAgg171
 z77:=Tryz.sizeOf171
 v77:=Tryz.zeroValue171}
def Tryz.DG:Go.Shelf.Ren:=⟨fun | 106=>160 | 213=>192 | 265=>226 | n=>n,fun | 9=>9 | 3=>3 | n=>n,fun | n=>n⟩
theorem Tryz.Qk:Go.Proofs.Lays.n106 Tryz.prog Tryz.DG:={
 mixed:=by kernel_rfl
 f106:=Tryz.func160.trans (congrArg some (by kernel_rfl))
 f213:=Tryz.func192.trans (congrArg some (by kernel_rfl))
 f265:=Tryz.func226.trans (congrArg some (by kernel_rfl))
 t3:=Tryz.underlying3
 a3:=Tryz.isAgg3
 z3:=Tryz.sizeOf3
 v3:=Tryz.zeroValue3
 t9:=Tryz.underlying9
 a9:=Tryz.isAgg9
 z9:=Tryz.sizeOf9
 v9:=Tryz.zeroValue9}
open Go.RowKit in
theorem Tryz.strings_Compare (a b:ByteArray) (w:World) :
  Calls Tryz.prog 160 #[.string a,.string b] w fun e w'=>e = .returned (.int .i64 (Lib.compareBytes a.data.toList b.data.toList))∧w'=w:=Any.strings_Compare Tryz.Qk a b w
end Go.Proofs
namespace Go.Proofs.YtnihidkbkhcfoaaGreatDoor.V
open Go Go.Proofs Go.Sort
theorem WW:aQ Tryz.prog 160:=aQ.of Tryz.func160 (by kernel_rfl) (by kernel_rfl)
theorem Ql:iz Tryz.prog 51 0 0 1=true:=by kernel_rfl
theorem WX (w:World) (a b:aa):Calls Tryz.prog 160 [S a,S b].toArray w (bL fun u w'=>u = .int .i64 (Lib.compareBytes a b)∧w'=w):=by
 refine(Tryz.strings_Compare ⟨⟨a⟩⟩ ⟨⟨b⟩⟩ w).mono fun e w' he=>?_;obtain⟨rfl,rfl⟩:=he;exact⟨rfl,rfl⟩
theorem MP (w:World) (a b:aa) (us vs:List Value):Calls Tryz.prog 124 [.agg (S a::us).toArray,.agg (S b::vs).toArray].toArray w (bL fun u w'=>u = .int .i64 (Lib.compareBytes a b)∧w'=(w.alloc (.cells (S a::us).toArray 51)).alloc (.cells (S b::vs).toArray 51)):=by
 refine enter Tryz.func124 rfl rfl rfl (l:=[(1,_),(0,_)]) ⟨rfl,rfl,trivial⟩ ?_;refine nm fun K1 aV=>?_;refine bQ ?_;refine fP (IK rfl rfl) rfl ?_;refine fP (IK rfl rfl) rfl ?_;refine fP (cr rfl) rfl ?_;refine cF ?_;refine dU (aV _ _ _ _ ?_);have bR:=kt.mk' w 51 (S a::us);have cK:=kt.mk' (w.alloc (.cells (S a::us).toArray 51)) 51 (S b::vs);have gP:=bR.az.I cK.mod;have dz:=cK.az;refine nm fun K2 aL=>?_;refine bQ ?_;refine fP (av Ql rfl) rfl ?_;refine fP (bc bs rfl (gP.cell rfl)) rfl ?_;refine fP (av Ql rfl) rfl ?_;refine fP (bc bs rfl (dz.cell rfl)) rfl ?_;refine fA (bF WW rfl) (WX _ a b) rfl fun cO aB aA=>?_;obtain⟨rfl,rfl⟩:=aA;refine fP (cr rfl) rfl ?_;refine cF ?_;refine dU (aL _ _ _ _ ?_);refine aZ ?_;exact au rfl rfl ⟨rfl,rfl⟩
theorem WY {w:World} {g o n:Nat}:CmpLays Tryz.prog 124 #[] dR.enc 7 MQ g o n w:=by
 intro m os asg bY x y;refine(MP _ x.key y.key x.1.2 y.1.2).mono fun e w' he=>?_
 match e,he with
 | .returned u,⟨h1,aq⟩=>
  refine⟨by rw [h1];rfl,0,#[.cells (S x.key::x.1.2).toArray 51,.cells (S y.key::y.1.2).toArray 51],aq.trans ?_⟩;rw [alloc_eq_grow,alloc_eq_grow,grow_grow];rfl
theorem Qm (w:World) {wr:World} {e n c:Nat} {ad:Addr} {acc:List (aa×JV)} {vs:List Value} {A:List Nat} (O:Own w e 7 (.slice (some ad) n c) n vs) (bq:ao A wr (acc.map JV.hP).flatten vs) (ck:(acc.map (·.1)).Nodup) (bf:acc.length≤1000000) :
  Calls Tryz.prog 150 [.slice (some ad) n c,.func (.func 124) #[] #[]].toArray w (bL fun u w'=>u = .tuple #[]∧Mod [ad.block] w w'∧∃ jE,Own w' e 7 (.slice (some ad) n c) n jE∧ao A wr ((ek acc).map JV.hP).flatten jE∧(ek acc).length=n):=by
 obtain⟨rows,bk,rfl,kV⟩:=FR acc vs bq
 obtain⟨g,o,rfl⟩:∃ g o,ad=⟨g,o,none⟩:=by
  rcases O.2 with⟨h,_⟩ | ⟨g,o,_,_,h,_⟩
  ·cases h
  cases h;exact⟨g,o,rfl⟩
 have EW:Own w e 7 (.slice (some ⟨g,o,none⟩) n c) n (rows.toArray.toList.map dR.enc).flatten:=O
 obtain⟨hH,bJ,im⟩:=xd EW
 have Qn:rows.length=acc.length:=by rw [← bk,List.length_map]
 subst im
 refine(AnyQ.slices_SortFunc Tryz.ek 7 (fun w=>Tryz.isAgg51 w) (fun w=>Tryz.sizeOf51 w) dR.enc dR.y7 dR.Qo MQ Qp 124 #[] g o c rows.toArray w (enters_of Tryz.func124 (by kernel_rfl) rfl) WY hH bJ (by rw [List.size_toArray];omega)).mono fun xe w' he=>?_
 obtain⟨rfl,s4,m,os,cp,jX,rfl⟩:=he
 obtain⟨h1,aq⟩:=DH ck bk cp jX
 obtain⟨aU,bM⟩:=FT (m:=m) (os:=os) EW cp.1
 refine⟨rfl,bM,_,aU,?_,?_⟩
 ·rw [← aq]
  exact y8 _ fun r oK=>kV r (h1.mem_iff.1 oK)
 rw [← aq,List.length_map,Array.length_toList,cp.1]
theorem Qq (w:World) (p:Option Addr) (c:Nat):Calls Tryz.prog 150 [.slice p 0 c,.func (.func 124) #[] #[]].toArray w (bL fun u w'=>u = .tuple #[]∧w'=w):=by
 refine(AnyF.slices_SortFunc_none Tryz.ek p c (.func (.func 124) #[] #[]) w).mono fun e w' he=>?_;obtain⟨rfl,rfl⟩:=he;exact⟨rfl,rfl⟩
theorem Qr (w:World) {wr:World} {e n:Nat} {v:Value} {acc:List (aa×JV)} {vs:List Value} {A:List Nat} (O:Own w e 7 v n vs) (bq:ao A wr (acc.map JV.hP).flatten vs) (ck:(acc.map (·.1)).Nodup) (bf:acc.length≤1000000) (cg:acc.length=n) :
  Calls Tryz.prog 150 [v,.func (.func 124) #[] #[]].toArray w (bL fun u w'=>u = .tuple #[]∧Mod (a1 v) w w'∧∃ jE,Own w' e 7 v n jE∧ao A wr ((ek acc).map JV.hP).flatten jE∧(ek acc).length=n):=by
 obtain⟨ad,c,rfl,_,_⟩:=O.form
 cases n with
 | zero=>
  have:acc = []:=List.eq_nil_of_length_eq_zero cg
  subst this
  refine(Qq w ad c).mono fun xe w' he=>?_
  match xe,he with
  | .returned u,⟨h1,aq⟩=>exact⟨h1,aq▸Mod.refl _ _,vs,aq▸O,bq,rfl⟩
 | succ n=>
  obtain⟨ad,rfl⟩:∃ a,ad=some a:=by
   rcases O.2 with⟨_,h⟩ | ⟨g,o,_,_,h,_⟩
   ·cases h
   cases h;exact⟨_,rfl⟩
  exact Qm w O bq ck bf
end Go.Proofs.YtnihidkbkhcfoaaGreatDoor.V
set_option maxRecDepth 10000
namespace Go.Proofs.YtnihidkbkhcfoaaGreatDoor.V
open Go Go.Proofs
abbrev nx (Z:List Nat):aaz:=⟨75,20,163,129,165,168,25,51,Z⟩
theorem fK:iz Tryz.prog 75 2 2 1=true:=by kernel_rfl
theorem tf:lC Tryz.prog 73 20 1 16=true:=by kernel_rfl
theorem ahj:hG Tryz.prog 20 [.nilIface]:=by unfold hG;kernel_rfl
theorem ko:nM Tryz.prog 73=true:=by kernel_rfl
theorem Rp.eq {w w':World} {g:Nat} {T:TypeId} {cs cs':List Value} (h:Rp w w' g T cs) (e:cs=cs'):aF w' g T cs':=e▸h.az
theorem Lz {aB:World} {g k:Nat} {s:aa} {sk:Value} {ape:TypeId} {apf:Option Addr} {cs:List Value} (B:aF aB g 75 [S s,.int .i64 (k:Int),sk]) (O:Own aB 20 1 sk cs.length cs.reverse) (u1:∀ x∈a1 sk,x≠g)
  (bf:s.length≤65536) (hk:k≤s.length) (bY:cs.length≤32) :
  Calls Tryz.prog 148 [.pointer (some ⟨g,0,none⟩),.iface ape (.pointer apf)].toArray aB (M7 124 (g::a1 sk) aB (if cs.length=32 then (.error 5:Except Int Unit)else .ok ()) (fun _ u w'=>u = .tuple #[]∧∃ gK,aF w' g 75 [S s,.int .i64 ((k+1:Nat):Int),gK]∧Own w' 20 1 gK (cs.length+1) (cs.reverse ++ [.iface ape (.pointer apf)])∧∀ x∈a1 gK,x∈a1 sk∨aB.heap.size≤x)):=by
 refine enter Tryz.func148 rfl rfl rfl (l:=[(0,_),(1,_)]) ⟨rfl,rfl,trivial⟩ ?_
 obtain⟨ad,c0,rfl,fH,gC⟩:=O.form
 have bJ:=B.lt
 have hO:∀ {a b:World},Mod [g] a b→Own a 20 1 (.slice ad cs.length c0) cs.length cs.reverse→Own b 20 1 (.slice ad cs.length c0) cs.length cs.reverse:=fun alx aqY=>aqY.mod alx (fun x ae e=>u1 x ae (by simpa using e))
 have E:=Mod.refl [g] aB
 refine ax fun aV=>ab fun aL=>ak 2 rfl (ag (av fK rfl) (ag (bc ko rfl (B.cell rfl)) (ag (bl Tryz.underlying73 rfl) (ag (lT rfl rfl) (J aL ?_)))))
 refine a7 rfl (fun k0=>?_) (fun k0=>?_)
 ·have k0:cs.length=32:=by have:=of_decide_eq_true k0;omega
  refine bQ ?_
  refine fQ (bF gf rfl) (eX _ 5) rfl (fun cQ aA=>aA.elim) (fun lW iw aA=>?_) fun cO iw aA=>?_
  ·obtain⟨rfl,rfl⟩:=aA
   exact aO (by simp) (ed ⟨5,by rw [if_pos k0],by decide,rfl,Mod.refl _ _⟩)
  exact aA.elim
 have k0:¬ cs.length=32:=fun e=>of_decide_eq_false k0 (by omega)
 refine ca (aw aV (ab fun aW=>ak 2 rfl (ag (av da rfl) (ag (bc dE rfl (B.cell rfl)) (ag (cW (r:=((k+1:Nat):Int)) rfl rfl (by rw [wrap64_in _ (by omega)];omega)) (ak 1 rfl (ag (av da rfl) (ea dE B rfl rfl rfl (by simp) fun cN DT=>?_))))))))
 replace O:=hO DT.mod O
 replace B:=DT.eq rfl
 replace E:=E.trans DT.mod
 refine J aW (bQ (ak 3 rfl (ag (av fK rfl) (ag (bc ko rfl (B.cell rfl)) (ak 1 rfl (bD (cs:=[_]) tf ahj rfl rfl rfl (by decide) rfl fun g1 fV bR=>?_))))))
 have U:=bR.az
 replace B:=B.I bR.mod
 replace O:=O.I bR.mod
 replace E:=E.then bR.mod
 refine bu tf rfl rfl O (Src.own Tryz.underlying73 (Own.all (cs:=[_]) U rfl (by omega)) (by simp [Value.oneCell'])) (by decide) (by omega) (by omega) rfl fun v1 ic jj=>?_
 replace B:=B.mod jj.mod (fun ae=>u1 _ ae rfl)
 refine ak 1 rfl (ag (av fK rfl) ?_)
 obtain⟨rT,c1,bk,_,_⟩:=jj.own.form
 refine ea ko B rfl rfl (by rw [bk];rfl) (by simp) fun jn hx=>?_
 have DK:Mod (g::a1 (.slice ad cs.length c0)) aB jn:=((E.mono (by simp)).trans (jj.mod.mono (fun x ae=>List.mem_cons_of_mem _ ae))).trans (hx.mod.mono (by simp))
 have cL:∀ x∈a1 v1,x∈a1 (.slice ad cs.length c0)∨aB.heap.size≤x:=fun x ae=>(jj.lZ x ae).imp id (Nat.le_trans E.size)
 refine cF ?_
 exact ku rfl ⟨(),by rw [if_neg k0],⟨rfl,v1,hx.eq rfl,jj.own.mod hx.mod (fun x ae e=>by
  rw [List.mem_singleton.1 e] at ae
  rcases cL g ae with h | h
  ·exact u1 _ h rfl
  omega),cL⟩,DK⟩
set_option maxRecDepth 10000
theorem zy:iz Tryz.prog 168 0 0 1=true:=by kernel_rfl
theorem Gi:iz Tryz.prog 168 1 1 1=true:=by kernel_rfl
theorem u2:iz Tryz.prog 168 2 2 1=true:=by kernel_rfl
theorem Rq:nM Tryz.prog 166=true:=by kernel_rfl
theorem Rr:Tryz.prog.underlying 166=some (.map 9 4):=by kernel_rfl
theorem aly:(Tryz.prog.info? 4).bind (·.zero)=some (.bool false):=by kernel_rfl
theorem LA:aQ Tryz.prog 147:=aQ.of Tryz.func147 (by kernel_rfl) (by kernel_rfl)
theorem DU:aQ Tryz.prog 61:=aQ.of Tryz.func61 (by kernel_rfl) (by kernel_rfl)
theorem oR:aQ Tryz.prog 108:=aQ.of Tryz.func108 (by kernel_rfl) (by kernel_rfl)
theorem LB {w:World} {g g1 b k:Nat} {s t0:aa} {sk ew:Value} {K:List aa} {m:List (aa×JV)} (B:aF w g 75 [S s,.int .i64 (k:Int),sk]) (gP:aF w g1 168 [ew,.map (some b),S t0]) (hm:jZ w b (nv K)) (wi:g1≠g) (Nl:g≠b) (Rs:g1≠b)
  (p5:∀ t,(look m t).isSome=decide (t∈K)) (bf:s.length≤65536) (hk:k≤s.length) (e4:Env w) (dA:Nj<g) :
  Calls Tryz.prog 110 [.pointer (some ⟨g,0,none⟩),.pointer (some ⟨g1,0,none⟩)].toArray w (M7 124 [g,g1,b] w (jY s k m) (fun x u w'=>u = .tuple #[]∧aF w' g 75 [S s,.int .i64 (x.2:Int),sk]∧aF w' g1 168 [ew,.map (some b),S x.1]∧jZ w' b (nv (K ++ [x.1]))∧x.2≤s.length)):=by
 refine enter Tryz.func110 rfl rfl rfl (l:=[(0,_),(1,_)]) ⟨rfl,rfl,trivial⟩ ?_
 have E:=Mod.refl [g,g1,b] w
 have nV:=cy (p:=aX) (s:=s) hk
 refine ab fun aV=>aG rfl (fA (bF DU rfl) (uZ _ g s k sk B bf hk) rfl fun cO aB aA=>?_)
 obtain⟨B,R⟩:=aA
 replace gP:=gP.mod R (by simpa using wi)
 replace hm:=hm.mod R (by simpa using Ne.symm Nl)
 have alz:=e4.oP dA R
 replace E:=E.trans (R.mono (by simp))
 refine J aV (ab fun aL=>ak 1 rfl (aG rfl ?_))
 refine fQ (bF LA rfl) (Gf _ g s (aj aX s k) sk B bf nV alz.acq) rfl (fun cQ aA=>aA) (fun lW cN aA=>?_) fun cO cN aA=>?_
 ·obtain⟨e,he,b3,rfl,R⟩:=aA
  refine aO (by simp) ?_
  refine ed ⟨e,?_,b3,rfl,E.trans (R.mono (by simp))⟩
  unfold jY
  cases h:fc s (aj aX s k)with
  | none=>rw [h] at he;exact he
  | some x=>rw [h] at he;cases he
 obtain⟨⟨t,dZ⟩,he,⟨rfl,B⟩,R⟩:=aA
 have cf:fc s (aj aX s k)=some (t,dZ):=by
  cases h:fc s (aj aX s k)with
  | none=>rw [h] at he;cases he
  | some x=>rw [h] at he;cases he;rfl
 have bp:dZ≤s.length:=(py cf).2.1
 have Nn:jY s k m=if (look m t).isSome then .error 6 else if aC s (aj aX s dZ) [58] then .ok (t,aj aX s dZ+1)else .error 4:=by
  unfold jY;rw [cf]
 rw [p5 t] at Nn
 replace gP:=gP.mod R (by simpa using wi)
 replace hm:=hm.mod R (by simpa using Ne.symm Nl)
 replace E:=E.trans (R.mono (by simp))
 refine ak 1 rfl (ag (av u2 rfl) (ea bs gP rfl rfl rfl (by simp) fun fV sF=>?_))
 replace B:=B.mod sF.mod (by simpa using Ne.symm wi)
 replace hm:=hm.mod sF.mod (by simpa using Ne.symm Rs)
 replace E:=E.trans (sF.mod.mono (by simp))
 replace gP:=sF.eq (cs':=[ew,.map (some b),S t]) rfl
 refine J aL (ax fun aW=>ax fun br=>bT wide (by kernel_rfl) (f' 2 rfl rfl (ai (fun R=>(av Gi rfl)) (ai (fun R=>(bc Rq rfl ((gP.I R).cell rfl))) (f' 2 rfl rfl (ai (fun R=>(av u2 rfl)) (ai (fun R=>(bc bs rfl ((gP.I R).cell rfl))) ?_)))))))
 refine alA (fun cQ R=>(ahk Rr Tryz.underlying9 aly rfl (.inr ⟨b,rfl,hm.I R⟩) rfl).to (v':=.bool (decide (t∈K))) (by
  rw [tP]
  by_cases h:t∈K
  ·rw [if_pos h,bh h];rfl
  rw [if_neg h,bN h];rfl)) rfl rfl ?_
 refine bV rfl fun ic R=>?_
 replace B:=B.I R
 replace gP:=gP.I R
 replace hm:=hm.I R
 replace E:=E.then R
 refine aw br ?_
 refine aI rfl (fun nL=>?_) (fun nL=>?_)
 ·refine bQ ?_
  refine fQ (bF gf rfl) (eX _ 6) rfl (fun cQ aA=>aA.elim) (fun lW iw aA=>?_) fun cO iw aA=>?_
  ·obtain⟨rfl,rfl⟩:=aA
   exact aO (by simp) (ed ⟨6,by rw [Nn,if_pos (bh nL)],by decide,rfl,E⟩)
  exact aA.elim
 rw [if_neg (by simpa using nL)] at Nn
 refine ca (aw aW (ax fun bI=>zz 8 wide (by kernel_rfl) (f' 2 rfl rfl (ai (fun R=>(av Gi rfl)) (ai (fun R=>(bc Rq rfl ((gP.I R).cell rfl))) (f' 2 rfl rfl (ai (fun R=>(av u2 rfl)) (ai (fun R=>(bc bs rfl ((gP.I R).cell rfl))) (mJ rfl fun jn R=>?_)))))))))
 replace B:=B.I R
 replace gP:=gP.I R
 replace hm:=hm.I R
 replace E:=E.then R
 refine Xv Rr Tryz.underlying9 rfl hm rfl rfl fun jC s3 R=>?_
 replace B:=B.mod R (by simpa using Nl)
 replace gP:=gP.mod R (by simpa using Rs)
 replace E:=E.trans (R.mono (by simp))
 rw [M8 nL] at s3
 refine J bI (ab fun bW=>aG rfl (fA (bF oR rfl) (tV _ g s dZ sk B bf bp 58) rfl fun cO iw aA=>?_))
 obtain⟨rfl,B,R⟩:=aA
 replace gP:=gP.mod R (by simpa using wi)
 replace s3:=s3.mod R (by simpa using Ne.symm Nl)
 replace E:=E.trans (R.mono (by simp))
 refine ag (ff rfl) (J bW ?_)
 refine a7 rfl (fun ig=>?_) (fun ig=>?_)
 ·have ig:aC s (aj aX s dZ) [58]=false:=by simpa using ig
  refine bQ ?_
  refine fQ (bF gf rfl) (eX _ 4) rfl (fun cQ aA=>aA.elim) (fun lW iw aA=>?_) fun cO iw aA=>?_
  ·obtain⟨rfl,rfl⟩:=aA
   exact ed ⟨4,by rw [Nn,ig];rfl,by decide,rfl,E⟩
  exact aA.elim
 have ig:aC s (aj aX s dZ) [58]=true:=by simpa using ig
 rw [ig,if_pos rfl] at Nn B
 exact ca (ku rfl ⟨(t,aj aX s dZ+1),Nn,⟨rfl,B,gP,s3,by have:=c6 ig (by simp);simpa using this⟩,E⟩)
set_option maxRecDepth 10000
theorem Co:nM Tryz.prog 20=true:=by kernel_rfl
theorem zA:iz Tryz.prog 165 0 0 1=true:=by kernel_rfl
theorem zB:Tryz.prog.underlying 163=some (.pointer 165):=by kernel_rfl
theorem zC:Tryz.prog.underlying 129=some (.pointer 168):=by kernel_rfl
theorem Rt:(Tryz.prog.info? 163).bind (·.zero)=some (.pointer none):=by kernel_rfl
theorem qq {w:World} {fP c:Value} {cs:List Value} (O:Own w 20 1 fP (c::cs).length (c::cs).reverse):∃ ad c0,fP = .slice (some ad) (cs.length+1) c0∧cs.length+1≤c0∧c0≤9223372036854775807∧ri w ad (cs.reverse ++ [c]):=by
 rcases O.2 with⟨_,b3⟩ | ⟨g,o,c0,Vk,h1,_⟩
 ·simp at b3
 subst h1;have:=O.form;obtain⟨_,_,aq,aU,bM⟩:=this;cases aq;exact⟨_,_,rfl,aU,bM,by have:=O.cs;rwa [List.reverse_cons] at this⟩
theorem oe {w:World} {c:Value} {cs:List Value} {ad:Addr} (C:ri w ad (cs.reverse ++ [c])):w.cell? (ad.add ((cs.length:Int).toNat*1))=some c:=by
 rw [Int.toNat_natCast,Nat.mul_one];exact C _ _ (by rw [List.getElem?_append_right (by simp),List.length_reverse,Nat.sub_self];rfl)
theorem Gj {w:World} {c:Value} {cs:List Value} {ad:Addr} {c0:Nat} (O:Own w 20 1 (.slice (some ad) (cs.length+1) c0) (c::cs).length (c::cs).reverse):Own w 20 1 (.slice (some ad) cs.length c0) cs.length cs.reverse:=by
 have:=Own.take (m:=cs.length) O (by simp)
 rwa [List.reverse_cons,List.take_append_of_le_length (by simp),List.take_of_length_le (by simp)] at this
/-- the private blocks are as they were -/
def zD (Z:List Nat) (w w':World):Prop:=∀ z∈Z,w'.heap[z]? = w.heap[z]?
theorem zD.of {Z M:List Nat} {w w':World} (h:Mod M w w') (cg:∀ z∈Z,z<w.heap.size) (ck:∀ z∈Z,z∉M):zD Z w w':=fun z dk=>h.block z (cg z dk) (ck z dk)
theorem np.xR {Z:List Nat} {w0 w:World} {g k:Nat} {s:aa} {st:List lV} {sk:Value} {cs:List Value} {fp:List Nat} (H:np (nx Z) w0 w g s k st sk cs fp):∀ z∈Z,z<w.heap.size∧z≠g∧z∉a1 sk:=fun z dk=>by
 have dI:=H.s5.z z dk;exact⟨H.lt z (by simp [dI]),fun e=>H.s6 (by subst e;simp [dI]),fun h=>H.xk z h dI⟩
theorem Gk {w:World} {g k g1 n cl:Nat} {s:aa} {sk:Value} {al:Option Addr} {eE:List Value} (B:aF w g 75 [S s,.int .i64 (k:Int),sk]) (O:Own w 20 1 sk (.iface 163 (.pointer (some ⟨g1,0,none⟩))::eE).length (.iface 163 (.pointer (some ⟨g1,0,none⟩))::eE).reverse)
  (gP:aF w g1 165 [.slice al n cl]) (nn:g1≠g) (u1:∀ x∈a1 sk,x≠g) (bY:eE.length≤32) :
  Calls Tryz.prog 109 [.pointer (some ⟨g,0,none⟩)].toArray w (bL fun u w'=>u = .agg #[.int .i64 4,.bool false,.int .i64 0,S [],.slice al n cl,.slice none 0 0]∧(∃ gK,aF w' g 75 [S s,.int .i64 (k:Int),gK]∧Own w' 20 1 gK eE.length eE.reverse∧a1 gK=a1 sk)∧Mod [g] w w'):=by
 refine enter Tryz.func109 rfl rfl rfl (l:=[(0,_)]) ⟨rfl,trivial⟩ ?_
 obtain⟨ad,c0,rfl,fH,gC,C⟩:=qq O
 have r4:eE.length≤32:=bY
 have E:=Mod.refl [g] w
 refine ab fun aV=>bt cB rfl fun g2 aB bR=>?_
 have u0:=bR.le E
 have n3:=bR.ne B
 have n4:=bR.ne gP
 have Vo:=bR.b8 O
 replace B:=B.I bR.mod
 replace gP:=gP.I bR.mod
 replace O:=O.I bR.mod
 replace C:=C.mod bR.mod (by simp)
 replace E:=E.then bR.mod
 have dz:=bR.az
 refine J aV (ax fun aL=>bT wide (by kernel_rfl) (f' 2 rfl rfl (ai (fun R=>(av fK rfl)) (ai (fun R=>(bc ko rfl ((B.I R).cell rfl))) (f' 2 rfl rfl (ai (fun R=>(av fK rfl)) (ai (fun R=>(bc ko rfl ((B.I R).cell rfl))) (ai (fun R=>(bl Tryz.underlying73 rfl)) (ai (fun R=>(ez (r:=((eE.length:Nat):Int)) rfl rfl (by rw [wrap64_in _ (by omega)];omega))) (ai (fun R=>(b6 tf rfl rfl (by omega))) (ai (fun R=>(bc Co rfl (oe (C.mod R (by simp))))) (ai (fun R=>(cr rfl)) ?_))))))))))))
 refine bV rfl fun cN R=>?_
 replace B:=B.I R
 replace gP:=gP.I R
 replace dz:=dz.I R
 replace O:=O.I R
 replace E:=E.then R
 refine aw aL (ax fun aW=>zz 12 wide (by kernel_rfl) (f' 3 rfl rfl (ai (fun R=>(av fK rfl)) (ai (fun R=>(bc ko rfl ((B.I R).cell rfl))) (f' 2 rfl rfl (ai (fun R=>(av fK rfl)) (ai (fun R=>(bc ko rfl ((B.I R).cell rfl))) (ai (fun R=>(bl Tryz.underlying73 rfl)) (ai (fun R=>(ez (r:=((eE.length:Nat):Int)) rfl rfl (by rw [wrap64_in _ (by omega)];omega))) (ai (fun R=>(Gl tf rfl rfl rfl (by simp only [hU,iB];omega) (by omega)).to (v':=.slice (some ad) eE.length c0) (by simp only [hU,iB,Int.toNat_natCast];rw [show(0:Int).toNat=0 from rfl,wz];simp)) (mJ rfl fun fV R=>?_)))))))))))
 replace B:=B.I R
 replace gP:=gP.I R
 replace dz:=dz.I R
 replace O:=O.I R
 replace E:=E.then R
 refine ak 1 rfl (ag (av fK rfl) (ea ko B rfl rfl rfl (by simp) fun ic kZ=>?_))
 replace B:=kZ.eq (cs':=[S s,.int .i64 (k:Int),.slice (some ad) eE.length c0]) rfl
 replace gP:=gP.mod kZ.mod (by simpa using nn)
 replace dz:=dz.mod kZ.mod (by simpa using Ne.symm n3)
 replace O:=(Gj O).mod kZ.mod (fun x ae e=>u1 x ae (by simpa using e))
 replace E:=E.trans kZ.mod
 refine J aW (ax fun br=>ab fun bI=>aG rfl (ag (LC zB rfl rfl) (aG rfl (ag (eH rfl rfl) (ag (eH rfl rfl) (aT rfl (aT rfl (J bI (ab fun bW=>aG rfl (J bW ?_))))))))))
 refine a7 rfl (fun qU=>?_) (fun qU=>absurd qU (by decide))
 refine ab fun cb=>ak 2 rfl (ag (av zA rfl) (ag (bc jL rfl (gP.cell rfl)) (ag (a' (cs:=[_,_,_,_,_,_]) gW cB rfl rfl) (bo (vs:=[_,_,_,_,_,_]) aK dz rfl rfl rfl (by simp [Value.oneCell']) (by simp) fun jn hx=>?_))))
 have ny:=hx.eq (cs':=[.int .i64 4,.bool false,.int .i64 0,S [],.slice al n cl,.slice none 0 0]) rfl
 have alB:=E.own hx.mod (by omega)
 exact J cb (aZ (aO (by simp) (kj rfl aK rfl rfl (ny.cs rfl) ⟨rfl,⟨_,B.mod hx.mod (by simpa using n3),O.mod hx.mod (fun x ae e=>Vo x ae (by simpa using e)),rfl⟩,alB⟩)))
theorem Xw {Z:List Nat} {w0 w:World} {g k:Nat} {s:aa} {st:List lV} {sk:Value} {cs:List Value} {fp:List Nat} {acc:List JV} (H:np (nx Z) w0 w g s k (.L acc::st) sk cs fp) (bY:cs.length≤33) :
  Calls Tryz.prog 109 [.pointer (some ⟨g,0,none⟩)].toArray w (bL fun u w'=>∃ us gK eE fl,u = .agg us.toArray∧np (nx Z) w0 w' g s k st gK eE fl∧me w w' g sk fp gK fl∧ao (g::(a1 gK++fl)) w' (JV.cX acc).D us∧zD Z w w'):=by
 have alC:=H.own
 have dk:=H.xR
 obtain⟨g1,ew,vs,eE,fl,rfl,rfl,gP,eS,DV,rI,nn,Np,_,alD⟩:=H.QQ
 obtain⟨al,cl,rfl,_,_⟩:=eS.form
 refine Calls.imp (Gk H.rd alC gP nn (fun x ae e=>H.s6 (by subst e;simp [ae])) (by simpa using bY)) fun u w' aA=>?_
 obtain⟨rfl,⟨gK,ahl,EW,iV⟩,E⟩:=aA
 obtain⟨qL,p2,_,LD⟩:=alD w' gK E ahl EW iV
 exact⟨_,_,eE,fl,rfl,qL,p2,JV.cv (v:=JV.cX acc) (am:=none) (cm:=0) LD ba.en,zD.of E (fun z fY=>(dk z fY).1) (fun z fY=>by simpa using (dk z fY).2.1)⟩
set_option maxRecDepth 10000
theorem Xx:aQ Tryz.prog 150:=aQ.of Tryz.func150 (by kernel_rfl) (by kernel_rfl)
theorem Gm {w wr:World} {A:List Nat} {g k g1:Nat} {s:aa} {sk m1 t1 ew:Value} {acc:List (aa×JV)} {vs:List Value} {eE:List Value} (B:aF w g 75 [S s,.int .i64 (k:Int),sk]) (O:Own w 20 1 sk (.iface 129 (.pointer (some ⟨g1,0,none⟩))::eE).length (.iface 129 (.pointer (some ⟨g1,0,none⟩))::eE).reverse)
  (gP:aF w g1 168 [ew,m1,t1]) (eS:Own w 51 7 ew acc.length vs) (DV:ao A wr (acc.map JV.hP).flatten vs) (IL:(acc.map (·.1)).Nodup) (nn:g1≠g) (u1:∀ x∈a1 sk,x≠g) (I8:∀ x∈a1 ew,x≠g) (n11:∀ x∈a1 sk,x∉a1 ew) (bY:eE.length≤32) (cg:acc.length≤1000000) :
  Calls Tryz.prog 109 [.pointer (some ⟨g,0,none⟩)].toArray w (bL fun u w'=>u = .agg #[.int .i64 5,.bool false,.int .i64 0,S [],.slice none 0 0,ew]∧(∃ gK,aF w' g 75 [S s,.int .i64 (k:Int),gK]∧Own w' 20 1 gK eE.length eE.reverse∧a1 gK=a1 sk)∧Mod (g::a1 ew) w w'∧(∃ jE,Own w' 51 7 ew (ek acc).length jE∧ao A wr ((ek acc).map JV.hP).flatten jE)∧(ek acc).length=acc.length):=by
 refine enter Tryz.func109 rfl rfl rfl (l:=[(0,_)]) ⟨rfl,trivial⟩ ?_
 obtain⟨ad,c0,rfl,fH,gC,C⟩:=qq O
 obtain⟨al,cl,rfl,_,_⟩:=eS.form
 have r4:eE.length≤32:=bY
 have E:=Mod.refl [g] w
 refine ab fun aV=>bt cB rfl fun g2 aB bR=>?_
 have u0:=bR.le E
 have n3:=bR.ne B
 have n4:=bR.ne gP
 have Vo:=bR.b8 O
 have n10:=bR.b8 eS
 replace B:=B.I bR.mod
 replace gP:=gP.I bR.mod
 replace eS:=eS.I bR.mod
 replace O:=O.I bR.mod
 replace C:=C.mod bR.mod (by simp)
 replace E:=E.then bR.mod
 have dz:=bR.az
 refine J aV (ax fun aL=>bT wide (by kernel_rfl) (f' 2 rfl rfl (ai (fun R=>(av fK rfl)) (ai (fun R=>(bc ko rfl ((B.I R).cell rfl))) (f' 2 rfl rfl (ai (fun R=>(av fK rfl)) (ai (fun R=>(bc ko rfl ((B.I R).cell rfl))) (ai (fun R=>(bl Tryz.underlying73 rfl)) (ai (fun R=>(ez (r:=((eE.length:Nat):Int)) rfl rfl (by rw [wrap64_in _ (by omega)];omega))) (ai (fun R=>(b6 tf rfl rfl (by omega))) (ai (fun R=>(bc Co rfl (oe (C.mod R (by simp))))) (ai (fun R=>(cr rfl)) ?_))))))))))))
 refine bV rfl fun cN R=>?_
 replace B:=B.I R
 replace gP:=gP.I R
 replace eS:=eS.I R
 replace dz:=dz.I R
 replace O:=O.I R
 replace E:=E.then R
 refine aw aL (ax fun aW=>zz 12 wide (by kernel_rfl) (f' 3 rfl rfl (ai (fun R=>(av fK rfl)) (ai (fun R=>(bc ko rfl ((B.I R).cell rfl))) (f' 2 rfl rfl (ai (fun R=>(av fK rfl)) (ai (fun R=>(bc ko rfl ((B.I R).cell rfl))) (ai (fun R=>(bl Tryz.underlying73 rfl)) (ai (fun R=>(ez (r:=((eE.length:Nat):Int)) rfl rfl (by rw [wrap64_in _ (by omega)];omega))) (ai (fun R=>(Gl tf rfl rfl rfl (by simp only [hU,iB];omega) (by omega)).to (v':=.slice (some ad) eE.length c0) (by simp only [hU,iB,Int.toNat_natCast];rw [show(0:Int).toNat=0 from rfl,wz];simp)) (mJ rfl fun fV R=>?_)))))))))))
 replace B:=B.I R
 replace gP:=gP.I R
 replace eS:=eS.I R
 replace dz:=dz.I R
 replace O:=O.I R
 replace E:=E.then R
 refine ak 1 rfl (ag (av fK rfl) (ea ko B rfl rfl rfl (by simp) fun ic kZ=>?_))
 replace B:=kZ.eq (cs':=[S s,.int .i64 (k:Int),.slice (some ad) eE.length c0]) rfl
 replace gP:=gP.mod kZ.mod (by simpa using nn)
 replace eS:=eS.mod kZ.mod (fun x ae e=>I8 x ae (by simpa using e))
 replace dz:=dz.mod kZ.mod (by simpa using Ne.symm n3)
 replace O:=(Gj O).mod kZ.mod (fun x ae e=>u1 x ae (by simpa using e))
 replace E:=E.trans kZ.mod
 refine J aW (ax fun br=>ab fun bI=>aG rfl (ag (I9 zB (by decide) Rt rfl) (aG rfl (ag (eH rfl rfl) (ag (eH rfl rfl) (aT rfl (aT rfl (J bI (ab fun bW=>aG rfl (J bW ?_))))))))))
 refine a7 rfl (fun qU=>absurd qU (by decide)) (fun qU=>ca (aw br (ab fun cb=>aG rfl (ag (Ru zC rfl rfl) (ak 1 rfl (ag (av zy rfl) (ag (bc dB rfl (gP.cell rfl)) (aT rfl (J cb (ab fun cx=>aG rfl (fA (bF Xx rfl) (Qr _ eS DV IL cg rfl) rfl fun cO jn aA=>?_)))))))))))
 obtain⟨_,R,jE,alE,alF,hlen⟩:=aA
 replace B:=B.mod R (fun ae=>I8 g ae rfl)
 replace dz:=dz.mod R (fun ae=>n10 g2 ae rfl)
 replace O:=O.mod R (fun x ae e=>n11 x ae e)
 replace E:=(E.mono (N:=g::a1 (.slice al acc.length cl)) (by simp)).trans (R.mono (fun x ae=>List.mem_cons_of_mem _ ae))
 refine J cx (ab fun cH=>ak 1 rfl (ag (a' (cs:=[_,_,_,_,_,_]) gW cB rfl rfl) (bo (vs:=[_,_,_,_,_,_]) aK dz rfl rfl rfl (by simp [Value.oneCell']) (by simp) fun jC nq=>?_)))
 have ny:=nq.eq (cs':=[.int .i64 5,.bool false,.int .i64 0,S [],.slice none 0 0,.slice al acc.length cl]) rfl
 have alG:=E.own nq.mod (by omega)
 exact J cH (aZ (kj rfl aK rfl rfl (ny.cs rfl) ⟨rfl,⟨_,B.mod nq.mod (by simpa using n3),O.mod nq.mod (fun x ae e=>Vo x ae (by simpa using e)),rfl⟩,alG,⟨jE,hlen▸alE.mod nq.mod (fun x ae e=>n10 x ae (by simpa using e)),alF⟩,hlen⟩))
theorem Xy {Z:List Nat} {w0 w:World} {g k:Nat} {s t:aa} {st:List lV} {sk:Value} {cs:List Value} {fp:List Nat} {acc:List (aa×JV)} (H:np (nx Z) w0 w g s k (.A acc t::st) sk cs fp) (bY:cs.length≤33) (cg:acc.length≤1000000) :
  Calls Tryz.prog 109 [.pointer (some ⟨g,0,none⟩)].toArray w (bL fun u w'=>∃ us gK eE fl,u = .agg us.toArray∧np (nx Z) w0 w' g s k st gK eE fl∧me w w' g sk fp gK fl∧ao (g::(a1 gK++fl)) w' (JV.obj (ek acc)).D us∧zD Z w w'):=by
 have alC:=H.own
 have dk:=H.xR
 obtain⟨g1,b,ew,vs,eE,fl,rfl,rfl,gP,hm,eS,DV,rI,nn,n6,n7,n8,I8,Np,_,alD⟩:=H.QS (fm:=.A acc t) (acc:=acc) (K:=acc.map (fun q:aa×JV=>q.1)) (t:=t) (fun A w c m h=>h)
 have IL:(acc.map (·.1)).Nodup:=by have h:=hm.keys;rw [show ∀ L:List aa,(nv L).map (·.1)=L from fun L=>by simp [nv,Function.comp_def]] at h;exact h
 obtain⟨al,cl,rfl,_,_⟩:=eS.form
 refine Calls.imp (Gm H.rd alC gP eS DV IL nn (fun x ae e=>H.s6 (by subst e;simp [ae])) I8 (fun x ae h=>H.xk x ae (by simp [h])) (by simpa using bY) cg) fun u w' aA=>?_
 obtain⟨rfl,⟨gK,ahl,EW,iV⟩,E,⟨jE,qE,p7⟩,hlen⟩:=aA
 obtain⟨qL,p2,LD⟩:=alD w' gK jE (ek acc) E ahl EW iV qE p7
 refine⟨_,_,eE,fl,rfl,qL,p2,?_,zD.of E (fun z fY=>(dk z fY).1) (fun z fY h=>?_)⟩
 ·rw [← hlen] at LD ⊢
  exact JV.cv (v:=JV.obj (ek acc)) (al:=none) (cl:=0) ba.en LD
 rcases List.mem_cons.1 h with h | h
 ·exact(dk z fY).2.1 h
 exact Np z fY (by simp [h])
set_option maxRecDepth 10000
theorem b8 {w:World} {e sz n:Nat} {v:Value} {vs:List Value} (O:Own w e sz v n vs) (ck:n≠0):∃ ad c,v = .slice (some ad) n c:=by
 rcases O.2 with⟨_,b3⟩ | ⟨g,o,c,cs,h,_⟩
 ·exact absurd b3 ck
 exact⟨_,_,h⟩
theorem u3 {w:World} {e sz n:Nat} {v:Value} {vs gD us:List Value} (cg:vs.length=n*sz) (dk:gD.length=sz) (O:Own w e sz v (n+1) ((vs++gD).take (n*sz)++us++(vs++gD).drop ((n+1)*sz))):Own w e sz v (n+1) (vs++us):=by
 have h1:(vs++gD).take (n*sz)=vs:=by rw [List.take_append_of_le_length (by omega),List.take_of_length_le (by omega)]
 have aq:(vs++gD).drop ((n+1)*sz) = []:=List.drop_eq_nil_of_le (by rw [List.length_append,cg,dk,Nat.add_mul,Nat.one_mul];exact Nat.le_refl _)
 rwa [h1,aq,List.append_nil] at O
theorem Xz {Z:List Nat} {w0 w:World} {g k:Nat} {s:aa} {st:List lV} {sk:Value} {cs:List Value} {fp:List Nat} {acc:List JV} {v:JV} {us:List Value} (H:np (nx Z) w0 w g s k (.L acc::st) sk cs fp) (asp:ao (g::(a1 sk++fp)) w v.D us) (bY:cs.length≤32) (ay:acc.length≤1000000) :
  Calls Tryz.prog 107 [.pointer (some ⟨g,0,none⟩),.agg us.toArray].toArray w (bL fun u w'=>u = .int .u8 93∧∃ h8,np (nx Z) w0 w' g s k (.L (acc ++ [v])::st) sk cs h8∧me w w' g sk fp sk h8∧zD Z w w'):=by
 refine enter Tryz.func107 rfl rfl rfl (l:=[(0,_),(1,_)]) ⟨rfl,rfl,trivial⟩ ?_
 have dk:=H.xR
 have B:=H.rd
 have O:=H.own
 obtain⟨g1,ew,vs,eE,fl,rfl,rfl,gP,eS,DV,rI,nn,Np,acK,_⟩:=H.QQ
 obtain⟨ad,c0,rfl,fH,gC,C⟩:=qq O
 have r4:eE.length+1≤32:=by simpa using bY
 replace B:aF w g 75 _:=B
 have E:=Mod.refl (g1::a1 ew) w
 have O3:=asp
 obtain⟨al,cl,am,cm,rfl,kW,jJ⟩:=JV.bb asp
 refine ab fun aV=>dP rfl rfl rfl fun g2 aB bR=>?_
 have u0:=bR.le E
 have n3:=bR.ne B
 have n4:=bR.ne gP
 have Vo:=bR.b8 eS
 replace B:=B.I bR.mod
 replace gP:=gP.I bR.mod
 replace eS:=eS.I bR.mod
 replace C:=C.mod bR.mod (by simp)
 replace E:=E.then bR.mod
 have dz:=bR.az
 refine aT rfl (J aV (ax fun aL=>bT wide (by kernel_rfl) (f' 2 rfl rfl (ai (fun R=>(av fK rfl)) (ai (fun R=>(bc ko rfl ((B.I R).cell rfl))) (f' 2 rfl rfl (ai (fun R=>(av fK rfl)) (ai (fun R=>(bc ko rfl ((B.I R).cell rfl))) (ai (fun R=>(bl Tryz.underlying73 rfl)) (ai (fun R=>(ez (r:=((eE.length:Nat):Int)) rfl rfl (by rw [wrap64_in _ (by omega)];omega))) (ai (fun R=>(b6 tf rfl rfl (by omega))) (ai (fun R=>(bc Co rfl (oe (C.mod R (by simp))))) ?_))))))))))))
 refine ai (fun R=>(cr rfl)) (bV rfl fun cN R=>?_)
 replace B:=B.I R
 replace gP:=gP.I R
 replace dz:=dz.I R
 replace eS:=eS.I R
 replace E:=E.then R
 refine aw aL (ax fun br=>ab fun bI=>aG rfl (ag (LC zB rfl rfl) (aG rfl (ag (eH rfl rfl) (ag (eH rfl rfl) (aT rfl (aT rfl (J bI (ab fun bW=>aG rfl (J bW ?_))))))))))
 refine a7 rfl (fun jF=>?_) (fun jF=>absurd jF (by decide))
 refine ax fun cb=>?_
 obtain⟨acL,XA,bk,hj,eZ⟩:=eS.form
 subst bk
 refine Gn [] [0,1,2,3,4,5,6] 7 [8,10,11] 9 12 wide (by kernel_rfl) (fun _ _ _ h=>h.2) (iN (f' 2 rfl rfl (ai (fun R=>(av zA rfl)) (ai (fun R=>(bc jL rfl ((gP.I R).cell rfl))) (ai (fun R=>(a8 (vs:=[_,_,_,_,_,_]) aK rfl rfl ((dz.I R).cs rfl))) (ai (fun R=>(bl Tryz.underlying22 rfl)) (ajX (fun u cQ=>Own cQ 25 6 u 1 [.int .i64 0,.bool false,.int .i64 0,S [],.slice none 0 0,.slice none 0 0]) (fun cO nY jH j2 aA=>aA.I j2) (fun cQ R=>⟨_,_,og (cs:=[_,_,_,_,_,_]) kk cB rfl rfl rfl (by decide),(kt.mk' cQ 25 _).mod,Own.all (cs:=[_,_,_,_,_,_]) (kt.mk' cQ 25 _).az rfl (by omega)⟩) rfl rfl rfl (mg (t:=33) rfl rfl rfl rfl fun fV cO R aA=>?_))))))))
 replace B:=B.I R
 replace gP:=gP.I R
 replace dz:=dz.I R
 replace eS:=eS.I R
 replace E:=E.then R
 have E3:=E.size
 have uI:=dz.lt
 refine bu kk rfl rfl eS (Src.own Tryz.underlying22 aA (by simp [Value.oneCell'])) (by decide) (by omega) (by omega) rfl fun v1 ic jj=>?_
 obtain⟨pd,c1,rfl⟩:=b8 jj.own (by omega)
 replace gP:=gP.mod jj.mod rI
 replace dz:=dz.mod jj.mod (fun ae=>Vo g2 ae rfl)
 replace E:=E.trans (jj.mod.mono (fun x ae=>List.mem_cons_of_mem _ ae))
 have r':∀ x∈a1 (.slice (some pd) (acc.length+1) c1),x∈a1 (.slice acL acc.length XA)∨w.heap.size≤x:=fun x ae=>(jj.lZ x ae).imp id (Nat.le_trans E3)
 have n6:g1∉a1 (.slice (some pd) (acc.length+1) c1):=fun ae=>by
  rcases r' g1 ae with h | h
  ·exact rI h
  have:=H.lt g1 (by simp);omega
 have Rv:∀ {a b:World},Mod (a1 (.slice (some pd) (acc.length+1) c1)) a b→Mod (g1::a1 (.slice acL acc.length XA)) w a→Mod (g1::a1 (.slice acL acc.length XA)) w b:=fun j2 aA=>aA.trans' j2 fun x ae=>(r' x ae).imp (fun h=>List.mem_cons_of_mem _ h) id
 have Gp:=jj.own
 have nr:vs.length=acc.length*6:=eS.len
 refine Rw (WB (fun cQ=>b6 kk rfl rfl (by omega)) rfl rfl (WB (fun cQ=>ee rfl) rfl rfl (WB (fun cQ=>av zA rfl) rfl rfl (iN ?_))))
 refine⟨?_,?_⟩
 ·refine u4 (us:=[_,_,_,_,_,_]) (i:=acc.length) aK Gp rfl rfl rfl (by simp [Value.oneCell']) (by omega) fun jn alH acM _=>?_
  replace gP:=gP.mod acM (by simpa [a1] using n6)
  replace E:=Rv acM E
  refine ea jL gP rfl rfl rfl (by simp) fun jC nq=>?_
  replace gP:=nq.eq (cs':=[.slice (some pd) (acc.length+1) c1]) rfl
  replace Gp:=(u3 nr rfl alH).mod nq.mod (fun x ae e=>n6 (by rw [List.mem_singleton.1 e] at ae;exact ae))
  replace E:=E.trans (nq.mod.mono (by simp))
  obtain⟨qL,p2⟩:=acK jC _ _ v E gP Gp r' O3
  exact J cb (nm fun acN cx=>bQ (aT rfl (J cx (aZ (aO (by simp) (au rfl rfl ⟨rfl,_,qL,p2,zD.of E (fun z fY=>(dk z fY).1) Np⟩))))))
 refine ea jL gP rfl rfl rfl (by simp) fun jn hx=>?_
 replace gP:=hx.eq (cs':=[.slice (some pd) (acc.length+1) c1]) rfl
 replace Gp:=Gp.mod hx.mod (fun x ae e=>n6 (by rw [List.mem_singleton.1 e] at ae;exact ae))
 replace E:=E.trans (hx.mod.mono (by simp))
 refine u4 (us:=[_,_,_,_,_,_]) (i:=acc.length) aK Gp rfl rfl rfl (by simp [Value.oneCell']) (by omega) fun jC alI acO _=>?_
 replace gP:=gP.mod acO (by simpa [a1] using n6)
 replace E:=Rv acO E
 replace Gp:=u3 nr rfl alI
 obtain⟨qL,p2⟩:=acK jC _ _ v E gP Gp r' O3
 exact J cb (nm fun acN cx=>bQ (aT rfl (J cx (aZ (aO (by simp) (au rfl rfl ⟨rfl,_,qL,p2,zD.of E (fun z fY=>(dk z fY).1) Np⟩))))))
set_option maxRecDepth 10000
theorem XH {Z:List Nat} {w0 w:World} {g k:Nat} {s:aa} {st:List lV} {sk:Value} {cs:List Value} {fp:List Nat} {acc:List (aa×JV)} {t:aa} {v:JV} {us:List Value} (H:np (nx Z) w0 w g s k (.M acc t::st) sk cs fp) (asp:ao (g::(a1 sk++fp)) w v.D us) (bY:cs.length≤32) (ay:acc.length≤1000000) :
  Calls Tryz.prog 107 [.pointer (some ⟨g,0,none⟩),.agg us.toArray].toArray w (bL fun u w'=>u = .int .u8 125∧∃ h8,np (nx Z) w0 w' g s k (.A (acc ++ [(t,v)]) t::st) sk cs h8∧me w w' g sk fp sk h8∧zD Z w w'):=by
 refine enter Tryz.func107 rfl rfl rfl (l:=[(0,_),(1,_)]) ⟨rfl,rfl,trivial⟩ ?_
 have dk:=H.xR
 have B:=H.rd
 have O:=H.own
 obtain⟨g1,b,ew,vs,eE,fl,rfl,rfl,gP,hm,eS,DV,rI,nn,n7,n8,I8,n10,Np,acK,_⟩:=H.QS (fm:=.M acc t) (acc:=acc) (K:=acc.map (fun q:aa×JV=>q.1) ++ [t]) (t:=t) (fun A w c m h=>h)
 obtain⟨ad,c0,rfl,fH,gC,C⟩:=qq O
 have r4:eE.length+1≤32:=by simpa using bY
 replace B:aF w g 75 _:=B
 have E:=Mod.refl (g::g1::b::a1 ew) w
 have O3:=asp
 obtain⟨al,cl,am,cm,rfl,kW,jJ⟩:=JV.bb asp
 refine ab fun aV=>dP rfl rfl rfl fun g2 aB bR=>?_
 have u0:=bR.le E
 have n3:=bR.ne B
 have n4:=bR.ne gP
 have Vo:=bR.b8 eS
 replace B:=B.I bR.mod
 replace gP:=gP.I bR.mod
 replace hm:=hm.I bR.mod
 replace eS:=eS.I bR.mod
 replace C:=C.mod bR.mod (by simp)
 replace E:=E.then bR.mod
 have dz:=bR.az
 refine aT rfl (J aV (ax fun aL=>bT wide (by kernel_rfl) (f' 2 rfl rfl (ai (fun R=>(av fK rfl)) (ai (fun R=>(bc ko rfl ((B.I R).cell rfl))) (f' 2 rfl rfl (ai (fun R=>(av fK rfl)) (ai (fun R=>(bc ko rfl ((B.I R).cell rfl))) (ai (fun R=>(bl Tryz.underlying73 rfl)) (ai (fun R=>(ez (r:=((eE.length:Nat):Int)) rfl rfl (by rw [wrap64_in _ (by omega)];omega))) (ai (fun R=>(b6 tf rfl rfl (by omega))) (ai (fun R=>(bc Co rfl (oe (C.mod R (by simp))))) ?_))))))))))))
 refine ai (fun R=>(cr rfl)) (bV rfl fun cN R=>?_)
 replace B:=B.I R
 replace gP:=gP.I R
 replace hm:=hm.I R
 replace dz:=dz.I R
 replace eS:=eS.I R
 replace E:=E.then R
 refine aw aL (ax fun br=>ab fun bI=>aG rfl (ag (I9 zB (show ¬ (129:Nat)=163 by decide) Rt rfl) (aG rfl (ag (eH rfl rfl) (ag (eH rfl rfl) (aT rfl (aT rfl (J bI (ab fun bW=>aG rfl (J bW ?_))))))))))
 refine a7 rfl (fun jF=>absurd jF (by decide)) (fun jF=>ca (aw br (ab fun cH=>aG rfl (ag (Ru zC rfl rfl) (aT rfl (J cH (ax fun cb=>?_)))))))
 obtain⟨acL,XA,bk,hj,eZ⟩:=eS.form
 subst bk
 refine Gn [] [0,1,2,3,4,5,6,7,8,9,10,11] 12 [13,15,16] 14 17 wide (by kernel_rfl) (fun _ _ _ h=>h.2) (iN (f' 2 rfl rfl (ai (fun R=>(av zy rfl)) (ai (fun R=>(bc dB rfl ((gP.I R).cell rfl))) (f' 2 rfl rfl (ai (fun R=>(av u2 rfl)) (ai (fun R=>(bc bs rfl ((gP.I R).cell rfl))) (ai (fun R=>(a8 (vs:=[_,_,_,_,_,_]) aK rfl rfl ((dz.I R).cs rfl))) (ai (fun R=>(a' (cs:=[_,_,_,_,_,_,_]) hF ey rfl rfl)) (ai (fun R=>(bl Tryz.underlying23 rfl)) (ajX (fun u cQ=>Own cQ 51 7 u 1 [S [],.int .i64 0,.bool false,.int .i64 0,S [],.slice none 0 0,.slice none 0 0]) (fun cO nY jH j2 aA=>aA.I j2) (fun cQ R=>⟨_,_,og (cs:=[_,_,_,_,_,_,_]) cR ey rfl rfl rfl (by decide),(kt.mk' cQ 51 _).mod,Own.all (cs:=[_,_,_,_,_,_,_]) (kt.mk' cQ 51 _).az rfl (by omega)⟩) rfl rfl rfl (mg (t:=51) rfl rfl rfl rfl fun fV cO R aA=>?_))))))))))))
 replace B:=B.I R
 replace gP:=gP.I R
 replace hm:=hm.I R
 replace dz:=dz.I R
 replace eS:=eS.I R
 replace E:=E.then R
 have E3:=E.size
 have uI:=dz.lt
 refine bu cR rfl rfl eS (Src.own Tryz.underlying23 aA (by simp [Value.oneCell'])) (by decide) (by omega) (by omega) rfl fun v1 ic jj=>?_
 obtain⟨pd,c1,rfl⟩:=b8 jj.own (by omega)
 replace gP:=gP.mod jj.mod rI
 replace dz:=dz.mod jj.mod (fun ae=>Vo g2 ae rfl)
 replace E:=E.trans (jj.mod.mono (fun x ae=>List.mem_cons_of_mem _ (List.mem_cons_of_mem _ (List.mem_cons_of_mem _ ae))))
 replace hm:=hm.mod jj.mod I8
 replace B:=B.mod jj.mod (fun ae=>n10 g ae rfl)
 have r':∀ x∈a1 (.slice (some pd) (acc.length+1) c1),x∈a1 (.slice acL acc.length XA)∨w.heap.size≤x:=fun x ae=>(jj.lZ x ae).imp id (Nat.le_trans E3)
 have n6:g1∉a1 (.slice (some pd) (acc.length+1) c1):=fun ae=>by
  rcases r' g1 ae with h | h
  ·exact rI h
  have:=H.lt g1 (by simp);omega
 have n11:b∉a1 (.slice (some pd) (acc.length+1) c1):=fun ae=>by
  rcases r' b ae with h | h
  ·exact I8 h
  have:=H.lt b (by simp);omega
 have n12:g∉a1 (.slice (some pd) (acc.length+1) c1):=fun ae=>by
  rcases r' g ae with h | h
  ·exact n10 g h rfl
  have:=H.lt g (by simp);omega
 have Rv:∀ {A4 cO:World},Mod (a1 (.slice (some pd) (acc.length+1) c1)) A4 cO→Mod (g::g1::b::a1 (.slice acL acc.length XA)) w A4→Mod (g::g1::b::a1 (.slice acL acc.length XA)) w cO:=fun j2 aA=>aA.trans' j2 fun x ae=>(r' x ae).imp (fun h=>List.mem_cons_of_mem _ (List.mem_cons_of_mem _ (List.mem_cons_of_mem _ h))) id
 have Gp:=jj.own
 have nr:vs.length=acc.length*7:=eS.len
 refine Rw (WB (fun cQ=>b6 cR rfl rfl (by omega)) rfl rfl (WB (fun cQ=>ee rfl) rfl rfl (WB (fun cQ=>av zy rfl) rfl rfl (iN ?_))))
 refine⟨?_,?_⟩
 ·refine u4 (us:=[_,_,_,_,_,_,_]) (i:=acc.length) jP Gp rfl rfl rfl (by simp [Value.oneCell']) (by omega) fun jn alH acM _=>?_
  replace gP:=gP.mod acM (by simpa [a1] using n6)
  replace hm:=hm.mod acM (by simpa [a1] using n11)
  replace B:=B.mod acM (by simpa [a1] using n12)
  replace E:=Rv acM E
  refine ea dB gP rfl rfl rfl (by simp) fun jC nq=>?_
  replace gP:=nq.eq (cs':=[.slice (some pd) (acc.length+1) c1,.map (some b),S t]) rfl
  replace Gp:=(u3 nr rfl alH).mod nq.mod (fun x ae e=>n6 (by rw [List.mem_singleton.1 e] at ae;exact ae))
  replace E:=E.trans (nq.mod.mono (by simp))
  replace hm:=hm.mod nq.mod (by simpa using Ne.symm n8)
  replace B:=B.mod nq.mod (by simpa using Ne.symm nn)
  obtain⟨qL,p2⟩:=acK jC _ _ k (.A (acc ++ [(t,v)]) t) (acc ++ [(t,v)]) (acc.map (fun q:aa×JV=>q.1) ++ [t]) t E B gP hm (by rw [List.length_append];exact Gp) r' (JV.oD DV (JV.dw (p:=(t,v)) O3)) (fun A w c m h=>by rw [show acc.map (fun q:aa×JV=>q.1) ++ [t]=(acc ++ [(t,v)]).map (fun q:aa×JV=>q.1)by simp] at h;exact h)
  exact J cb (nm fun acN cx=>bQ (aT rfl (J cx (aZ (au rfl rfl ⟨rfl,_,qL,p2,zD.of E (fun z fY=>(dk z fY).1) (fun z fY h=>(List.mem_cons.1 h).elim (dk z fY).2.1 (Np z fY))⟩)))))
 refine ea dB gP rfl rfl rfl (by simp) fun jn hx=>?_
 replace gP:=hx.eq (cs':=[.slice (some pd) (acc.length+1) c1,.map (some b),S t]) rfl
 replace Gp:=Gp.mod hx.mod (fun x ae e=>n6 (by rw [List.mem_singleton.1 e] at ae;exact ae))
 replace E:=E.trans (hx.mod.mono (by simp))
 replace hm:=hm.mod hx.mod (by simpa using Ne.symm n8)
 replace B:=B.mod hx.mod (by simpa using Ne.symm nn)
 refine u4 (us:=[_,_,_,_,_,_,_]) (i:=acc.length) jP Gp rfl rfl rfl (by simp [Value.oneCell']) (by omega) fun jC alI acO _=>?_
 replace gP:=gP.mod acO (by simpa [a1] using n6)
 replace hm:=hm.mod acO (by simpa [a1] using n11)
 replace B:=B.mod acO (by simpa [a1] using n12)
 replace E:=Rv acO E
 replace Gp:=u3 nr rfl alI
 obtain⟨qL,p2⟩:=acK jC _ _ k (.A (acc ++ [(t,v)]) t) (acc ++ [(t,v)]) (acc.map (fun q:aa×JV=>q.1) ++ [t]) t E B gP hm (by rw [List.length_append];exact Gp) r' (JV.oD DV (JV.dw (p:=(t,v)) O3)) (fun A w c m h=>by rw [show acc.map (fun q:aa×JV=>q.1) ++ [t]=(acc ++ [(t,v)]).map (fun q:aa×JV=>q.1)by simp] at h;exact h)
 exact J cb (nm fun acN cx=>bQ (aT rfl (J cx (aZ (au rfl rfl ⟨rfl,_,qL,p2,zD.of E (fun z fY=>(dk z fY).1) (fun z fY h=>(List.mem_cons.1 h).elim (dk z fY).2.1 (Np z fY))⟩)))))
set_option maxRecDepth 10000
theorem DW {w:World} {g T b:Nat} {cs:List Value} {m:List (aa×Value)} (B:aF w g T cs) (asr:jZ w b m):g≠b:=fun e=>by
 subst e;obtain⟨es,c,h,_⟩:=asr.at_;rw [show w.heap[g]? = _ from B] at h;cases h
abbrev rp:List Value:=[.int .i64 0,.bool false,.int .i64 0,S [],.slice none 0 0,.slice none 0 0]
theorem wA {s:aa} {k n:Nat} {x:JV×Nat} (h:ht s (aj aX s k)=some x):mX s k n = .ok (.inl x):=by
 unfold ht at h;unfold mX
 dsimp only
 split at h
 ·rename_i h1;rw [if_pos h1];injection h with h;rw [h]
 rename_i h1
 rw [if_neg h1]
 split at h
 ·rename_i aq;rw [if_pos aq];injection h with h;rw [h]
 rename_i aq
 rw [if_neg aq]
 split at h
 ·rename_i aU;rw [if_pos aU];injection h with h;rw [h]
 cases h
noncomputable def pD (s:aa) (k n:Nat):Except Int (Sum (JV×Nat) (lV×Nat)):=
 if aC s k [34] then
  match fc s k with
  | none=>.error 4
  | some (t,dZ)=>.ok (.inl (JV.aP t,dZ))
 else if aC s k [91]||aC s k [123] then
  if n=32 then .error 5
  else
   let dZ:=aj aX s (k+1)
   if aC s k [91] then
    if aC s dZ [93] then .ok (.inl (JV.cX [],dZ+1))else .ok (.inr (.L [],dZ))
   else
    if aC s dZ [125] then .ok (.inl (JV.obj [],dZ+1))
    else match jY s dZ [] with
     | .error e=>.error e
     | .ok (t,j9)=>.ok (.inr (.M [] t,j9))
 else match iM s k with
  | .error e=>.error e
  | .ok x=>.ok (.inl x)
theorem wB {s:aa} {k n:Nat} (h:ht s (aj aX s k)=none):mX s k n=pD s (aj aX s k) n:=by
 unfold ht at h;unfold mX pD
 dsimp only
 split at h
 ·cases h
 rename_i h1
 rw [if_neg h1]
 split at h
 ·cases h
 rename_i aq
 rw [if_neg aq]
 split at h
 ·cases h
 rename_i aU
 rw [if_neg aU];rfl
theorem Nq {s:aa} {k n:Nat} (h:k=s.length):pD s k n = .error 4:=by
 have b3:∀ c:UInt8,aC s k [c]=false:=fun c=>bZ (by omega) (by simp);have dk:s.drop k = []:=List.drop_eq_nil_of_le (by omega);have ck:iM s k = .error 4:=by
  unfold iM h6;rw [dk,List.take_nil,if_pos (by decide)];rfl
 unfold pD;rw [b3,b3,b3,ck];rfl
theorem pV {s:aa} {k:Nat} {c:UInt8} (bj:s[k]? = some c) (d:UInt8):aC s k [d]=decide (c=d):=bC bj
theorem Nr {s:aa} {k n:Nat} (bj:s[k]? = some 34):pD s k n=match fc s k with | none=>.error 4 | some (t,dZ)=>.ok (.inl (JV.aP t,dZ)):=by
 unfold pD;rw [pV bj,if_pos (by decide)]
theorem Ns {s:aa} {k n:Nat} (bj:s[k]? = some 91):pD s k n=if n=32 then .error 5 else if aC s (aj aX s (k+1)) [93] then .ok (.inl (JV.cX [],aj aX s (k+1)+1))else .ok (.inr (.L [],aj aX s (k+1))):=by
 unfold pD;rw [pV bj,pV bj,pV bj,if_neg (by decide),if_pos (by decide)]
 by_cases ck:n=32
 ·rw [if_pos ck,if_pos ck]
 rw [if_neg ck,if_neg ck];exact if_pos (by decide)
theorem Nt {s:aa} {k n:Nat} (bj:s[k]? = some 123):pD s k n=if n=32 then .error 5 else if aC s (aj aX s (k+1)) [125] then .ok (.inl (JV.obj [],aj aX s (k+1)+1))else match jY s (aj aX s (k+1)) [] with | .error e=>.error e | .ok (t,j9)=>.ok (.inr (.M [] t,j9)):=by
 unfold pD;rw [pV bj,pV bj,pV bj,if_neg (by decide),if_pos (by decide)]
 by_cases ck:n=32
 ·rw [if_pos ck,if_pos ck]
 rw [if_neg ck,if_neg ck];exact if_neg (by decide)
theorem Nu {s:aa} {k n:Nat} {c:UInt8} (bj:s[k]? = some c) (h1:¬ c=34) (aq:¬ c=91) (aU:¬ c=123):pD s k n=match iM s k with | .error e=>.error e | .ok x=>.ok (.inl x):=by
 unfold pD;rw [pV bj,pV bj,pV bj,bN h1,bN aq,bN aU];rfl
def alJ (Z:List Nat) (w0 w:World) (g:Nat) (s:aa) (st:List lV) (sk:Value) (fp:List Nat):Sum (JV×Nat) (lV×Nat)→Value→World→Prop
 | .inl (v,dZ),u,w'=>∃ us gK cs' h8,u = .tuple #[.agg us.toArray,.bool true]∧np (nx Z) w0 w' g s dZ st gK cs' h8∧me w w' g sk fp gK h8∧ao (g::(a1 gK++h8)) w' v.D us∧zD Z w w'
 | .inr (fm,dZ),u,w'=>∃ us gK cs' h8,u = .tuple #[.agg us.toArray,.bool false]∧us=rp∧np (nx Z) w0 w' g s dZ (fm::st) gK cs' h8∧me w w' g sk fp gK h8∧zD Z w w'
theorem XI:aQ Tryz.prog 146:=aQ.of Tryz.func146 (by kernel_rfl) (by kernel_rfl)
theorem LF:aQ Tryz.prog 148:=aQ.of Tryz.func148 (by kernel_rfl) (by kernel_rfl)
theorem XJ:aQ Tryz.prog 149:=aQ.of Tryz.func149 (by kernel_rfl) (by kernel_rfl)
theorem XK:aQ Tryz.prog 84:=aQ.of Tryz.func84 (by kernel_rfl) (by kernel_rfl)
theorem yb:aQ Tryz.prog 109:=aQ.of Tryz.func109 (by kernel_rfl) (by kernel_rfl)
theorem LG:aQ Tryz.prog 110:=aQ.of Tryz.func110 (by kernel_rfl) (by kernel_rfl)
theorem acP:vT Tryz.prog 165 [(0,1)]=true:=by kernel_rfl
theorem acQ:hG Tryz.prog 165 [.slice none 0 0]:=by unfold hG;kernel_rfl
theorem acR:vT Tryz.prog 168 [(0,1),(1,1),(2,1)]=true:=by kernel_rfl
theorem acS:hG Tryz.prog 168 [.slice none 0 0,.map none,S []]:=by unfold hG;kernel_rfl
theorem Rx {Z:List Nat} {w0 w:World} {g k:Nat} {s:aa} {st:List lV} {sk:Value} {cs:List Value} {fp:List Nat} (H:np (nx Z) w0 w g s k st sk cs fp) (bf:s.length≤65536) (hk:k≤s.length) (bY:cs.length≤32) (e4:Env w) (dA:Nj<g) (alK:∀ x∈a1 sk,Nj<x) :
  Calls Tryz.prog 106 [.pointer (some ⟨g,0,none⟩)].toArray w (M7 124 (g::a1 sk) w (mX s k st.length) (alJ Z w0 w g s st sk fp)):=by
 refine enter Tryz.func106 rfl rfl rfl (l:=[(0,_)]) ⟨rfl,trivial⟩ ?_
 have acT:=e4
 have hlen:=H.len
 have dk:=H.xR
 have B:aF w g 75 _:=H.rd
 have u1:∀ x∈a1 sk,x≠g:=fun x ae e=>H.s6 (by subst e;simp [ae])
 have E:=Mod.refl [g] w
 have nV:aj aX s k≤s.length:=cy hk
 refine ab fun aV=>bt cB rfl fun g2 aB bR=>?_
 have u0:=bR.le E
 have nn:=bR.ne B
 have Vo:=bR.b8 H.own
 replace B:=B.I bR.mod
 replace E:=E.then bR.mod
 have dz:=bR.az
 refine aT rfl (J aV (ab fun aL=>aG rfl (fA (bF DU rfl) (uZ _ g s k sk B bf hk) rfl fun cO cN aA=>?_)))
 obtain⟨B,R⟩:=aA
 replace dz:=dz.mod R (by simpa using Ne.symm nn)
 replace E:=E.trans R
 refine J aL (ax fun aW=>ab fun br=>aG rfl (fA (bF XI rfl) (Xu _ g s _ sk B bf nV) rfl fun cO fV aA=>?_))
 obtain⟨us,rfl,aY,ck,R⟩:=aA
 replace dz:=dz.mod R (by simpa using Ne.symm nn)
 replace E:=E.trans R
 cases hw:ht s (aj aX s k)with
 | some x=>
  obtain⟨v,q⟩:=x
  obtain⟨v',alL,alM,asp,B⟩:=aY (by rw [hw];rfl)
  obtain⟨al,cl,am,cm,rfl,_,_⟩:=JV.bb (asp [] w)
  refine aG rfl (ag (eH rfl rfl) (ag (eH rfl rfl) (bt cB rfl fun g4 ic N4=>?_)))
  have acU:=N4.le E
  have n3:=N4.ne B
  have n4:=N4.ne dz
  replace B:=B.I N4.mod
  replace dz:=dz.I N4.mod
  replace E:=E.then N4.mod
  refine bo (vs:=[_,_,_,_,_,_]) aK N4.az rfl rfl rfl (by simp [Value.oneCell']) (by simp) fun jn hx=>?_
  have apg:=hx.eq (cs':=[_,_,_,_,_,_]) rfl
  replace B:=B.mod hx.mod (by simpa using n3)
  replace dz:=dz.mod hx.mod (by simpa using n4)
  replace E:=E.own hx.mod acU
  refine aT rfl (J br (nm fun K5 bI=>bQ (aG rfl (J bI ?_))))
  refine a7 rfl (fun pf=>?_) (fun pf=>absurd pf (by simp))
  refine ab fun bW=>ag (a8 (vs:=[_,_,_,_,_,_]) aK rfl rfl (apg.cs rfl)) (bo (vs:=[_,_,_,_,_,_]) aK dz rfl rfl rfl (by simp [Value.oneCell']) (by simp) fun jC nq=>?_)
  have ny:=nq.eq (cs':=[_,_,_,_,_,_]) rfl
  replace B:=B.mod nq.mod (by simpa using nn)
  replace E:=E.own nq.mod u0
  exact aT rfl (J bW (aZ (aO (by simp) (qV (vs:=[_,_,_,_,_,_]) rfl aK rfl rfl (ny.cs rfl) rfl ⟨.inl (v',alL),wA alM,⟨_,sk,cs,fp,rfl,H.r5 B E,me.of E,asp _ _,(zD.of E (fun z fY=>(dk z fY).1) (fun z fY=>by simpa using (dk z fY).2.1))⟩,E.mono (by simp)⟩))))
 | none=>
  obtain⟨_,rfl,B⟩:=ck (by rw [hw];rfl)
  have nz:=wB (n:=st.length) hw
  refine aG rfl (ag (eH rfl rfl) (ag (eH rfl rfl) (bt cB rfl fun g4 ic N4=>?_)))
  have acU:=N4.le E
  have n3:=N4.ne B
  have n4:=N4.ne dz
  replace B:=B.I N4.mod
  replace dz:=dz.I N4.mod
  replace E:=E.then N4.mod
  refine bo (vs:=[_,_,_,_,_,_]) aK N4.az rfl rfl rfl (by simp [Value.oneCell']) (by simp) fun jn hx=>?_
  have apg:=hx.eq (cs':=rp) rfl
  replace B:=B.mod hx.mod (by simpa using n3)
  replace dz:=dz.mod hx.mod (by simpa using n4)
  replace E:=E.own hx.mod acU
  refine aT rfl (J br (nm fun K5 bI=>bQ (aG rfl (J bI (a7 rfl (fun pf=>absurd pf (by simp)) (fun pf=>ca (aw aW (ax fun cb=>eB (ax fun cx=>bT wide (by kernel_rfl) (f' 2 rfl rfl ?_))))))))))
  refine ai (fun R=>(av da rfl)) (ai (fun R=>(bc dE rfl ((B.I R).cell rfl))) (f' 2 rfl rfl (ai (fun R=>(av ft rfl)) (ai (fun R=>(bc bs rfl ((B.I R).cell rfl))) (ai (fun R=>(bw Tryz.underlying9 rfl)) (ai (fun R=>(lT rfl rfl)) (ai (fun R=>(cr rfl)) (bV rfl fun jC R=>?_))))))))
  replace B:=B.I R
  replace dz:=dz.I R
  replace E:=E.then R
  refine aw cx ?_
  refine aI rfl (fun mK=>?_) (fun mK=>?_)
  ·refine bQ ?_
   refine fQ (bF gf rfl) (eX _ 4) rfl (fun cQ aA=>aA.elim) (fun lW iw aA=>?_) fun cO iw aA=>?_
   ·obtain⟨rfl,rfl⟩:=aA
    exact bx (by simp) (aO (by simp) (ed ⟨4,by rw [nz,Nq (by omega)],by decide,rfl,E.mono (by simp)⟩))
   exact aA.elim
  obtain⟨c,bj⟩:∃ c,s[aj aX s k]? = some c:=⟨_,List.getElem?_eq_getElem (by omega)⟩
  refine ax fun cH=>bT wide (by kernel_rfl) (f' 2 rfl rfl (ai (fun R=>(av ft rfl)) (ai (fun R=>(bc bs rfl ((B.I R).cell rfl))) (f' 2 rfl rfl (ai (fun R=>(av da rfl)) (ai (fun R=>(bc dE rfl ((B.I R).cell rfl))) (ai (fun R=>(b' Tryz.underlying9 rfl rfl (by omega) (by rw [Int.toNat_natCast];exact bj))) (ai (fun R=>(lT rfl rfl)) (ai (fun R=>(cr rfl)) (bV rfl fun aqZ R=>?_))))))))))
  replace B:=B.I R
  replace dz:=dz.I R
  replace E:=E.then R
  refine aw cH ?_
  refine aI rfl (fun Dv=>?_) (fun Dv=>?_)
  ·obtain rfl:c=34:=du (by rw [Dv];rfl)
   rw [Nr bj] at nz
   refine ab fun b5=>aG rfl ?_
   refine fQ (bF LA rfl) (Gf _ g s (aj aX s k) sk B bf nV (acT.oP dA E).acq) rfl (fun cQ aA=>aA) (fun lW iw aA=>?_) fun cO iw aA=>?_
   ·obtain⟨e,he,b3,rfl,R⟩:=aA
    refine aO (by simp) (bx (by simp) (aO (by simp) ?_))
    refine ed ⟨e,?_,b3,rfl,(E.trans R).mono (by simp)⟩
    rw [nz]
    cases h:fc s (aj aX s k)with
    | none=>rw [h] at he;cases he;rfl
    | some x=>rw [h] at he;cases he
   obtain⟨⟨t,dZ⟩,he,⟨rfl,B⟩,R⟩:=aA
   have cf:fc s (aj aX s k)=some (t,dZ):=by
    cases h:fc s (aj aX s k)with
    | none=>rw [h] at he;cases he
    | some x=>rw [h] at he;cases he;rfl
   rw [cf] at nz
   replace dz:=dz.mod R (by simpa using Ne.symm nn)
   replace E:=E.trans R
   refine cP (bF XK rfl) (na _ t) fun n' R=>?_
   replace B:=B.I R
   replace dz:=dz.I R
   replace E:=E.then R
   refine bo (vs:=[_,_,_,_,_,_]) aK dz rfl rfl rfl (by simp [Value.oneCell']) (by simp) fun lY ox=>?_
   have ny:=ox.eq (cs':=[_,_,_,_,_,_]) rfl
   replace B:=B.mod ox.mod (by simpa using nn)
   replace E:=E.own ox.mod u0
   exact aT rfl (J b5 (aZ (bx (by simp) (aO (by simp) (qV (vs:=[_,_,_,_,_,_]) rfl aK rfl rfl (ny.cs rfl) rfl ⟨.inl (JV.aP t,dZ),nz,⟨_,sk,cs,fp,rfl,H.r5 B E,me.of E,JV.cv (v:=JV.aP t) (al:=none) (am:=none) (cl:=0) (cm:=0) ba.en ba.en,(zD.of E (fun z fY=>(dk z fY).1) (fun z fY=>by simpa using (dk z fY).2.1))⟩,E.mono (by simp)⟩)))))
  have ahm:¬ c=34:=fun e=>Dv (by rw [e];rfl)
  refine ax fun bX=>bT wide (by kernel_rfl) (f' 2 rfl rfl (ai (fun R=>(av ft rfl)) (ai (fun R=>(bc bs rfl ((B.I R).cell rfl))) (f' 2 rfl rfl (ai (fun R=>(av da rfl)) (ai (fun R=>(bc dE rfl ((B.I R).cell rfl))) (ai (fun R=>(b' Tryz.underlying9 rfl rfl (by omega) (by rw [Int.toNat_natCast];exact bj))) (ai (fun R=>(lT rfl rfl)) (ai (fun R=>(cr rfl)) (bV rfl fun aph R=>?_))))))))))
  replace B:=B.I R
  replace dz:=dz.I R
  replace E:=E.then R
  refine aw bX ?_
  refine aI rfl (fun Fv=>?_) (fun Fv=>?_)
  ·obtain rfl:c=91:=du (by rw [Fv];rfl)
   rw [Ns bj] at nz
   refine ab fun cU=>aG rfl (ag (a' (us:=[]) (cs:=[_]) acP acQ rfl rfl) (dP rfl rfl rfl fun g5 iw fC=>?_))
   have Ry:=fC.le E
   have n6:=fC.ne B
   have n7:=fC.ne dz
   replace B:=B.I fC.mod
   replace dz:=dz.I fC.mod
   have gS:=dz.lt
   replace E:=E.then fC.mod
   have Cp:=fC.az
   refine ag (I' zB rfl rfl) ?_
   refine fQ (bF LF rfl) (Lz B (H.own.mod E (fun x ae e=>u1 x ae (by simpa using e))) u1 bf nV bY) rfl (fun cQ aA=>aA) (fun lW n' aA=>?_) fun cO n' aA=>?_
   ·obtain⟨e,he,b3,rfl,R⟩:=aA
    refine aO (by simp) (bx (by simp) (aO (by simp) ?_))
    refine ed ⟨e,?_,b3,rfl,(E.mono (by simp)).trans R⟩
    by_cases wC:cs.length=32
    ·rw [if_pos wC] at he
     rw [nz,if_pos (by omega)]
     cases he;rfl
    rw [if_neg wC] at he;cases he
   obtain⟨_,he,⟨_,gK,B,EW,tY⟩,R⟩:=aA
   have wC:¬ cs.length=32:=fun h=>by rw [if_pos h] at he;cases he
   rw [if_neg (by omega)] at nz
   have fH:cs.length+1≤32:=by omega
   have n8:g5∉g::a1 sk:=fun h=>by
    rcases List.mem_cons.1 h with h | h
    ·exact n6 h.symm
    have:=H.lt g5 (by simp [h]);omega
   have I8:g2∉g::a1 sk:=fun h=>by
    rcases List.mem_cons.1 h with h | h
    ·exact nn h.symm
    have:=H.lt g2 (by simp [h]);omega
   replace dz:=dz.mod R I8
   replace Cp:=Cp.mod R n8
   have alN:=E.size
   have Ja:=fC.az.lt
   have nw:∀ x∈a1 gK,x∈a1 sk∨iw.heap.size≤x:=tY
   replace E:Mod (g::a1 sk) w n':=(E.mono (by simp)).trans R
   have vW:∀ x∈a1 gK,x≠g2:=fun x ae e=>by
    subst e
    rcases tY x ae with h | h
    ·exact I8 (by simp [h])
    omega
   have ahn:∀ x∈a1 gK,x≠g5:=fun x ae e=>by
    subst e
    rcases tY x ae with h | h
    ·exact n8 (by simp [h])
    omega
   have Nv:∀ x∈a1 gK,x≠g:=fun x ae e=>by
    subst e
    rcases tY x ae with h | h
    ·exact u1 x h rfl
    have:=H.rd.lt;have:=fC.at_;omega
   have DX:∀ z∈Z,z∉g::a1 sk:=fun z fY h=>by
    rcases List.mem_cons.1 h with h | h
    ·exact(dk z fY).2.1 h
    exact(dk z fY).2.2 h
   refine J cU (ax fun b7=>ab fun cS=>aG rfl ?_)
   have bp:aj aX s k+1≤s.length:=(List.getElem?_eq_some_iff.1 bj).1
   refine fA (bF oR rfl) (tV _ g s _ gK B bf bp 93) rfl fun cO lY aA=>?_
   obtain⟨rfl,B,R⟩:=aA
   replace dz:=dz.mod R (by simpa using Ne.symm nn)
   replace Cp:=Cp.mod R (by simpa using Ne.symm n6)
   replace EW:=EW.mod R (fun x ae e=>Nv x ae (by simpa using e))
   replace E:=E.trans (R.mono (by simp))
   refine J cS ?_
   refine a7 rfl (fun acV=>?_) (fun acV=>?_)
   ·rw [if_pos acV] at nz B
    refine ab fun de=>aG rfl (fA (bF yb rfl) (Gk B (by simpa using EW) Cp (Ne.symm n6) Nv (by omega)) rfl fun cO iy aA=>?_)
    obtain⟨rfl,⟨alO,B,qE,iV⟩,R⟩:=aA
    replace dz:=dz.mod R (by simpa using Ne.symm nn)
    replace E:=E.trans (R.mono (by simp))
    refine bo (vs:=[_,_,_,_,_,_]) aK dz rfl rfl rfl (by simp [Value.oneCell']) (by simp) fun kr e'=>?_
    have ny:=e'.eq (cs':=[_,_,_,_,_,_]) rfl
    replace B:=B.mod e'.mod (by simpa using nn)
    replace E:=E.own e'.mod u0
    refine aT rfl (J de (aZ (aO (by simp) (bx (by simp) (aO (by simp) ?_)))))
    obtain⟨qL,p2⟩:=H.Lo E B (qE.mod e'.mod (fun x ae e=>vW x (iV▸ae) (by simpa using e))) (fun x ae=>(nw x (iV▸ae)).imp id (fun h=>by have:=fC.at_;omega))
    exact qV (vs:=[_,_,_,_,_,_]) rfl aK rfl rfl (ny.cs rfl) rfl ⟨.inl (JV.cX [],_),nz,⟨_,_,cs,fp,rfl,qL,p2,JV.cv (v:=JV.cX []) (al:=none) (am:=none) (cl:=0) (cm:=0) ba.en ba.en,(zD.of E (fun z fY=>(dk z fY).1) DX)⟩,E⟩
   rw [if_neg (by simpa using acV)] at nz B
   refine ca (aw b7 (ab fun dG=>ag (a' (us:=[]) (cs:=[_,_,_,_,_,_]) gW cB rfl rfl) (bo (vs:=[_,_,_,_,_,_]) aK dz rfl rfl rfl (by simp [Value.oneCell']) (by simp) fun kr e'=>?_)))
   have ny:=e'.eq (cs':=[_,_,_,_,_,_]) rfl
   replace B:=B.mod e'.mod (by simpa using nn)
   replace Cp:=Cp.mod e'.mod (by simpa using Ne.symm n7)
   replace E:=E.own e'.mod u0
   refine aT rfl (J dG (aZ (bx (by simp) (aO (by simp) ?_))))
   obtain⟨qL,p2⟩:=H.push (N:=iw.heap.size) (fm:=.L []) (c:=.iface 163 (.pointer (some ⟨g5,0,none⟩))) (m:=[g5]) E (by have:=fC.at_;omega) (fun x ae=>by rw [List.mem_singleton.1 ae];exact⟨Ry,Ja⟩) B (EW.mod e'.mod (fun x ae e=>vW x ae (by simpa using e))) nw (fun A=>⟨g5,.slice none 0 0,rfl,⟨Cp,⟨[],Own.nil _ _ _,ao.mO⟩,by simp [a1]⟩,rfl⟩)
   exact qV (vs:=[_,_,_,_,_,_]) rfl aK rfl rfl (ny.cs rfl) rfl ⟨.inr (.L [],_),nz,⟨_,_,_,_,rfl,rfl,qL,p2,(zD.of E (fun z fY=>(dk z fY).1) DX)⟩,E⟩
  have aho:¬ c=91:=fun e=>Fv (by rw [e];rfl)
  refine ax fun eC=>bT wide (by kernel_rfl) (f' 2 rfl rfl (ai (fun R=>(av ft rfl)) (ai (fun R=>(bc bs rfl ((B.I R).cell rfl))) (f' 2 rfl rfl (ai (fun R=>(av da rfl)) (ai (fun R=>(bc dE rfl ((B.I R).cell rfl))) (ai (fun R=>(b' Tryz.underlying9 rfl rfl (by omega) (by rw [Int.toNat_natCast];exact bj))) (ai (fun R=>(lT rfl rfl)) (ai (fun R=>(cr rfl)) (bV rfl fun api R=>?_))))))))))
  replace B:=B.I R
  replace dz:=dz.I R
  replace E:=E.then R
  refine aw eC ?_
  refine aI rfl (fun acW=>?_) (fun acW=>?_)
  rotate_left
  ·have acZ:¬ c=123:=fun e=>acW (by rw [e];rfl)
   refine ca (bx (by simp) (aw cb ?_))
   rw [Nu bj ahm aho acZ] at nz
   refine ab fun hn=>aG rfl ?_
   refine fQ (bF XJ rfl) (I2 _ g s (aj aX s k) sk B bf nV (acT.oP dA E) dA) rfl (fun cQ aA=>aA) (fun lW iw aA=>?_) fun cO iw aA=>?_
   ·obtain⟨e,he,b3,rfl,R⟩:=aA
    exact aO (by simp) (ed ⟨e,by rw [nz,he],b3,rfl,(E.trans R).mono (by simp)⟩)
   obtain⟨⟨v,dZ⟩,he,⟨us,rfl,asp,B⟩,R⟩:=aA
   rw [he] at nz
   obtain⟨al,cl,am,cm,rfl,_,_⟩:=JV.bb (asp [] w)
   replace dz:=dz.mod R (by simpa using Ne.symm nn)
   replace E:=E.trans R
   refine bo (vs:=[_,_,_,_,_,_]) aK dz rfl rfl rfl (by simp [Value.oneCell']) (by simp) fun lY ox=>?_
   have ny:=ox.eq (cs':=[_,_,_,_,_,_]) rfl
   replace B:=B.mod ox.mod (by simpa using nn)
   replace E:=E.own ox.mod u0
   exact aT rfl (J hn (aZ (qV (vs:=[_,_,_,_,_,_]) rfl aK rfl rfl (ny.cs rfl) rfl ⟨.inl (v,dZ),nz,⟨_,sk,cs,fp,rfl,H.r5 B E,me.of E,asp _ _,(zD.of E (fun z fY=>(dk z fY).1) (fun z fY=>by simpa using (dk z fY).2.1))⟩,E.mono (by simp)⟩)))
  obtain rfl:c=123:=du (by rw [acW];rfl)
  rw [Nt bj] at nz
  refine ab fun eb=>XL rfl fun b s9 qs alP alQ=>?_
  have alR:w.heap.size≤b:=by have:=E.size;omega
  replace B:=B.I alQ
  replace dz:=dz.I alQ
  replace E:=E.then alQ
  have acX:=DW B qs
  have ahp:=DW dz qs
  refine ag (a' (cs:=[_,_,_]) acR acS rfl rfl) (dP rfl rfl rfl fun g5 iw fC=>?_)
  have Ry:=fC.le E
  have n6:=fC.ne B
  have n7:=fC.ne dz
  replace B:=B.I fC.mod
  replace dz:=dz.I fC.mod
  replace qs:=qs.I fC.mod
  have gS:=dz.lt
  have Bv:=qs.lt
  replace E:=E.then fC.mod
  have Cp:=fC.az
  have ahq:=DW Cp qs
  refine aT rfl (J eb (ab fun fq=>aG rfl (aG rfl (ag (I' zC rfl rfl) ?_))))
  refine fQ (bF LF rfl) (Lz B (H.own.mod E (fun x ae e=>u1 x ae (by simpa using e))) u1 bf nV bY) rfl (fun cQ aA=>aA) (fun lW n' aA=>?_) fun cO n' aA=>?_
  ·obtain⟨e,he,b3,rfl,R⟩:=aA
   refine aO (by simp) (bx (by simp) (aO (by simp) ?_))
   refine ed ⟨e,?_,b3,rfl,(E.mono (by simp)).trans R⟩
   by_cases wC:cs.length=32
   ·rw [if_pos wC] at he
    rw [nz,if_pos (by omega)]
    cases he;rfl
   rw [if_neg wC] at he;cases he
  obtain⟨_,he,⟨_,gK,B,EW,tY⟩,R⟩:=aA
  have wC:¬ cs.length=32:=fun h=>by rw [if_pos h] at he;cases he
  rw [if_neg (by omega)] at nz
  have fH:cs.length+1≤32:=by omega
  have n8:g5∉g::a1 sk:=fun h=>by
   rcases List.mem_cons.1 h with h | h
   ·exact n6 h.symm
   have:=H.lt g5 (by simp [h]);omega
  have ahr:b∉g::a1 sk:=fun h=>by
   rcases List.mem_cons.1 h with h | h
   ·exact acX h.symm
   have:=H.lt b (by simp [h]);omega
  have I8:g2∉g::a1 sk:=fun h=>by
   rcases List.mem_cons.1 h with h | h
   ·exact nn h.symm
   have:=H.lt g2 (by simp [h]);omega
  replace dz:=dz.mod R I8
  replace Cp:=Cp.mod R n8
  replace qs:=qs.mod R ahr
  have alN:=E.size
  have Ja:=fC.az.lt
  have nw:∀ x∈a1 gK,x∈a1 sk∨iw.heap.size≤x:=tY
  replace E:Mod (g::a1 sk) w n':=(E.mono (by simp)).trans R
  have vW:∀ x∈a1 gK,x≠g2:=fun x ae e=>by
   subst e
   rcases tY x ae with h | h
   ·exact I8 (by simp [h])
   omega
  have ahn:∀ x∈a1 gK,x≠g5:=fun x ae e=>by
   subst e
   rcases tY x ae with h | h
   ·exact n8 (by simp [h])
   omega
  have Nl:∀ x∈a1 gK,x≠b:=fun x ae e=>by
   subst e
   rcases tY x ae with h | h
   ·exact ahr (by simp [h])
   omega
  have Nv:∀ x∈a1 gK,x≠g:=fun x ae e=>by
   subst e
   rcases tY x ae with h | h
   ·exact u1 x h rfl
   have:=H.rd.lt;have:=fC.at_;omega
  have DX:∀ z∈Z,z∉g::a1 sk:=fun z fY h=>by
   rcases List.mem_cons.1 h with h | h
   ·exact(dk z fY).2.1 h
   exact(dk z fY).2.2 h
  refine J fq (ax fun fE=>ab fun fa=>aG rfl ?_)
  have bp:aj aX s k+1≤s.length:=(List.getElem?_eq_some_iff.1 bj).1
  refine fA (bF oR rfl) (tV _ g s _ gK B bf bp 125) rfl fun cO lY aA=>?_
  obtain⟨rfl,B,R⟩:=aA
  replace dz:=dz.mod R (by simpa using Ne.symm nn)
  replace Cp:=Cp.mod R (by simpa using Ne.symm n6)
  replace qs:=qs.mod R (by simpa using Ne.symm acX)
  replace EW:=EW.mod R (fun x ae e=>Nv x ae (by simpa using e))
  replace E:=E.trans (R.mono (by simp))
  refine J fa ?_
  refine a7 rfl (fun acY=>?_) (fun acY=>?_)
  ·rw [if_pos acY] at nz B
   refine nm fun alS fL=>bQ (aG rfl (fA (bF yb rfl) (Gm (A:=[]) (wr:=w) (acc:=[]) (vs:=[]) B (by simpa using EW) Cp (Own.nil _ _ _) ao.mO List.nodup_nil (Ne.symm n6) Nv (by simp [a1]) (by simp [a1]) (by omega) (by simp)) rfl fun cO iy aA=>?_))
   obtain⟨rfl,⟨alO,B,qE,iV⟩,R,_,_⟩:=aA
   replace R:Mod [g] lY iy:=R
   replace dz:=dz.mod R (by simpa using Ne.symm nn)
   replace E:=E.trans (R.mono (by simp))
   refine bo (vs:=[_,_,_,_,_,_]) aK dz rfl rfl rfl (by simp [Value.oneCell']) (by simp) fun kr e'=>?_
   have ny:=e'.eq (cs':=[_,_,_,_,_,_]) rfl
   replace B:=B.mod e'.mod (by simpa using nn)
   replace E:=E.own e'.mod u0
   refine aT rfl (J fL (aZ (aO (by simp) (bx (by simp) (aO (by simp) ?_)))))
   obtain⟨qL,p2⟩:=H.Lo E B (qE.mod e'.mod (fun x ae e=>vW x (iV▸ae) (by simpa using e))) (fun x ae=>(nw x (iV▸ae)).imp id (fun h=>by have:=fC.at_;omega))
   exact qV (vs:=[_,_,_,_,_,_]) rfl aK rfl rfl (ny.cs rfl) rfl ⟨.inl (JV.obj [],_),nz,⟨_,_,cs,fp,rfl,qL,p2,JV.cv (v:=JV.obj []) (al:=none) (am:=none) (cl:=0) (cm:=0) ba.en ba.en,(zD.of E (fun z fY=>(dk z fY).1) DX)⟩,E⟩
  rw [if_neg (by simpa using acY)] at nz B
  refine ca (aw fE (nm fun alS fL=>bQ (aG rfl (aG rfl ?_))))
  refine fQ (bF LG rfl) (LB (K:=[]) (m:=[]) B Cp qs (Ne.symm n6) acX ahq (fun t=>by simp [look]) bf (cy bp) (acT.mod E (fun x ae=>by
   rcases List.mem_cons.1 ae with rfl | ae
   ·exact dA
   exact alK x ae)) dA) rfl (fun cQ aA=>aA) (fun lW iy aA=>?_) fun cO iy aA=>?_
  ·obtain⟨e,he,b3,rfl,R⟩:=aA
   refine aO (by simp) (bx (by simp) (aO (by simp) ?_))
   refine ed ⟨e,by rw [nz,he],b3,rfl,E.trans' R (fun x ae=>?_)⟩
   simp only [List.mem_cons,List.not_mem_nil,or_false] at ae
   rcases ae with rfl | rfl | rfl
   ·exact .inl (by simp)
   ·exact .inr Ry
   exact .inr alR
  obtain⟨⟨t,j9⟩,he,⟨rfl,B,Cp,qs,_⟩,R⟩:=aA
  rw [he] at nz
  have Rz:∀ {x:Nat},x≠g→x≠g5→x≠b→x∉[g,g5,b]:=fun h1 aq aU=>by simp [h1,aq,aU]
  replace dz:=dz.mod R (Rz (Ne.symm nn) n7 ahp)
  replace EW:=EW.mod R (fun x ae=>Rz (Nv x ae) (ahn x ae) (Nl x ae))
  replace E:=E.trans' R (fun x ae=>by
   simp only [List.mem_cons,List.not_mem_nil,or_false] at ae
   rcases ae with rfl | rfl | rfl
   ·exact .inl (by simp)
   ·exact .inr Ry
   exact .inr alR)
  refine J fL (ab fun gX=>ag (a' (us:=[]) (cs:=[_,_,_,_,_,_]) gW cB rfl rfl) (bo (vs:=[_,_,_,_,_,_]) aK dz rfl rfl rfl (by simp [Value.oneCell']) (by simp) fun kr e'=>?_))
  have ny:=e'.eq (cs':=[_,_,_,_,_,_]) rfl
  replace B:=B.mod e'.mod (by simpa using nn)
  replace Cp:=Cp.mod e'.mod (by simpa using Ne.symm n7)
  replace qs:=qs.mod e'.mod (by simpa using Ne.symm ahp)
  replace E:=E.own e'.mod u0
  refine aT rfl (J gX (aZ (bx (by simp) (aO (by simp) ?_))))
  obtain⟨qL,p2⟩:=H.push (N:=iw.heap.size) (fm:=.M [] t) (c:=.iface 129 (.pointer (some ⟨g5,0,none⟩))) (m:=[g5,b]) E (by have:=fC.at_;omega) (fun x ae=>by
   simp only [List.mem_cons,List.not_mem_nil,or_false] at ae
   rcases ae with rfl | rfl
   ·exact⟨Ry,Ja⟩
   exact⟨alR,Bv⟩) B (EW.mod e'.mod (fun x ae e=>vW x ae (by simpa using e))) nw (fun A=>⟨g5,b,.slice none 0 0,rfl,⟨Cp,qs,⟨[],Own.nil _ _ _,ao.mO⟩,ahq,by simp [a1],by simp [a1]⟩,rfl⟩)
  exact qV (vs:=[_,_,_,_,_,_]) rfl aK rfl rfl (ny.cs rfl) rfl ⟨.inr (.M [] t,j9),nz,⟨_,_,_,_,rfl,rfl,qL,p2,(zD.of E (fun z fY=>(dk z fY).1) DX)⟩,E⟩
theorem xp (p:UInt8→Bool) (s:aa):∀ (n k:Nat),s.length-k≤n→aj p s (aj p s k)=aj p s k
 | 0,k,h=>by
  have e:aj p s k=k:=k2 (by omega)
  rw [e,e]
 | n+1,k,h=>by
  rcases Nat.lt_or_ge k s.length with hk | hk
  ·obtain⟨c,bj⟩:∃ c,s[k]? = some c:=⟨_,List.getElem?_eq_getElem hk⟩
   cases cp:p c with
   | true=>rw [← wc bj cp];exact xp p s n (k+1) (by omega)
   | false=>
    have e:=lq bj cp
    rw [e,e]
  have e:aj p s k=k:=k2 hk
  rw [e,e]
theorem oh {p:UInt8→Bool} {s:aa} {k:Nat}:aj p s (aj p s k)=aj p s k:=xp p s _ k (Nat.le_refl _)
def lV.sz:lV→Nat
 | .L acc=>acc.length
 | .M acc _=>acc.length
 | .A acc _=>acc.length
section
variable {s:aa} {k:Nat} {st:List lV} {r:Bs}
theorem RP {e:Int} (h:hV s none k st r) (aS:mX s k st.length = .error e):r = .error e:=by
 cases h with
 | err h1=>rw [aS] at h1;injection h1 with h1;rw [h1]
 | whole h1 _=>rw [aS] at h1;cases h1
 | push h1 _=>rw [aS] at h1;cases h1
theorem Jd {v:JV} {dZ:Nat} (h:hV s none k st r) (aS:mX s k st.length = .ok (.inl (v,dZ))):hV s (some v) dZ st r:=by
 cases h with
 | err h1=>rw [aS] at h1;cases h1
 | whole h1 aq=>rw [aS] at h1;cases h1;exact aq
 | push h1 _=>rw [aS] at h1;cases h1
theorem NB {x:lV} {dZ:Nat} (h:hV s none k st r) (aS:mX s k st.length = .ok (.inr (x,dZ))):hV s none dZ (x::st) r:=by
 cases h with
 | err h1=>rw [aS] at h1;cases h1
 | whole h1 aq=>rw [aS] at h1;cases h1
 | push h1 aq=>rw [aS] at h1;cases h1;exact aq
theorem ND {v:JV} (h:hV s (some v) k [] r):r = .ok (v,k):=by cases h;rfl
theorem NF {v:JV} {acc:List JV} (h:hV s (some v) k (.L acc::st) r) (h1:aC s (aj aX s k) [93]=true):hV s (some (JV.cX (acc ++ [v]))) (aj aX s k+1) st r:=by
 cases h with
 | Lh _ aU=>exact aU
 | zc aq _ _=>rw [h1] at aq;cases aq
 | Li aq _=>rw [h1] at aq;cases aq
theorem Jf {v:JV} {acc:List JV} (h:hV s (some v) k (.L acc::st) r) (h1:aC s (aj aX s k) [93]=false) (aq:aC s (aj aX s k) [44]=true):hV s none (aj aX s k+1) (.L (acc ++ [v])::st) r:=by
 cases h with
 | Lh aU _=>rw [h1] at aU;cases aU
 | zc _ _ aU=>exact aU
 | Li _ aU=>rw [aq] at aU;cases aU
theorem NG {v:JV} {acc:List JV} (h:hV s (some v) k (.L acc::st) r) (h1:aC s (aj aX s k) [93]=false) (aq:aC s (aj aX s k) [44]=false):r = .error 4:=by
 cases h with
 | Lh aU _=>rw [h1] at aU;cases aU
 | zc _ aU _=>rw [aq] at aU;cases aU
 | Li _ aU=>rfl
theorem NH {v:JV} {acc:List (aa×JV)} {t:aa} (h:hV s (some v) k (.M acc t::st) r) (h1:aC s (aj aX s k) [125]=true):hV s (some (JV.obj (ek (acc ++ [(t,v)])))) (aj aX s k+1) st r:=by
 cases h with
 | F1 _ aU=>exact aU
 | we aq _ _ _=>rw [h1] at aq;cases aq
 | F2 aq _ _=>rw [h1] at aq;cases aq
 | F3 aq _=>rw [h1] at aq;cases aq
theorem Jg {v:JV} {acc:List (aa×JV)} {t t':aa} {iC:Nat} (h:hV s (some v) k (.M acc t::st) r) (h1:aC s (aj aX s k) [125]=false) (aq:aC s (aj aX s k) [44]=true) (aU:jY s (aj aX s k+1) (ek (acc ++ [(t,v)])) = .ok (t',iC)):hV s none iC (.M (acc ++ [(t,v)]) t'::st) r:=by
 cases h with
 | F1 bM _=>rw [h1] at bM;cases bM
 | we _ _ bM cL=>rw [aU] at bM;cases bM;exact cL
 | F2 _ _ bM=>rw [aU] at bM;cases bM
 | F3 _ bM=>rw [aq] at bM;cases bM
theorem NJ {v:JV} {acc:List (aa×JV)} {t:aa} {e:Int} (h:hV s (some v) k (.M acc t::st) r) (h1:aC s (aj aX s k) [125]=false) (aq:aC s (aj aX s k) [44]=true) (aU:jY s (aj aX s k+1) (ek (acc ++ [(t,v)])) = .error e):r = .error e:=by
 cases h with
 | F1 bM _=>rw [h1] at bM;cases bM
 | we _ _ bM cL=>rw [aU] at bM;cases bM
 | F2 _ _ bM=>rw [aU] at bM;injection bM with bM;rw [bM]
 | F3 _ bM=>rw [aq] at bM;cases bM
theorem NI {v:JV} {acc:List (aa×JV)} {t:aa} (h:hV s (some v) k (.M acc t::st) r) (h1:aC s (aj aX s k) [125]=false) (aq:aC s (aj aX s k) [44]=false):r = .error 4:=by
 cases h with
 | F1 bM _=>rw [h1] at bM;cases bM
 | we _ bM _ _=>rw [aq] at bM;cases bM
 | F2 _ bM _=>rw [aq] at bM;cases bM
 | F3 _ bM=>rfl
theorem ac4 {v:JV} {acc:List (aa×JV)} {t:aa} (h:hV s (some v) k (.A acc t::st) r):False:=by cases h
end
theorem Gt {s:aa} {k q:Nat} {v:JV} (h:ht s k=some (v,q)):k<q∧q≤s.length:=by
 unfold ht at h
 split at h
 ·rename_i h1;have:=c6 h1 (by decide);cases h;simp [JV.jV] at this;omega
 split at h
 ·rename_i h1;have:=c6 h1 (by decide);cases h;simp [JV.iT] at this;omega
 split at h
 ·rename_i h1;have:=c6 h1 (by decide);cases h;simp [JV.gF] at this;omega
 cases h
theorem RS {s:aa} {k n dZ:Nat} {v:JV} (h:mX s k n = .ok (.inl (v,dZ))) (hk:k≤s.length):k<dZ∧dZ≤s.length:=by
 have dA:=cd aX s k;have cg:=cy (p:=aX) hk;cases hw:ht s (aj aX s k)with
 | some x=>
  rw [wA hw] at h;cases h;have:=Gt hw;omega
 | none=>
  rw [wB hw] at h;unfold pD at h
  split at h
  ·cases cf:fc s (aj aX s k)with
   | none=>rw [cf] at h;cases h
   | some x=>
    rw [cf] at h;cases h;have:=py cf;omega
  split at h
  rotate_left
  ·cases ae:iM s (aj aX s k)with
   | error e=>rw [ae] at h;cases h
   | ok x=>
    rw [ae] at h;cases h;have:=xh ae cg;omega
  split at h
  ·cases h
  rename_i aU bM
  have cL:aj aX s k<s.length:=by
   rcases Nat.lt_or_ge (aj aX s k) s.length with eW | eW
   ·exact eW
   rw [bZ eW (by simp),bZ eW (by simp)] at aU;cases aU
  have kz:=cd aX s (aj aX s k+1)
  dsimp only at h
  split at h
  ·split at h
   ·rename_i kq
    have:=c6 kq (by simp);cases h;simp at this;omega
   cases h
  split at h
  ·rename_i kq
   have:=c6 kq (by simp);cases h;simp at this;omega
  cases ae:jY s (aj aX s (aj aX s k+1)) [] with
  | error e=>rw [ae] at h;cases h
  | ok x=>rw [ae] at h;cases h
theorem RT {s:aa} {k n dZ:Nat} {fm:lV} (h:mX s k n = .ok (.inr (fm,dZ))) (hk:k≤s.length):k<dZ∧dZ≤s.length∧n≠32∧fm.sz=0:=by
 have dA:=cd aX s k;cases hw:ht s (aj aX s k)with
 | some x=>rw [wA hw] at h;cases h
 | none=>
  rw [wB hw] at h;unfold pD at h
  split at h
  ·cases cf:fc s (aj aX s k)with
   | none=>rw [cf] at h;cases h
   | some x=>rw [cf] at h;cases h
  split at h
  rotate_left
  ·cases ae:iM s (aj aX s k)with
   | error e=>rw [ae] at h;cases h
   | ok x=>rw [ae] at h;cases h
  split at h
  ·cases h
  rename_i aU bM
  have cL:aj aX s k<s.length:=by
   rcases Nat.lt_or_ge (aj aX s k) s.length with eW | eW
   ·exact eW
   rw [bZ eW (by simp),bZ eW (by simp)] at aU;cases aU
  have kz:=cd aX s (aj aX s k+1);have k0:=cy (p:=aX) (show aj aX s k+1≤s.length by omega)
  dsimp only at h
  split at h
  ·split at h
   ·cases h
   cases h;exact⟨by omega,k0,bM,rfl⟩
  split at h
  ·cases h
  cases ae:jY s (aj aX s (aj aX s k+1)) [] with
  | error e=>rw [ae] at h;cases h
  | ok x=>
   rw [ae] at h;cases h;have:=pz ae;exact⟨by omega,by omega,bM,rfl⟩
theorem xN.ahF {Z apc A:List Nat} {w:World} {fm:lV} {c:Value} {m:List Nat} (h:xN (nx Z) A w fm c m):xN (nx apc) A w fm c m:=by
 cases fm with
 | L acc=>obtain⟨g,ew,h1,aq,aU⟩:=h;exact⟨g,ew,h1,⟨aq.az,aq.own,aq.Vn⟩,aU⟩
 | M acc t=>obtain⟨g,b,ew,h1,aq,aU⟩:=h;exact⟨g,b,ew,h1,⟨aq.az,aq.map,aq.own,aq.agX,aq.Vn,aq.agY⟩,aU⟩
 | A acc t=>obtain⟨g,b,ew,h1,aq,aU⟩:=h;exact⟨g,b,ew,h1,⟨aq.az,aq.map,aq.own,aq.agX,aq.Vn,aq.agY⟩,aU⟩
/-- a new block becomes private -/
theorem np.ahw {Z:List Nat} {w0 w w':World} {g k z:Nat} {s:aa} {st:List lV} {sk:Value} {cs:List Value} {fp:List Nat} (H:np (nx Z) w0 w g s k st sk cs fp) (hm:Mod [] w w') (dk:w.heap.size≤z) (fY:z<w'.heap.size) :
  ∃ h8,np (nx (z::Z)) w0 w' g s k st sk cs h8∧(∀ x∈h8,x∈fp∨x=z):=by
 have bJ:=H.lt
 have key:∀ {A:List Nat} {st:List lV} {cs:List Value} {f:List Nat},oL (nx Z) A w st cs f→(∀ x∈f,x<w.heap.size)→∀ A',(∀ x∈A',x∈A∨w.heap.size≤x)→∃ Gu,oL (nx (z::Z)) A' w' st cs Gu∧∀ x,x∈Gu↔(x∈f∨x=z):=by
  intro A st
  induction st with
  | nil=>
   intro cs f h dI A' dF
   obtain⟨h1,aq,aU⟩:=h
   refine⟨z::Z,⟨h1,rfl,fun x ae=>?_⟩,fun x=>?_⟩
   ·rcases List.mem_cons.1 ae with rfl | ae
    ·exact fY
    exact Nat.lt_of_lt_of_le (aU x ae) hm.size
   rw [aq]
   simp only [List.mem_cons]
   exact Or.comm
  | cons fm st dK=>
   intro cs f h dI A' dF
   obtain⟨c,cs',m,f2,rfl,rfl,h1,aq,aU⟩:=h
   obtain⟨Gu,bM,cL⟩:=dK aq (fun x ae=>dI x (by simp [ae])) A' dF
   refine⟨m++Gu,⟨c,cs',m,Gu,rfl,rfl,(h1.to hm (by simp) (by simp) dF).ahF,bM,fun x ae h=>?_⟩,fun x=>?_⟩
   ·rcases(cL x).1 h with h | h
    ·exact aU x ae h
    have:=dI x (by simp [ae]);omega
   simp only [List.mem_append,cL]
   exact or_assoc.symm
 have agJ:∀ Gu,(∀ x,x∈Gu↔(x∈fp∨x=z))→∀ x∈g::(a1 sk++Gu),x∈g::(a1 sk++fp)∨w.heap.size≤x:=fun Gu cL x ae=>by
  simp only [List.mem_cons,List.mem_append,cL] at ae ⊢
  rcases ae with ae | ae | ae | ae
  ·exact .inl (.inl ae)
  ·exact .inl (.inr (.inl ae))
  ·exact .inl (.inr (.inr ae))
  exact .inr (by omega)
 obtain⟨Gu,bM,cL⟩:=key H.s5 (fun x ae=>bJ x (by simp [ae])) (g::(a1 sk++fp) ++ [z]) (fun x ae=>by
  simp only [List.mem_append,List.mem_singleton] at ae
  rcases ae with ae | ae
  ·exact .inl ae
  exact .inr (by omega))
 refine⟨Gu,⟨H.rd.I hm,H.own.I hm,bM.to (Mod.refl [] _) (by simp) (fun x ae=>?_) (by simp),fun h=>?_,fun x ae h=>?_,fun x ae=>?_,H.mod.then hm⟩,fun x ae=>(cL x).1 ae⟩
 ·simp only [List.mem_cons,List.mem_append,cL,List.not_mem_nil,or_false] at ae ⊢
  rcases ae with ae | ae | ae | ae
  ·exact .inl (.inl (.inl ae))
  ·exact .inl (.inl (.inr (.inl ae)))
  ·exact .inl (.inl (.inr (.inr ae)))
  exact .inl (.inr ae)
 ·rcases List.mem_append.1 h with h | h
  ·exact H.s6 (by simp [h])
  rcases(cL g).1 h with h | h
  ·exact H.s6 (by simp [h])
  have:=H.rd.lt;omega
 ·rcases(cL x).1 h with h | h
  ·exact H.xk x ae h
  have:=bJ x (by simp [ae]);omega
 rcases List.mem_append.1 ae with ae | ae
 ·exact H.te x (by simp [ae])
 rcases(cL x).1 ae with h | h
 ·exact H.te x (by simp [h])
 have:=H.mod.size;omega
end Go.Proofs.YtnihidkbkhcfoaaGreatDoor.V
