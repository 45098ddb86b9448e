/-
  A part of the proof: names of servers, users, rooms and keys in plain Lean: the runes of a text of one kind, and its bytes; library functions that reading uses: the shelf's contracts, in the words of the own base; several plain operations taken in one computed step; truths made literal. No condition of its own.
-/
import Derived.Test.YtnihidkbkhcfoaaGreatDoorM2
import Derived.Lib.IndexMore
import Derived.Lib.Strings
import Derived.Laws.Runes
import Derived.Scope
import Derived.Test.YtnihidkbkhcfoaaGreatDoorM1
import Derived.Shelf.Small.Wraps
import Derived.Shelf.Strings.Search1
import Derived.Shelf.Strings.Search2
import Derived.Shelf.Strings.Cut
import Derived.Shelf.Strings.Shaped
import Derived.Shelf.Strings.Runes
import Derived.Test.YtnihidkbkhcfoaaGreatDoorProg
import Derived.Lib.AtoiAll
import Derived.Shelf.Strings.SlTrimAscii
import Derived.Shelf.Strings.Trim
import Derived.Shelf.Small.Utf8
import Derived.Shelf.Small.Bits
import Derived.Shelf.Small.Strs
import Derived.Shelf.Utf8.AppendRune
import Derived.Shelf.Strconv.Atoi
import Derived.Shelf.Strconv.Itoa0
import Derived.Shelf.Strconv.Itoa1
import Derived.Shelf.LaysM
import Derived.Shelf.Strconv.Itoa2
import Derived.Shelf.Strconv.Itoa3
import Derived.Shelf.Strconv.AtoiErrFast
import Derived.Shelf.Strconv.ParseIntEmpty
import Derived.Shelf.Strconv.AtoiFail
import Derived.Shelf.Strconv.Clone
import Derived.Shelf.Strconv.SyntaxError
import Derived.Shelf.LaysC
import Derived.Shelf.Strconv.ToError
import Derived.Shelf.Strconv.Lower
import Derived.Shelf.Strconv.ParseUint10
import Derived.Shelf.Strconv.ParseUint10Empty
import Derived.Shelf.Strconv.ParseUint10Any
import Derived.Shelf.Strconv.ParseInt10
import Derived.Shelf.Strconv.AtoiLong
import Derived.Shelf.Strconv.AtoiInnerAll
import Derived.Shelf.Strconv.RangeError
import Derived.Shelf.Strconv.ToErrorRange
import Derived.Shelf.Strconv.AtoiAll
import Derived.Shelf.Strconv.ErrVarAll
import Derived.Shelf.Strings.Prefix
import Derived.Shelf.Strings.AsciiSet
import Derived.Shelf.Unicode.DecodeSlow
import Derived.Shelf.Unicode.DecodeAny
import Derived.Ground.Names2Prog
import Derived.Shelf.Slices.Clone
set_option linter.unusedVariables false
set_option linter.unusedSimpArgs false
namespace Go.Proofs.YtnihidkbkhcfoaaGreatDoor.V
open Go
theorem Zz {s:aa} {p:Nat} {b:UInt8} (h:s[p]? = some b):gR (s.drop p) 0=b.toNat:=by
 unfold gR;rw [List.getD_eq_getElem?_getD,List.getElem?_drop,Nat.add_zero,h];rfl
theorem dec_lt {s:aa} {p:Nat} {b:UInt8} (h:s[p]? = some b) (aQ:b.toNat<128):Utf8.decode ⟨⟨s⟩⟩ p=(b.toNat,1):=by
 rw [oX];unfold nd;rw [Zz h,if_pos (by omega)]
theorem Lu {s:aa} {p:Nat} {b:UInt8} (h:s[p]? = some b) (aQ:128≤b.toNat):∃ c m,Utf8.decode ⟨⟨s⟩⟩ p=(c,m)∧128≤c∧c≤1114111∧¬ (55296≤c∧c≤57343):=by
 have bH:=(List.getElem?_eq_some_iff.1 h).1;rw [oX];rcases pJ (h' bH)with⟨_,aq⟩ | ⟨h1,aq,aT,bL,cN,eU⟩
 ·exact⟨65533,1,aq,by omega,by omega,by omega⟩
 refine⟨_,_,aq,?_,bL,cN⟩;rcases Nat.lt_or_ge (aI (s.drop p)).1 128 with bh | bh
 ·exfalso;unfold fe at aT;rw [if_pos bh] at aT;have cg:s.drop p=b::s.drop (p+1):=by
   rw [List.drop_eq_getElem_cons bH]
   congr 1
   exact(List.getElem?_eq_some_iff.1 h).2
  rw [cg] at aT h1;cases hm:(aI (b::s.drop (p+1))).2 with
  | zero=>exact h1 hm
  | succ m=>
   rw [hm,List.take_succ_cons] at aT;simp only [List.map_cons,List.cons.injEq] at aT;rw [cg] at bh;omega
 exact bh
def gn (q:Nat→Bool) (s:aa):Bool:=decide (s≠[])&&s.all (fun b=>q b.toNat)
theorem all_succ {q:Nat→Bool} {s:aa} {p:Nat} {b:UInt8} (h:s[p]? = some b) (ay:(s.take p).all (fun b=>q b.toNat)=true) (aQ:q b.toNat=true):(s.take (p+1)).all (fun b=>q b.toNat)=true:=by
 have bH:=(List.getElem?_eq_some_iff.1 h).1;rw [List.take_succ_eq_append_getElem bH,(List.getElem?_eq_some_iff.1 h).2,List.all_append,ay];simp [aQ]
theorem Al {q:Nat→Bool} {s:aa} {p:Nat} {b:UInt8} (h:s[p]? = some b) (aQ:q b.toNat=false):gn q s=false:=by
 unfold gn;have:s.all (fun b=>q b.toNat)=false:=by
  rw [List.all_eq_false];exact⟨b,List.mem_of_getElem? h,by simp [aQ]⟩
 rw [this,Bool.and_false]
theorem CC {q:Nat→Bool} {s:aa} {p:Nat} (cn:s.length≤p) (ay:(s.take p).all (fun b=>q b.toNat)=true):gn q s=decide (s≠[]):=by
 unfold gn;rw [List.take_of_length_le cn] at ay;rw [ay,Bool.and_true]
theorem Hn {q r:Nat→Bool} (h:∀ b:UInt8,q b.toNat=r b.toNat) (s:aa):gn q s=gn r s:=by
 unfold gn
 congr 1
 induction s with
 | nil=>rfl
 | cons b s dF=>simp only [List.all_cons,dF,h b]
def wR (c:Nat):Bool:=decide (97≤(c:Int))&&decide ((c:Int)≤122)
def Bp (c:Nat):Bool:=decide (65≤(c:Int))&&decide ((c:Int)≤90)
def sO (c:Nat):Bool:=decide (48≤(c:Int))&&decide ((c:Int)≤57)
abbrev q1:aa:=[46,95,61,45,47,43]
def g' (c:Nat):Bool:=wR c||sO c||decide ((c:Int)=46)||decide ((c:Int)=45)
def iZ (c:Nat):Bool:=wR c||sO c||q1.any (fun b=>decide (b.toNat=c))
def h0 (c:Nat):Bool:=wR c||Bp c||sO c||decide ((c:Int)=95)||decide ((c:Int)=45)
def nH (c:Nat):Bool:=wR c||Bp c||sO c||decide ((c:Int)=95)
theorem Hi (c:Nat) (h:g' c=true):c<128:=by
 simp only [g',wR,sO,Bool.or_eq_true,Bool.and_eq_true,decide_eq_true_eq] at h;omega
theorem aei (c:Nat) (h:sO c=true):c<128:=by
 simp only [sO,Bool.and_eq_true,decide_eq_true_eq] at h;omega
theorem NY (c:Nat) (h:iZ c=true):c<128:=by
 simp [iZ,wR,sO] at h;omega
theorem NZ (c:Nat) (h:h0 c=true):c<128:=by
 simp only [h0,wR,Bp,sO,Bool.or_eq_true,Bool.and_eq_true,decide_eq_true_eq] at h;omega
theorem Tk (c:Nat) (h:nH c=true):c<128:=by
 simp only [nH,wR,Bp,sO,Bool.or_eq_true,Bool.and_eq_true,decide_eq_true_eq] at h;omega
/-! ### the first colon -/
def aH (s:aa):Nat:=s.findIdx (fun b=>b == 58)
theorem jk (s:aa):aH s≤s.length:=List.findIdx_le_length
theorem Et (s:aa):Lib.index s [58]=if aH s<s.length then (aH s:Int)else -1:=by
 induction s with
 | nil=>rfl
 | cons b s dF=>
  unfold Lib.index;rw [dF];have cn:([58]:aa).isPrefixOf (b::s)=(b == 58):=by
   simp only [List.isPrefixOf,Bool.and_true];rw [Bool.eq_iff_iff];simp only [beq_iff_eq];exact⟨Eq.symm,Eq.symm⟩
  rw [cn];have cg:=jk s;cases aQ:b == 58 with
  | true=>simp [aH,List.findIdx_cons,aQ]
  | false=>
   have:aH (b::s)=aH s+1:=by simp [aH,List.findIdx_cons,aQ]
   rw [this]
   by_cases h:aH s<s.length
   ·have bk:((aH s:Int) == -1)=false:=by rw [beq_eq_false_iff_ne];omega
    have bZ:aH s+1<(b::s).length:=by simp only [List.length_cons];omega
    simp only [if_pos h,bk,if_pos bZ,Bool.false_eq_true,if_false];omega
   have bZ:¬ aH s+1<(b::s).length:=by simp only [List.length_cons];omega
   simp only [if_neg h,if_neg bZ,Bool.false_eq_true,if_false];rfl
theorem JO (s:aa):Lib.cut s [58]=if aH s<s.length then (s.take (aH s),s.drop (aH s+1),true)else (s,[],false):=by
 unfold Lib.cut;rw [Et]
 by_cases h:aH s<s.length
 ·rw [if_pos h,if_pos h,if_pos (by omega)];simp
 rw [if_neg h,if_neg h,if_neg (by omega)]
def dw (s:aa):Bool:=
 gn g' (s.take (aH s))&&decide (s.length≤255)&&(decide (aH s=s.length)||(decide (s.length-aH s≤6)&&gn sO (s.drop (aH s+1))))
def fr (sign:UInt8) (q:Nat→Bool) (s:aa):Bool:=
 decide (s.length≤255)&&decide (aH s<s.length)&&decide (s.head? = some sign)&&gn q ((s.take (aH s)).drop 1)&&dw (s.drop (aH s+1))
abbrev Bq:aa:=[101,100,50,53,53,49,57,58]
def nI (s:aa):Bool:=decide (s.length≤255)&&decide (s.take 8=Bq)&&gn nH (s.drop 8)
/-! ### control: a scope that is not jumped about in -/
section
variable {P:Program} {Q:Exit→Act→World→Prop} {n:Nat} {ds:List Deferred} {l:List (Nat×Value)} {w:World}
theorem Hd {c:Code} (h:pW P c (Exit.noGoto Q) n ds l w):pW P (.scope c) Q n ds l w:=fun a ay=>wp_scope_straight (h a ay)
theorem He {e:Exit} (he:∀ j,e≠.goto j) (h:fB Q e n ds l w):fB (Exit.noGoto Q) e n ds l w:=fun a ay=>by
 have:=h a ay;cases e <;> first | exact this | exact absurd rfl (he _)
variable {t t':TypeId} {ty:TypeId} {pos:String} {af:Array Edge} {dd:Option Nat} {gg:Option (Nat×Bool)} {x y:Operand} {ops:Array Oper} {rest:List Oper} {d:Nat}
theorem aeh {d0:TypeDesc} {c:Nat} {k:IntKind} (bb:P.underlying t=some d0) (cc:P.underlying t'=some .string) (ae:a6 l x=some (.int k (c:Int))):bF P l ⟨dd,.convert t t' x,ty,pos,af,gg⟩ w (.string (Utf8.encode c)) w:=fun ρ h=>by
 have h1:=run_convert_int_string (P:=P) w t t' k (c:Int) (by rw [bb];rfl) cc;simp only [execOp,h _ _ ae,Sem.run_bind,h1,Result.andThen,Sem.run_pure]
end
theorem NX {c:Nat} (h1:c≤1114111) (aq:¬ (55296≤c∧c≤57343)) (h:128≤c):∃ rs:aa,Utf8.encode (c:Int)=⟨⟨rs⟩⟩∧2≤rs.length∧rs.length≤4∧∃ b,rs[rs.length-1]? = some b∧128≤b.toNat:=by
 obtain⟨f1,f2,f3⟩:=encode_facts (c:Int) (by rw [ua];simp;omega) (by omega);generalize Utf8.encode (c:Int)=e at f1 f2 f3 ⊢;obtain⟨⟨rs⟩⟩:=e;have bb:(⟨⟨rs⟩⟩:ByteArray).size=rs.length:=rfl;rw [bb] at f1 f2;have cg:rs.length-1<rs.length:=by omega
 exact⟨rs,rfl,f1,f2,rs[rs.length-1],List.getElem?_eq_getElem cg,f3 cg⟩
theorem indexByte_none {s:aa} {b:UInt8} (h:∀ x∈s,x.toNat<128) (aQ:128≤b.toNat):Lib.indexByte s b = -1:=by
 induction s with
 | nil=>rfl
 | cons c s dF=>
  have bh:=h c (by simp);have bY:(c == b)=false:=by
   rw [beq_eq_false_iff_ne];intro e;subst e;omega
  unfold Lib.indexByte;rw [bY,dF fun x ae=>h x (by simp [ae])];rfl
theorem yU (s:aa) (c:Nat) (bh:c<128):decide (0≤Lib.indexByte s c.toUInt8)=s.any (fun b=>decide (b.toNat=c)):=by
 induction s with
 | nil=>rfl
 | cons b s dF=>
  unfold Lib.indexByte;rw [List.any_cons,← dF];have he:(b == c.toUInt8)=decide (b.toNat=c):=by
   rw [Bool.eq_iff_iff];simp only [beq_iff_eq,decide_eq_true_eq];have cj:c.toUInt8.toNat=c:=by
    show(UInt8.ofNat c).toNat=c;exact UInt8.toNat_ofNat_of_lt' (by have:c<256:=(by omega);exact this)
   constructor
   ·intro e;rw [e,cj]
   intro e;exact UInt8.toNat_inj.1 (by rw [cj,e])
  rw [he];have bl:Lib.indexByte s c.toUInt8 = -1∨0≤Lib.indexByte s c.toUInt8:=by
   clear dF he
   induction s with
   | nil=>exact .inl rfl
   | cons x s dF=>
    unfold Lib.indexByte
    split
    ·exact .inr (by omega)
    split
    ·exact .inl rfl
    rename_i h
    rcases dF with h1 | h1
    ·rw [h1] at h;simp at h
    exact .inr (by omega)
  by_cases aQ:b.toNat=c
  ·simp [aQ]
  simp only [aQ,decide_false,Bool.false_eq_true,if_false,Bool.false_or];rcases bl with h | h
  ·rw [h];rfl
  have bk:(Lib.indexByte s c.toUInt8 == -1)=false:=by rw [beq_eq_false_iff_ne];omega
  rw [bk,decide_eq_true h];simp only [Bool.false_eq_true,if_false];exact decide_eq_true (by omega)
end Go.Proofs.YtnihidkbkhcfoaaGreatDoor.V
namespace Go.Proofs
open Go.Shelf
def Tryz.De:Go.Shelf.Ren:=⟨fun | 137=>111 | 217=>151 | 266=>184 | n=>n,fun | 9=>9 | 5=>5 | 3=>3 | n=>n,fun | n=>n⟩
theorem Tryz.Pz:Go.Proofs.Lays.n137 Tryz.prog Tryz.De:={
 mixed:=by kernel_rfl
 f137:=Tryz.func111.trans (congrArg some (by kernel_rfl))
 f217:=Tryz.func151.trans (congrArg some (by kernel_rfl))
 f266:=Tryz.func184.trans (congrArg some (by kernel_rfl))
 t3:=Tryz.underlying3
 a3:=Tryz.isAgg3
 z3:=Tryz.sizeOf3
 v3:=Tryz.zeroValue3
 t5:=Tryz.underlying5
 a5:=Tryz.isAgg5
 z5:=Tryz.sizeOf5
 v5:=Tryz.zeroValue5
 t9:=Tryz.underlying9
 a9:=Tryz.isAgg9
 z9:=Tryz.sizeOf9
 v9:=Tryz.zeroValue9}
open Go.RowKit in
theorem Tryz.strings_IndexByte (s:ByteArray) (c:Int) (w:World) :
  Calls Tryz.prog 111 #[.string s,.int .u8 c] w fun e w'=>e = .returned (.int .i64 (Lib.indexByte s.data.toList c.toNat.toUInt8))∧w'=w:=Any.strings_IndexByte Tryz.Pz s c w
def Tryz.Df:Go.Shelf.Ren:=⟨fun | 103=>198 | 210=>231 | 206=>201 | n=>n,fun | 9=>9 | 4=>4 | 24=>179 | 3=>3 | n=>n,fun | n=>n⟩
theorem Tryz.PA:Go.Proofs.Lays.n103 Tryz.prog Tryz.Df:={
 mixed:=by kernel_rfl
 f103:=Tryz.func198.trans (congrArg some (by kernel_rfl))
 f206:=Tryz.func201.trans (congrArg some (by kernel_rfl))
 f210:=Tryz.func231.trans (congrArg some (by kernel_rfl))
 t3:=Tryz.underlying3
 a3:=Tryz.isAgg3
 z3:=Tryz.sizeOf3
 v3:=Tryz.zeroValue3
 t4:=Tryz.underlying4
 a4:=Tryz.isAgg4
 z4:=Tryz.sizeOf4
 v4:=Tryz.zeroValue4
 t9:=Tryz.underlying9
 a9:=Tryz.isAgg9
 z9:=Tryz.sizeOf9
 v9:=Tryz.zeroValue9
 t24:=Tryz.underlying179
 a24:=Tryz.isAgg179
 z24:=Tryz.sizeOf179
 v24:=Tryz.zeroValue179}
open Go.RowKit in
theorem Tryz.strings_CutPrefix (s p:ByteArray) (w:World) :
  Calls Tryz.prog 198 #[.string s,.string p] w fun e w'=>e = .returned (.tuple #[.string ⟨(Lib.trimPrefix s.data.toList p.data.toList).toArray⟩,.bool (Lib.hasPrefix s.data.toList p.data.toList)])∧w'=w:=Any.strings_CutPrefix Tryz.PA s p w
def Tryz.Dg:Go.Shelf.Ren:=⟨fun | 145=>194 | 220=>227 | 219=>248 | 217=>151 | 225=>230 | 224=>229 | 267=>258 | 266=>184 | 314=>260 | n=>n,fun | 9=>9 | 4=>4 | 59=>182 | 3=>3 | 5=>5 | 46=>114 | 146=>266 | 51=>117 | n=>n,fun | 1=>1 | n=>n⟩
theorem Tryz.PB:Go.Proofs.Lays.n145 Tryz.prog Tryz.Dg:={
 mixed:=by kernel_rfl
 f145:=Tryz.func194.trans (congrArg some (by kernel_rfl))
 f217:=Tryz.func151.trans (congrArg some (by kernel_rfl))
 f219:=Tryz.func248.trans (congrArg some (by kernel_rfl))
 f220:=Tryz.func227.trans (congrArg some (by kernel_rfl))
 f224:=Tryz.func229.trans (congrArg some (by kernel_rfl))
 f225:=Tryz.func230.trans (congrArg some (by kernel_rfl))
 f266:=Tryz.func184.trans (congrArg some (by kernel_rfl))
 f267:=Tryz.func258.trans (congrArg some (by kernel_rfl))
 f314:=Tryz.func260.trans (congrArg some (by kernel_rfl))
 t3:=Tryz.underlying3
 a3:=Tryz.isAgg3
 z3:=Tryz.sizeOf3
 v3:=Tryz.zeroValue3
 t4:=Tryz.underlying4
 a4:=Tryz.isAgg4
 z4:=Tryz.sizeOf4
 v4:=Tryz.zeroValue4
 t5:=Tryz.underlying5
 a5:=Tryz.isAgg5
 z5:=Tryz.sizeOf5
 v5:=Tryz.zeroValue5
 t9:=Tryz.underlying9
 a9:=Tryz.isAgg9
 z9:=Tryz.sizeOf9
 v9:=Tryz.zeroValue9
 t46:=Tryz.underlying114
 a46:=Tryz.isAgg114
 z46:=Tryz.sizeOf114
 v46:=Tryz.zeroValue114
 t51:=Tryz.underlying117
 a51:=Tryz.isAgg117
 z51:=Tryz.sizeOf117
 v51:=Tryz.zeroValue117
 t59:=Tryz.underlying182
 a59:=Tryz.isAgg182
 z59:=Tryz.sizeOf182
 v59:=Tryz.zeroValue182
 t146:=Tryz.underlying266
 a146:=Tryz.isAgg266
 z146:=Tryz.sizeOf266
 v146:=Tryz.zeroValue266
 g1:=by kernel_rfl}
open Go.RowKit Go.Lib in
theorem Tryz.strings_Cut (s sep:ByteArray) (m:Int) (w:World) (bb:s.size<4294967281) (hm:w.cell? ⟨1,0,none⟩=some (.int .i64 m)) :
  Calls Tryz.prog 194 #[.string s,.string sep] w fun e w'=>e = .returned (.tuple #[.string ⟨(Lib.cut s.data.toList sep.data.toList).1.toArray⟩,.string ⟨(Lib.cut s.data.toList sep.data.toList).2.1.toArray⟩,.bool (Lib.cut s.data.toList sep.data.toList).2.2])∧∃ n,w'=w.drewN n:=Any.strings_Cut Tryz.PB s sep m w bb hm
def Tryz.A4:Go.Shelf.Ren:=⟨fun | 145=>194 | 220=>227 | 219=>248 | 217=>151 | 225=>230 | 224=>229 | 267=>258 | 266=>184 | 314=>260 | n=>n,fun | 9=>9 | 4=>4 | 59=>182 | 3=>3 | 5=>5 | 46=>114 | 146=>266 | 51=>117 | n=>n,fun | 1=>1 | n=>n⟩
theorem Tryz.Mh:Go.Proofs.LaysM.n145 Tryz.prog Tryz.A4:={
 mixed:=by kernel_rfl
 f145:=Tryz.func194.trans (congrArg some (by kernel_rfl))
 f217:=Tryz.func151.trans (congrArg some (by kernel_rfl))
 f219:=Tryz.func248.trans (congrArg some (by kernel_rfl))
 f220:=Tryz.func227.trans (congrArg some (by kernel_rfl))
 f224:=Tryz.func229.trans (congrArg some (by kernel_rfl))
 f225:=Tryz.func230.trans (congrArg some (by kernel_rfl))
 f266:=Tryz.func184.trans (congrArg some (by kernel_rfl))
 f267:=Tryz.func258.trans (congrArg some (by kernel_rfl))
 f314:=Tryz.func260.trans (congrArg some (by kernel_rfl))
 t3:=Tryz.underlying3
 a3:=Tryz.isAgg3
 z3:=Tryz.sizeOf3
 v3:=Tryz.zeroValue3
 t4:=Tryz.underlying4
 a4:=Tryz.isAgg4
 z4:=Tryz.sizeOf4
 v4:=Tryz.zeroValue4
 t5:=Tryz.underlying5
 a5:=Tryz.isAgg5
 z5:=Tryz.sizeOf5
 v5:=Tryz.zeroValue5
 t9:=Tryz.underlying9
 a9:=Tryz.isAgg9
 z9:=Tryz.sizeOf9
 v9:=Tryz.zeroValue9
 t46:=Tryz.underlying114
 a46:=Tryz.isAgg114
 z46:=Tryz.sizeOf114
 v46:=Tryz.zeroValue114
 t51:=Tryz.underlying117
 a51:=Tryz.isAgg117
 z51:=Tryz.sizeOf117
 v51:=Tryz.zeroValue117
 t59:=Tryz.underlying182
 a59:=Tryz.isAgg182
 z59:=Tryz.sizeOf182
 v59:=Tryz.zeroValue182
 t146:=Tryz.underlying266
 a146:=Tryz.isAgg266
 z146:=Tryz.sizeOf266
 v146:=Tryz.zeroValue266
 g1:=by kernel_rfl
 i3:=by kernel_rfl
 i4:=by kernel_rfl
 i5:=by kernel_rfl
 i9:=by kernel_rfl
 i46:=by kernel_rfl
 i51:=by kernel_rfl
 i59:=by kernel_rfl
 i146:=by kernel_rfl
 m1:=by kernel_rfl
 s1_3:=fun w h=>Go.Proofs.cell_of_shapedOpen_int (zero:=#[.int .i64 0]) (t:=3) h (of_decide_eq_true (by kernel_rfl)) (by kernel_rfl) rfl (by kernel_rfl) (by kernel_rfl) Tryz.underlying3}
def Tryz.Dh:Go.Shelf.Ren:=⟨fun | 151=>170 | 152=>196 | 137=>111 | 119=>228 | 224=>229 | 225=>230 | 217=>151 | 266=>184 | n=>n,fun | 9=>9 | 21=>21 | 4=>4 | 3=>3 | 5=>5 | 0=>0 | 46=>114 | n=>n,fun | n=>n⟩
theorem Tryz.PC:Go.Proofs.Lays.n151 Tryz.prog Tryz.Dh:={
 mixed:=by kernel_rfl
 f119:=Tryz.func228.trans (congrArg some (by kernel_rfl))
 f137:=Tryz.func111.trans (congrArg some (by kernel_rfl))
 f151:=Tryz.func170.trans (congrArg some (by kernel_rfl))
 f152:=Tryz.func196.trans (congrArg some (by kernel_rfl))
 f217:=Tryz.func151.trans (congrArg some (by kernel_rfl))
 f224:=Tryz.func229.trans (congrArg some (by kernel_rfl))
 f225:=Tryz.func230.trans (congrArg some (by kernel_rfl))
 f266:=Tryz.func184.trans (congrArg some (by kernel_rfl))
 t0:=Tryz.underlying0
 a0:=Tryz.isAgg0
 z0:=Tryz.sizeOf0
 v0:=Tryz.zeroValue0
 t3:=Tryz.underlying3
 a3:=Tryz.isAgg3
 z3:=Tryz.sizeOf3
 v3:=Tryz.zeroValue3
 t4:=Tryz.underlying4
 a4:=Tryz.isAgg4
 z4:=Tryz.sizeOf4
 v4:=Tryz.zeroValue4
 t5:=Tryz.underlying5
 a5:=Tryz.isAgg5
 z5:=Tryz.sizeOf5
 v5:=Tryz.zeroValue5
 t9:=Tryz.underlying9
 a9:=Tryz.isAgg9
 z9:=Tryz.sizeOf9
 v9:=Tryz.zeroValue9
 t21:=Tryz.underlying21
 a21:=Tryz.isAgg21
 z21:=Tryz.sizeOf21
 v21:=Tryz.zeroValue21
 t46:=Tryz.underlying114
 a46:=Tryz.isAgg114
 z46:=Tryz.sizeOf114
 v46:=Tryz.zeroValue114}
open Go.RowKit Go.Lib in
theorem Tryz.strings_ContainsRune_ascii (s:ByteArray) (r:Int) (w:World) (b3:0≤r) (h1:r<128) :
  Calls Tryz.prog 170 #[.string s,.int .i32 r] w fun e w'=>e = .returned (.bool (decide (0≤Lib.indexByte s.data.toList r.toNat.toUInt8)))∧w'=w:=Any.strings_ContainsRune_ascii Tryz.PC s r w b3 h1
end Go.Proofs
namespace Go.Proofs.YtnihidkbkhcfoaaGreatDoor.V
open Go Go.Proofs
def je (w:World):Prop:=∃ m,w.cell? ⟨1,0,none⟩=some (.int .i64 m)
theorem je.PD {W:World} (h:W.ShapedOpen Tryz.prog):je W:=Tryz.Mh.s1_3 W h
theorem je.I {w w':World} (h:je w) (k:Mod [] w w'):je w':=by
 obtain⟨m,hm⟩:=h;refine⟨m,?_⟩;have bH:1<w.heap.size:=by
  rcases Nat.lt_or_ge 1 w.heap.size with cg | cg
  ·exact cg
  unfold World.cell? at hm;rw [Array.getElem?_eq_none cg] at hm;cases hm
 unfold World.cell? at hm ⊢;rw [k.block 1 bH (by simp)];exact hm
theorem Ij (w:World) (n:Nat):Mod [] w (w.drewN n):=⟨rfl,rfl,rfl,Nat.le_refl _,fun _ _ _=>rfl⟩
theorem abv (w:World) (s:aa) (bb:s.length<4294967281) (eW:je w):Calls Tryz.prog 194 [S s,S [58]].toArray w (bM fun u w'=>u = .tuple #[S (Lib.cut s [58]).1,S (Lib.cut s [58]).2.1,.bool (Lib.cut s [58]).2.2]∧Mod [] w w'):=by
 obtain⟨m,hm⟩:=eW;refine(Tryz.strings_Cut ⟨⟨s⟩⟩ ⟨⟨[58]⟩⟩ m w bb hm).mono fun e w' he=>?_;obtain⟨rfl,n,rfl⟩:=he;exact⟨rfl,Ij w n⟩
theorem Di (w:World) (s p:aa):Calls Tryz.prog 198 [S s,S p].toArray w (bM fun u w'=>u = .tuple #[S (Lib.trimPrefix s p),.bool (Lib.hasPrefix s p)]∧Mod [] w w'):=by
 refine(Tryz.strings_CutPrefix ⟨⟨s⟩⟩ ⟨⟨p⟩⟩ w).mono fun e w' he=>?_;obtain⟨rfl,rfl⟩:=he;exact⟨rfl,Mod.refl _ _⟩
theorem BJ (w:World) (s:aa) (b:UInt8):Calls Tryz.prog 111 [S s,.int .u8 (b.toNat:Int)].toArray w (bM fun u w'=>u = .int .i64 (Lib.indexByte s b)∧Mod [] w w'):=by
 refine(Tryz.strings_IndexByte ⟨⟨s⟩⟩ (b.toNat:Int) w).mono fun e w' he=>?_;obtain⟨rfl,rfl⟩:=he;refine⟨?_,Mod.refl _ _⟩;have h1:((b.toNat:Int).toNat).toUInt8=b:=by rw [Int.toNat_natCast];exact UInt8.ofNat_toNat
 rw [h1]
theorem Fp (w:World) (s:aa) (c:Nat) (bh:c<128):Calls Tryz.prog 170 [S s,.int .i32 (c:Int)].toArray w (bM fun u w'=>u = .bool (s.any fun b=>decide (b.toNat=c))∧Mod [] w w'):=by
 refine(Tryz.strings_ContainsRune_ascii ⟨⟨s⟩⟩ (c:Int) w (by omega) (by omega)).mono fun e w' he=>?_;obtain⟨rfl,rfl⟩:=he;refine⟨?_,Mod.refl _ _⟩;rw [Int.toNat_natCast,yU _ _ bh]
end Go.Proofs.YtnihidkbkhcfoaaGreatDoor.V
namespace Go.Proofs
open Go.Shelf
def Tryz.Dj:Go.Shelf.Ren:=⟨fun | 161=>235 | 231=>249 | 227=>250 | 233=>251 | 235=>252 | 228=>259 | 197=>202 | 151=>170 | 260=>232 | 152=>196 | 137=>111 | 119=>228 | 224=>229 | 225=>230 | 217=>151 | 266=>184 | n=>n,fun | 9=>9 | 4=>4 | 3=>3 | 5=>5 | 117=>254 | 116=>253 | 0=>0 | 124=>257 | 105=>205 | 21=>21 | 119=>247 | 46=>114 | 139=>250 | 138=>249 | n=>n,fun | 3=>5 | 4=>6 | n=>n⟩
theorem Tryz.PE:Go.Proofs.Lays.n161 Tryz.prog Tryz.Dj:={
 mixed:=by kernel_rfl
 f119:=Tryz.func228.trans (congrArg some (by kernel_rfl))
 f137:=Tryz.func111.trans (congrArg some (by kernel_rfl))
 f151:=Tryz.func170.trans (congrArg some (by kernel_rfl))
 f152:=Tryz.func196.trans (congrArg some (by kernel_rfl))
 f161:=Tryz.func235.trans (congrArg some (by kernel_rfl))
 f197:=Tryz.func202.trans (congrArg some (by kernel_rfl))
 f217:=Tryz.func151.trans (congrArg some (by kernel_rfl))
 f224:=Tryz.func229.trans (congrArg some (by kernel_rfl))
 f225:=Tryz.func230.trans (congrArg some (by kernel_rfl))
 f227:=Tryz.func250.trans (congrArg some (by kernel_rfl))
 f228:=Tryz.func259.trans (congrArg some (by kernel_rfl))
 f231:=Tryz.func249.trans (congrArg some (by kernel_rfl))
 f233:=Tryz.func251.trans (congrArg some (by kernel_rfl))
 f235:=Tryz.func252.trans (congrArg some (by kernel_rfl))
 f260:=Tryz.func232.trans (congrArg some (by kernel_rfl))
 f266:=Tryz.func184.trans (congrArg some (by kernel_rfl))
 t0:=Tryz.underlying0
 a0:=Tryz.isAgg0
 z0:=Tryz.sizeOf0
 v0:=Tryz.zeroValue0
 t3:=Tryz.underlying3
 a3:=Tryz.isAgg3
 z3:=Tryz.sizeOf3
 v3:=Tryz.zeroValue3
 t4:=Tryz.underlying4
 a4:=Tryz.isAgg4
 z4:=Tryz.sizeOf4
 v4:=Tryz.zeroValue4
 t5:=Tryz.underlying5
 a5:=Tryz.isAgg5
 z5:=Tryz.sizeOf5
 v5:=Tryz.zeroValue5
 t9:=Tryz.underlying9
 a9:=Tryz.isAgg9
 z9:=Tryz.sizeOf9
 v9:=Tryz.zeroValue9
 t21:=Tryz.underlying21
 a21:=Tryz.isAgg21
 z21:=Tryz.sizeOf21
 v21:=Tryz.zeroValue21
 t46:=Tryz.underlying114
 a46:=Tryz.isAgg114
 z46:=Tryz.sizeOf114
 v46:=Tryz.zeroValue114
 t105:=Tryz.underlying205
 a105:=Tryz.isAgg205
 z105:=Tryz.sizeOf205
 v105:=Tryz.zeroValue205
 t116:=Tryz.underlying253
 a116:=Tryz.isAgg253
 z116:=Tryz.sizeOf253
 t117:=Tryz.underlying254
 a117:=Tryz.isAgg254
 z117:=Tryz.sizeOf254
 v117:=Tryz.zeroValue254
 t119:=Tryz.underlying247
 a119:=Tryz.isAgg247
 z119:=Tryz.sizeOf247
 t124:=Tryz.underlying257
 a124:=Tryz.isAgg257
 z124:=Tryz.sizeOf257
 v124:=Tryz.zeroValue257
 t138:=Tryz.underlying249
 a138:=Tryz.isAgg249
 z138:=Tryz.sizeOf249
 v138:=Tryz.zeroValue249
 t139:=Tryz.underlying250
 a139:=Tryz.isAgg250
 z139:=Tryz.sizeOf250
 v139:=Tryz.zeroValue250
 g3:=by kernel_rfl
 g4:=by kernel_rfl}
def Tryz.A5:Go.Shelf.Ren:=⟨fun | 172=>156 | 244=>187 | 245=>188 | 247=>216 | 279=>217 | 280=>218 | 281=>219 | 282=>220 | 287=>241 | 316=>242 | 171=>120 | 205=>243 | 321=>254 | 322=>255 | 243=>158 | 246=>189 | 283=>221 | 284=>222 | 285=>223 | 286=>224 | 129=>215 | 317=>244 | 318=>245 | 319=>246 | 320=>247 | 337=>256 | 338=>257 | n=>n,fun | 9=>9 | 3=>3 | 75=>176 | 76=>177 | 4=>4 | 5=>5 | 167=>219 | 37=>65 | 0=>0 | 85=>220 | 2=>2 | 168=>222 | 53=>154 | 175=>238 | 46=>114 | 210=>242 | 127=>261 | 145=>264 | 143=>262 | 21=>21 | 171=>225 | 173=>227 | 212=>245 | 51=>117 | 20=>20 | 213=>246 | 232=>63 | 233=>265 | 80=>161 | n=>n,fun | 15=>2 | 16=>3 | 17=>4 | 18=>7 | 19=>8 | n=>n⟩
theorem Tryz.vY:Go.Proofs.LaysC.n172 Tryz.prog Tryz.A5:={
 mixed:=by kernel_rfl
 f129:=Tryz.func215.trans (congrArg some (by kernel_rfl))
 f171:=Tryz.func120.trans (congrArg some (by kernel_rfl))
 f172:=Tryz.func156.trans (congrArg some (by kernel_rfl))
 f205:=Tryz.func243.trans (congrArg some (by kernel_rfl))
 f243:=Tryz.func158.trans (congrArg some (by kernel_rfl))
 f244:=Tryz.func187.trans (congrArg some (by kernel_rfl))
 f245:=Tryz.func188.trans (congrArg some (by kernel_rfl))
 f246:=Tryz.func189.trans (congrArg some (by kernel_rfl))
 f247:=Tryz.func216.trans (congrArg some (by kernel_rfl))
 f279:=Tryz.func217.trans (congrArg some (by kernel_rfl))
 f280:=Tryz.func218.trans (congrArg some (by kernel_rfl))
 f281:=Tryz.func219.trans (congrArg some (by kernel_rfl))
 f282:=Tryz.func220.trans (congrArg some (by kernel_rfl))
 f283:=Tryz.func221.trans (congrArg some (by kernel_rfl))
 f284:=Tryz.func222.trans (congrArg some (by kernel_rfl))
 f285:=Tryz.func223.trans (congrArg some (by kernel_rfl))
 f286:=Tryz.func224.trans (congrArg some (by kernel_rfl))
 f287:=Tryz.func241.trans (congrArg some (by kernel_rfl))
 f316:=Tryz.func242.trans (congrArg some (by kernel_rfl))
 f317:=Tryz.func244.trans (congrArg some (by kernel_rfl))
 f318:=Tryz.func245.trans (congrArg some (by kernel_rfl))
 f319:=Tryz.func246.trans (congrArg some (by kernel_rfl))
 f320:=Tryz.func247.trans (congrArg some (by kernel_rfl))
 f321:=Tryz.func254.trans (congrArg some (by kernel_rfl))
 f322:=Tryz.func255.trans (congrArg some (by kernel_rfl))
 f337:=Tryz.func256.trans (congrArg some (by kernel_rfl))
 f338:=Tryz.func257.trans (congrArg some (by kernel_rfl))
 t0:=Tryz.underlying0
 a0:=Tryz.isAgg0
 z0:=Tryz.sizeOf0
 v0:=Tryz.zeroValue0
 t2:=Tryz.underlying2
 a2:=Tryz.isAgg2
 z2:=Tryz.sizeOf2
 v2:=Tryz.zeroValue2
 t3:=Tryz.underlying3
 a3:=Tryz.isAgg3
 z3:=Tryz.sizeOf3
 v3:=Tryz.zeroValue3
 t4:=Tryz.underlying4
 a4:=Tryz.isAgg4
 z4:=Tryz.sizeOf4
 v4:=Tryz.zeroValue4
 t5:=Tryz.underlying5
 a5:=Tryz.isAgg5
 z5:=Tryz.sizeOf5
 v5:=Tryz.zeroValue5
 t9:=Tryz.underlying9
 a9:=Tryz.isAgg9
 z9:=Tryz.sizeOf9
 v9:=Tryz.zeroValue9
 t20:=Tryz.underlying20
 a20:=Tryz.isAgg20
 z20:=Tryz.sizeOf20
 v20:=Tryz.zeroValue20
 t21:=Tryz.underlying21
 a21:=Tryz.isAgg21
 z21:=Tryz.sizeOf21
 v21:=Tryz.zeroValue21
 t37:=Tryz.underlying65
 a37:=Tryz.isAgg65
 z37:=Tryz.sizeOf65
 v37:=Tryz.zeroValue65
 t46:=Tryz.underlying114
 a46:=Tryz.isAgg114
 z46:=Tryz.sizeOf114
 v46:=Tryz.zeroValue114
 t51:=Tryz.underlying117
 a51:=Tryz.isAgg117
 z51:=Tryz.sizeOf117
 v51:=Tryz.zeroValue117
 t53:=Tryz.underlying154
 a53:=Tryz.isAgg154
 z53:=Tryz.sizeOf154
 v53:=Tryz.zeroValue154
 t75:=Tryz.underlying176
 a75:=Tryz.isAgg176
 z75:=Tryz.sizeOf176
 v75:=Tryz.zeroValue176
 t76:=Tryz.underlying177
 a76:=Tryz.isAgg177
 z76:=Tryz.sizeOf177
 v76:=Tryz.zeroValue177
 t85:=Tryz.underlying220
 a85:=Tryz.isAgg220
 z85:=Tryz.sizeOf220
 v85:=Tryz.zeroValue220
 t127:=Tryz.underlying261
 a127:=Tryz.isAgg261
 z127:=Tryz.sizeOf261
 v127:=Tryz.zeroValue261
 t143:=Tryz.underlying262
 a143:=Tryz.isAgg262
 z143:=Tryz.sizeOf262
 v143:=Tryz.zeroValue262
 t145:=Tryz.underlying264
 a145:=Tryz.isAgg264
 z145:=Tryz.sizeOf264
 v145:=Tryz.zeroValue264
 t167:=Tryz.underlying219
 a167:=Tryz.isAgg219
 z167:=Tryz.sizeOf219
 v167:=Tryz.zeroValue219
 t168:=Tryz.underlying222
 a168:=Tryz.isAgg222
 z168:=Tryz.sizeOf222
 v168:=Tryz.zeroValue222
 t171:=Tryz.underlying225
 a171:=Tryz.isAgg225
 z171:=Tryz.sizeOf225
 v171:=Tryz.zeroValue225
 t173:=Tryz.underlying227
 a173:=Tryz.isAgg227
 z173:=Tryz.sizeOf227
 v173:=Tryz.zeroValue227
 t175:=Tryz.underlying238
 a175:=Tryz.isAgg238
 z175:=Tryz.sizeOf238
 v175:=Tryz.zeroValue238
 t210:=Tryz.underlying242
 a210:=Tryz.isAgg242
 z210:=Tryz.sizeOf242
 v210:=Tryz.zeroValue242
 t212:=Tryz.underlying245
 a212:=Tryz.isAgg245
 z212:=Tryz.sizeOf245
 v212:=Tryz.zeroValue245
 t213:=Tryz.underlying246
 a213:=Tryz.isAgg246
 z213:=Tryz.sizeOf246
 t232:=Tryz.underlying63
 a232:=Tryz.isAgg63
 z232:=Tryz.sizeOf63
 v232:=Tryz.zeroValue63
 t233:=Tryz.underlying265
 a233:=Tryz.isAgg265
 z233:=Tryz.sizeOf265
 v233:=Tryz.zeroValue265
 g15:=by kernel_rfl
 g16:=by kernel_rfl
 g17:=by kernel_rfl
 g18:=by kernel_rfl
 g19:=by kernel_rfl
 t80:=Tryz.underlying161
 a80:=Tryz.isAgg161
 z80:=Tryz.sizeOf161
 v80:=Tryz.zeroValue161
 i0:=by kernel_rfl
 i2:=by kernel_rfl
 i3:=by kernel_rfl
 i4:=by kernel_rfl
 i5:=by kernel_rfl
 i9:=by kernel_rfl
 i20:=by kernel_rfl
 i21:=by kernel_rfl
 i37:=by kernel_rfl
 i46:=by kernel_rfl
 i51:=by kernel_rfl
 i53:=by kernel_rfl
 i75:=by kernel_rfl
 i76:=by kernel_rfl
 i80:=by kernel_rfl
 i85:=by kernel_rfl
 i127:=by kernel_rfl
 i143:=by kernel_rfl
 i145:=by kernel_rfl
 i167:=by kernel_rfl
 i168:=by kernel_rfl
 i171:=by kernel_rfl
 i173:=by kernel_rfl
 i175:=by kernel_rfl
 i210:=by kernel_rfl
 i212:=by kernel_rfl
 i232:=by kernel_rfl
 i233:=by kernel_rfl
 m15:=by kernel_rfl
 m16:=by kernel_rfl
 m17:=by kernel_rfl
 m18:=by kernel_rfl
 m19:=by kernel_rfl
 c0:=by kernel_rfl
 c2:=by kernel_rfl
 c3:=by kernel_rfl
 c4:=by kernel_rfl
 c5:=by kernel_rfl
 c9:=by kernel_rfl
 c20:=by kernel_rfl
 c21:=by kernel_rfl
 c37:=by kernel_rfl
 c46:=by kernel_rfl
 c51:=by kernel_rfl
 c53:=by kernel_rfl
 c75:=by kernel_rfl
 c76:=by kernel_rfl
 c80:=by kernel_rfl
 c85:=by kernel_rfl
 c127:=by kernel_rfl
 c143:=by kernel_rfl
 c145:=by kernel_rfl
 c167:=by kernel_rfl
 c168:=by kernel_rfl
 c171:=by kernel_rfl
 c173:=by kernel_rfl
 c175:=by kernel_rfl
 c210:=by kernel_rfl
 c212:=by kernel_rfl
 c213:=by kernel_rfl
 c232:=by kernel_rfl
 c233:=by kernel_rfl}
open Go.RowKit in
theorem Tryz.strconv_Atoi_ok (s:ByteArray) (aga:s.size≤9223372036854775806) (v:Int) (h:Lib.atoiAll s.data.toList = .ok v) (w:World) :
  Calls Tryz.prog 156 #[.string s] w fun e w'=>e = .returned (.tuple #[.int .i64 v,.nilIface])∧(w'=w∨∃ t,w'=Lib.bytesWorld w 5 t):=Any.strconv_Atoi_ok Tryz.vY s aga v h w
open Go.RowKit in
theorem Tryz.strconv_Atoi_syntax (s:ByteArray) (PF:s.size≤281474976710656) (h:Lib.atoiAll s.data.toList = .«syntax») (ru:Value) (w:World) (bK:w.cell? ⟨2,0,none⟩=some ru) (abw:ru = .nilIface∨∃ abx aby,ru = .iface abx aby) :
  Calls Tryz.prog 156 #[.string s] w fun e w'=>∃ N,e = .returned (.tuple #[.int .i64 (0),.iface 222 (.pointer (some ⟨N,0,none⟩))])∧w.heap.size≤N∧w'.heap[N]? = some (.cells #[.string ⟨#[65,116,111,105]⟩,.string s,ru] 242 (0,0))∧Below w.heap.size w w':=Any.strconv_Atoi_syntax Tryz.vY s PF h ru w bK abw
open Go.RowKit in
theorem Tryz.strconv_Atoi_range (s:ByteArray) (PF:s.size≤281474976710656) (h:Lib.atoiAll s.data.toList = .range) (ru:Value) (w:World) (bK:w.cell? ⟨3,0,none⟩=some ru) (abw:ru = .nilIface∨∃ abx aby,ru = .iface abx aby) :
  Calls Tryz.prog 156 #[.string s] w fun e w'=>∃ N,e = .returned (.tuple #[.int .i64 (Lib.atoiSat s.data.toList),.iface 222 (.pointer (some ⟨N,0,none⟩))])∧w.heap.size≤N∧w'.heap[N]? = some (.cells #[.string ⟨#[65,116,111,105]⟩,.string s,ru] 242 (0,0))∧Below w.heap.size w w':=Any.strconv_Atoi_range Tryz.vY s PF h ru w bK abw
def Tryz.Dk:Go.Shelf.Ren:=⟨fun | 101=>204 | 208=>234 | 206=>201 | n=>n,fun | 9=>9 | 4=>4 | 3=>3 | n=>n,fun | n=>n⟩
theorem Tryz.PG:Go.Proofs.Lays.n101 Tryz.prog Tryz.Dk:={
 mixed:=by kernel_rfl
 f101:=Tryz.func204.trans (congrArg some (by kernel_rfl))
 f206:=Tryz.func201.trans (congrArg some (by kernel_rfl))
 f208:=Tryz.func234.trans (congrArg some (by kernel_rfl))
 t3:=Tryz.underlying3
 a3:=Tryz.isAgg3
 z3:=Tryz.sizeOf3
 v3:=Tryz.zeroValue3
 t4:=Tryz.underlying4
 a4:=Tryz.isAgg4
 z4:=Tryz.sizeOf4
 v4:=Tryz.zeroValue4
 t9:=Tryz.underlying9
 a9:=Tryz.isAgg9
 z9:=Tryz.sizeOf9
 v9:=Tryz.zeroValue9}
open Go.RowKit Go.Lib in
theorem Tryz.strings_TrimPrefix (s p:ByteArray) (w:World) :
  Calls Tryz.prog 204 #[.string s,.string p] w fun e w'=>e = .returned (.string ⟨(Lib.trimPrefix s.data.toList p.data.toList).toArray⟩)∧w'=w:=Any.strings_TrimPrefix Tryz.PG s p w
def Tryz.Dl:Go.Shelf.Ren:=⟨fun | 152=>196 | 137=>111 | 119=>228 | 224=>229 | 225=>230 | 217=>151 | 266=>184 | n=>n,fun | 9=>9 | 21=>21 | 3=>3 | 4=>4 | 5=>5 | 0=>0 | 46=>114 | n=>n,fun | n=>n⟩
theorem Tryz.PH:Go.Proofs.Lays.n152 Tryz.prog Tryz.Dl:={
 mixed:=by kernel_rfl
 f119:=Tryz.func228.trans (congrArg some (by kernel_rfl))
 f137:=Tryz.func111.trans (congrArg some (by kernel_rfl))
 f152:=Tryz.func196.trans (congrArg some (by kernel_rfl))
 f217:=Tryz.func151.trans (congrArg some (by kernel_rfl))
 f224:=Tryz.func229.trans (congrArg some (by kernel_rfl))
 f225:=Tryz.func230.trans (congrArg some (by kernel_rfl))
 f266:=Tryz.func184.trans (congrArg some (by kernel_rfl))
 t0:=Tryz.underlying0
 a0:=Tryz.isAgg0
 z0:=Tryz.sizeOf0
 v0:=Tryz.zeroValue0
 t3:=Tryz.underlying3
 a3:=Tryz.isAgg3
 z3:=Tryz.sizeOf3
 v3:=Tryz.zeroValue3
 t4:=Tryz.underlying4
 a4:=Tryz.isAgg4
 z4:=Tryz.sizeOf4
 v4:=Tryz.zeroValue4
 t5:=Tryz.underlying5
 a5:=Tryz.isAgg5
 z5:=Tryz.sizeOf5
 v5:=Tryz.zeroValue5
 t9:=Tryz.underlying9
 a9:=Tryz.isAgg9
 z9:=Tryz.sizeOf9
 v9:=Tryz.zeroValue9
 t21:=Tryz.underlying21
 a21:=Tryz.isAgg21
 z21:=Tryz.sizeOf21
 v21:=Tryz.zeroValue21
 t46:=Tryz.underlying114
 a46:=Tryz.isAgg114
 z46:=Tryz.sizeOf114
 v46:=Tryz.zeroValue114}
open Go.RowKit Go.Lib in
theorem Tryz.strings_IndexRune_ascii (s:ByteArray) (r:Int) (w:World) (b3:0≤r) (h1:r<128) :
  Calls Tryz.prog 196 #[.string s,.int .i32 r] w fun e w'=>e = .returned (.int .i64 (Lib.indexByte s.data.toList r.toNat.toUInt8))∧w'=w:=Any.strings_IndexRune_ascii Tryz.PH s r w b3 h1
def Tryz.uD:Go.Shelf.Ren:=⟨fun | 197=>202 | 260=>232 | n=>n,fun | 9=>9 | 21=>21 | 3=>3 | 4=>4 | 5=>5 | 105=>205 | 119=>247 | 0=>0 | 46=>114 | 139=>250 | 138=>249 | n=>n,fun | 3=>5 | 4=>6 | n=>n⟩
theorem Tryz.yV:Go.Proofs.Lays.n197 Tryz.prog Tryz.uD:={
 mixed:=by kernel_rfl
 f197:=Tryz.func202.trans (congrArg some (by kernel_rfl))
 f260:=Tryz.func232.trans (congrArg some (by kernel_rfl))
 t0:=Tryz.underlying0
 a0:=Tryz.isAgg0
 z0:=Tryz.sizeOf0
 v0:=Tryz.zeroValue0
 t3:=Tryz.underlying3
 a3:=Tryz.isAgg3
 z3:=Tryz.sizeOf3
 v3:=Tryz.zeroValue3
 t4:=Tryz.underlying4
 a4:=Tryz.isAgg4
 z4:=Tryz.sizeOf4
 v4:=Tryz.zeroValue4
 t5:=Tryz.underlying5
 a5:=Tryz.isAgg5
 z5:=Tryz.sizeOf5
 v5:=Tryz.zeroValue5
 t9:=Tryz.underlying9
 a9:=Tryz.isAgg9
 z9:=Tryz.sizeOf9
 v9:=Tryz.zeroValue9
 t21:=Tryz.underlying21
 a21:=Tryz.isAgg21
 z21:=Tryz.sizeOf21
 v21:=Tryz.zeroValue21
 t46:=Tryz.underlying114
 a46:=Tryz.isAgg114
 z46:=Tryz.sizeOf114
 v46:=Tryz.zeroValue114
 t105:=Tryz.underlying205
 a105:=Tryz.isAgg205
 z105:=Tryz.sizeOf205
 v105:=Tryz.zeroValue205
 t119:=Tryz.underlying247
 a119:=Tryz.isAgg247
 z119:=Tryz.sizeOf247
 t138:=Tryz.underlying249
 a138:=Tryz.isAgg249
 z138:=Tryz.sizeOf249
 v138:=Tryz.zeroValue249
 t139:=Tryz.underlying250
 a139:=Tryz.isAgg250
 z139:=Tryz.sizeOf250
 v139:=Tryz.zeroValue250
 g3:=by kernel_rfl
 g4:=by kernel_rfl}
open Go.RowKit Go.Lib in
theorem Tryz.utf8_DecodeRuneInString (s:ByteArray) (w:World) (jR:Lib.Utf8Tabs 5 6 w) :
  Calls Tryz.prog 202 #[.string s] w fun e w'=>e = .returned (.tuple #[.int .i32 (Lib.decodeGo s).1,.int .i64 (Lib.decodeGo s).2])∧Below w.heap.size w w':=Any.utf8_DecodeRuneInString Tryz.yV s w jR
end Go.Proofs
namespace Go.Proofs.YtnihidkbkhcfoaaGreatDoor.V
open Go Go.Proofs
theorem Mod.uE {w w':World} (h:RowKit.Below w.heap.size w w'):Mod [] w w':=⟨h.os,h.tape,h.output,h.size,fun i hi _=>h.block i hi⟩
theorem Fq (w:World) (e:Nat) (s:ByteArray):Mod [] w (Lib.bytesWorld w e s):=by
 refine⟨?_,?_,?_,?_,?_⟩
 ·simp only [Lib.bytesWorld,World.freeze];rfl
 ·simp only [Lib.bytesWorld,World.freeze];rfl
 ·simp only [Lib.bytesWorld,World.freeze];rfl
 ·rw [Lib.bytesWorld_size];omega
 exact fun i hi _=>Lib.bytesWorld_at_old w e _ i hi
theorem qa {w w':World} {M:List Nat} {a:Nat} {v:Value} {g:Nat} (h:w.cell? ⟨g,a,none⟩=some v) (k:Mod M w w') (dv:g∉M):w'.cell? ⟨g,a,none⟩=some v:=by
 have bH:g<w.heap.size:=by
  rcases Nat.lt_or_ge g w.heap.size with cg | cg
  ·exact cg
  unfold World.cell? at h;rw [Array.getElem?_eq_none cg] at h;cases h
 unfold World.cell? at h ⊢;rw [k.block g bH dv];exact h
def xF (w:World):Prop:=Lib.Utf8Tabs 5 6 w
theorem xF.mod {w w':World} {M:List Nat} (h:xF w) (k:Mod M w w') (eW:∀ x∈M,6<x):xF w':=
 ⟨fun c bh=>qa (h.1 c bh) k (fun ae=>by have:=eW _ ae;omega),fun i hi=>⟨qa (h.2 i hi).1 k (fun ae=>by have:=eW _ ae;omega),qa (h.2 i hi).2 k (fun ae=>by have:=eW _ ae;omega)⟩⟩
theorem xF.I {w w':World} (h:xF w) (k:Mod [] w w'):xF w':=h.mod k (by simp)
def Fs (w:World):Prop:=(∃ ru,w.cell? ⟨2,0,none⟩=some ru∧(ru = .nilIface∨∃ abx aby,ru = .iface abx aby))∧∃ ru,w.cell? ⟨3,0,none⟩=some ru∧(ru = .nilIface∨∃ abx aby,ru = .iface abx aby)
theorem Fs.mod {w w':World} {M:List Nat} (h:Fs w) (k:Mod M w w') (eW:∀ x∈M,6<x):Fs w':=by
 obtain⟨⟨bk,h1,aq⟩,⟨bZ,aT,bL⟩⟩:=h;exact⟨⟨bk,qa h1 k (fun ae=>by have:=eW _ ae;omega),aq⟩,⟨bZ,qa aT k (fun ae=>by have:=eW _ ae;omega),bL⟩⟩
theorem Ft (w:World) (s:aa) (c:Nat) (bh:c<128):Calls Tryz.prog 196 [S s,.int .i32 (c:Int)].toArray w (bM fun u w'=>u = .int .i64 (Lib.indexByte s (UInt8.ofNat c))∧Mod [] w w'):=by
 refine(Tryz.strings_IndexRune_ascii ⟨⟨s⟩⟩ (c:Int) w (by omega) (by omega)).mono fun e w' he=>?_;obtain⟨rfl,rfl⟩:=he;exact⟨by rw [Int.toNat_natCast],Mod.refl _ _⟩
theorem PI (w:World) (s p:aa):Calls Tryz.prog 204 [S s,S p].toArray w (bM fun u w'=>u=S (Lib.trimPrefix s p)∧Mod [] w w'):=by
 refine(Tryz.strings_TrimPrefix ⟨⟨s⟩⟩ ⟨⟨p⟩⟩ w).mono fun e w' he=>?_;obtain⟨rfl,rfl⟩:=he;exact⟨rfl,Mod.refl _ _⟩
theorem PJ (w:World) (s p:aa) (cn:p.length<1000) (ay:∀ b∈p,b.toNat<128):Calls Tryz.prog 235 [S s,S p].toArray w (bM fun u w'=>u=S (Lib.trimLeftS s p)∧Mod [] w w'):=by
 refine(Any.strings_TrimLeft_laid Tryz.PE (by kernel_rfl) ⟨⟨s⟩⟩ ⟨⟨p⟩⟩ w (show p.length<4294967281 by omega) (fun j b aQ=>ay b (List.mem_of_getElem? aQ))).mono fun e w' he=>?_;obtain⟨rfl,k⟩:=he;exact⟨rfl,Mod.uE k⟩
def Ku (s:aa):Nat×Nat:=Lib.decodeGo ⟨⟨s⟩⟩
theorem uF {s:aa} {i:Nat} (h:i<s.length):Ku (s.drop i)=Utf8.decode ⟨⟨s.drop i⟩⟩ 0:=by
 unfold Ku Lib.decodeGo;rw [if_neg];show ¬ (s.drop i).length=0;rw [List.length_drop];omega
theorem xW (w:World) (s:aa) (iJ:xF w):Calls Tryz.prog 202 [S s].toArray w (bM fun u w'=>u = .tuple #[.int .i32 ((Ku s).1:Int),.int .i64 ((Ku s).2:Int)]∧Mod [] w w'):=by
 refine(Any.utf8_DecodeRuneInString Tryz.yV ⟨⟨s⟩⟩ w iJ).mono fun e w' he=>?_;obtain⟨rfl,k⟩:=he;exact⟨rfl,Mod.uE k⟩
def abz (s:aa) (n:Int) (err:Value):Prop:=(Lib.atoiAll s = .ok n∧err = .nilIface)∨((∀ v,Lib.atoiAll s≠.ok v)∧(∃ T p,err = .iface T p)∧(n=0∨n = -9223372036854775808∨n=9223372036854775807)∧(n=0→Lib.atoiAll s = .«syntax»))
theorem Kv (w:World) (s:aa) (bb:s.length≤1000000) (e1:Fs w):Calls Tryz.prog 156 [S s].toArray w (bM fun u w'=>∃ n err,u = .tuple #[.int .i64 n,err]∧abz s n err∧Mod [] w w'):=by
 obtain⟨⟨bk,h1,aq⟩,⟨bZ,aT,bL⟩⟩:=e1;cases dD:Lib.atoiAll s with
 | ok v=>
  refine(Tryz.strconv_Atoi_ok ⟨⟨s⟩⟩ (show s.length≤_ by omega) v dD w).mono fun e w' he=>?_;obtain⟨rfl,k⟩:=he;refine⟨v,_,rfl,.inl ⟨dD,rfl⟩,?_⟩;rcases k with rfl | ⟨t,rfl⟩
  ·exact Mod.refl _ _
  exact Fq _ _ _
 | «syntax» =>
  refine(Tryz.strconv_Atoi_syntax ⟨⟨s⟩⟩ (show s.length≤_ by omega) dD bk w h1 aq).mono fun e w' he=>?_;obtain⟨N,rfl,_,_,k⟩:=he;exact⟨0,_,rfl,.inr ⟨fun v=>(by rw [dD];intro h;cases h),⟨_,_,rfl⟩,.inl rfl,fun _=>dD⟩,Mod.uE k⟩
 | range=>
  refine(Tryz.strconv_Atoi_range ⟨⟨s⟩⟩ (show s.length≤_ by omega) dD bZ w aT bL).mono fun e w' he=>?_;obtain⟨N,rfl,_,_,k⟩:=he;refine⟨Lib.atoiSat s,_,rfl,.inr ⟨fun v=>(by rw [dD];intro h;cases h),⟨_,_,rfl⟩,?_,fun h=>?_⟩,Mod.uE k⟩
  ·unfold Lib.atoiSat
   split
   ·exact .inr (.inl rfl)
   exact .inr (.inr rfl)
  unfold Lib.atoiSat at h
  split at h <;> cases h
end Go.Proofs.YtnihidkbkhcfoaaGreatDoor.V
namespace Go.Proofs.YtnihidkbkhcfoaaGreatDoor.V
open Go
def zU (l:List (Nat×Value)):Op→Option Value
 | .move x=>a6 l x
 | .assign x=>a6 l x
 | .pick x y z=>match a6 l x with
  | some (.bool true)=>a6 l y
  | some (.bool false)=>a6 l z
  | _=>none
 | .unOp .not _ x=>match a6 l x with
  | some (.bool b)=>some (.bool (!b))
  | _=>none
 | .extract x i=>match a6 l x with
  | some (.tuple vs)=>vs[i]?
  | _=>none
 | .nilCheck x=>match a6 l x with
  | some (.pointer (some ad))=>some (.pointer (some ad))
  | _=>none
 | .binOp .lss _ x y _=>match a6 l x,a6 l y with
  | some (.int k m),some (.int iA gr)=>if k=iA then some (.bool (decide (m<gr)))else none
  | _,_=>none
 | .binOp .leq _ x y _=>match a6 l x,a6 l y with
  | some (.int k m),some (.int iA gr)=>if k=iA then some (.bool (decide (m≤gr)))else none
  | _,_=>none
 | .binOp .gtr _ x y _=>match a6 l x,a6 l y with
  | some (.int k m),some (.int iA gr)=>if k=iA then some (.bool (decide (gr<m)))else none
  | _,_=>none
 | .binOp .eql _ x y _=>match a6 l x,a6 l y with
  | some (.int k m),some (.int iA gr)=>if k=iA then some (.bool (decide (m=gr)))else none
  | _,_=>none
 | .binOp .neq _ x y _=>match a6 l x,a6 l y with
  | some (.int k m),some (.int iA gr)=>if k=iA then some (.bool (decide (m≠gr)))else none
  | _,_=>none
 | _=>none
def k4 (ops:Array Oper) (n:Nat) (l:List (Nat×Value)):Oper→Option (List (Nat×Value))
 | ⟨some d,op,_,_,_,g⟩=>match Nat.blt d n with
  | true=>match g with
   | none=>match zU l op with
    | some v=>some ((d,v)::l)
    | none=>none
   | some (j,want)=>match x' ops l j with
    | some b=>match b,want with
     | true,true=>match zU l op with
      | some v=>some ((d,v)::l)
      | none=>none
     | false,false=>match zU l op with
      | some v=>some ((d,v)::l)
      | none=>none
     | true,false=>some ((d,undef)::l)
     | false,true=>some ((d,undef)::l)
    | none=>match (ops[j]?).bind (·.dst)with
     | some t=>match iM t l with
      | some (.tuple vs)=>match vs.size with
       | 0=>some ((d,undef)::l)
       | _=>none
      | _=>none
     | none=>none
  | false=>none
 | _=>none
def zV (ops:Array Oper) (n:Nat):Nat→List Oper→List (Nat×Value)→Option (List Oper×List (Nat×Value))
 | 0,lo,l=>some (lo,l)
 | k+1,o::lo,l=>match k4 ops n l o with
  | some l'=>zV ops n k lo l'
  | none=>none
 | _+1,[],_=>none
section
variable {P:Program} {ops:Array Oper} {Q:Exit→Act→World→Prop} {n:Nat} {ds:List Deferred} {l l':List (Nat×Value)} {M:List (Nat×(Value→World→Prop))} {w w':World} {Fin:j'→Prop}
variable {lo Xw:List Oper} {d:Nat} {op:Op} {ty:TypeId} {pos:String} {af:Array Edge} {gg:Option (Nat×Bool)}
theorem oe {v:Value} (h:zU l op=some v):bF P l ⟨some d,op,ty,pos,af,gg⟩ w v w:=by
 unfold zU at h
 split at h
 ·exact d' h
 ·exact cq h
 ·split at h
  ·rename_i ae;exact fun ρ fc=>by simp [execOp,fc _ _ ae,fc _ _ h,asBool,a6]
  ·rename_i ae;exact fun ρ fc=>by simp [execOp,fc _ _ ae,fc _ _ h,asBool]
  cases h
 ·split at h
  ·rename_i ae;injection h with h;subst h;exact e4 ae
  cases h
 ·split at h
  ·rename_i ae;exact eD ae h
  cases h
 ·split at h
  ·rename_i ae;injection h with h;subst h;exact eb ae
  cases h
 ·split at h
  ·rename_i ae aZ
   split at h
   ·rename_i hk;subst hk;injection h with h;subst h;exact cL ae aZ
   cases h
  cases h
 ·split at h
  ·rename_i ae aZ
   split at h
   ·rename_i hk;subst hk;injection h with h;subst h;exact pR ae aZ
   cases h
  cases h
 ·split at h
  ·rename_i ae aZ
   split at h
   ·rename_i hk;subst hk;injection h with h;subst h;exact gq ae aZ
   cases h
  cases h
 ·split at h
  ·rename_i ae aZ
   split at h
   ·rename_i hk;subst hk;injection h with h;subst h;exact lS ae aZ
   cases h
  cases h
 ·split at h
  ·rename_i ae aZ
   split at h
   ·rename_i hk;subst hk;injection h with h;subst h;exact fj ae aZ
   cases h
  cases h
 cases h
theorem Nv {o:Oper} (h:k4 ops n l o=some l') (hd:ga P ops Q lo n ds l' w):ga P ops Q (o::lo) n ds l w:=by
 obtain⟨dst,op,ty,pos,af,g⟩:=o;cases dst with
 | none=>simp [k4] at h
 | some d=>
  cases bV:Nat.blt d n with
  | false=>simp [k4,bV] at h
  | true=>
   cases g with
   | none=>
    cases he:zU l op with
    | none=>simp [k4,bV,he] at h
    | some v=>
     simp [k4,bV,he] at h;subst h;exact fN (oe he) bV hd
   | some al1=>
    obtain⟨j,want⟩:=al1;cases dv:x' ops l j with
    | some b=>
     cases b <;> cases want <;> simp only [k4,bV,dv] at h
     ·cases he:zU l op with
      | none=>simp [he] at h
      | some v=>
       simp [he] at h;subst h;exact lx dv rfl (oe he) bV hd
     ·injection h with h
      subst h;exact alG dv (by decide) bV hd
     ·injection h with h
      subst h;exact alG dv (by decide) bV hd
     cases he:zU l op with
     | none=>simp [he] at h
     | some v=>
      simp [he] at h;subst h;exact lx dv rfl (oe he) bV hd
    | none=>
     simp only [k4,bV,dv] at h
     split at h
     ·rename_i t cc
      split at h
      ·rename_i vs bK
       split at h
       ·rename_i bb
        injection h with h
        subst h;have:vs = #[]:=Array.eq_empty_of_size_eq_zero bb;subst this;exact alS cc bK bV hd
       cases h
      cases h
     cases h
theorem Ji {o:Oper} (h:k4 ops n l o=some l') (bb:e' o.op=true) (hd:gh P ops w n Fin lo l' M):gh P ops w n Fin (o::lo) l M:=by
 obtain⟨dst,op,ty,pos,af,g⟩:=o;cases dst with
 | none=>simp [k4] at h
 | some d=>
  cases bV:Nat.blt d n with
  | false=>simp [k4,bV] at h
  | true=>
   cases g with
   | none=>
    cases he:zU l op with
    | none=>simp [k4,bV,he] at h
    | some v=>
     simp [k4,bV,he] at h;subst h;exact ak4 (fun _ _=>oe he) bV bb hd
   | some al1=>
    obtain⟨j,want⟩:=al1;cases dv:x' ops l j with
    | some b=>
     cases b <;> cases want <;> simp only [k4,bV,dv] at h
     ·cases he:zU l op with
      | none=>simp [he] at h
      | some v=>
       simp [he] at h;subst h;exact Nn dv rfl (fun _ _=>oe he) bV bb hd
     ·injection h with h
      subst h;exact alI dv (by decide) bV hd
     ·injection h with h
      subst h;exact alI dv (by decide) bV hd
     cases he:zU l op with
     | none=>simp [he] at h
     | some v=>
      simp [he] at h;subst h;exact Nn dv rfl (fun _ _=>oe he) bV bb hd
    | none=>
     simp only [k4,bV,dv] at h
     split at h
     ·rename_i t cc
      split at h
      ·rename_i vs bK
       split at h
       ·rename_i di
        injection h with h
        subst h;have:vs = #[]:=Array.eq_empty_of_size_eq_zero di;subst this;exact alT cc bK bV hd
       cases h
      cases h
     cases h
theorem ak (k:Nat) (h:zV ops n k lo l=some (Xw,l')) (hd:ga P ops Q Xw n ds l' w):ga P ops Q lo n ds l w:=by
 induction k generalizing lo l with
 | zero=>injection h with h;injection h with h1 aq;subst h1;subst aq;exact hd
 | succ k dF=>
  cases lo with
  | nil=>simp [zV] at h
  | cons o lo=>
   simp only [zV] at h
   split at h
   ·rename_i ae7 h1
    exact Nv h1 (dF h)
   cases h
def RU:Nat→List Oper→Bool
 | 0,_=>true
 | k+1,o::lo=>e' o.op&&RU k lo
 | _+1,[]=>false
theorem f' (k:Nat) (h:zV ops n k lo l=some (Xw,l')) (bb:RU k lo=true) (hd:gh P ops w n Fin Xw l' M):gh P ops w n Fin lo l M:=by
 induction k generalizing lo l with
 | zero=>injection h with h;injection h with h1 aq;subst h1;subst aq;exact hd
 | succ k dF=>
  cases lo with
  | nil=>simp [zV] at h
  | cons o lo=>
   simp only [RU,Bool.and_eq_true] at bb;simp only [zV] at h
   split at h
   ·rename_i ae7 h1
    exact Ji h1 bb.1 (dF h bb.2)
   cases h
/-! a truth made literal -/
variable {t:Nat} {p:Prop} {b fb:Bool}
theorem da [Decidable p] (h1:p→ga P ops Q lo n ds ((t,.bool true)::l) w) (aq:¬ p→ga P ops Q lo n ds ((t,.bool false)::l) w):ga P ops Q lo n ds ((t,.bool (decide p))::l) w:=by
 by_cases h:p
 ·rw [decide_eq_true h];exact h1 h
 rw [decide_eq_false h];exact aq h
theorem nk (h1:b=true→ga P ops Q lo n ds ((t,.bool true)::l) w) (aq:¬ b=true→ga P ops Q lo n ds ((t,.bool false)::l) w):ga P ops Q lo n ds ((t,.bool b)::l) w:=by
 cases b
 ·exact aq (by decide)
 exact h1 rfl
theorem AJ (h1:b=true→ga P ops Q lo n ds ((t,.bool true)::l) w) (aq:b=false→ga P ops Q lo n ds ((t,.bool false)::l) w):ga P ops Q lo n ds ((t,.bool b)::l) w:=by
 cases b
 ·exact aq rfl
 exact h1 rfl
theorem iD (h:b=fb) (hd:ga P ops Q lo n ds ((t,.bool fb)::l) w):ga P ops Q lo n ds ((t,.bool b)::l) w:=h▸hd
end
end Go.Proofs.YtnihidkbkhcfoaaGreatDoor.V
set_option maxRecDepth 10000
namespace Go.Proofs.YtnihidkbkhcfoaaGreatDoor.V
open Go Go.Proofs
theorem jt:ix Tryz.prog 25 3 3 1=true:=by kernel_rfl
theorem bB:nL Tryz.prog 9=true:=by kernel_rfl
theorem gz:ix Tryz.prog 25 4 4 1=true:=by kernel_rfl
theorem jH:nL Tryz.prog 22=true:=by kernel_rfl
theorem ke:ly Tryz.prog 22 25 6 88=true:=by kernel_rfl
theorem aJ:rF Tryz.prog 25 6=true:=by kernel_rfl
theorem oo:aP Tryz.prog 42:=aP.of Tryz.func42 (by kernel_rfl) (by kernel_rfl)
theorem b5:ix Tryz.prog 25 5 5 1=true:=by kernel_rfl
theorem dz:nL Tryz.prog 23=true:=by kernel_rfl
theorem wide:Tryz.prog.follows .mixedOrders=true:=by kernel_rfl
theorem cP:ly Tryz.prog 23 51 7 104=true:=by kernel_rfl
theorem h8:ix Tryz.prog 51 1 1 6=true:=by kernel_rfl
theorem eA:ix Tryz.prog 51 0 0 1=true:=by kernel_rfl
theorem AO (N:Nat) (dF:∀ (w:World) (v:JV) (us:List Value) (left deep:Int),v.sz≤N→ao [] w v.D us→Calls Tryz.prog 42 [.agg us.toArray,.int .i64 left,.int .i64 deep].toArray w (bM fun u w'=>u = .int .i64 (v.jm left deep)∧Mod [] w w')) (w:World) (v:JV) (us:List Value) (left deep:Int) (h5:v.sz≤N+1) (arZ:ao [] w v.D us):Calls Tryz.prog 42 [.agg us.toArray,.int .i64 left,.int .i64 deep].toArray w (bM fun u w'=>u = .int .i64 (v.jm left deep)∧Mod [] w w'):=by
 refine enter Tryz.func42 rfl rfl rfl (l:=[(0,_),(1,_),(2,_)]) ⟨rfl,rfl,rfl,trivial⟩ ?_;have E:=Mod.refl [] w;obtain⟨al,cl,am,cm,rfl,kP,jF⟩:=JV.a' arZ;refine ab fun aV=>ep rfl rfl rfl fun g1 aB bT=>?_;have bI:=bT.le E;replace E:=E.then bT.mod;have U:=bT.aA;refine aU rfl (J aV (ab fun aL=>aG rfl (ag (hN rfl rfl) (ag (av jt rfl) (ag (bg bB rfl (U.cell rfl)) (ag (br Tryz.underlying9 rfl) (ag (hN rfl rfl) (aU rfl (J aL (ax fun aX=>ab fun bt=>ak 2 rfl ?_))))))))));refine J bt ?_;refine aK rfl (fun mH=>?_) (fun mH=>?_)
 ·exact ab fun bN=>aU rfl (J bN (ba (aR (by simp) (ar rfl rfl ⟨by rw [JV.Bu,if_pos mH],E⟩))))
 have ajT:¬ deep=0:=mH;have hd:=JV.Bu v left deep;rw [if_neg ajT] at hd;refine b8 (au aX (ax fun b2=>ab fun cd=>aU rfl (J cd (eE (bX (σ:=Nat×Int) (fun⟨k,z⟩=>[(1,.int .i64 z),(2,.int .i64 deep),(3,.pointer (some ⟨g1,0,none⟩)),(7,.int .i64 (k:Int))]) (fun⟨k,z⟩ aB=>k≤v.list.length∧JV.ju (v.list.drop k) z (j5 (deep-1))=JV.ju v.list (j5 (j5 (left-1)-v.str.length)) (j5 (deep-1))∧aE aB g1 25 [.int .i64 v.kind,.bool v.is,.int .i64 v.num,S v.str,.slice al v.list.length cl,.slice am v.map.length cm]∧Mod [] w aB) (fun⟨k,z⟩=>v.list.length-k) (⟨0,(j5 (j5 (left-1)-v.str.length))⟩) ⟨rfl,rfl,rfl,rfl,trivial⟩ (⟨by omega,rfl,U,E⟩) ?_)))));rintro⟨k,z⟩ cO ⟨hk,CU,U,E⟩;refine ax fun cD=>ab fun cJ=>aG rfl (ag (av gz rfl) (ag (bg jH rfl (U.cell rfl)) (ag (bs Tryz.underlying22 rfl) (ag (cL rfl rfl) ?_))));refine da (fun HT:(k:Int)<(v.list.length:Int)=>?_) (fun HT=>?_);rotate_left
 ·refine ak 4 rfl (J cJ (aD rfl ?_));have tq:JV.ju v.list (j5 (j5 (left-1)-v.str.length)) (j5 (deep-1))=z:=by rw [← CU];exact JV.EH (by omega)
  refine bo (aR (by simp) (aR (by simp) (bU (au b2 (ax fun ee=>ab fun fE=>aU rfl (J fE (eE (bX (σ:=Nat×Int) (fun⟨k,y⟩=>[(1,.int .i64 y),(2,.int .i64 deep),(3,.pointer (some ⟨g1,0,none⟩)),(8,.int .i64 (k:Int))]) (fun⟨k,y⟩ aB=>k≤v.map.length∧JV.jv (v.map.drop k) y (j5 (deep-1))=JV.jv v.map z (j5 (deep-1))∧aE aB g1 25 [.int .i64 v.kind,.bool v.is,.int .i64 v.num,S v.str,.slice al v.list.length cl,.slice am v.map.length cm]∧Mod [] w aB) (fun⟨k,y⟩=>v.map.length-k) (⟨0,z⟩) ⟨rfl,rfl,rfl,rfl,trivial⟩ (⟨by omega,rfl,U,E⟩) ?_))))))));rintro⟨k,y⟩ jD ⟨hk,kR,U,E⟩;refine ax fun fT=>ab fun fF=>aG rfl (ag (av b5 rfl) (ag (bg dz rfl (U.cell rfl)) (ag (bs Tryz.underlying23 rfl) (ag (cL rfl rfl) ?_))));refine da (fun yq:(k:Int)<(v.map.length:Int)=>?_) (fun yq=>?_);rotate_left
  ·refine ak 4 rfl (J fF (aD rfl ?_));have mJ:v.jm left deep=y:=by rw [hd,tq,← kR];exact JV.w1 (by omega)
   exact bo (aR (by simp) (aR (by simp) (bU (au ee (ab fun hg=>ak 2 rfl (J hg (ba (ar rfl rfl ⟨by rw [mJ],E⟩))))))))
  refine ak 2 rfl (aw (dq rfl rfl) (ag (lT rfl rfl rfl) (J fF ?_)));refine aK rfl (fun aa2=>?_) (fun aa2=>?_)
  ·obtain⟨x,bO⟩:∃ x,v.map[k]? = some x:=⟨_,List.getElem?_eq_getElem (by omega)⟩;obtain⟨j6,k7,dL,eg,gA⟩:=JV.kf jF bO;obtain⟨jI,jJ,ja,h3,rfl,k8,lz⟩:=JV.a' eg;have cu:=gA.I E;have hy:=JV.ho jF;obtain rfl:=dL;have di:¬ y<0:=by omega
   have mI:=JV.yr (d:=(j5 (deep-1))) bO di;refine b8 (au fT (ax fun fG=>eE (bQ wide (by kernel_rfl) (aj (fun R=>(av b5 rfl)) (aj (fun R=>(bg dz rfl ((U.I R).cell rfl))) (aj (fun R=>(d' rfl)) (aj (fun R=>(ca cP rfl rfl (by omega))) (aj (fun R=>(dB h8 rfl)) (aj (fun R=>(bc aJ rfl rfl (cu.I R).tr)) (aj (fun R=>(d' rfl)) (aj (fun R=>(av b5 rfl)) (aj (fun R=>(bg dz rfl ((U.I R).cell rfl))) ?_))))))))))));refine aj (fun R=>(d' rfl)) (aj (fun R=>(ca cP rfl rfl (by omega))) (aj (fun R=>(dB eA rfl)) (aj (fun R=>(bg bB rfl ((cu.I R) 0 _ rfl))) (aj (fun R=>(br Tryz.underlying9 rfl)) (aj (fun R=>(hN rfl rfl)) (aj (fun R=>(d' rfl)) (aj (fun R=>(hN rfl rfl)) (AI (fun cH R=>bE oo rfl) (fun cH R=>dF _ x.2 _ _ _ (by have:=JV.gp (List.mem_of_getElem? bO);omega) (eg.bG (E.then R))) rfl rfl (aj (fun R=>(cq rfl)) (bS rfl fun iv R=>?_))))))))));replace U:=U.I R;replace E:=E.then R;refine bz (by simp) (au fG (bP (aG rfl (ag (aO rfl rfl (by omega)) (aU rfl (cF ?_))))));have rG:=JV.ho jF;exact fK (σ:=Nat×Int) (s:=⟨k,y⟩) (⟨k+1,x.2.jm (j5 (y-x.1.length)) (j5 (deep-1))⟩) ⟨rfl,rfl,rfl,rfl,trivial⟩ ⟨by omega,by rw [← mI];exact kR,U,E⟩ (by dsimp only;omega)
  have mJ:v.jm left deep=y:=by rw [hd,tq,← kR];exact JV.wZ (by omega)
  exact bo (aR (by simp) (aR (by simp) (bU (au ee (ab fun gU=>ak 2 rfl (J gU (ba (ar rfl rfl ⟨by rw [mJ],E⟩))))))))
 refine ak 2 rfl (aw (dq rfl rfl) (ag (lT rfl rfl rfl) (J cJ ?_)));refine aK rfl (fun pZ=>?_) (fun pZ=>?_)
 ·obtain⟨x,bO⟩:∃ x,v.list[k]? = some x:=⟨_,List.getElem?_eq_getElem (by omega)⟩;obtain⟨j6,k7,dL,eg,gA⟩:=JV.yp kP bO;obtain⟨jI,jJ,ja,h3,rfl,k8,lz⟩:=JV.a' eg;have cu:=gA.I E;have hy:=JV.pM kP;obtain rfl:=dL;have di:¬ z<0:=by omega
  have mI:=JV.HU (d:=(j5 (deep-1))) bO di;refine b8 (au cD (ax fun cf=>eE (bP (ag (av gz rfl) (ag (bg jH rfl (U.cell rfl)) (aG rfl (ag (ca ke rfl rfl (by omega)) (ag (bc aJ rfl rfl cu) (ak 2 rfl (ag (hN rfl rfl) (cQ (bE oo rfl) (dF _ x _ z _ (by have:=JV.gL (List.mem_of_getElem? bO);omega) (eg.bG E)) fun gb R=>?_)))))))))));replace U:=U.I R;replace E:=E.then R;refine aU rfl (cF (bz (by simp) (au cf (bP (aG rfl (ag (aO rfl rfl (by omega)) (aU rfl (cF ?_))))))));have rG:=JV.pM kP;exact fK (σ:=Nat×Int) (s:=⟨k,z⟩) (⟨k+1,x.jm z (j5 (deep-1))⟩) ⟨rfl,rfl,rfl,rfl,trivial⟩ ⟨by omega,by rw [← mI];exact CU,U,E⟩ (by dsimp only;omega)
 have tq:JV.ju v.list (j5 (j5 (left-1)-v.str.length)) (j5 (deep-1))=z:=by rw [← CU];exact JV.EG (by omega)
 refine bo (aR (by simp) (aR (by simp) (bU (au b2 (ax fun b1=>ab fun cX=>aU rfl (J cX (eE (bX (σ:=Nat×Int) (fun⟨k,y⟩=>[(1,.int .i64 y),(2,.int .i64 deep),(3,.pointer (some ⟨g1,0,none⟩)),(8,.int .i64 (k:Int))]) (fun⟨k,y⟩ aB=>k≤v.map.length∧JV.jv (v.map.drop k) y (j5 (deep-1))=JV.jv v.map z (j5 (deep-1))∧aE aB g1 25 [.int .i64 v.kind,.bool v.is,.int .i64 v.num,S v.str,.slice al v.list.length cl,.slice am v.map.length cm]∧Mod [] w aB) (fun⟨k,y⟩=>v.map.length-k) (⟨0,z⟩) ⟨rfl,rfl,rfl,rfl,trivial⟩ (⟨by omega,rfl,U,E⟩) ?_))))))));rintro⟨k,y⟩ iu ⟨hk,kR,U,E⟩;refine ax fun cb=>ab fun cU=>aG rfl (ag (av b5 rfl) (ag (bg dz rfl (U.cell rfl)) (ag (bs Tryz.underlying23 rfl) (ag (cL rfl rfl) ?_))));refine da (fun yq:(k:Int)<(v.map.length:Int)=>?_) (fun yq=>?_);rotate_left
 ·refine ak 4 rfl (J cU (aD rfl ?_));have mJ:v.jm left deep=y:=by rw [hd,tq,← kR];exact JV.w1 (by omega)
  exact bo (aR (by simp) (aR (by simp) (bU (au b1 (ab fun eH=>ak 2 rfl (J eH (ba (ar rfl rfl ⟨by rw [mJ],E⟩))))))))
 refine ak 2 rfl (aw (dq rfl rfl) (ag (lT rfl rfl rfl) (J cU ?_)));refine aK rfl (fun aa2=>?_) (fun aa2=>?_)
 ·obtain⟨x,bO⟩:∃ x,v.map[k]? = some x:=⟨_,List.getElem?_eq_getElem (by omega)⟩;obtain⟨j6,k7,dL,eg,gA⟩:=JV.kf jF bO;obtain⟨jI,jJ,ja,h3,rfl,k8,lz⟩:=JV.a' eg;have cu:=gA.I E;have hy:=JV.ho jF;obtain rfl:=dL;have di:¬ y<0:=by omega
  have mI:=JV.yr (d:=(j5 (deep-1))) bO di;refine b8 (au cb (ax fun dj=>eE (bQ wide (by kernel_rfl) (aj (fun R=>(av b5 rfl)) (aj (fun R=>(bg dz rfl ((U.I R).cell rfl))) (aj (fun R=>(d' rfl)) (aj (fun R=>(ca cP rfl rfl (by omega))) (aj (fun R=>(dB h8 rfl)) (aj (fun R=>(bc aJ rfl rfl (cu.I R).tr)) (aj (fun R=>(d' rfl)) (aj (fun R=>(av b5 rfl)) (aj (fun R=>(bg dz rfl ((U.I R).cell rfl))) ?_))))))))))));refine aj (fun R=>(d' rfl)) (aj (fun R=>(ca cP rfl rfl (by omega))) (aj (fun R=>(dB eA rfl)) (aj (fun R=>(bg bB rfl ((cu.I R) 0 _ rfl))) (aj (fun R=>(br Tryz.underlying9 rfl)) (aj (fun R=>(hN rfl rfl)) (aj (fun R=>(d' rfl)) (aj (fun R=>(hN rfl rfl)) (AI (fun cH R=>bE oo rfl) (fun cH R=>dF _ x.2 _ _ _ (by have:=JV.gp (List.mem_of_getElem? bO);omega) (eg.bG (E.then R))) rfl rfl (aj (fun R=>(cq rfl)) (bS rfl fun js R=>?_))))))))));replace U:=U.I R;replace E:=E.then R;refine bz (by simp) (au dj (bP (aG rfl (ag (aO rfl rfl (by omega)) (aU rfl (cF ?_))))));have rG:=JV.ho jF;exact fK (σ:=Nat×Int) (s:=⟨k,y⟩) (⟨k+1,x.2.jm (j5 (y-x.1.length)) (j5 (deep-1))⟩) ⟨rfl,rfl,rfl,rfl,trivial⟩ ⟨by omega,by rw [← mI];exact kR,U,E⟩ (by dsimp only;omega)
 have mJ:v.jm left deep=y:=by rw [hd,tq,← kR];exact JV.wZ (by omega)
 exact bo (aR (by simp) (aR (by simp) (bU (au b1 (ab fun dO=>ak 2 rfl (J dO (ba (ar rfl rfl ⟨by rw [mJ],E⟩))))))))
theorem uh:∀ N:Nat,∀ (w:World) (v:JV) (us:List Value) (left deep:Int),v.sz≤N→ao [] w v.D us→Calls Tryz.prog 42 [.agg us.toArray,.int .i64 left,.int .i64 deep].toArray w (bM fun u w'=>u = .int .i64 (v.jm left deep)∧Mod [] w w')
 | 0,w,v,us,left,deep,h,arZ=>absurd (JV.oq v) (by omega)
 | N+1,w,v,us,left,deep,h,arZ=>AO N (uh N) w v us left deep h arZ
theorem mK (w:World) (v:JV) (us:List Value) (left deep:Int) (arZ:ao [] w v.D us):Calls Tryz.prog 42 [.agg us.toArray,.int .i64 left,.int .i64 deep].toArray w (bM fun u w'=>u = .int .i64 (v.jm left deep)∧Mod [] w w'):=uh v.sz w v us left deep (Nat.le_refl _) arZ
set_option maxRecDepth 10000
theorem hz:ix Tryz.prog 25 0 0 1=true:=by kernel_rfl
theorem dN:nL Tryz.prog 3=true:=by kernel_rfl
theorem qx:ix Tryz.prog 25 1 1 1=true:=by kernel_rfl
theorem jK:nL Tryz.prog 4=true:=by kernel_rfl
theorem kK:ix Tryz.prog 25 2 2 1=true:=by kernel_rfl
theorem CV:aP Tryz.prog 24:=aP.of Tryz.func24 (by kernel_rfl) (by kernel_rfl)
theorem CW (N:Nat) (dF:∀ (w:World) (v y:JV) (us vs:List Value),v.sz≤N→ao [] w v.D us→ao [] w y.D vs→Calls Tryz.prog 24 [.agg us.toArray,.agg vs.toArray].toArray w (bM fun u w'=>u = .bool (JV.p0 v y)∧Mod [] w w')) (w:World) (v y:JV) (us vs:List Value) (h5:v.sz≤N+1) (arZ:ao [] w v.D us) (xw:ao [] w y.D vs):Calls Tryz.prog 24 [.agg us.toArray,.agg vs.toArray].toArray w (bM fun u w'=>u = .bool (JV.p0 v y)∧Mod [] w w'):=by
 refine enter Tryz.func24 rfl rfl rfl (l:=[(0,_),(1,_)]) ⟨rfl,rfl,trivial⟩ ?_;have E:=Mod.refl [] w;obtain⟨al,cl,am,cm,rfl,kP,jF⟩:=JV.a' arZ;obtain⟨LQ,LR,LS,LU,rfl,afe,aff⟩:=JV.a' xw;refine ab fun aV=>ep rfl rfl rfl fun g1 aB bT=>?_;have bI:=bT.le E;replace E:=E.then bT.mod;have U:=bT.aA;refine ep rfl rfl rfl fun g2 cO cW=>?_;have b9:=cW.le E;have bR:=cW.ne U;replace U:=U.I cW.mod;replace E:=E.then cW.mod;have ah:=cW.aA;refine aU rfl (J aV (ax fun aL=>ab fun aX=>ag (av hz rfl) (ag (bg dN rfl (U.cell rfl)) (ag (av hz rfl) (ag (bg dN rfl (ah.cell rfl)) (ag (fj rfl rfl) ?_))))));refine da (fun jL:v.kind≠y.kind=>?_) (fun jL=>?_)
 ·have mJ:JV.p0 v y=false:=JV.nM fun e=>jL (by rw [e]);exact ak 39 rfl (J aX (aF rfl (ab fun bt=>aU rfl (J bt (ba (aR (by simp) (ar rfl rfl ⟨by rw [mJ],E⟩)))))))
 refine aG rfl (aw (av qx rfl) (aw (bg jK rfl (U.cell rfl)) (aw (av qx rfl) (aw (bg jK rfl (ah.cell rfl)) (aw (Ke Tryz.underlying4 rfl rfl) ?_)))));refine AJ (fun ot:((v.is != y.is))=true=>?_) (fun ot=>?_)
 ·have mJ:JV.p0 v y=false:=JV.nM fun e=>(by subst e;simp at ot);exact ak 33 rfl (J aX (aF rfl (ab fun bN=>aU rfl (J bN (ba (aR (by simp) (ar rfl rfl ⟨by rw [mJ],E⟩)))))))
 refine ak 2 rfl (aw (av kK rfl) (aw (bg dN rfl (U.cell rfl)) (aw (av kK rfl) (aw (bg dN rfl (ah.cell rfl)) (aw (fj rfl rfl) ?_)))));refine da (fun ys:v.num≠y.num=>?_) (fun ys=>?_)
 ·have mJ:JV.p0 v y=false:=JV.nM fun e=>ys (by rw [e]);exact ak 26 rfl (J aX (aF rfl (ab fun b2=>aU rfl (J b2 (ba (aR (by simp) (ar rfl rfl ⟨by rw [mJ],E⟩)))))))
 refine ak 2 rfl (aw (av jt rfl) (aw (bg bB rfl (U.cell rfl)) (aw (av jt rfl) (aw (bg bB rfl (ah.cell rfl)) (aw (e3 rfl rfl) ?_)))));refine da (fun HV:v.str≠y.str=>?_) (fun HV=>?_)
 ·have mJ:JV.p0 v y=false:=JV.nM fun e=>HV (by rw [e]);exact ak 19 rfl (J aX (aF rfl (ab fun cd=>aU rfl (J cd (ba (aR (by simp) (ar rfl rfl ⟨by rw [mJ],E⟩)))))))
 refine ak 2 rfl (aw (av gz rfl) (aw (bg jH rfl (U.cell rfl)) (aw (bs Tryz.underlying22 rfl) (aw (av gz rfl) (aw (bg jH rfl (ah.cell rfl)) (aw (bs Tryz.underlying22 rfl) (aw (fj rfl rfl) ?_)))))));refine da (fun OF:(v.list.length:Int)≠(y.list.length:Int)=>?_) (fun OF=>?_)
 ·have mJ:JV.p0 v y=false:=JV.nM fun e=>OF (by rw [e]);exact ak 10 rfl (J aX (aF rfl (ab fun cD=>aU rfl (J cD (ba (aR (by simp) (ar rfl rfl ⟨by rw [mJ],E⟩)))))))
 refine ak 2 rfl (aw (av b5 rfl) (aw (bg dz rfl (U.cell rfl)) (aw (bs Tryz.underlying23 rfl) (aw (av b5 rfl) (aw (bg dz rfl (ah.cell rfl)) (aw (bs Tryz.underlying23 rfl) (aw (fj rfl rfl) ?_)))))));refine da (fun OG:(v.map.length:Int)≠(y.map.length:Int)=>?_) (fun OG=>?_)
 ·have mJ:JV.p0 v y=false:=JV.nM fun e=>OG (by rw [e]);exact ag (jA rfl rfl rfl) (J aX (aF rfl (ab fun cJ=>aU rfl (J cJ (ba (aR (by simp) (ar rfl rfl ⟨by rw [mJ],E⟩)))))))
 refine ag (jA rfl rfl rfl) (J aX (aD rfl (b8 (au aL (ax fun cf=>ab fun b1=>ag (av gz rfl) (ag (bg jH rfl (U.cell rfl)) (ag (bs Tryz.underlying22 rfl) (aG rfl (J b1 (eE (bX (σ:=Nat) (fun k=>[(2,.pointer (some ⟨g1,0,none⟩)),(3,.pointer (some ⟨g2,0,none⟩)),(53,.int .i64 v.list.length),(54,.int .i64 (k:Int))]) (fun k aB=>k≤v.list.length∧(∀ (i:Nat) (a b:JV),i<k→v.list[i]? = some a→y.list[i]? = some b→a=b)∧aE aB g1 25 [.int .i64 v.kind,.bool v.is,.int .i64 v.num,S v.str,.slice al v.list.length cl,.slice am v.map.length cm]∧aE aB g2 25 [.int .i64 y.kind,.bool y.is,.int .i64 y.num,S y.str,.slice LQ y.list.length LR,.slice LS y.map.length LU]∧Mod [] w aB) (fun k=>v.list.length-k) (0) ⟨rfl,rfl,rfl,rfl,trivial⟩ (⟨by omega,fun i a b h=>by omega,U,ah,E⟩) ?_)))))))))));rintro k gb ⟨hk,dD,U,ah,E⟩;refine ab fun cX=>ag (cL rfl rfl) (J cX (ax fun cb=>?_));refine aK rfl (fun ajU=>?_) (fun ajU=>?_)
 ·obtain⟨x,bO⟩:∃ x,v.list[k]? = some x:=⟨_,List.getElem?_eq_getElem (by omega)⟩;obtain⟨j6,k7,dL,eg,gA⟩:=JV.yp kP bO;obtain⟨jI,jJ,ja,h3,rfl,k8,lz⟩:=JV.a' eg;have cu:=gA.I E;have hy:=JV.pM kP;obtain rfl:=dL;obtain⟨z,rH⟩:∃ x,y.list[k]? = some x:=⟨_,List.getElem?_eq_getElem (by omega)⟩;obtain⟨ajV,afg,OH,OI,CX⟩:=JV.yp afe rH;obtain⟨afh,afi,afj,afk,rfl,afl,afm⟩:=JV.a' OI;have yt:=CX.I E;have UR:=JV.pM afe;obtain rfl:=OH;refine b8 (au cb (ax fun cU=>eE (ab fun dj=>ak 2 rfl (J dj (ax fun dO=>bQ wide (by kernel_rfl) (aj (fun R=>(av gz rfl)) (aj (fun R=>(bg jH rfl ((U.I R).cell rfl))) (aj (fun R=>(d' rfl)) (aj (fun R=>(ca ke rfl rfl (by omega))) (aj (fun R=>(bc aJ rfl rfl (cu.I R))) ?_))))))))));refine aj (fun R=>(av gz rfl)) (aj (fun R=>(bg jH rfl ((ah.I R).cell rfl))) (aj (fun R=>(d' rfl)) (aj (fun R=>(ca ke rfl rfl (by omega))) (aj (fun R=>(bc aJ rfl rfl (yt.I R))) (AI (fun cH R=>bE CV rfl) (fun cH R=>dF _ x z _ _ (by have:=JV.gL (List.mem_of_getElem? bO);omega) (eg.bG (E.then R)) (OI.bG (E.then R))) rfl rfl (aj (fun R=>(e4 rfl)) (bS rfl fun iu R=>?_)))))));replace U:=U.I R;replace ah:=ah.I R;replace E:=E.then R;refine au dO ?_;refine a1 rfl (fun jb=>?_) (fun jb=>?_)
  ·have mJ:JV.p0 v y=false:=JV.nM fun e=>by
    subst e;rw [bO] at rH;injection rH with e
    subst e;rw [JV.su] at jb;cases jb
   exact ab fun eH=>aU rfl (J eH (ba (bz (by simp) (aR (by simp) (aR (by simp) (bz (by simp) (aR (by simp) (ar rfl rfl ⟨by rw [mJ],E⟩))))))))
  have aa3:∀ (i:Nat) (a b:JV),i<k+1→v.list[i]? = some a→y.list[i]? = some b→a=b:=fun i a b hi ay aQ=>by
   rcases Nat.lt_succ_iff_lt_or_eq.1 hi with h | h
   ·exact dD i a b h ay aQ
   subst h;rw [bO] at ay;rw [rH] at aQ;injection ay with ay
   injection aQ with aQ
   subst ay;subst aQ;exact JV.ui.1 (by simpa using jb)
  exact b8 (bz (by simp) (au cU (bP (ag (aO rfl rfl (by omega)) (aG rfl (cF (fK (σ:=Nat) (s:=k) (k+1) ⟨rfl,rfl,rfl,rfl,trivial⟩ ⟨by omega,aa3,U,ah,E⟩ (by omega))))))))
 refine bo (aR (by simp) (aR (by simp) (bU (au cf (ax fun ee=>ab fun fE=>ag (av b5 rfl) (ag (bg dz rfl (U.cell rfl)) (ag (bs Tryz.underlying23 rfl) (aG rfl (J fE (eE (bX (σ:=Nat) (fun j=>[(2,.pointer (some ⟨g1,0,none⟩)),(3,.pointer (some ⟨g2,0,none⟩)),(72,.int .i64 v.map.length),(73,.int .i64 (j:Int))]) (fun j aB=>j≤v.map.length∧(∀ (i:Nat) (a b:List UInt8×JV),i<j→v.map[i]? = some a→y.map[i]? = some b→a=b)∧aE aB g1 25 [.int .i64 v.kind,.bool v.is,.int .i64 v.num,S v.str,.slice al v.list.length cl,.slice am v.map.length cm]∧aE aB g2 25 [.int .i64 y.kind,.bool y.is,.int .i64 y.num,S y.str,.slice LQ y.list.length LR,.slice LS y.map.length LU]∧Mod [] w aB) (fun j=>v.map.length-j) (0) ⟨rfl,rfl,rfl,rfl,trivial⟩ (⟨by omega,fun i a b h=>by omega,U,ah,E⟩) ?_)))))))))));rintro j js ⟨dY,ef,U,ah,E⟩;refine ab fun fT=>ag (cL rfl rfl) (J fT (ax fun fF=>?_));refine aK rfl (fun aa4=>?_) (fun aa4=>?_);rotate_left
 ·exact bo (aR (by simp) (aR (by simp) (bU (au ee (ab fun hB=>aU rfl (J hB (ba (ar rfl rfl ⟨by rw [JV.ui.2 (JV.ZR (Classical.byContradiction jL) (by simpa using ot) (Classical.byContradiction ys) (Classical.byContradiction HV) (JV.yu (by omega) fun i a b hi ay aQ=>dD i a b (by omega) ay aQ) (JV.yu (by omega) fun i a b hi ay aQ=>ef i a b (by omega) ay aQ))],E⟩))))))))
 obtain⟨x,bO⟩:∃ x,v.map[j]? = some x:=⟨_,List.getElem?_eq_getElem (by omega)⟩;obtain⟨j6,k7,dL,eg,gA⟩:=JV.kf jF bO;obtain⟨jI,jJ,ja,h3,rfl,k8,lz⟩:=JV.a' eg;have cu:=gA.I E;have hy:=JV.ho jF;obtain rfl:=dL;obtain⟨z,rH⟩:∃ x,y.map[j]? = some x:=⟨_,List.getElem?_eq_getElem (by omega)⟩;obtain⟨ajV,afg,OH,OI,CX⟩:=JV.kf aff rH;obtain⟨afh,afi,afj,afk,rfl,afl,afm⟩:=JV.a' OI;have yt:=CX.I E;have UR:=JV.ho aff;obtain rfl:=OH;refine b8 (au fF (ax fun fG=>eE (ab fun gU=>ak 2 rfl (J gU (ax fun hg=>?_)))))
 by_cases dx:x.1≠z.1
 ·refine bQ wide (by kernel_rfl) (aj (fun R=>(av b5 rfl)) (aj (fun R=>(bg dz rfl ((U.I R).cell rfl))) (aj (fun R=>(d' rfl)) (aj (fun R=>(ca cP rfl rfl (by omega))) (aj (fun R=>(dB eA rfl)) (aj (fun R=>(bg bB rfl ((cu.I R) 0 _ rfl))) (aj (fun R=>(av b5 rfl)) (aj (fun R=>(bg dz rfl ((ah.I R).cell rfl))) (aj (fun R=>(d' rfl)) (aj (fun R=>(ca cP rfl rfl (by omega))) (aj (fun R=>(dB eA rfl)) (aj (fun R=>(bg bB rfl ((yt.I R) 0 _ rfl))) (aj (fun R=>(e3 rfl rfl)) ?_)))))))))))));refine aj (fun R=>(d' rfl)) (eF rfl (bd dx) (eF rfl (bd dx) (eF rfl (bd dx) (eF rfl (bd dx) (eF rfl (bd dx) (eF rfl (bd dx) (eF rfl (bd dx) (eF rfl (bd dx) (eF rfl (bd dx) (eF rfl (bd dx) (eF rfl (bd dx) (eF rfl (bd dx) (eF rfl (bd dx) ?_)))))))))))));refine eF rfl (bd dx) (aj (fun R=>(lT (bd dx) rfl rfl)) (bS rfl fun jD R=>?_));replace U:=U.I R;replace ah:=ah.I R;replace E:=E.then R;refine au hg (aF rfl ?_);have mJ:JV.p0 v y=false:=JV.nM fun e=>by
   subst e;rw [bO] at rH;injection rH with e
   subst e;exact dx rfl
  exact ab fun hA=>aU rfl (J hA (ba (bz (by simp) (aR (by simp) (aR (by simp) (bz (by simp) (aR (by simp) (ar rfl rfl ⟨by rw [mJ],E⟩))))))))
 refine bQ wide (by kernel_rfl) (aj (fun R=>(av b5 rfl)) (aj (fun R=>(bg dz rfl ((U.I R).cell rfl))) (aj (fun R=>(d' rfl)) (aj (fun R=>(ca cP rfl rfl (by omega))) (aj (fun R=>(dB eA rfl)) (aj (fun R=>(bg bB rfl ((cu.I R) 0 _ rfl))) (aj (fun R=>(av b5 rfl)) (aj (fun R=>(bg dz rfl ((ah.I R).cell rfl))) (aj (fun R=>(d' rfl)) (aj (fun R=>(ca cP rfl rfl (by omega))) (aj (fun R=>(dB eA rfl)) (aj (fun R=>(bg bB rfl ((yt.I R) 0 _ rfl))) (aj (fun R=>(e3 rfl rfl)) ?_)))))))))))));refine aj (fun R=>(d' rfl)) (aM (bJ dx) (fun R=>(av b5 rfl)) (aM (bJ dx) (fun R=>(bg dz rfl ((U.I R).cell rfl))) (aM (bJ dx) (fun R=>(d' rfl)) (aM (bJ dx) (fun R=>(ca cP rfl rfl (by omega))) (aM (bJ dx) (fun R=>(dB h8 rfl)) (aM (bJ dx) (fun R=>(bc aJ rfl rfl (cu.I R).tr)) (aM (bJ dx) (fun R=>(av b5 rfl)) (aM (bJ dx) (fun R=>(bg dz rfl ((ah.I R).cell rfl))) (aM (bJ dx) (fun R=>(d' rfl)) (aM (bJ dx) (fun R=>(ca cP rfl rfl (by omega))) (aM (bJ dx) (fun R=>(dB h8 rfl)) (aM (bJ dx) (fun R=>(bc aJ rfl rfl (yt.I R).tr)) (EI rfl (bJ dx) (fun cH R=>bE CV rfl) (fun cH R=>dF _ x.2 z.2 _ _ (by have:=JV.gp (List.mem_of_getElem? bO);omega) (eg.bG (E.then R)) (OI.bG (E.then R))) rfl rfl ?_)))))))))))));refine aM (bJ dx) (fun R=>(e4 rfl)) (aj (fun R=>(jA (bJ dx) rfl rfl)) (bS rfl fun iv R=>?_));replace U:=U.I R;replace ah:=ah.I R;replace E:=E.then R;refine au hg ?_;refine a1 rfl (fun pd=>?_) (fun pd=>?_)
 ·have mJ:JV.p0 v y=false:=JV.nM fun e=>by
   subst e;rw [bO] at rH;injection rH with e
   subst e;rw [JV.su] at pd;cases pd
  exact ab fun hh=>aU rfl (J hh (ba (bz (by simp) (aR (by simp) (aR (by simp) (bz (by simp) (aR (by simp) (ar rfl rfl ⟨by rw [mJ],E⟩))))))))
 have ajW:∀ (i:Nat) (a b:List UInt8×JV),i<j+1→v.map[i]? = some a→y.map[i]? = some b→a=b:=fun i a b hi ay aQ=>by
  rcases Nat.lt_succ_iff_lt_or_eq.1 hi with h | h
  ·exact ef i a b h ay aQ
  subst h;rw [bO] at ay;rw [rH] at aQ;injection ay with ay
  injection aQ with aQ
  subst ay;subst aQ;exact Prod.ext (Classical.byContradiction dx) (JV.ui.1 (by simpa using pd))
 exact b8 (bz (by simp) (au fG (bP (ag (aO rfl rfl (by omega)) (aG rfl (cF (fK (σ:=Nat) (s:=j) (j+1) ⟨rfl,rfl,rfl,rfl,trivial⟩ ⟨by omega,ajW,U,ah,E⟩ (by omega))))))))
theorem w2:∀ N:Nat,∀ (w:World) (v y:JV) (us vs:List Value),v.sz≤N→ao [] w v.D us→ao [] w y.D vs→Calls Tryz.prog 24 [.agg us.toArray,.agg vs.toArray].toArray w (bM fun u w'=>u = .bool (JV.p0 v y)∧Mod [] w w')
 | 0,w,v,y,us,vs,h,arZ,xw=>absurd (JV.oq v) (by omega)
 | N+1,w,v,y,us,vs,h,arZ,xw=>CW N (w2 N) w v y us vs h arZ xw
theorem US (w:World) (v y:JV) (us vs:List Value) (arZ:ao [] w v.D us) (xw:ao [] w y.D vs):Calls Tryz.prog 24 [.agg us.toArray,.agg vs.toArray].toArray w (bM fun u w'=>u = .bool (JV.p0 v y)∧Mod [] w w'):=w2 v.sz w v y us vs (Nat.le_refl _) arZ xw
set_option maxRecDepth 10000
theorem aa5:ZS Tryz.prog 226:=fun args w=>run_callFunc_extern Tryz.func226 (by kernel_rfl) (by kernel_rfl) (by kernel_rfl) (by kernel_rfl) args w
theorem UT:aP Tryz.prog 192:=aP.of Tryz.func192 (by kernel_rfl) (by kernel_rfl)
theorem UU:aP Tryz.prog 160:=aP.of Tryz.func160 (by kernel_rfl) (by kernel_rfl)
theorem jM:rF Tryz.prog 51 7=true:=by kernel_rfl
theorem Kf:aP Tryz.prog 124:=aP.of Tryz.func124 (by kernel_rfl) (by kernel_rfl)
theorem hC:vM Tryz.prog 51 [(0,1),(1,6)]=true:=by kernel_rfl
theorem ev:hD Tryz.prog 51 ([S [],.int .i64 0,.bool false,.int .i64 0,S [],.slice none 0 0,.slice none 0 0]):=by unfold hD;kernel_rfl
theorem UW:aP Tryz.prog 123:=aP.of Tryz.func123 (by kernel_rfl) (by kernel_rfl)
theorem UX (w:World) (a b:aa):Calls Tryz.prog 192 [S a,S b].toArray w (bM fun u w'=>u = .int .i64 (p1 a b)∧Mod [] w w'):=by
 refine enter Tryz.func192 rfl rfl rfl (l:=[(0,_),(1,_)]) ⟨rfl,rfl,trivial⟩ ?_;have E:=Mod.refl [] w;refine ab fun aV=>aU rfl (J aV (ab fun aL=>ak 2 rfl (ag ((LV aa5 rfl rfl).to (by rw [vN])) ?_)));exact aU rfl (J aL (ba (ar rfl rfl ⟨rfl,E⟩)))
theorem UY (w:World) (a b:aa):Calls Tryz.prog 160 [S a,S b].toArray w (bM fun u w'=>u = .int .i64 (p1 a b)∧Mod [] w w'):=by
 refine enter Tryz.func160 rfl rfl rfl (l:=[(0,_),(1,_)]) ⟨rfl,rfl,trivial⟩ ?_;have E:=Mod.refl [] w;refine ab fun aV=>aU rfl (J aV (ab fun aL=>ak 2 rfl (cQ (bE UT rfl) (UX _ _ _) fun aB R=>?_)));replace E:=E.then R;exact aU rfl (J aL (ba (ar rfl rfl ⟨rfl,E⟩)))
theorem EJ (w:World) (a b:aa) (us vs:List Value):Calls Tryz.prog 124 [.agg (S a::us).toArray,.agg (S b::vs).toArray].toArray w (bM fun u w'=>u = .int .i64 (p1 a b)∧Mod [] w w'):=by
 refine enter Tryz.func124 rfl rfl rfl (l:=[(0,_),(1,_)]) ⟨rfl,rfl,trivial⟩ ?_;have E:=Mod.refl [] w;refine ab fun aV=>ep rfl rfl rfl fun g1 aB bT=>?_;have bI:=bT.le E;replace E:=E.then bT.mod;have U:=bT.aA;refine ep rfl rfl rfl fun g2 cO cW=>?_;have b9:=cW.le E;have bR:=cW.ne U;replace U:=U.I cW.mod;replace E:=E.then cW.mod;have ah:=cW.aA;refine aU rfl (J aV (ab fun aL=>ag (av eA rfl) (ag (bg bB rfl (U.cell rfl)) (ag (av eA rfl) (ag (bg bB rfl (ah.cell rfl)) (cQ (bE UU rfl) (UY _ _ _) fun gb R=>?_))))));replace U:=U.I R;replace ah:=ah.I R;replace E:=E.then R;exact aU rfl (J aL (ba (ar rfl rfl ⟨rfl,E⟩)))
theorem aa6 (w:World) (m:List (aa×JV)) (v:Value) (arZ:a8 [] w (.ia 7 (m.map JV.hP)) v) (k:aa) (ajX z2 z3 z4 z5 ajY:Value) (ay:en m) (cj:m.length≤1353245080310):Calls Tryz.prog 123 [v,.agg [S k,ajX,z2,z3,z4,z5,ajY].toArray,.func (.func 124) #[] #[]].toArray w (bM fun u w'=>u = .tuple #[.int .i64 (fi m k),.bool (look m k).isSome]∧Mod [] w w'):=by
 refine enter Tryz.func123 rfl rfl rfl (l:=[(0,_),(1,_),(2,_)]) ⟨rfl,rfl,rfl,trivial⟩ ?_;have E:=Mod.refl [] w;obtain⟨ad,c,rfl,fA,gB⟩:∃ ad c,v = .slice ad m.length c∧m.length≤c∧c≤9223372036854775807:=by
  obtain⟨ad,c,h1,aq,aT⟩:=arZ.uj;rw [List.length_map] at h1 aq;exact⟨ad,c,h1,aq,aT⟩
 refine ab fun aV=>ep rfl rfl rfl fun g1 aB bT=>?_;have bI:=bT.le E;replace E:=E.then bT.mod;have U:=bT.aA;refine ak 2 rfl (J aV (ab fun aL=>aG rfl (ag (bs Tryz.underlying23 rfl) (aU rfl (J aL (ab fun aX=>ak 3 rfl (J aX (ax fun bt=>eE ?_))))))));refine bX (σ:=Nat×Nat) (fun⟨i,j⟩=>[(0,.slice ad m.length c),(2,.func (.func 124) #[] #[]),(4,.pointer (some ⟨g1,0,none⟩)),(8,.int .i64 m.length),(9,.int .i64 (i:Int)),(10,.int .i64 (j:Int))]) (fun⟨i,j⟩ aB=>i≤j∧j≤m.length∧(∀ (a:Nat) (y:aa×JV),a<i→m[a]? = some y→eQ y.1 k=true)∧(∀ (a:Nat) (y:aa×JV),j≤a→m[a]? = some y→eQ y.1 k=false)∧aE aB g1 51 [S k,ajX,z2,z3,z4,z5,ajY]∧Mod [] w aB) (fun⟨i,j⟩=>j-i) (⟨0,m.length⟩) ⟨rfl,rfl,rfl,rfl,rfl,rfl,trivial⟩ (⟨by omega,by omega,fun a y h=>by omega,fun a y h aZ=>(by rw [List.getElem?_eq_none h] at aZ;cases aZ),U,E⟩) ?_;rintro⟨i,j⟩ cO ⟨xx,dY,h1,aq,U,E⟩;refine ax fun bN=>ab fun b2=>ak 3 rfl (J b2 ?_);refine aK rfl (fun vO=>?_) (fun vO=>?_);rotate_left
 ·refine bo (aR (by simp) (aR (by simp) (bU (au bt (ax fun cJ=>?_)))))
  by_cases ic:(i:Int)<(m.length:Int)
  ·have OJ:i=j:=by omega
   subst OJ;have EL:=yv (by omega) h1 aq;obtain⟨x,bO⟩:∃ x,m[i]? = some x:=⟨_,List.getElem?_eq_getElem (by omega)⟩;obtain⟨j6,k7,dL,eg,gA⟩:=JV.kf arZ bO;obtain⟨jI,jJ,ja,h3,rfl,k8,lz⟩:=JV.a' eg;have cu:=gA.I E;have hy:=JV.ho arZ;obtain rfl:=dL;have jN:decide (p1 x.1 k=0)=(look m k).isSome:=(afo ay EL bO).symm;refine bQ wide (by kernel_rfl) (f' 5 rfl rfl (aM (bd ic) (fun R=>(d' rfl)) (aM (bd ic) (fun R=>(d' rfl)) (aM (bd ic) (fun R=>(d' rfl)) (aM (bd ic) (fun R=>(ca cP rfl rfl (by omega))) (aM (bd ic) (fun R=>(bc jM rfl rfl (cu.I R))) (aM (bd ic) (fun R=>(bc (vs:=[_,_,_,_,_,_,_]) jM rfl rfl ((U.I R).cs rfl))) (EI rfl (bd ic) (fun cH R=>uk Kf rfl rfl) (fun cH R=>EJ _ x.1 k _ _) rfl rfl (aM (bd ic) (fun R=>(lS rfl rfl)) (aj (fun R=>(lT (bd ic) rfl rfl)) (f' 2 rfl rfl (bS rfl fun iu R=>?_))))))))))));replace U:=U.I R;replace E:=E.then R;exact au cJ (ba (cr rfl rfl rfl ⟨by rw [EL,← jN],E⟩))
  have OJ:i=j:=by omega
  subst OJ;have EL:=yv (by omega) h1 aq;have jN:false=(look m k).isSome:=(EM ay (by omega)).symm;refine bQ wide (by kernel_rfl) (f' 5 rfl rfl (eF rfl (bJ ic) (eF rfl (bJ ic) (eF rfl (bJ ic) (eF rfl (bJ ic) (eF rfl (bJ ic) (eF rfl (bJ ic) (eF rfl (bJ ic) (eF rfl (bJ ic) (aj (fun R=>(jA (bJ ic) rfl rfl)) (f' 2 rfl rfl (bS rfl fun js R=>?_))))))))))));replace U:=U.I R;replace E:=E.then R;exact au cJ (ba (cr rfl rfl rfl ⟨by rw [EL,← jN],E⟩))
 have bH:(i+j) / 2<m.length:=by omega
 obtain⟨x,bO⟩:∃ x,m[((i+j) / 2)]? = some x:=⟨_,List.getElem?_eq_getElem (by omega)⟩;obtain⟨j6,k7,dL,eg,gA⟩:=JV.kf arZ bO;obtain⟨jI,jJ,ja,h3,rfl,k8,lz⟩:=JV.a' eg;have cu:=gA.I E;have hy:=JV.ho arZ;obtain rfl:=dL;refine b8 (au bN (eE (ab fun cd=>ak 2 rfl (ag (aO rfl rfl (by omega)) (ag (p2 (r:=((i:Int)+j)) Tryz.underlying3 Tryz.underlying114 rfl (fy _ (by omega))) (ag (UZ (r:=(((i+j) / 2:Nat):Int)) rfl rfl (by omega) (by rw [← HW];exact LW _)) (ag (p2 (r:=(((i+j) / 2:Nat):Int)) Tryz.underlying114 Tryz.underlying3 rfl (wrap64_in _ (by omega))) (aU rfl (J cd (ax fun cD=>bQ wide (by kernel_rfl) (f' 3 rfl rfl ?_)))))))))));refine aj (fun R=>(ca cP rfl rfl (by omega))) (aj (fun R=>(bc jM rfl rfl (cu.I R))) (aj (fun R=>(bc (vs:=[_,_,_,_,_,_,_]) jM rfl rfl ((U.I R).cs rfl))) (AI (fun cH R=>uk Kf rfl rfl) (fun cH R=>EJ _ x.1 k _ _) rfl rfl (aj (fun R=>(cL rfl rfl)) (bS rfl fun gb R=>?_)))));replace U:=U.I R;replace E:=E.then R;refine au cD ?_;refine aK rfl (fun ib=>?_) (fun ib=>?_)
 ·have afn:∀ (a:Nat) (y:aa×JV),a<(i+j) / 2+1→m[a]? = some y→eQ y.1 k=true:=fun a y U' aZ=>by
   rcases Nat.lt_succ_iff_lt_or_eq.1 U' with h | h
   ·exact gi (rI ay aZ bO h) (rJ.1 ib)
   subst h;rw [bO] at aZ;injection aZ with aZ;subst aZ;exact rJ.1 ib
  exact bP (aG rfl (ag (cS (r:=(((i+j) / 2+1:Nat):Int)) rfl rfl (by rw [wrap64_in _ (by omega)];omega)) (aU rfl (cF (bz (by simp) (fK (σ:=Nat×Nat) (s:=⟨i,j⟩) (⟨(i+j) / 2+1,j⟩) ⟨rfl,rfl,rfl,rfl,rfl,rfl,trivial⟩ ⟨by omega,by omega,afn,aq,U,E⟩ (by dsimp only;omega)))))))
 have aa7:∀ (a:Nat) (y:aa×JV),(i+j) / 2≤a→m[a]? = some y→eQ y.1 k=false:=fun a y U' aZ=>by
  cases EK:eQ y.1 k with
  | false=>rfl
  | true=>
   rcases Nat.lt_or_ge ((i+j) / 2) a with h | h
   ·exact absurd (rJ.2 (gi (rI ay bO aZ h) EK)) ib
   have:a=(i+j) / 2:=by omega
   subst this;rw [bO] at aZ;injection aZ with aZ;subst aZ;exact absurd (rJ.2 EK) ib
 exact bP (ak 2 rfl (cF (bz (by simp) (fK (σ:=Nat×Nat) (s:=⟨i,j⟩) (⟨i,(i+j) / 2⟩) ⟨rfl,rfl,rfl,rfl,rfl,rfl,trivial⟩ ⟨by omega,by omega,h1,aa7,U,E⟩ (by dsimp only;omega)))))
theorem yn (w:World) (m:List (aa×JV)) (v:Value) (arZ:a8 [] w (.ia 7 (m.map JV.hP)) v) (k:aa) (ay:en m) (cj:m.length≤1353245080310):Calls Tryz.prog 69 [v,S k].toArray w (bM fun u w'=>u = .tuple #[.int .i64 (fi m k),.bool (look m k).isSome]∧Mod [] w w'):=by
 refine enter Tryz.func69 rfl rfl rfl (l:=[(0,_),(1,_)]) ⟨rfl,rfl,trivial⟩ ?_;have E:=Mod.refl [] w;refine ab fun aV=>ak 2 rfl (J aV (ab fun aL=>ak 2 rfl (ag (a7 (cs:=[_,_,_,_,_,_,_]) hC ev rfl rfl) (cQ (bE UW rfl) (aa6 _ m _ (arZ.bG E) k _ _ _ _ _ _ ay cj) fun aB R=>?_))));replace E:=E.then R;exact ak 4 rfl (J aL (ba (cr rfl rfl rfl ⟨rfl,E⟩)))
set_option maxRecDepth 10000
theorem cA:hD Tryz.prog 25 ([.int .i64 0,.bool false,.int .i64 0,S [],.slice none 0 0,.slice none 0 0]):=by unfold hD;kernel_rfl
theorem HS:aP Tryz.prog 69:=aP.of Tryz.func69 (by kernel_rfl) (by kernel_rfl)
theorem gT:vM Tryz.prog 25 [(0,1),(1,1),(2,1),(3,1),(4,1),(5,1)]=true:=by kernel_rfl
theorem CY (A:List Nat) (w0 w:World) (ZT:Mod [] w0 w) (v:JV) (us:List Value) (arZ:ao A w0 v.D us) (k:aa) (ay:en v.map) (cj:v.map.length≤1353245080310):Calls Tryz.prog 83 [.agg us.toArray,S k].toArray w (bM fun u w'=>∃ gd,u = .tuple #[.agg gd.toArray,.bool (v.get k).isSome]∧ao A w0 ((v.get k).getD JV.gN).D gd∧Mod [] w w'):=by
 refine enter Tryz.func83 rfl rfl rfl (l:=[(0,_),(1,_)]) ⟨rfl,rfl,trivial⟩ ?_;have E:=Mod.refl [] w;obtain⟨al,cl,am,cm,rfl,kP,jF⟩:=JV.a' arZ;refine ab fun aV=>ep rfl rfl rfl fun g1 aB bT=>?_;have bI:=bT.le E;replace E:=E.then bT.mod;have U:=bT.aA;refine bp cA rfl fun g2 cO cW=>?_;have b9:=cW.le E;have bR:=cW.ne U;replace U:=U.I cW.mod;replace E:=E.then cW.mod;have ah:=cW.aA;refine aU rfl (J aV (ab fun aL=>ag (av b5 rfl) (ag (bg dz rfl (U.cell rfl)) (aG rfl (cQ (bE HS rfl) (yn _ v.map _ ((jF.e6 (by simp)).bG (ZT.then E)) k ay cj) fun gb R=>?_)))));replace U:=U.I R;replace ah:=ah.I R;replace E:=E.then R;refine ak 5 rfl (J aL (ax fun aX=>ab fun bt=>ag (av hz rfl) (ag (bg dN rfl (U.cell rfl)) (ag (fj rfl rfl) ?_))));refine da (fun yw:v.kind≠5=>?_) (fun yw=>?_)
 ·refine ak 4 rfl (J bt (aF rfl ?_));have ku:v.get k=none:=by simp [JV.get,yw]
  refine ab fun bN=>ag (a7 (cs:=[_,_,_,_,_,_]) gT cA rfl rfl) (bm (vs:=[_,_,_,_,_,_]) aJ ah rfl rfl rfl (by simp [Value.oneCell']) (by simp) fun iu kS=>?_);replace U:=U.ne kS.mod bR;replace E:=E.own kS.mod b9;replace ah:aE iu g2 _ [_,_,_,_,_,_]:=kS.aA;exact aU rfl (J bN (ba (aR (by simp) (jn (vs:=[_,_,_,_,_,_]) rfl aJ rfl rfl (ah.cs rfl) rfl ⟨_,by rw [ku];rfl,by rw [ku];exact JV.gO,E⟩))))
 refine ak 4 rfl (J bt ?_);refine a1 rfl (fun EN=>?_) (fun EN=>?_)
 ·have ku:v.get k=none:=by
   have h:look v.map k=none:=by simpa using EN
   simp [JV.get,h]
  refine ab fun b2=>ag (a7 (cs:=[_,_,_,_,_,_]) gT cA rfl rfl) (bm (vs:=[_,_,_,_,_,_]) aJ ah rfl rfl rfl (by simp [Value.oneCell']) (by simp) fun js hs=>?_);replace U:=U.ne hs.mod bR;replace E:=E.own hs.mod b9;replace ah:aE js g2 _ [_,_,_,_,_,_]:=hs.aA;exact aU rfl (J b2 (ba (aR (by simp) (jn (vs:=[_,_,_,_,_,_]) rfl aJ rfl rfl (ah.cs rfl) rfl ⟨_,by rw [ku];rfl,by rw [ku];exact JV.gO,E⟩))))
 have ey:v.kind=5:=Classical.byContradiction yw;obtain⟨x,bO,ap9,EO⟩:=ss ay (by simpa using EN);have yx:v.get k=some x.2:=by simp [JV.get,ey,EO]
 have yo:=(List.getElem?_eq_some_iff.1 bO).1;obtain⟨j6,k7,dL,eg,gA⟩:=JV.kf jF bO;obtain⟨jI,jJ,ja,h3,rfl,k8,lz⟩:=JV.a' eg;have cu:=gA.I (ZT.then E);obtain rfl:=dL;refine b8 (au aX (ab fun cd=>ag (av b5 rfl) (ag (bg dz rfl (U.cell rfl)) (aG rfl (ag (ca cP rfl rfl (by omega)) (ag (dB h8 rfl) (ag (bc aJ rfl rfl cu.tr) (bm (vs:=[_,_,_,_,_,_]) aJ ah rfl rfl rfl (by simp [Value.oneCell']) (by simp) fun jD np=>?_))))))));replace U:=U.ne np.mod bR;replace E:=E.own np.mod b9;replace ah:aE jD g2 _ [_,_,_,_,_,_]:=np.aA;exact aU rfl (J cd (ba (jn (vs:=[_,_,_,_,_,_]) rfl aJ rfl rfl (ah.cs rfl) rfl ⟨_,by rw [yx];rfl,by rw [yx];exact eg,E⟩)))
theorem Bs (A:List Nat) (w0 w:World) (v:JV) (us:List Value) (arZ:ao A w0 v.D us):Calls Tryz.prog 68 [.agg us.toArray].toArray w (bM fun u w'=>a8 A w0 (.ia 7 (v.eS.map JV.hP)) u∧Mod [] w w'):=by
 refine enter Tryz.func68 rfl rfl rfl (l:=[(0,_)]) ⟨rfl,trivial⟩ ?_;have E:=Mod.refl [] w;obtain⟨al,cl,am,cm,rfl,kP,jF⟩:=JV.a' arZ;refine ab fun aV=>ep rfl rfl rfl fun g1 aB bT=>?_;have bI:=bT.le E;replace E:=E.then bT.mod;have U:=bT.aA;refine aU rfl (J aV (ax fun aL=>ab fun aX=>ag (av hz rfl) (ag (bg dN rfl (U.cell rfl)) (ag (fj rfl rfl) (J aX ?_)))));refine aK rfl (fun cN=>?_) (fun cN=>?_)
 ·have cc:v.eS = []:=by simp [JV.eS,cN]
  exact ab fun bt=>aU rfl (J bt (ba (aR (by simp) (ar rfl rfl ⟨by rw [cc];exact a8.ej,E⟩))))
 have cc:v.eS=v.map:=by simp [JV.eS];intro h;exact absurd h cN
 exact b8 (au aL (ab fun bN=>ag (av b5 rfl) (ag (bg dz rfl (U.cell rfl)) (aU rfl (J bN (ba (ar rfl rfl ⟨by rw [cc];exact jF,E⟩)))))))
theorem LX (A:List Nat) (w0 w:World) (ZT:Mod [] w0 w) (m:List (aa×JV)) (v:Value) (arZ:a8 A w0 (.ia 7 (m.map JV.hP)) v) (k:aa):Calls Tryz.prog 86 [v,S k].toArray w (bM fun u w'=>∃ gd,u = .tuple #[.agg gd.toArray,.bool (look m k).isSome]∧ao A w0 ((look m k).getD JV.gN).D gd∧Mod [] w w'):=by
 refine enter Tryz.func86 rfl rfl rfl (l:=[(0,_),(1,_)]) ⟨rfl,rfl,trivial⟩ ?_;have E:=Mod.refl [] w;obtain⟨ad,c,rfl,fA,gB⟩:∃ ad c,v = .slice ad m.length c∧m.length≤c∧c≤9223372036854775807:=by
  obtain⟨ad,c,h1,aq,aT⟩:=arZ.uj;rw [List.length_map] at h1 aq;exact⟨ad,c,h1,aq,aT⟩
 refine ab fun aV=>bp cA rfl fun g1 aB bT=>?_;have bI:=bT.le E;replace E:=E.then bT.mod;have U:=bT.aA;refine aU rfl (J aV (ax fun aL=>ab fun aX=>aG rfl (ag (bs Tryz.underlying23 rfl) (aG rfl (J aX (eE (bX (σ:=Nat) (fun i=>[(1,S k),(4,.pointer (some ⟨g1,0,none⟩)),(5,.bool false),(8,.slice ad m.length c),(9,.int .i64 m.length),(10,.int .i64 (i:Int))]) (fun i aB=>i≤m.length∧(∀ (j:Nat) (y:aa×JV),j<i→m[j]? = some y→y.1≠k)∧aE aB g1 25 [.int .i64 0,.bool false,.int .i64 0,S [],.slice none 0 0,.slice none 0 0]∧w.heap.size≤g1∧Mod [] w aB) (fun i=>m.length-i) (0) ⟨rfl,rfl,rfl,rfl,rfl,rfl,trivial⟩ (⟨by omega,fun j y h=>by omega,U,bI,E⟩) ?_)))))));rintro i cO ⟨hi,dD,U,bI,E⟩;refine ab fun bt=>ag (cL rfl rfl) (J bt (ax fun bN=>?_));refine aK rfl (fun vP=>?_) (fun vP=>?_);rotate_left
 ·refine bo (aR (by simp) (aR (by simp) (bU (au aL (ab fun cf=>ag (a7 (cs:=[_,_,_,_,_,_]) gT cA rfl rfl) (bm (vs:=[_,_,_,_,_,_]) aJ U rfl rfl rfl (by simp [Value.oneCell']) (by simp) fun jD np=>?_))))));replace E:=E.own np.mod bI;replace U:aE jD g1 _ [_,_,_,_,_,_]:=np.aA;exact aU rfl (J cf (ba (jn (vs:=[_,_,_,_,_,_]) rfl aJ rfl rfl (U.cs rfl) rfl ⟨_,by rw [hQ fun j y aZ=>dD j y (by have:=(List.getElem?_eq_some_iff.1 aZ).1;omega) aZ];rfl,by rw [hQ fun j y aZ=>dD j y (by have:=(List.getElem?_eq_some_iff.1 aZ).1;omega) aZ];exact JV.gO,E⟩)))
 obtain⟨x,bO⟩:∃ x,m[i]? = some x:=⟨_,List.getElem?_eq_getElem (by omega)⟩;obtain⟨j6,k7,dL,eg,gA⟩:=JV.kf arZ bO;obtain⟨jI,jJ,ja,h3,rfl,k8,lz⟩:=JV.a' eg;have cu:=gA.I (ZT.then E);have hy:=JV.ho arZ;obtain rfl:=dL;refine b8 (au bN (ax fun b2=>eE (ab fun cd=>ag (ca cP rfl rfl (by omega)) (ag (bc jM rfl rfl cu) (bp ev rfl fun g2 gb cW=>?_)))));have b9:=cW.le E;have bR:=cW.ne U;replace U:=U.I cW.mod;replace E:=E.then cW.mod;have ah:=cW.aA;refine bm (vs:=[_,_,_,_,_,_,_]) jM ah rfl rfl rfl (by simp [Value.oneCell']) (by simp) fun iu kS=>?_;replace U:=U.ne kS.mod bR;replace E:=E.own kS.mod b9;replace ah:aE iu g2 _ [_,_,_,_,_,_,_]:=kS.aA;refine J cd (ab fun cD=>ag (av eA rfl) (ag (bg bB rfl (ah.cell rfl)) (aG rfl (ag (dG rfl rfl) (J cD ?_)))));refine aK rfl (fun vO=>?_) (fun vO=>?_)
 ·have afp:look m k=some x.2:=Bv dD bO vO;refine ab fun cJ=>ag (av h8 rfl) (ag (bc (vs:=[_,_,_,_,_,_]) aJ rfl rfl (ah.cs rfl)) (bm (vs:=[_,_,_,_,_,_]) aJ U rfl rfl rfl (by simp [Value.oneCell']) (by simp) fun js hs=>?_));replace ah:=ah.ne hs.mod (Ne.symm bR);replace E:=E.own hs.mod bI;replace U:aE js g1 _ [_,_,_,_,_,_]:=hs.aA;exact aU rfl (J cJ (ba (bz (by simp) (aR (by simp) (aR (by simp) (bz (by simp) (aR (by simp) (jn (vs:=[_,_,_,_,_,_]) rfl aJ rfl rfl (U.cs rfl) rfl ⟨_,by rw [afp];rfl,by rw [afp];exact eg,E⟩))))))))
 have aa3:∀ (j:Nat) (y:aa×JV),j<i+1→m[j]? = some y→y.1≠k:=fun j y dY aZ=>by
  rcases Nat.lt_succ_iff_lt_or_eq.1 dY with h | h
  ·exact dD j y h aZ
  subst h;rw [bO] at aZ;injection aZ with aZ;subst aZ;exact vO
 exact b8 (bz (by simp) (au b2 (bP (ag (aO rfl rfl (by omega)) (aG rfl (cF (fK (σ:=Nat) (s:=i) (i+1) ⟨rfl,rfl,rfl,rfl,rfl,rfl,trivial⟩ ⟨by omega,aa3,U,bI,E⟩ (by omega))))))))
end Go.Proofs.YtnihidkbkhcfoaaGreatDoor.V
