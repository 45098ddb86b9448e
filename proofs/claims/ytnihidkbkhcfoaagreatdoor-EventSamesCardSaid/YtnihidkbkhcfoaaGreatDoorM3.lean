/-
  A part of the proof: names of servers, users, rooms and keys in plain Lean: the runes of a text of one kind, and its bytes; library functions that reading uses: the shelf's contracts, in the words of the own base; several plain operations taken in one computed step; truths made literal. No condition of its own.
-/
import Derived.Test.YtnihidkbkhcfoaaGreatDoorM2
import Derived.Lib.IndexMore
import Derived.Lib.Strings
import Derived.Laws.Runes
import Derived.Scope
import Derived.Test.YtnihidkbkhcfoaaGreatDoorM1
import Derived.Shelf.Small.Wraps
import Derived.Shelf.Strings.Search1
import Derived.Shelf.Strings.Search2
import Derived.Shelf.Strings.Cut
import Derived.Shelf.Strings.Shaped
import Derived.Shelf.Strings.Runes
import Derived.Test.YtnihidkbkhcfoaaGreatDoorProg
import Derived.Lib.AtoiAll
import Derived.Shelf.Strings.SlTrimAscii
import Derived.Shelf.Strings.Trim
import Derived.Shelf.Small.Utf8
import Derived.Shelf.Small.Bits
import Derived.Shelf.Small.Strs
import Derived.Shelf.Utf8.AppendRune
import Derived.Shelf.Strconv.Atoi
import Derived.Shelf.Strconv.Itoa0
import Derived.Shelf.Strconv.Itoa1
import Derived.Shelf.LaysM
import Derived.Shelf.Strconv.Itoa2
import Derived.Shelf.Strconv.Itoa3
import Derived.Shelf.Strconv.AtoiErrFast
import Derived.Shelf.Strconv.ParseIntEmpty
import Derived.Shelf.Strconv.AtoiFail
import Derived.Shelf.Strconv.Clone
import Derived.Shelf.Strconv.SyntaxError
import Derived.Shelf.LaysC
import Derived.Shelf.Strconv.ToError
import Derived.Shelf.Strconv.Lower
import Derived.Shelf.Strconv.ParseUint10
import Derived.Shelf.Strconv.ParseUint10Empty
import Derived.Shelf.Strconv.ParseUint10Any
import Derived.Shelf.Strconv.ParseInt10
import Derived.Shelf.Strconv.AtoiLong
import Derived.Shelf.Strconv.AtoiInnerAll
import Derived.Shelf.Strconv.RangeError
import Derived.Shelf.Strconv.ToErrorRange
import Derived.Shelf.Strconv.AtoiAll
import Derived.Shelf.Strconv.ErrVarAll
import Derived.Shelf.Strings.Prefix
import Derived.Shelf.Strings.AsciiSet
import Derived.Shelf.Unicode.DecodeSlow
import Derived.Shelf.Unicode.DecodeAny
import Derived.Ground.Names2Prog
import Derived.Shelf.Slices.Clone
set_option linter.unusedVariables false
set_option linter.unusedSimpArgs false
namespace Go.Proofs.YtnihidkbkhcfoaaGreatDoor.V
open Go
theorem aac {s:aa} {p:Nat} {b:UInt8} (h:s[p]? = some b):gU (s.drop p) 0=b.toNat:=by
 unfold gU;rw [List.getD_eq_getElem?_getD,List.getElem?_drop,Nat.add_zero,h];rfl
theorem dec_lt {s:aa} {p:Nat} {b:UInt8} (h:s[p]? = some b) (aS:b.toNat<128):Utf8.decode ⟨⟨s⟩⟩ p=(b.toNat,1):=by
 rw [o2];unfold ng;rw [aac h,if_pos (by omega)]
theorem L8 {s:aa} {p:Nat} {b:UInt8} (h:s[p]? = some b) (aS:128≤b.toNat):∃ c m,Utf8.decode ⟨⟨s⟩⟩ p=(c,m)∧128≤c∧c≤1114111∧¬ (55296≤c∧c≤57343):=by
 have bJ:=(List.getElem?_eq_some_iff.1 h).1;rw [o2];rcases pO (ib bJ)with⟨_,aq⟩ | ⟨h1,aq,aU,bM,cL,eW⟩
 ·exact⟨65533,1,aq,by omega,by omega,by omega⟩
 refine⟨_,_,aq,?_,bM,cL⟩;rcases Nat.lt_or_ge (aJ (s.drop p)).1 128 with bj | bj
 ·exfalso;unfold fj at aU;rw [if_pos bj] at aU;have cg:s.drop p=b::s.drop (p+1):=by
   rw [List.drop_eq_getElem_cons bJ]
   congr 1
   exact(List.getElem?_eq_some_iff.1 h).2
  rw [cg] at aU h1;cases hm:(aJ (b::s.drop (p+1))).2 with
  | zero=>exact h1 hm
  | succ m=>
   rw [hm,List.take_succ_cons] at aU;simp only [List.map_cons,List.cons.injEq] at aU;rw [cg] at bj;omega
 exact bj
def gn (q:Nat→Bool) (s:aa):Bool:=decide (s≠[])&&s.all (fun b=>q b.toNat)
theorem all_succ {q:Nat→Bool} {s:aa} {p:Nat} {b:UInt8} (h:s[p]? = some b) (ay:(s.take p).all (fun b=>q b.toNat)=true) (aS:q b.toNat=true):(s.take (p+1)).all (fun b=>q b.toNat)=true:=by
 have bJ:=(List.getElem?_eq_some_iff.1 h).1;rw [List.take_succ_eq_append_getElem bJ,(List.getElem?_eq_some_iff.1 h).2,List.all_append,ay];simp [aS]
theorem AG {q:Nat→Bool} {s:aa} {p:Nat} {b:UInt8} (h:s[p]? = some b) (aS:q b.toNat=false):gn q s=false:=by
 unfold gn;have:s.all (fun b=>q b.toNat)=false:=by
  rw [List.all_eq_false];exact⟨b,List.mem_of_getElem? h,by simp [aS]⟩
 rw [this,Bool.and_false]
theorem CV {q:Nat→Bool} {s:aa} {p:Nat} (cp:s.length≤p) (ay:(s.take p).all (fun b=>q b.toNat)=true):gn q s=decide (s≠[]):=by
 unfold gn;rw [List.take_of_length_le cp] at ay;rw [ay,Bool.and_true]
theorem HL {q r:Nat→Bool} (h:∀ b:UInt8,q b.toNat=r b.toNat) (s:aa):gn q s=gn r s:=by
 unfold gn
 congr 1
 induction s with
 | nil=>rfl
 | cons b s dK=>simp only [List.all_cons,dK,h b]
def wX (c:Nat):Bool:=decide (97≤(c:Int))&&decide ((c:Int)≤122)
def BK (c:Nat):Bool:=decide (65≤(c:Int))&&decide ((c:Int)≤90)
def sW (c:Nat):Bool:=decide (48≤(c:Int))&&decide ((c:Int)≤57)
abbrev q9:aa:=[46,95,61,45,47,43]
def hc (c:Nat):Bool:=wX c||sW c||decide ((c:Int)=46)||decide ((c:Int)=45)
def iZ (c:Nat):Bool:=wX c||sW c||q9.any (fun b=>decide (b.toNat=c))
def h0 (c:Nat):Bool:=wX c||BK c||sW c||decide ((c:Int)=95)||decide ((c:Int)=45)
def nI (c:Nat):Bool:=wX c||BK c||sW c||decide ((c:Int)=95)
theorem HG (c:Nat) (h:hc c=true):c<128:=by
 simp only [hc,wX,sW,Bool.or_eq_true,Bool.and_eq_true,decide_eq_true_eq] at h;omega
theorem aeO (c:Nat) (h:sW c=true):c<128:=by
 simp only [sW,Bool.and_eq_true,decide_eq_true_eq] at h;omega
theorem OD (c:Nat) (h:iZ c=true):c<128:=by
 simp [iZ,wX,sW] at h;omega
theorem OE (c:Nat) (h:h0 c=true):c<128:=by
 simp only [h0,wX,BK,sW,Bool.or_eq_true,Bool.and_eq_true,decide_eq_true_eq] at h;omega
theorem T5 (c:Nat) (h:nI c=true):c<128:=by
 simp only [nI,wX,BK,sW,Bool.or_eq_true,Bool.and_eq_true,decide_eq_true_eq] at h;omega
/-! ### the first colon -/
def aH (s:aa):Nat:=s.findIdx (fun b=>b == 58)
theorem jm (s:aa):aH s≤s.length:=List.findIdx_le_length
theorem EM (s:aa):Lib.index s [58]=if aH s<s.length then (aH s:Int)else -1:=by
 induction s with
 | nil=>rfl
 | cons b s dK=>
  unfold Lib.index;rw [dK];have cp:([58]:aa).isPrefixOf (b::s)=(b == 58):=by
   simp only [List.isPrefixOf,Bool.and_true];rw [Bool.eq_iff_iff];simp only [beq_iff_eq];exact⟨Eq.symm,Eq.symm⟩
  rw [cp];have cg:=jm s;cases aS:b == 58 with
  | true=>simp [aH,List.findIdx_cons,aS]
  | false=>
   have:aH (b::s)=aH s+1:=by simp [aH,List.findIdx_cons,aS]
   rw [this]
   by_cases h:aH s<s.length
   ·have bk:((aH s:Int) == -1)=false:=by rw [beq_eq_false_iff_ne];omega
    have b2:aH s+1<(b::s).length:=by simp only [List.length_cons];omega
    simp only [if_pos h,bk,if_pos b2,Bool.false_eq_true,if_false];omega
   have b2:¬ aH s+1<(b::s).length:=by simp only [List.length_cons];omega
   simp only [if_neg h,if_neg b2,Bool.false_eq_true,if_false];rfl
theorem Kv (s:aa):Lib.cut s [58]=if aH s<s.length then (s.take (aH s),s.drop (aH s+1),true)else (s,[],false):=by
 unfold Lib.cut;rw [EM]
 by_cases h:aH s<s.length
 ·rw [if_pos h,if_pos h,if_pos (by omega)];simp
 rw [if_neg h,if_neg h,if_neg (by omega)]
def dx (s:aa):Bool:=
 gn hc (s.take (aH s))&&decide (s.length≤255)&&(decide (aH s=s.length)||(decide (s.length-aH s≤6)&&gn sW (s.drop (aH s+1))))
def fw (sign:UInt8) (q:Nat→Bool) (s:aa):Bool:=
 decide (s.length≤255)&&decide (aH s<s.length)&&decide (s.head? = some sign)&&gn q ((s.take (aH s)).drop 1)&&dx (s.drop (aH s+1))
abbrev BL:aa:=[101,100,50,53,53,49,57,58]
def nJ (s:aa):Bool:=decide (s.length≤255)&&decide (s.take 8=BL)&&gn nI (s.drop 8)
/-! ### control: a scope that is not jumped about in -/
section
variable {P:Program} {Q:Exit→Act→World→Prop} {n:Nat} {ds:List Deferred} {l:List (Nat×Value)} {w:World}
theorem HB {c:Code} (h:p3 P c (Exit.noGoto Q) n ds l w):p3 P (.scope c) Q n ds l w:=fun a ay=>wp_scope_straight (h a ay)
theorem HC {e:Exit} (he:∀ j,e≠.goto j) (h:fI Q e n ds l w):fI (Exit.noGoto Q) e n ds l w:=fun a ay=>by
 have:=h a ay;cases e <;> first | exact this | exact absurd rfl (he _)
variable {t t':TypeId} {ty:TypeId} {pos:String} {af:Array Edge} {dd:Option Nat} {gg:Option (Nat×Bool)} {x y:Operand} {ops:Array Oper} {rest:List Oper} {d:Nat}
theorem aeN {d0:TypeDesc} {c:Nat} {k:IntKind} (bf:P.underlying t=some d0) (cf:P.underlying t'=some .string) (ae:a6 l x=some (.int k (c:Int))):bG P l ⟨dd,.convert t t' x,ty,pos,af,gg⟩ w (.string (Utf8.encode c)) w:=fun ρ h=>by
 have h1:=run_convert_int_string (P:=P) w t t' k (c:Int) (by rw [bf];rfl) cf;simp only [execOp,h _ _ ae,Sem.run_bind,h1,Result.andThen,Sem.run_pure]
end
theorem OC {c:Nat} (h1:c≤1114111) (aq:¬ (55296≤c∧c≤57343)) (h:128≤c):∃ rs:aa,Utf8.encode (c:Int)=⟨⟨rs⟩⟩∧2≤rs.length∧rs.length≤4∧∃ b,rs[rs.length-1]? = some b∧128≤b.toNat:=by
 obtain⟨f1,f2,f3⟩:=encode_facts (c:Int) (by rw [ug];simp;omega) (by omega);generalize Utf8.encode (c:Int)=e at f1 f2 f3 ⊢;obtain⟨⟨rs⟩⟩:=e;have bf:(⟨⟨rs⟩⟩:ByteArray).size=rs.length:=rfl;rw [bf] at f1 f2;have cg:rs.length-1<rs.length:=by omega
 exact⟨rs,rfl,f1,f2,rs[rs.length-1],List.getElem?_eq_getElem cg,f3 cg⟩
theorem indexByte_none {s:aa} {b:UInt8} (h:∀ x∈s,x.toNat<128) (aS:128≤b.toNat):Lib.indexByte s b = -1:=by
 induction s with
 | nil=>rfl
 | cons c s dK=>
  have bj:=h c (by simp);have b1:(c == b)=false:=by
   rw [beq_eq_false_iff_ne];intro e;subst e;omega
  unfold Lib.indexByte;rw [b1,dK fun x ae=>h x (by simp [ae])];rfl
theorem y2 (s:aa) (c:Nat) (bj:c<128):decide (0≤Lib.indexByte s c.toUInt8)=s.any (fun b=>decide (b.toNat=c)):=by
 induction s with
 | nil=>rfl
 | cons b s dK=>
  unfold Lib.indexByte;rw [List.any_cons,← dK];have he:(b == c.toUInt8)=decide (b.toNat=c):=by
   rw [Bool.eq_iff_iff];simp only [beq_iff_eq,decide_eq_true_eq];have ck:c.toUInt8.toNat=c:=by
    show(UInt8.ofNat c).toNat=c;exact UInt8.toNat_ofNat_of_lt' (by have:c<256:=(by omega);exact this)
   constructor
   ·intro e;rw [e,ck]
   intro e;exact UInt8.toNat_inj.1 (by rw [ck,e])
  rw [he];have bq:Lib.indexByte s c.toUInt8 = -1∨0≤Lib.indexByte s c.toUInt8:=by
   clear dK he
   induction s with
   | nil=>exact .inl rfl
   | cons x s dK=>
    unfold Lib.indexByte
    split
    ·exact .inr (by omega)
    split
    ·exact .inl rfl
    rename_i h
    rcases dK with h1 | h1
    ·rw [h1] at h;simp at h
    exact .inr (by omega)
  by_cases aS:b.toNat=c
  ·simp [aS]
  simp only [aS,decide_false,Bool.false_eq_true,if_false,Bool.false_or];rcases bq with h | h
  ·rw [h];rfl
  have bk:(Lib.indexByte s c.toUInt8 == -1)=false:=by rw [beq_eq_false_iff_ne];omega
  rw [bk,decide_eq_true h];simp only [Bool.false_eq_true,if_false];exact decide_eq_true (by omega)
end Go.Proofs.YtnihidkbkhcfoaaGreatDoor.V
namespace Go.Proofs
open Go.Shelf
def Tryz.Dy:Go.Shelf.Ren:=⟨fun | 137=>111 | 217=>151 | 266=>184 | n=>n,fun | 9=>9 | 5=>5 | 3=>3 | n=>n,fun | n=>n⟩
theorem Tryz.P':Go.Proofs.Lays.n137 Tryz.prog Tryz.Dy:={
 mixed:=by kernel_rfl
 f137:=Tryz.func111.trans (congrArg some (by kernel_rfl))
 f217:=Tryz.func151.trans (congrArg some (by kernel_rfl))
 f266:=Tryz.func184.trans (congrArg some (by kernel_rfl))
 t3:=Tryz.underlying3
 a3:=Tryz.isAgg3
 z3:=Tryz.sizeOf3
 v3:=Tryz.zeroValue3
 t5:=Tryz.underlying5
 a5:=Tryz.isAgg5
 z5:=Tryz.sizeOf5
 v5:=Tryz.zeroValue5
 t9:=Tryz.underlying9
 a9:=Tryz.isAgg9
 z9:=Tryz.sizeOf9
 v9:=Tryz.zeroValue9}
open Go.RowKit in
theorem Tryz.strings_IndexByte (s:ByteArray) (c:Int) (w:World) :
  Calls Tryz.prog 111 #[.string s,.int .u8 c] w fun e w'=>e = .returned (.int .i64 (Lib.indexByte s.data.toList c.toNat.toUInt8))∧w'=w:=Any.strings_IndexByte Tryz.P' s c w
def Tryz.Dz:Go.Shelf.Ren:=⟨fun | 103=>198 | 210=>231 | 206=>201 | n=>n,fun | 9=>9 | 4=>4 | 24=>179 | 3=>3 | n=>n,fun | n=>n⟩
theorem Tryz.Qa:Go.Proofs.Lays.n103 Tryz.prog Tryz.Dz:={
 mixed:=by kernel_rfl
 f103:=Tryz.func198.trans (congrArg some (by kernel_rfl))
 f206:=Tryz.func201.trans (congrArg some (by kernel_rfl))
 f210:=Tryz.func231.trans (congrArg some (by kernel_rfl))
 t3:=Tryz.underlying3
 a3:=Tryz.isAgg3
 z3:=Tryz.sizeOf3
 v3:=Tryz.zeroValue3
 t4:=Tryz.underlying4
 a4:=Tryz.isAgg4
 z4:=Tryz.sizeOf4
 v4:=Tryz.zeroValue4
 t9:=Tryz.underlying9
 a9:=Tryz.isAgg9
 z9:=Tryz.sizeOf9
 v9:=Tryz.zeroValue9
 t24:=Tryz.underlying179
 a24:=Tryz.isAgg179
 z24:=Tryz.sizeOf179
 v24:=Tryz.zeroValue179}
open Go.RowKit in
theorem Tryz.strings_CutPrefix (s p:ByteArray) (w:World) :
  Calls Tryz.prog 198 #[.string s,.string p] w fun e w'=>e = .returned (.tuple #[.string ⟨(Lib.trimPrefix s.data.toList p.data.toList).toArray⟩,.bool (Lib.hasPrefix s.data.toList p.data.toList)])∧w'=w:=Any.strings_CutPrefix Tryz.Qa s p w
def Tryz.DA:Go.Shelf.Ren:=⟨fun | 145=>194 | 220=>227 | 219=>248 | 217=>151 | 225=>230 | 224=>229 | 267=>258 | 266=>184 | 314=>260 | n=>n,fun | 9=>9 | 4=>4 | 59=>182 | 3=>3 | 5=>5 | 46=>114 | 146=>266 | 51=>117 | n=>n,fun | 1=>1 | n=>n⟩
theorem Tryz.Qb:Go.Proofs.Lays.n145 Tryz.prog Tryz.DA:={
 mixed:=by kernel_rfl
 f145:=Tryz.func194.trans (congrArg some (by kernel_rfl))
 f217:=Tryz.func151.trans (congrArg some (by kernel_rfl))
 f219:=Tryz.func248.trans (congrArg some (by kernel_rfl))
 f220:=Tryz.func227.trans (congrArg some (by kernel_rfl))
 f224:=Tryz.func229.trans (congrArg some (by kernel_rfl))
 f225:=Tryz.func230.trans (congrArg some (by kernel_rfl))
 f266:=Tryz.func184.trans (congrArg some (by kernel_rfl))
 f267:=Tryz.func258.trans (congrArg some (by kernel_rfl))
 f314:=Tryz.func260.trans (congrArg some (by kernel_rfl))
 t3:=Tryz.underlying3
 a3:=Tryz.isAgg3
 z3:=Tryz.sizeOf3
 v3:=Tryz.zeroValue3
 t4:=Tryz.underlying4
 a4:=Tryz.isAgg4
 z4:=Tryz.sizeOf4
 v4:=Tryz.zeroValue4
 t5:=Tryz.underlying5
 a5:=Tryz.isAgg5
 z5:=Tryz.sizeOf5
 v5:=Tryz.zeroValue5
 t9:=Tryz.underlying9
 a9:=Tryz.isAgg9
 z9:=Tryz.sizeOf9
 v9:=Tryz.zeroValue9
 t46:=Tryz.underlying114
 a46:=Tryz.isAgg114
 z46:=Tryz.sizeOf114
 v46:=Tryz.zeroValue114
 t51:=Tryz.underlying117
 a51:=Tryz.isAgg117
 z51:=Tryz.sizeOf117
 v51:=Tryz.zeroValue117
 t59:=Tryz.underlying182
 a59:=Tryz.isAgg182
 z59:=Tryz.sizeOf182
 v59:=Tryz.zeroValue182
 t146:=Tryz.underlying266
 a146:=Tryz.isAgg266
 z146:=Tryz.sizeOf266
 v146:=Tryz.zeroValue266
 g1:=by kernel_rfl}
open Go.RowKit Go.Lib in
theorem Tryz.strings_Cut (s sep:ByteArray) (m:Int) (w:World) (bf:s.size<4294967281) (hm:w.cell? ⟨1,0,none⟩=some (.int .i64 m)) :
  Calls Tryz.prog 194 #[.string s,.string sep] w fun e w'=>e = .returned (.tuple #[.string ⟨(Lib.cut s.data.toList sep.data.toList).1.toArray⟩,.string ⟨(Lib.cut s.data.toList sep.data.toList).2.1.toArray⟩,.bool (Lib.cut s.data.toList sep.data.toList).2.2])∧∃ n,w'=w.drewN n:=Any.strings_Cut Tryz.Qb s sep m w bf hm
def Tryz.Bp:Go.Shelf.Ren:=⟨fun | 145=>194 | 220=>227 | 219=>248 | 217=>151 | 225=>230 | 224=>229 | 267=>258 | 266=>184 | 314=>260 | n=>n,fun | 9=>9 | 4=>4 | 59=>182 | 3=>3 | 5=>5 | 46=>114 | 146=>266 | 51=>117 | n=>n,fun | 1=>1 | n=>n⟩
theorem Tryz.MO:Go.Proofs.LaysM.n145 Tryz.prog Tryz.Bp:={
 mixed:=by kernel_rfl
 f145:=Tryz.func194.trans (congrArg some (by kernel_rfl))
 f217:=Tryz.func151.trans (congrArg some (by kernel_rfl))
 f219:=Tryz.func248.trans (congrArg some (by kernel_rfl))
 f220:=Tryz.func227.trans (congrArg some (by kernel_rfl))
 f224:=Tryz.func229.trans (congrArg some (by kernel_rfl))
 f225:=Tryz.func230.trans (congrArg some (by kernel_rfl))
 f266:=Tryz.func184.trans (congrArg some (by kernel_rfl))
 f267:=Tryz.func258.trans (congrArg some (by kernel_rfl))
 f314:=Tryz.func260.trans (congrArg some (by kernel_rfl))
 t3:=Tryz.underlying3
 a3:=Tryz.isAgg3
 z3:=Tryz.sizeOf3
 v3:=Tryz.zeroValue3
 t4:=Tryz.underlying4
 a4:=Tryz.isAgg4
 z4:=Tryz.sizeOf4
 v4:=Tryz.zeroValue4
 t5:=Tryz.underlying5
 a5:=Tryz.isAgg5
 z5:=Tryz.sizeOf5
 v5:=Tryz.zeroValue5
 t9:=Tryz.underlying9
 a9:=Tryz.isAgg9
 z9:=Tryz.sizeOf9
 v9:=Tryz.zeroValue9
 t46:=Tryz.underlying114
 a46:=Tryz.isAgg114
 z46:=Tryz.sizeOf114
 v46:=Tryz.zeroValue114
 t51:=Tryz.underlying117
 a51:=Tryz.isAgg117
 z51:=Tryz.sizeOf117
 v51:=Tryz.zeroValue117
 t59:=Tryz.underlying182
 a59:=Tryz.isAgg182
 z59:=Tryz.sizeOf182
 v59:=Tryz.zeroValue182
 t146:=Tryz.underlying266
 a146:=Tryz.isAgg266
 z146:=Tryz.sizeOf266
 v146:=Tryz.zeroValue266
 g1:=by kernel_rfl
 i3:=by kernel_rfl
 i4:=by kernel_rfl
 i5:=by kernel_rfl
 i9:=by kernel_rfl
 i46:=by kernel_rfl
 i51:=by kernel_rfl
 i59:=by kernel_rfl
 i146:=by kernel_rfl
 m1:=by kernel_rfl
 s1_3:=fun w h=>Go.Proofs.cell_of_shapedOpen_int (zero:=#[.int .i64 0]) (t:=3) h (of_decide_eq_true (by kernel_rfl)) (by kernel_rfl) rfl (by kernel_rfl) (by kernel_rfl) Tryz.underlying3}
def Tryz.DB:Go.Shelf.Ren:=⟨fun | 151=>170 | 152=>196 | 137=>111 | 119=>228 | 224=>229 | 225=>230 | 217=>151 | 266=>184 | n=>n,fun | 9=>9 | 21=>21 | 4=>4 | 3=>3 | 5=>5 | 0=>0 | 46=>114 | n=>n,fun | n=>n⟩
theorem Tryz.Qc:Go.Proofs.Lays.n151 Tryz.prog Tryz.DB:={
 mixed:=by kernel_rfl
 f119:=Tryz.func228.trans (congrArg some (by kernel_rfl))
 f137:=Tryz.func111.trans (congrArg some (by kernel_rfl))
 f151:=Tryz.func170.trans (congrArg some (by kernel_rfl))
 f152:=Tryz.func196.trans (congrArg some (by kernel_rfl))
 f217:=Tryz.func151.trans (congrArg some (by kernel_rfl))
 f224:=Tryz.func229.trans (congrArg some (by kernel_rfl))
 f225:=Tryz.func230.trans (congrArg some (by kernel_rfl))
 f266:=Tryz.func184.trans (congrArg some (by kernel_rfl))
 t0:=Tryz.underlying0
 a0:=Tryz.isAgg0
 z0:=Tryz.sizeOf0
 v0:=Tryz.zeroValue0
 t3:=Tryz.underlying3
 a3:=Tryz.isAgg3
 z3:=Tryz.sizeOf3
 v3:=Tryz.zeroValue3
 t4:=Tryz.underlying4
 a4:=Tryz.isAgg4
 z4:=Tryz.sizeOf4
 v4:=Tryz.zeroValue4
 t5:=Tryz.underlying5
 a5:=Tryz.isAgg5
 z5:=Tryz.sizeOf5
 v5:=Tryz.zeroValue5
 t9:=Tryz.underlying9
 a9:=Tryz.isAgg9
 z9:=Tryz.sizeOf9
 v9:=Tryz.zeroValue9
 t21:=Tryz.underlying21
 a21:=Tryz.isAgg21
 z21:=Tryz.sizeOf21
 v21:=Tryz.zeroValue21
 t46:=Tryz.underlying114
 a46:=Tryz.isAgg114
 z46:=Tryz.sizeOf114
 v46:=Tryz.zeroValue114}
open Go.RowKit Go.Lib in
theorem Tryz.strings_ContainsRune_ascii (s:ByteArray) (r:Int) (w:World) (b3:0≤r) (h1:r<128) :
  Calls Tryz.prog 170 #[.string s,.int .i32 r] w fun e w'=>e = .returned (.bool (decide (0≤Lib.indexByte s.data.toList r.toNat.toUInt8)))∧w'=w:=Any.strings_ContainsRune_ascii Tryz.Qc s r w b3 h1
end Go.Proofs
namespace Go.Proofs.YtnihidkbkhcfoaaGreatDoor.V
open Go Go.Proofs
def iK (w:World):Prop:=∃ m,w.cell? ⟨1,0,none⟩=some (.int .i64 m)
theorem iK.Qd {W:World} (h:W.ShapedOpen Tryz.prog):iK W:=Tryz.MO.s1_3 W h
theorem iK.I {w w':World} (h:iK w) (k:Mod [] w w'):iK w':=by
 obtain⟨m,hm⟩:=h;refine⟨m,?_⟩;have bJ:1<w.heap.size:=by
  rcases Nat.lt_or_ge 1 w.heap.size with cg | cg
  ·exact cg
  unfold World.cell? at hm;rw [Array.getElem?_eq_none cg] at hm;cases hm
 unfold World.cell? at hm ⊢;rw [k.block 1 bJ (by simp)];exact hm
theorem II (w:World) (n:Nat):Mod [] w (w.drewN n):=⟨rfl,rfl,rfl,Nat.le_refl _,fun _ _ _=>rfl⟩
theorem abW (w:World) (s:aa) (bf:s.length<4294967281) (eY:iK w):Calls Tryz.prog 194 [S s,S [58]].toArray w (bL fun u w'=>u = .tuple #[S (Lib.cut s [58]).1,S (Lib.cut s [58]).2.1,.bool (Lib.cut s [58]).2.2]∧Mod [] w w'):=by
 obtain⟨m,hm⟩:=eY;refine(Tryz.strings_Cut ⟨⟨s⟩⟩ ⟨⟨[58]⟩⟩ m w bf hm).mono fun e w' he=>?_;obtain⟨rfl,n,rfl⟩:=he;exact⟨rfl,II w n⟩
theorem DC (w:World) (s p:aa):Calls Tryz.prog 198 [S s,S p].toArray w (bL fun u w'=>u = .tuple #[S (Lib.trimPrefix s p),.bool (Lib.hasPrefix s p)]∧Mod [] w w'):=by
 refine(Tryz.strings_CutPrefix ⟨⟨s⟩⟩ ⟨⟨p⟩⟩ w).mono fun e w' he=>?_;obtain⟨rfl,rfl⟩:=he;exact⟨rfl,Mod.refl _ _⟩
theorem B4 (w:World) (s:aa) (b:UInt8):Calls Tryz.prog 111 [S s,.int .u8 (b.toNat:Int)].toArray w (bL fun u w'=>u = .int .i64 (Lib.indexByte s b)∧Mod [] w w'):=by
 refine(Tryz.strings_IndexByte ⟨⟨s⟩⟩ (b.toNat:Int) w).mono fun e w' he=>?_;obtain⟨rfl,rfl⟩:=he;refine⟨?_,Mod.refl _ _⟩;have h1:((b.toNat:Int).toNat).toUInt8=b:=by rw [Int.toNat_natCast];exact UInt8.ofNat_toNat
 rw [h1]
theorem FN (w:World) (s:aa) (c:Nat) (bj:c<128):Calls Tryz.prog 170 [S s,.int .i32 (c:Int)].toArray w (bL fun u w'=>u = .bool (s.any fun b=>decide (b.toNat=c))∧Mod [] w w'):=by
 refine(Tryz.strings_ContainsRune_ascii ⟨⟨s⟩⟩ (c:Int) w (by omega) (by omega)).mono fun e w' he=>?_;obtain⟨rfl,rfl⟩:=he;refine⟨?_,Mod.refl _ _⟩;rw [Int.toNat_natCast,y2 _ _ bj]
end Go.Proofs.YtnihidkbkhcfoaaGreatDoor.V
namespace Go.Proofs
open Go.Shelf
def Tryz.DD:Go.Shelf.Ren:=⟨fun | 161=>235 | 231=>249 | 227=>250 | 233=>251 | 235=>252 | 228=>259 | 197=>202 | 151=>170 | 260=>232 | 152=>196 | 137=>111 | 119=>228 | 224=>229 | 225=>230 | 217=>151 | 266=>184 | n=>n,fun | 9=>9 | 4=>4 | 3=>3 | 5=>5 | 117=>254 | 116=>253 | 0=>0 | 124=>257 | 105=>205 | 21=>21 | 119=>247 | 46=>114 | 139=>250 | 138=>249 | n=>n,fun | 3=>5 | 4=>6 | n=>n⟩
theorem Tryz.Qe:Go.Proofs.Lays.n161 Tryz.prog Tryz.DD:={
 mixed:=by kernel_rfl
 f119:=Tryz.func228.trans (congrArg some (by kernel_rfl))
 f137:=Tryz.func111.trans (congrArg some (by kernel_rfl))
 f151:=Tryz.func170.trans (congrArg some (by kernel_rfl))
 f152:=Tryz.func196.trans (congrArg some (by kernel_rfl))
 f161:=Tryz.func235.trans (congrArg some (by kernel_rfl))
 f197:=Tryz.func202.trans (congrArg some (by kernel_rfl))
 f217:=Tryz.func151.trans (congrArg some (by kernel_rfl))
 f224:=Tryz.func229.trans (congrArg some (by kernel_rfl))
 f225:=Tryz.func230.trans (congrArg some (by kernel_rfl))
 f227:=Tryz.func250.trans (congrArg some (by kernel_rfl))
 f228:=Tryz.func259.trans (congrArg some (by kernel_rfl))
 f231:=Tryz.func249.trans (congrArg some (by kernel_rfl))
 f233:=Tryz.func251.trans (congrArg some (by kernel_rfl))
 f235:=Tryz.func252.trans (congrArg some (by kernel_rfl))
 f260:=Tryz.func232.trans (congrArg some (by kernel_rfl))
 f266:=Tryz.func184.trans (congrArg some (by kernel_rfl))
 t0:=Tryz.underlying0
 a0:=Tryz.isAgg0
 z0:=Tryz.sizeOf0
 v0:=Tryz.zeroValue0
 t3:=Tryz.underlying3
 a3:=Tryz.isAgg3
 z3:=Tryz.sizeOf3
 v3:=Tryz.zeroValue3
 t4:=Tryz.underlying4
 a4:=Tryz.isAgg4
 z4:=Tryz.sizeOf4
 v4:=Tryz.zeroValue4
 t5:=Tryz.underlying5
 a5:=Tryz.isAgg5
 z5:=Tryz.sizeOf5
 v5:=Tryz.zeroValue5
 t9:=Tryz.underlying9
 a9:=Tryz.isAgg9
 z9:=Tryz.sizeOf9
 v9:=Tryz.zeroValue9
 t21:=Tryz.underlying21
 a21:=Tryz.isAgg21
 z21:=Tryz.sizeOf21
 v21:=Tryz.zeroValue21
 t46:=Tryz.underlying114
 a46:=Tryz.isAgg114
 z46:=Tryz.sizeOf114
 v46:=Tryz.zeroValue114
 t105:=Tryz.underlying205
 a105:=Tryz.isAgg205
 z105:=Tryz.sizeOf205
 v105:=Tryz.zeroValue205
 t116:=Tryz.underlying253
 a116:=Tryz.isAgg253
 z116:=Tryz.sizeOf253
 t117:=Tryz.underlying254
 a117:=Tryz.isAgg254
 z117:=Tryz.sizeOf254
 v117:=Tryz.zeroValue254
 t119:=Tryz.underlying247
 a119:=Tryz.isAgg247
 z119:=Tryz.sizeOf247
 t124:=Tryz.underlying257
 a124:=Tryz.isAgg257
 z124:=Tryz.sizeOf257
 v124:=Tryz.zeroValue257
 t138:=Tryz.underlying249
 a138:=Tryz.isAgg249
 z138:=Tryz.sizeOf249
 v138:=Tryz.zeroValue249
 t139:=Tryz.underlying250
 a139:=Tryz.isAgg250
 z139:=Tryz.sizeOf250
 v139:=Tryz.zeroValue250
 g3:=by kernel_rfl
 g4:=by kernel_rfl}
def Tryz.Bq:Go.Shelf.Ren:=⟨fun | 172=>156 | 244=>187 | 245=>188 | 247=>216 | 279=>217 | 280=>218 | 281=>219 | 282=>220 | 287=>241 | 316=>242 | 171=>120 | 205=>243 | 321=>254 | 322=>255 | 243=>158 | 246=>189 | 283=>221 | 284=>222 | 285=>223 | 286=>224 | 129=>215 | 317=>244 | 318=>245 | 319=>246 | 320=>247 | 337=>256 | 338=>257 | n=>n,fun | 9=>9 | 3=>3 | 75=>176 | 76=>177 | 4=>4 | 5=>5 | 167=>219 | 37=>65 | 0=>0 | 85=>220 | 2=>2 | 168=>222 | 53=>154 | 175=>238 | 46=>114 | 210=>242 | 127=>261 | 145=>264 | 143=>262 | 21=>21 | 171=>225 | 173=>227 | 212=>245 | 51=>117 | 20=>20 | 213=>246 | 232=>63 | 233=>265 | 80=>161 | n=>n,fun | 15=>2 | 16=>3 | 17=>4 | 18=>7 | 19=>8 | n=>n⟩
theorem Tryz.wb:Go.Proofs.LaysC.n172 Tryz.prog Tryz.Bq:={
 mixed:=by kernel_rfl
 f129:=Tryz.func215.trans (congrArg some (by kernel_rfl))
 f171:=Tryz.func120.trans (congrArg some (by kernel_rfl))
 f172:=Tryz.func156.trans (congrArg some (by kernel_rfl))
 f205:=Tryz.func243.trans (congrArg some (by kernel_rfl))
 f243:=Tryz.func158.trans (congrArg some (by kernel_rfl))
 f244:=Tryz.func187.trans (congrArg some (by kernel_rfl))
 f245:=Tryz.func188.trans (congrArg some (by kernel_rfl))
 f246:=Tryz.func189.trans (congrArg some (by kernel_rfl))
 f247:=Tryz.func216.trans (congrArg some (by kernel_rfl))
 f279:=Tryz.func217.trans (congrArg some (by kernel_rfl))
 f280:=Tryz.func218.trans (congrArg some (by kernel_rfl))
 f281:=Tryz.func219.trans (congrArg some (by kernel_rfl))
 f282:=Tryz.func220.trans (congrArg some (by kernel_rfl))
 f283:=Tryz.func221.trans (congrArg some (by kernel_rfl))
 f284:=Tryz.func222.trans (congrArg some (by kernel_rfl))
 f285:=Tryz.func223.trans (congrArg some (by kernel_rfl))
 f286:=Tryz.func224.trans (congrArg some (by kernel_rfl))
 f287:=Tryz.func241.trans (congrArg some (by kernel_rfl))
 f316:=Tryz.func242.trans (congrArg some (by kernel_rfl))
 f317:=Tryz.func244.trans (congrArg some (by kernel_rfl))
 f318:=Tryz.func245.trans (congrArg some (by kernel_rfl))
 f319:=Tryz.func246.trans (congrArg some (by kernel_rfl))
 f320:=Tryz.func247.trans (congrArg some (by kernel_rfl))
 f321:=Tryz.func254.trans (congrArg some (by kernel_rfl))
 f322:=Tryz.func255.trans (congrArg some (by kernel_rfl))
 f337:=Tryz.func256.trans (congrArg some (by kernel_rfl))
 f338:=Tryz.func257.trans (congrArg some (by kernel_rfl))
 t0:=Tryz.underlying0
 a0:=Tryz.isAgg0
 z0:=Tryz.sizeOf0
 v0:=Tryz.zeroValue0
 t2:=Tryz.underlying2
 a2:=Tryz.isAgg2
 z2:=Tryz.sizeOf2
 v2:=Tryz.zeroValue2
 t3:=Tryz.underlying3
 a3:=Tryz.isAgg3
 z3:=Tryz.sizeOf3
 v3:=Tryz.zeroValue3
 t4:=Tryz.underlying4
 a4:=Tryz.isAgg4
 z4:=Tryz.sizeOf4
 v4:=Tryz.zeroValue4
 t5:=Tryz.underlying5
 a5:=Tryz.isAgg5
 z5:=Tryz.sizeOf5
 v5:=Tryz.zeroValue5
 t9:=Tryz.underlying9
 a9:=Tryz.isAgg9
 z9:=Tryz.sizeOf9
 v9:=Tryz.zeroValue9
 t20:=Tryz.underlying20
 a20:=Tryz.isAgg20
 z20:=Tryz.sizeOf20
 v20:=Tryz.zeroValue20
 t21:=Tryz.underlying21
 a21:=Tryz.isAgg21
 z21:=Tryz.sizeOf21
 v21:=Tryz.zeroValue21
 t37:=Tryz.underlying65
 a37:=Tryz.isAgg65
 z37:=Tryz.sizeOf65
 v37:=Tryz.zeroValue65
 t46:=Tryz.underlying114
 a46:=Tryz.isAgg114
 z46:=Tryz.sizeOf114
 v46:=Tryz.zeroValue114
 t51:=Tryz.underlying117
 a51:=Tryz.isAgg117
 z51:=Tryz.sizeOf117
 v51:=Tryz.zeroValue117
 t53:=Tryz.underlying154
 a53:=Tryz.isAgg154
 z53:=Tryz.sizeOf154
 v53:=Tryz.zeroValue154
 t75:=Tryz.underlying176
 a75:=Tryz.isAgg176
 z75:=Tryz.sizeOf176
 v75:=Tryz.zeroValue176
 t76:=Tryz.underlying177
 a76:=Tryz.isAgg177
 z76:=Tryz.sizeOf177
 v76:=Tryz.zeroValue177
 t85:=Tryz.underlying220
 a85:=Tryz.isAgg220
 z85:=Tryz.sizeOf220
 v85:=Tryz.zeroValue220
 t127:=Tryz.underlying261
 a127:=Tryz.isAgg261
 z127:=Tryz.sizeOf261
 v127:=Tryz.zeroValue261
 t143:=Tryz.underlying262
 a143:=Tryz.isAgg262
 z143:=Tryz.sizeOf262
 v143:=Tryz.zeroValue262
 t145:=Tryz.underlying264
 a145:=Tryz.isAgg264
 z145:=Tryz.sizeOf264
 v145:=Tryz.zeroValue264
 t167:=Tryz.underlying219
 a167:=Tryz.isAgg219
 z167:=Tryz.sizeOf219
 v167:=Tryz.zeroValue219
 t168:=Tryz.underlying222
 a168:=Tryz.isAgg222
 z168:=Tryz.sizeOf222
 v168:=Tryz.zeroValue222
 t171:=Tryz.underlying225
 a171:=Tryz.isAgg225
 z171:=Tryz.sizeOf225
 v171:=Tryz.zeroValue225
 t173:=Tryz.underlying227
 a173:=Tryz.isAgg227
 z173:=Tryz.sizeOf227
 v173:=Tryz.zeroValue227
 t175:=Tryz.underlying238
 a175:=Tryz.isAgg238
 z175:=Tryz.sizeOf238
 v175:=Tryz.zeroValue238
 t210:=Tryz.underlying242
 a210:=Tryz.isAgg242
 z210:=Tryz.sizeOf242
 v210:=Tryz.zeroValue242
 t212:=Tryz.underlying245
 a212:=Tryz.isAgg245
 z212:=Tryz.sizeOf245
 v212:=Tryz.zeroValue245
 t213:=Tryz.underlying246
 a213:=Tryz.isAgg246
 z213:=Tryz.sizeOf246
 t232:=Tryz.underlying63
 a232:=Tryz.isAgg63
 z232:=Tryz.sizeOf63
 v232:=Tryz.zeroValue63
 t233:=Tryz.underlying265
 a233:=Tryz.isAgg265
 z233:=Tryz.sizeOf265
 v233:=Tryz.zeroValue265
 g15:=by kernel_rfl
 g16:=by kernel_rfl
 g17:=by kernel_rfl
 g18:=by kernel_rfl
 g19:=by kernel_rfl
 t80:=Tryz.underlying161
 a80:=Tryz.isAgg161
 z80:=Tryz.sizeOf161
 v80:=Tryz.zeroValue161
 i0:=by kernel_rfl
 i2:=by kernel_rfl
 i3:=by kernel_rfl
 i4:=by kernel_rfl
 i5:=by kernel_rfl
 i9:=by kernel_rfl
 i20:=by kernel_rfl
 i21:=by kernel_rfl
 i37:=by kernel_rfl
 i46:=by kernel_rfl
 i51:=by kernel_rfl
 i53:=by kernel_rfl
 i75:=by kernel_rfl
 i76:=by kernel_rfl
 i80:=by kernel_rfl
 i85:=by kernel_rfl
 i127:=by kernel_rfl
 i143:=by kernel_rfl
 i145:=by kernel_rfl
 i167:=by kernel_rfl
 i168:=by kernel_rfl
 i171:=by kernel_rfl
 i173:=by kernel_rfl
 i175:=by kernel_rfl
 i210:=by kernel_rfl
 i212:=by kernel_rfl
 i232:=by kernel_rfl
 i233:=by kernel_rfl
 m15:=by kernel_rfl
 m16:=by kernel_rfl
 m17:=by kernel_rfl
 m18:=by kernel_rfl
 m19:=by kernel_rfl
 c0:=by kernel_rfl
 c2:=by kernel_rfl
 c3:=by kernel_rfl
 c4:=by kernel_rfl
 c5:=by kernel_rfl
 c9:=by kernel_rfl
 c20:=by kernel_rfl
 c21:=by kernel_rfl
 c37:=by kernel_rfl
 c46:=by kernel_rfl
 c51:=by kernel_rfl
 c53:=by kernel_rfl
 c75:=by kernel_rfl
 c76:=by kernel_rfl
 c80:=by kernel_rfl
 c85:=by kernel_rfl
 c127:=by kernel_rfl
 c143:=by kernel_rfl
 c145:=by kernel_rfl
 c167:=by kernel_rfl
 c168:=by kernel_rfl
 c171:=by kernel_rfl
 c173:=by kernel_rfl
 c175:=by kernel_rfl
 c210:=by kernel_rfl
 c212:=by kernel_rfl
 c213:=by kernel_rfl
 c232:=by kernel_rfl
 c233:=by kernel_rfl}
open Go.RowKit in
theorem Tryz.strconv_Atoi_ok (s:ByteArray) (agH:s.size≤9223372036854775806) (v:Int) (h:Lib.atoiAll s.data.toList = .ok v) (w:World) :
  Calls Tryz.prog 156 #[.string s] w fun e w'=>e = .returned (.tuple #[.int .i64 v,.nilIface])∧(w'=w∨∃ t,w'=Lib.bytesWorld w 5 t):=Any.strconv_Atoi_ok Tryz.wb s agH v h w
open Go.RowKit in
theorem Tryz.strconv_Atoi_syntax (s:ByteArray) (Qf:s.size≤281474976710656) (h:Lib.atoiAll s.data.toList = .«syntax») (rD:Value) (w:World) (bK:w.cell? ⟨2,0,none⟩=some rD) (abX:rD = .nilIface∨∃ abY abZ,rD = .iface abY abZ) :
  Calls Tryz.prog 156 #[.string s] w fun e w'=>∃ N,e = .returned (.tuple #[.int .i64 (0),.iface 222 (.pointer (some ⟨N,0,none⟩))])∧w.heap.size≤N∧w'.heap[N]? = some (.cells #[.string ⟨#[65,116,111,105]⟩,.string s,rD] 242 (0,0))∧Below w.heap.size w w':=Any.strconv_Atoi_syntax Tryz.wb s Qf h rD w bK abX
open Go.RowKit in
theorem Tryz.strconv_Atoi_range (s:ByteArray) (Qf:s.size≤281474976710656) (h:Lib.atoiAll s.data.toList = .range) (rD:Value) (w:World) (bK:w.cell? ⟨3,0,none⟩=some rD) (abX:rD = .nilIface∨∃ abY abZ,rD = .iface abY abZ) :
  Calls Tryz.prog 156 #[.string s] w fun e w'=>∃ N,e = .returned (.tuple #[.int .i64 (Lib.atoiSat s.data.toList),.iface 222 (.pointer (some ⟨N,0,none⟩))])∧w.heap.size≤N∧w'.heap[N]? = some (.cells #[.string ⟨#[65,116,111,105]⟩,.string s,rD] 242 (0,0))∧Below w.heap.size w w':=Any.strconv_Atoi_range Tryz.wb s Qf h rD w bK abX
def Tryz.DE:Go.Shelf.Ren:=⟨fun | 101=>204 | 208=>234 | 206=>201 | n=>n,fun | 9=>9 | 4=>4 | 3=>3 | n=>n,fun | n=>n⟩
theorem Tryz.Qg:Go.Proofs.Lays.n101 Tryz.prog Tryz.DE:={
 mixed:=by kernel_rfl
 f101:=Tryz.func204.trans (congrArg some (by kernel_rfl))
 f206:=Tryz.func201.trans (congrArg some (by kernel_rfl))
 f208:=Tryz.func234.trans (congrArg some (by kernel_rfl))
 t3:=Tryz.underlying3
 a3:=Tryz.isAgg3
 z3:=Tryz.sizeOf3
 v3:=Tryz.zeroValue3
 t4:=Tryz.underlying4
 a4:=Tryz.isAgg4
 z4:=Tryz.sizeOf4
 v4:=Tryz.zeroValue4
 t9:=Tryz.underlying9
 a9:=Tryz.isAgg9
 z9:=Tryz.sizeOf9
 v9:=Tryz.zeroValue9}
open Go.RowKit Go.Lib in
theorem Tryz.strings_TrimPrefix (s p:ByteArray) (w:World) :
  Calls Tryz.prog 204 #[.string s,.string p] w fun e w'=>e = .returned (.string ⟨(Lib.trimPrefix s.data.toList p.data.toList).toArray⟩)∧w'=w:=Any.strings_TrimPrefix Tryz.Qg s p w
def Tryz.DF:Go.Shelf.Ren:=⟨fun | 152=>196 | 137=>111 | 119=>228 | 224=>229 | 225=>230 | 217=>151 | 266=>184 | n=>n,fun | 9=>9 | 21=>21 | 3=>3 | 4=>4 | 5=>5 | 0=>0 | 46=>114 | n=>n,fun | n=>n⟩
theorem Tryz.Qh:Go.Proofs.Lays.n152 Tryz.prog Tryz.DF:={
 mixed:=by kernel_rfl
 f119:=Tryz.func228.trans (congrArg some (by kernel_rfl))
 f137:=Tryz.func111.trans (congrArg some (by kernel_rfl))
 f152:=Tryz.func196.trans (congrArg some (by kernel_rfl))
 f217:=Tryz.func151.trans (congrArg some (by kernel_rfl))
 f224:=Tryz.func229.trans (congrArg some (by kernel_rfl))
 f225:=Tryz.func230.trans (congrArg some (by kernel_rfl))
 f266:=Tryz.func184.trans (congrArg some (by kernel_rfl))
 t0:=Tryz.underlying0
 a0:=Tryz.isAgg0
 z0:=Tryz.sizeOf0
 v0:=Tryz.zeroValue0
 t3:=Tryz.underlying3
 a3:=Tryz.isAgg3
 z3:=Tryz.sizeOf3
 v3:=Tryz.zeroValue3
 t4:=Tryz.underlying4
 a4:=Tryz.isAgg4
 z4:=Tryz.sizeOf4
 v4:=Tryz.zeroValue4
 t5:=Tryz.underlying5
 a5:=Tryz.isAgg5
 z5:=Tryz.sizeOf5
 v5:=Tryz.zeroValue5
 t9:=Tryz.underlying9
 a9:=Tryz.isAgg9
 z9:=Tryz.sizeOf9
 v9:=Tryz.zeroValue9
 t21:=Tryz.underlying21
 a21:=Tryz.isAgg21
 z21:=Tryz.sizeOf21
 v21:=Tryz.zeroValue21
 t46:=Tryz.underlying114
 a46:=Tryz.isAgg114
 z46:=Tryz.sizeOf114
 v46:=Tryz.zeroValue114}
open Go.RowKit Go.Lib in
theorem Tryz.strings_IndexRune_ascii (s:ByteArray) (r:Int) (w:World) (b3:0≤r) (h1:r<128) :
  Calls Tryz.prog 196 #[.string s,.int .i32 r] w fun e w'=>e = .returned (.int .i64 (Lib.indexByte s.data.toList r.toNat.toUInt8))∧w'=w:=Any.strings_IndexRune_ascii Tryz.Qh s r w b3 h1
def Tryz.uM:Go.Shelf.Ren:=⟨fun | 197=>202 | 260=>232 | n=>n,fun | 9=>9 | 21=>21 | 3=>3 | 4=>4 | 5=>5 | 105=>205 | 119=>247 | 0=>0 | 46=>114 | 139=>250 | 138=>249 | n=>n,fun | 3=>5 | 4=>6 | n=>n⟩
theorem Tryz.y5:Go.Proofs.Lays.n197 Tryz.prog Tryz.uM:={
 mixed:=by kernel_rfl
 f197:=Tryz.func202.trans (congrArg some (by kernel_rfl))
 f260:=Tryz.func232.trans (congrArg some (by kernel_rfl))
 t0:=Tryz.underlying0
 a0:=Tryz.isAgg0
 z0:=Tryz.sizeOf0
 v0:=Tryz.zeroValue0
 t3:=Tryz.underlying3
 a3:=Tryz.isAgg3
 z3:=Tryz.sizeOf3
 v3:=Tryz.zeroValue3
 t4:=Tryz.underlying4
 a4:=Tryz.isAgg4
 z4:=Tryz.sizeOf4
 v4:=Tryz.zeroValue4
 t5:=Tryz.underlying5
 a5:=Tryz.isAgg5
 z5:=Tryz.sizeOf5
 v5:=Tryz.zeroValue5
 t9:=Tryz.underlying9
 a9:=Tryz.isAgg9
 z9:=Tryz.sizeOf9
 v9:=Tryz.zeroValue9
 t21:=Tryz.underlying21
 a21:=Tryz.isAgg21
 z21:=Tryz.sizeOf21
 v21:=Tryz.zeroValue21
 t46:=Tryz.underlying114
 a46:=Tryz.isAgg114
 z46:=Tryz.sizeOf114
 v46:=Tryz.zeroValue114
 t105:=Tryz.underlying205
 a105:=Tryz.isAgg205
 z105:=Tryz.sizeOf205
 v105:=Tryz.zeroValue205
 t119:=Tryz.underlying247
 a119:=Tryz.isAgg247
 z119:=Tryz.sizeOf247
 t138:=Tryz.underlying249
 a138:=Tryz.isAgg249
 z138:=Tryz.sizeOf249
 v138:=Tryz.zeroValue249
 t139:=Tryz.underlying250
 a139:=Tryz.isAgg250
 z139:=Tryz.sizeOf250
 v139:=Tryz.zeroValue250
 g3:=by kernel_rfl
 g4:=by kernel_rfl}
open Go.RowKit Go.Lib in
theorem Tryz.utf8_DecodeRuneInString (s:ByteArray) (w:World) (jG:Lib.Utf8Tabs 5 6 w) :
  Calls Tryz.prog 202 #[.string s] w fun e w'=>e = .returned (.tuple #[.int .i32 (Lib.decodeGo s).1,.int .i64 (Lib.decodeGo s).2])∧Below w.heap.size w w':=Any.utf8_DecodeRuneInString Tryz.y5 s w jG
end Go.Proofs
namespace Go.Proofs.YtnihidkbkhcfoaaGreatDoor.V
open Go Go.Proofs
theorem Mod.uN {w w':World} (h:RowKit.Below w.heap.size w w'):Mod [] w w':=⟨h.os,h.tape,h.output,h.size,fun i hi _=>h.block i hi⟩
theorem FO (w:World) (e:Nat) (s:ByteArray):Mod [] w (Lib.bytesWorld w e s):=by
 refine⟨?_,?_,?_,?_,?_⟩
 ·simp only [Lib.bytesWorld,World.freeze];rfl
 ·simp only [Lib.bytesWorld,World.freeze];rfl
 ·simp only [Lib.bytesWorld,World.freeze];rfl
 ·rw [Lib.bytesWorld_size];omega
 exact fun i hi _=>Lib.bytesWorld_at_old w e _ i hi
theorem qh {w w':World} {M:List Nat} {a:Nat} {v:Value} {g:Nat} (h:w.cell? ⟨g,a,none⟩=some v) (k:Mod M w w') (dA:g∉M):w'.cell? ⟨g,a,none⟩=some v:=by
 have bJ:g<w.heap.size:=by
  rcases Nat.lt_or_ge g w.heap.size with cg | cg
  ·exact cg
  unfold World.cell? at h;rw [Array.getElem?_eq_none cg] at h;cases h
 unfold World.cell? at h ⊢;rw [k.block g bJ dA];exact h
def xM (w:World):Prop:=Lib.Utf8Tabs 5 6 w
theorem xM.mod {w w':World} {M:List Nat} (h:xM w) (k:Mod M w w') (eY:∀ x∈M,6<x):xM w':=
 ⟨fun c bj=>qh (h.1 c bj) k (fun ae=>by have:=eY _ ae;omega),fun i hi=>⟨qh (h.2 i hi).1 k (fun ae=>by have:=eY _ ae;omega),qh (h.2 i hi).2 k (fun ae=>by have:=eY _ ae;omega)⟩⟩
theorem xM.I {w w':World} (h:xM w) (k:Mod [] w w'):xM w':=h.mod k (by simp)
def FP (w:World):Prop:=(∃ rD,w.cell? ⟨2,0,none⟩=some rD∧(rD = .nilIface∨∃ abY abZ,rD = .iface abY abZ))∧∃ rD,w.cell? ⟨3,0,none⟩=some rD∧(rD = .nilIface∨∃ abY abZ,rD = .iface abY abZ)
theorem FP.mod {w w':World} {M:List Nat} (h:FP w) (k:Mod M w w') (eY:∀ x∈M,6<x):FP w':=by
 obtain⟨⟨bk,h1,aq⟩,⟨b2,aU,bM⟩⟩:=h;exact⟨⟨bk,qh h1 k (fun ae=>by have:=eY _ ae;omega),aq⟩,⟨b2,qh aU k (fun ae=>by have:=eY _ ae;omega),bM⟩⟩
theorem FQ (w:World) (s:aa) (c:Nat) (bj:c<128):Calls Tryz.prog 196 [S s,.int .i32 (c:Int)].toArray w (bL fun u w'=>u = .int .i64 (Lib.indexByte s (UInt8.ofNat c))∧Mod [] w w'):=by
 refine(Tryz.strings_IndexRune_ascii ⟨⟨s⟩⟩ (c:Int) w (by omega) (by omega)).mono fun e w' he=>?_;obtain⟨rfl,rfl⟩:=he;exact⟨by rw [Int.toNat_natCast],Mod.refl _ _⟩
theorem Qi (w:World) (s p:aa):Calls Tryz.prog 204 [S s,S p].toArray w (bL fun u w'=>u=S (Lib.trimPrefix s p)∧Mod [] w w'):=by
 refine(Tryz.strings_TrimPrefix ⟨⟨s⟩⟩ ⟨⟨p⟩⟩ w).mono fun e w' he=>?_;obtain⟨rfl,rfl⟩:=he;exact⟨rfl,Mod.refl _ _⟩
theorem Qj (w:World) (s p:aa) (cp:p.length<1000) (ay:∀ b∈p,b.toNat<128):Calls Tryz.prog 235 [S s,S p].toArray w (bL fun u w'=>u=S (Lib.trimLeftS s p)∧Mod [] w w'):=by
 refine(Any.strings_TrimLeft_laid Tryz.Qe (by kernel_rfl) ⟨⟨s⟩⟩ ⟨⟨p⟩⟩ w (show p.length<4294967281 by omega) (fun j b aS=>ay b (List.mem_of_getElem? aS))).mono fun e w' he=>?_;obtain⟨rfl,k⟩:=he;exact⟨rfl,Mod.uN k⟩
def Lb (s:aa):Nat×Nat:=Lib.decodeGo ⟨⟨s⟩⟩
theorem uO {s:aa} {i:Nat} (h:i<s.length):Lb (s.drop i)=Utf8.decode ⟨⟨s.drop i⟩⟩ 0:=by
 unfold Lb Lib.decodeGo;rw [if_neg];show ¬ (s.drop i).length=0;rw [List.length_drop];omega
theorem x2 (w:World) (s:aa) (je:xM w):Calls Tryz.prog 202 [S s].toArray w (bL fun u w'=>u = .tuple #[.int .i32 ((Lb s).1:Int),.int .i64 ((Lb s).2:Int)]∧Mod [] w w'):=by
 refine(Any.utf8_DecodeRuneInString Tryz.y5 ⟨⟨s⟩⟩ w je).mono fun e w' he=>?_;obtain⟨rfl,k⟩:=he;exact⟨rfl,Mod.uN k⟩
def ab0 (s:aa) (n:Int) (err:Value):Prop:=(Lib.atoiAll s = .ok n∧err = .nilIface)∨((∀ v,Lib.atoiAll s≠.ok v)∧(∃ T p,err = .iface T p)∧(n=0∨n = -9223372036854775808∨n=9223372036854775807)∧(n=0→Lib.atoiAll s = .«syntax»))
theorem Lc (w:World) (s:aa) (bf:s.length≤1000000) (e4:FP w):Calls Tryz.prog 156 [S s].toArray w (bL fun u w'=>∃ n err,u = .tuple #[.int .i64 n,err]∧ab0 s n err∧Mod [] w w'):=by
 obtain⟨⟨bk,h1,aq⟩,⟨b2,aU,bM⟩⟩:=e4;cases dF:Lib.atoiAll s with
 | ok v=>
  refine(Tryz.strconv_Atoi_ok ⟨⟨s⟩⟩ (show s.length≤_ by omega) v dF w).mono fun e w' he=>?_;obtain⟨rfl,k⟩:=he;refine⟨v,_,rfl,.inl ⟨dF,rfl⟩,?_⟩;rcases k with rfl | ⟨t,rfl⟩
  ·exact Mod.refl _ _
  exact FO _ _ _
 | «syntax» =>
  refine(Tryz.strconv_Atoi_syntax ⟨⟨s⟩⟩ (show s.length≤_ by omega) dF bk w h1 aq).mono fun e w' he=>?_;obtain⟨N,rfl,_,_,k⟩:=he;exact⟨0,_,rfl,.inr ⟨fun v=>(by rw [dF];intro h;cases h),⟨_,_,rfl⟩,.inl rfl,fun _=>dF⟩,Mod.uN k⟩
 | range=>
  refine(Tryz.strconv_Atoi_range ⟨⟨s⟩⟩ (show s.length≤_ by omega) dF b2 w aU bM).mono fun e w' he=>?_;obtain⟨N,rfl,_,_,k⟩:=he;refine⟨Lib.atoiSat s,_,rfl,.inr ⟨fun v=>(by rw [dF];intro h;cases h),⟨_,_,rfl⟩,?_,fun h=>?_⟩,Mod.uN k⟩
  ·unfold Lib.atoiSat
   split
   ·exact .inr (.inl rfl)
   exact .inr (.inr rfl)
  unfold Lib.atoiSat at h
  split at h <;> cases h
end Go.Proofs.YtnihidkbkhcfoaaGreatDoor.V
namespace Go.Proofs.YtnihidkbkhcfoaaGreatDoor.V
open Go
def z' (l:List (Nat×Value)):Op→Option Value
 | .move x=>a6 l x
 | .assign x=>a6 l x
 | .pick x y z=>match a6 l x with
  | some (.bool true)=>a6 l y
  | some (.bool false)=>a6 l z
  | _=>none
 | .unOp .not _ x=>match a6 l x with
  | some (.bool b)=>some (.bool (!b))
  | _=>none
 | .extract x i=>match a6 l x with
  | some (.tuple vs)=>vs[i]?
  | _=>none
 | .nilCheck x=>match a6 l x with
  | some (.pointer (some ad))=>some (.pointer (some ad))
  | _=>none
 | .binOp .lss _ x y _=>match a6 l x,a6 l y with
  | some (.int k m),some (.int iC gr)=>if k=iC then some (.bool (decide (m<gr)))else none
  | _,_=>none
 | .binOp .leq _ x y _=>match a6 l x,a6 l y with
  | some (.int k m),some (.int iC gr)=>if k=iC then some (.bool (decide (m≤gr)))else none
  | _,_=>none
 | .binOp .gtr _ x y _=>match a6 l x,a6 l y with
  | some (.int k m),some (.int iC gr)=>if k=iC then some (.bool (decide (gr<m)))else none
  | _,_=>none
 | .binOp .eql _ x y _=>match a6 l x,a6 l y with
  | some (.int k m),some (.int iC gr)=>if k=iC then some (.bool (decide (m=gr)))else none
  | _,_=>none
 | .binOp .neq _ x y _=>match a6 l x,a6 l y with
  | some (.int k m),some (.int iC gr)=>if k=iC then some (.bool (decide (m≠gr)))else none
  | _,_=>none
 | _=>none
def k' (ops:Array Oper) (n:Nat) (l:List (Nat×Value)):Oper→Option (List (Nat×Value))
 | ⟨some d,op,_,_,_,g⟩=>match Nat.blt d n with
  | true=>match g with
   | none=>match z' l op with
    | some v=>some ((d,v)::l)
    | none=>none
   | some (j,want)=>match zW ops l j with
    | some b=>match b,want with
     | true,true=>match z' l op with
      | some v=>some ((d,v)::l)
      | none=>none
     | false,false=>match z' l op with
      | some v=>some ((d,v)::l)
      | none=>none
     | true,false=>some ((d,undef)::l)
     | false,true=>some ((d,undef)::l)
    | none=>match (ops[j]?).bind (·.dst)with
     | some t=>match i' t l with
      | some (.tuple vs)=>match vs.size with
       | 0=>some ((d,undef)::l)
       | _=>none
      | _=>none
     | none=>none
  | false=>none
 | _=>none
def Aa (ops:Array Oper) (n:Nat):Nat→List Oper→List (Nat×Value)→Option (List Oper×List (Nat×Value))
 | 0,lo,l=>some (lo,l)
 | k+1,o::lo,l=>match k' ops n l o with
  | some l'=>Aa ops n k lo l'
  | none=>none
 | _+1,[],_=>none
section
variable {P:Program} {ops:Array Oper} {Q:Exit→Act→World→Prop} {n:Nat} {ds:List Deferred} {l l':List (Nat×Value)} {M:List (Nat×(Value→World→Prop))} {w w':World} {Fin:kf→Prop}
variable {lo Ye:List Oper} {d:Nat} {op:Op} {ty:TypeId} {pos:String} {af:Array Edge} {gg:Option (Nat×Bool)}
theorem oq {v:Value} (h:z' l op=some v):bG P l ⟨some d,op,ty,pos,af,gg⟩ w v w:=by
 unfold z' at h
 split at h
 ·exact ec h
 ·exact cr h
 ·split at h
  ·rename_i ae;exact fun ρ fg=>by simp [execOp,fg _ _ ae,fg _ _ h,asBool,a6]
  ·rename_i ae;exact fun ρ fg=>by simp [execOp,fg _ _ ae,fg _ _ h,asBool]
  cases h
 ·split at h
  ·rename_i ae;injection h with h;subst h;exact ff ae
  cases h
 ·split at h
  ·rename_i ae;exact eH ae h
  cases h
 ·split at h
  ·rename_i ae;injection h with h;subst h;exact ee ae
  cases h
 ·split at h
  ·rename_i ae aY
   split at h
   ·rename_i hk;subst hk;injection h with h;subst h;exact cI ae aY
   cases h
  cases h
 ·split at h
  ·rename_i ae aY
   split at h
   ·rename_i hk;subst hk;injection h with h;subst h;exact pX ae aY
   cases h
  cases h
 ·split at h
  ·rename_i ae aY
   split at h
   ·rename_i hk;subst hk;injection h with h;subst h;exact gq ae aY
   cases h
  cases h
 ·split at h
  ·rename_i ae aY
   split at h
   ·rename_i hk;subst hk;injection h with h;subst h;exact lT ae aY
   cases h
  cases h
 ·split at h
  ·rename_i ae aY
   split at h
   ·rename_i hk;subst hk;injection h with h;subst h;exact eU ae aY
   cases h
  cases h
 cases h
theorem N6 {o:Oper} (h:k' ops n l o=some l') (hh:ga P ops Q lo n ds l' w):ga P ops Q (o::lo) n ds l w:=by
 obtain⟨dst,op,ty,pos,af,g⟩:=o;cases dst with
 | none=>simp [k'] at h
 | some d=>
  cases bY:Nat.blt d n with
  | false=>simp [k',bY] at h
  | true=>
   cases g with
   | none=>
    cases he:z' l op with
    | none=>simp [k',bY,he] at h
    | some v=>
     simp [k',bY,he] at h;subst h;exact fP (oq he) bY hh
   | some amt=>
    obtain⟨j,want⟩:=amt;cases dA:zW ops l j with
    | some b=>
     cases b <;> cases want <;> simp only [k',bY,dA] at h
     ·cases he:z' l op with
      | none=>simp [he] at h
      | some v=>
       simp [he] at h;subst h;exact lB dA rfl (oq he) bY hh
     ·injection h with h
      subst h;exact al9 dA (by decide) bY hh
     ·injection h with h
      subst h;exact al9 dA (by decide) bY hh
     cases he:z' l op with
     | none=>simp [he] at h
     | some v=>
      simp [he] at h;subst h;exact lB dA rfl (oq he) bY hh
    | none=>
     simp only [k',bY,dA] at h
     split at h
     ·rename_i t cf
      split at h
      ·rename_i vs bK
       split at h
       ·rename_i bf
        injection h with h
        subst h;have:vs = #[]:=Array.eq_empty_of_size_eq_zero bf;subst this;exact amk cf bK bY hh
       cases h
      cases h
     cases h
theorem JI {o:Oper} (h:k' ops n l o=some l') (bf:fu o.op=true) (hh:gw P ops w n Fin lo l' M):gw P ops w n Fin (o::lo) l M:=by
 obtain⟨dst,op,ty,pos,af,g⟩:=o;cases dst with
 | none=>simp [k'] at h
 | some d=>
  cases bY:Nat.blt d n with
  | false=>simp [k',bY] at h
  | true=>
   cases g with
   | none=>
    cases he:z' l op with
    | none=>simp [k',bY,he] at h
    | some v=>
     simp [k',bY,he] at h;subst h;exact alA (fun _ _=>oq he) bY bf hh
   | some amt=>
    obtain⟨j,want⟩:=amt;cases dA:zW ops l j with
    | some b=>
     cases b <;> cases want <;> simp only [k',bY,dA] at h
     ·cases he:z' l op with
      | none=>simp [he] at h
      | some v=>
       simp [he] at h;subst h;exact NX dA rfl (fun _ _=>oq he) bY bf hh
     ·injection h with h
      subst h;exact ama dA (by decide) bY hh
     ·injection h with h
      subst h;exact ama dA (by decide) bY hh
     cases he:z' l op with
     | none=>simp [he] at h
     | some v=>
      simp [he] at h;subst h;exact NX dA rfl (fun _ _=>oq he) bY bf hh
    | none=>
     simp only [k',bY,dA] at h
     split at h
     ·rename_i t cf
      split at h
      ·rename_i vs bK
       split at h
       ·rename_i dk
        injection h with h
        subst h;have:vs = #[]:=Array.eq_empty_of_size_eq_zero dk;subst this;exact aml cf bK bY hh
       cases h
      cases h
     cases h
theorem ak (k:Nat) (h:Aa ops n k lo l=some (Ye,l')) (hh:ga P ops Q Ye n ds l' w):ga P ops Q lo n ds l w:=by
 induction k generalizing lo l with
 | zero=>injection h with h;injection h with h1 aq;subst h1;subst aq;exact hh
 | succ k dK=>
  cases lo with
  | nil=>simp [Aa] at h
  | cons o lo=>
   simp only [Aa] at h
   split at h
   ·rename_i afC h1
    exact N6 h1 (dK h)
   cases h
def Ss:Nat→List Oper→Bool
 | 0,_=>true
 | k+1,o::lo=>fu o.op&&Ss k lo
 | _+1,[]=>false
theorem f' (k:Nat) (h:Aa ops n k lo l=some (Ye,l')) (bf:Ss k lo=true) (hh:gw P ops w n Fin Ye l' M):gw P ops w n Fin lo l M:=by
 induction k generalizing lo l with
 | zero=>injection h with h;injection h with h1 aq;subst h1;subst aq;exact hh
 | succ k dK=>
  cases lo with
  | nil=>simp [Aa] at h
  | cons o lo=>
   simp only [Ss,Bool.and_eq_true] at bf;simp only [Aa] at h
   split at h
   ·rename_i afC h1
    exact JI h1 bf.1 (dK h bf.2)
   cases h
/-! a truth made literal -/
variable {t:Nat} {p:Prop} {b e8:Bool}
theorem cT [Decidable p] (h1:p→ga P ops Q lo n ds ((t,.bool true)::l) w) (aq:¬ p→ga P ops Q lo n ds ((t,.bool false)::l) w):ga P ops Q lo n ds ((t,.bool (decide p))::l) w:=by
 by_cases h:p
 ·rw [decide_eq_true h];exact h1 h
 rw [decide_eq_false h];exact aq h
theorem mT (h1:b=true→ga P ops Q lo n ds ((t,.bool true)::l) w) (aq:¬ b=true→ga P ops Q lo n ds ((t,.bool false)::l) w):ga P ops Q lo n ds ((t,.bool b)::l) w:=by
 cases b
 ·exact aq (by decide)
 exact h1 rfl
theorem w8 (h1:b=true→ga P ops Q lo n ds ((t,.bool true)::l) w) (aq:b=false→ga P ops Q lo n ds ((t,.bool false)::l) w):ga P ops Q lo n ds ((t,.bool b)::l) w:=by
 cases b
 ·exact aq rfl
 exact h1 rfl
theorem jg (h:b=e8) (hh:ga P ops Q lo n ds ((t,.bool e8)::l) w):ga P ops Q lo n ds ((t,.bool b)::l) w:=h▸hh
end
end Go.Proofs.YtnihidkbkhcfoaaGreatDoor.V
set_option maxRecDepth 10000
namespace Go.Proofs.YtnihidkbkhcfoaaGreatDoor.V
open Go Go.Proofs
theorem ju:iz Tryz.prog 25 3 3 1=true:=by kernel_rfl
theorem bs:nM Tryz.prog 9=true:=by kernel_rfl
theorem gA:iz Tryz.prog 25 4 4 1=true:=by kernel_rfl
theorem jL:nM Tryz.prog 22=true:=by kernel_rfl
theorem kk:lC Tryz.prog 22 25 6 88=true:=by kernel_rfl
theorem aK:rO Tryz.prog 25 6=true:=by kernel_rfl
theorem oy:aQ Tryz.prog 42:=aQ.of Tryz.func42 (by kernel_rfl) (by kernel_rfl)
theorem b9:iz Tryz.prog 25 5 5 1=true:=by kernel_rfl
theorem dB:nM Tryz.prog 23=true:=by kernel_rfl
theorem wide:Tryz.prog.follows .mixedOrders=true:=by kernel_rfl
theorem cR:lC Tryz.prog 23 51 7 104=true:=by kernel_rfl
theorem h':iz Tryz.prog 51 1 1 6=true:=by kernel_rfl
theorem eF:iz Tryz.prog 51 0 0 1=true:=by kernel_rfl
theorem A6 (N:Nat) (dK:∀ (w:World) (v:JV) (us:List Value) (left deep:Int),v.sz≤N→ao [] w v.D us→Calls Tryz.prog 42 [.agg us.toArray,.int .i64 left,.int .i64 deep].toArray w (bL fun u w'=>u = .int .i64 (v.jq left deep)∧Mod [] w w')) (w:World) (v:JV) (us:List Value) (left deep:Int) (h7:v.sz≤N+1) (asp:ao [] w v.D us):Calls Tryz.prog 42 [.agg us.toArray,.int .i64 left,.int .i64 deep].toArray w (bL fun u w'=>u = .int .i64 (v.jq left deep)∧Mod [] w w'):=by
 refine enter Tryz.func42 rfl rfl rfl (l:=[(0,_),(1,_),(2,_)]) ⟨rfl,rfl,rfl,trivial⟩ ?_;have E:=Mod.refl [] w;obtain⟨al,cl,am,cm,rfl,kW,jJ⟩:=JV.bb asp;refine ab fun aV=>dP rfl rfl rfl fun g1 aB bR=>?_;have bH:=bR.le E;replace E:=E.then bR.mod;have U:=bR.az;refine aT rfl (J aV (ab fun aL=>aG rfl (ag (hN rfl rfl) (ag (av ju rfl) (ag (bc bs rfl (U.cell rfl)) (ag (bw Tryz.underlying9 rfl) (ag (hN rfl rfl) (aT rfl (J aL (ax fun aW=>ab fun br=>ak 2 rfl ?_))))))))));refine J br ?_;refine aI rfl (fun mK=>?_) (fun mK=>?_)
 ·exact ab fun bI=>aT rfl (J bI (aZ (aO (by simp) (au rfl rfl ⟨by rw [JV.BP,if_pos mK],E⟩))))
 have akl:¬ deep=0:=mK;have hh:=JV.BP v left deep;rw [if_neg akl] at hh;refine ca (aw aW (ax fun bW=>ab fun cb=>aT rfl (J cb (eB (bU (σ:=Nat×Int) (fun⟨k,z⟩=>[(1,.int .i64 z),(2,.int .i64 deep),(3,.pointer (some ⟨g1,0,none⟩)),(7,.int .i64 (k:Int))]) (fun⟨k,z⟩ aB=>k≤v.list.length∧JV.jv (v.list.drop k) z (ka (deep-1))=JV.jv v.list (ka (ka (left-1)-v.str.length)) (ka (deep-1))∧aF aB g1 25 [.int .i64 v.kind,.bool v.is,.int .i64 v.num,S v.str,.slice al v.list.length cl,.slice am v.map.length cm]∧Mod [] w aB) (fun⟨k,z⟩=>v.list.length-k) (⟨0,(ka (ka (left-1)-v.str.length))⟩) ⟨rfl,rfl,rfl,rfl,trivial⟩ (⟨by omega,rfl,U,E⟩) ?_)))));rintro⟨k,z⟩ cN ⟨hk,Dc,U,E⟩;refine ax fun cx=>ab fun cH=>aG rfl (ag (av gA rfl) (ag (bc jL rfl (U.cell rfl)) (ag (bl Tryz.underlying22 rfl) (ag (cI rfl rfl) ?_))));refine cT (fun Ik:(k:Int)<(v.list.length:Int)=>?_) (fun Ik=>?_);rotate_left
 ·refine ak 4 rfl (J cH (aE rfl ?_));have tu:JV.jv v.list (ka (ka (left-1)-v.str.length)) (ka (deep-1))=z:=by rw [← Dc];exact JV.Fb (by omega)
  refine bm (aO (by simp) (aO (by simp) (bS (aw bW (ax fun eb=>ab fun fq=>aT rfl (J fq (eB (bU (σ:=Nat×Int) (fun⟨k,y⟩=>[(1,.int .i64 y),(2,.int .i64 deep),(3,.pointer (some ⟨g1,0,none⟩)),(8,.int .i64 (k:Int))]) (fun⟨k,y⟩ aB=>k≤v.map.length∧JV.jw (v.map.drop k) y (ka (deep-1))=JV.jw v.map z (ka (deep-1))∧aF aB g1 25 [.int .i64 v.kind,.bool v.is,.int .i64 v.num,S v.str,.slice al v.list.length cl,.slice am v.map.length cm]∧Mod [] w aB) (fun⟨k,y⟩=>v.map.length-k) (⟨0,z⟩) ⟨rfl,rfl,rfl,rfl,trivial⟩ (⟨by omega,rfl,U,E⟩) ?_))))))));rintro⟨k,y⟩ jC ⟨hk,kY,U,E⟩;refine ax fun fE=>ab fun fa=>aG rfl (ag (av b9 rfl) (ag (bc dB rfl (U.cell rfl)) (ag (bl Tryz.underlying23 rfl) (ag (cI rfl rfl) ?_))));refine cT (fun yw:(k:Int)<(v.map.length:Int)=>?_) (fun yw=>?_);rotate_left
  ·refine ak 4 rfl (J fa (aE rfl ?_));have mM:v.jq left deep=y:=by rw [hh,tu,← kY];exact JV.w7 (by omega)
   exact bm (aO (by simp) (aO (by simp) (bS (aw eb (ab fun hn=>ak 2 rfl (J hn (aZ (au rfl rfl ⟨by rw [mM],E⟩))))))))
  refine ak 2 rfl (ar (dr rfl rfl) (ag (lU rfl rfl rfl) (J fa ?_)));refine aI rfl (fun abt=>?_) (fun abt=>?_)
  ·obtain⟨x,bO⟩:∃ x,v.map[k]? = some x:=⟨_,List.getElem?_eq_getElem (by omega)⟩;obtain⟨jD,lf,dv,ei,gB⟩:=JV.kl jJ bO;obtain⟨jM,jN,jb,h3,rfl,lg,lD⟩:=JV.bb ei;have cj:=gB.I E;have hB:=JV.hq jJ;obtain rfl:=dv;have dk:¬ y<0:=by omega
   have mL:=JV.yx (d:=(ka (deep-1))) bO dk;refine ca (aw fE (ax fun fL=>eB (bT wide (by kernel_rfl) (ai (fun R=>(av b9 rfl)) (ai (fun R=>(bc dB rfl ((U.I R).cell rfl))) (ai (fun R=>(ec rfl)) (ai (fun R=>(b6 cR rfl rfl (by omega))) (ai (fun R=>(dD h' rfl)) (ai (fun R=>(a8 aK rfl rfl (cj.I R).tv)) (ai (fun R=>(ec rfl)) (ai (fun R=>(av b9 rfl)) (ai (fun R=>(bc dB rfl ((U.I R).cell rfl))) ?_))))))))))));refine ai (fun R=>(ec rfl)) (ai (fun R=>(b6 cR rfl rfl (by omega))) (ai (fun R=>(dD eF rfl)) (ai (fun R=>(bc bs rfl ((cj.I R) 0 _ rfl))) (ai (fun R=>(bw Tryz.underlying9 rfl)) (ai (fun R=>(hN rfl rfl)) (ai (fun R=>(ec rfl)) (ai (fun R=>(hN rfl rfl)) (BQ (fun cQ R=>bF oy rfl) (fun cQ R=>dK _ x.2 _ _ _ (by have:=JV.gp (List.mem_of_getElem? bO);omega) (ei.bB (E.then R))) rfl rfl (ai (fun R=>(cr rfl)) (bV rfl fun iw R=>?_))))))))));replace U:=U.I R;replace E:=E.then R;refine bx (by simp) (aw fL (bQ (aG rfl (ag (aN rfl rfl (by omega)) (aT rfl (cF ?_))))));have rP:=JV.hq jJ;exact fJ (σ:=Nat×Int) (s:=⟨k,y⟩) (⟨k+1,x.2.jq (ka (y-x.1.length)) (ka (deep-1))⟩) ⟨rfl,rfl,rfl,rfl,trivial⟩ ⟨by omega,by rw [← mL];exact kY,U,E⟩ (by dsimp only;omega)
  have mM:v.jq left deep=y:=by rw [hh,tu,← kY];exact JV.w6 (by omega)
  exact bm (aO (by simp) (aO (by simp) (bS (aw eb (ab fun gX=>ak 2 rfl (J gX (aZ (au rfl rfl ⟨by rw [mM],E⟩))))))))
 refine ak 2 rfl (ar (dr rfl rfl) (ag (lU rfl rfl rfl) (J cH ?_)));refine aI rfl (fun p6=>?_) (fun p6=>?_)
 ·obtain⟨x,bO⟩:∃ x,v.list[k]? = some x:=⟨_,List.getElem?_eq_getElem (by omega)⟩;obtain⟨jD,lf,dv,ei,gB⟩:=JV.yv kW bO;obtain⟨jM,jN,jb,h3,rfl,lg,lD⟩:=JV.bb ei;have cj:=gB.I E;have hB:=JV.pR kW;obtain rfl:=dv;have dk:¬ z<0:=by omega
  have mL:=JV.Il (d:=(ka (deep-1))) bO dk;refine ca (aw cx (ax fun b5=>eB (bQ (ag (av gA rfl) (ag (bc jL rfl (U.cell rfl)) (aG rfl (ag (b6 kk rfl rfl (by omega)) (ag (a8 aK rfl rfl cj) (ak 2 rfl (ag (hN rfl rfl) (cP (bF oy rfl) (dK _ x _ z _ (by have:=JV.gN (List.mem_of_getElem? bO);omega) (ei.bB E)) fun fV R=>?_)))))))))));replace U:=U.I R;replace E:=E.then R;refine aT rfl (cF (bx (by simp) (aw b5 (bQ (aG rfl (ag (aN rfl rfl (by omega)) (aT rfl (cF ?_))))))));have rP:=JV.pR kW;exact fJ (σ:=Nat×Int) (s:=⟨k,z⟩) (⟨k+1,x.jq z (ka (deep-1))⟩) ⟨rfl,rfl,rfl,rfl,trivial⟩ ⟨by omega,by rw [← mL];exact Dc,U,E⟩ (by dsimp only;omega)
 have tu:JV.jv v.list (ka (ka (left-1)-v.str.length)) (ka (deep-1))=z:=by rw [← Dc];exact JV.Fa (by omega)
 refine bm (aO (by simp) (aO (by simp) (bS (aw bW (ax fun bX=>ab fun cU=>aT rfl (J cU (eB (bU (σ:=Nat×Int) (fun⟨k,y⟩=>[(1,.int .i64 y),(2,.int .i64 deep),(3,.pointer (some ⟨g1,0,none⟩)),(8,.int .i64 (k:Int))]) (fun⟨k,y⟩ aB=>k≤v.map.length∧JV.jw (v.map.drop k) y (ka (deep-1))=JV.jw v.map z (ka (deep-1))∧aF aB g1 25 [.int .i64 v.kind,.bool v.is,.int .i64 v.num,S v.str,.slice al v.list.length cl,.slice am v.map.length cm]∧Mod [] w aB) (fun⟨k,y⟩=>v.map.length-k) (⟨0,z⟩) ⟨rfl,rfl,rfl,rfl,trivial⟩ (⟨by omega,rfl,U,E⟩) ?_))))))));rintro⟨k,y⟩ ic ⟨hk,kY,U,E⟩;refine ax fun b7=>ab fun cS=>aG rfl (ag (av b9 rfl) (ag (bc dB rfl (U.cell rfl)) (ag (bl Tryz.underlying23 rfl) (ag (cI rfl rfl) ?_))));refine cT (fun yw:(k:Int)<(v.map.length:Int)=>?_) (fun yw=>?_);rotate_left
 ·refine ak 4 rfl (J cS (aE rfl ?_));have mM:v.jq left deep=y:=by rw [hh,tu,← kY];exact JV.w7 (by omega)
  exact bm (aO (by simp) (aO (by simp) (bS (aw bX (ab fun eC=>ak 2 rfl (J eC (aZ (au rfl rfl ⟨by rw [mM],E⟩))))))))
 refine ak 2 rfl (ar (dr rfl rfl) (ag (lU rfl rfl rfl) (J cS ?_)));refine aI rfl (fun abt=>?_) (fun abt=>?_)
 ·obtain⟨x,bO⟩:∃ x,v.map[k]? = some x:=⟨_,List.getElem?_eq_getElem (by omega)⟩;obtain⟨jD,lf,dv,ei,gB⟩:=JV.kl jJ bO;obtain⟨jM,jN,jb,h3,rfl,lg,lD⟩:=JV.bb ei;have cj:=gB.I E;have hB:=JV.hq jJ;obtain rfl:=dv;have dk:¬ y<0:=by omega
  have mL:=JV.yx (d:=(ka (deep-1))) bO dk;refine ca (aw b7 (ax fun de=>eB (bT wide (by kernel_rfl) (ai (fun R=>(av b9 rfl)) (ai (fun R=>(bc dB rfl ((U.I R).cell rfl))) (ai (fun R=>(ec rfl)) (ai (fun R=>(b6 cR rfl rfl (by omega))) (ai (fun R=>(dD h' rfl)) (ai (fun R=>(a8 aK rfl rfl (cj.I R).tv)) (ai (fun R=>(ec rfl)) (ai (fun R=>(av b9 rfl)) (ai (fun R=>(bc dB rfl ((U.I R).cell rfl))) ?_))))))))))));refine ai (fun R=>(ec rfl)) (ai (fun R=>(b6 cR rfl rfl (by omega))) (ai (fun R=>(dD eF rfl)) (ai (fun R=>(bc bs rfl ((cj.I R) 0 _ rfl))) (ai (fun R=>(bw Tryz.underlying9 rfl)) (ai (fun R=>(hN rfl rfl)) (ai (fun R=>(ec rfl)) (ai (fun R=>(hN rfl rfl)) (BQ (fun cQ R=>bF oy rfl) (fun cQ R=>dK _ x.2 _ _ _ (by have:=JV.gp (List.mem_of_getElem? bO);omega) (ei.bB (E.then R))) rfl rfl (ai (fun R=>(cr rfl)) (bV rfl fun jn R=>?_))))))))));replace U:=U.I R;replace E:=E.then R;refine bx (by simp) (aw de (bQ (aG rfl (ag (aN rfl rfl (by omega)) (aT rfl (cF ?_))))));have rP:=JV.hq jJ;exact fJ (σ:=Nat×Int) (s:=⟨k,y⟩) (⟨k+1,x.2.jq (ka (y-x.1.length)) (ka (deep-1))⟩) ⟨rfl,rfl,rfl,rfl,trivial⟩ ⟨by omega,by rw [← mL];exact kY,U,E⟩ (by dsimp only;omega)
 have mM:v.jq left deep=y:=by rw [hh,tu,← kY];exact JV.w6 (by omega)
 exact bm (aO (by simp) (aO (by simp) (bS (aw bX (ab fun dG=>ak 2 rfl (J dG (aZ (au rfl rfl ⟨by rw [mM],E⟩))))))))
theorem ur:∀ N:Nat,∀ (w:World) (v:JV) (us:List Value) (left deep:Int),v.sz≤N→ao [] w v.D us→Calls Tryz.prog 42 [.agg us.toArray,.int .i64 left,.int .i64 deep].toArray w (bL fun u w'=>u = .int .i64 (v.jq left deep)∧Mod [] w w')
 | 0,w,v,us,left,deep,h,asp=>absurd (JV.oz v) (by omega)
 | N+1,w,v,us,left,deep,h,asp=>A6 N (ur N) w v us left deep h asp
theorem mN (w:World) (v:JV) (us:List Value) (left deep:Int) (asp:ao [] w v.D us):Calls Tryz.prog 42 [.agg us.toArray,.int .i64 left,.int .i64 deep].toArray w (bL fun u w'=>u = .int .i64 (v.jq left deep)∧Mod [] w w'):=ur v.sz w v us left deep (Nat.le_refl _) asp
set_option maxRecDepth 10000
theorem hC:iz Tryz.prog 25 0 0 1=true:=by kernel_rfl
theorem dE:nM Tryz.prog 3=true:=by kernel_rfl
theorem qF:iz Tryz.prog 25 1 1 1=true:=by kernel_rfl
theorem jr:nM Tryz.prog 4=true:=by kernel_rfl
theorem kP:iz Tryz.prog 25 2 2 1=true:=by kernel_rfl
theorem Dd:aQ Tryz.prog 24:=aQ.of Tryz.func24 (by kernel_rfl) (by kernel_rfl)
theorem De (N:Nat) (dK:∀ (w:World) (v y:JV) (us vs:List Value),v.sz≤N→ao [] w v.D us→ao [] w y.D vs→Calls Tryz.prog 24 [.agg us.toArray,.agg vs.toArray].toArray w (bL fun u w'=>u = .bool (JV.pS v y)∧Mod [] w w')) (w:World) (v y:JV) (us vs:List Value) (h7:v.sz≤N+1) (asp:ao [] w v.D us) (p7:ao [] w y.D vs):Calls Tryz.prog 24 [.agg us.toArray,.agg vs.toArray].toArray w (bL fun u w'=>u = .bool (JV.pS v y)∧Mod [] w w'):=by
 refine enter Tryz.func24 rfl rfl rfl (l:=[(0,_),(1,_)]) ⟨rfl,rfl,trivial⟩ ?_;have E:=Mod.refl [] w;obtain⟨al,cl,am,cm,rfl,kW,jJ⟩:=JV.bb asp;obtain⟨A7,A8,A9,Ba,rfl,afK,afL⟩:=JV.bb p7;refine ab fun aV=>dP rfl rfl rfl fun g1 aB bR=>?_;have bH:=bR.le E;replace E:=E.then bR.mod;have U:=bR.az;refine dP rfl rfl rfl fun g2 cN cK=>?_;have b4:=cK.le E;have bP:=cK.ne U;replace U:=U.I cK.mod;replace E:=E.then cK.mod;have ah:=cK.az;refine aT rfl (J aV (ax fun aL=>ab fun aW=>ag (av hC rfl) (ag (bc dE rfl (U.cell rfl)) (ag (av hC rfl) (ag (bc dE rfl (ah.cell rfl)) (ag (eU rfl rfl) ?_))))));refine cT (fun jO:v.kind≠y.kind=>?_) (fun jO=>?_)
 ·have mM:JV.pS v y=false:=JV.nN fun e=>jO (by rw [e]);exact ak 39 rfl (J aW (aD rfl (ab fun br=>aT rfl (J br (aZ (aO (by simp) (au rfl rfl ⟨by rw [mM],E⟩)))))))
 refine aG rfl (ar (av qF rfl) (ar (bc jr rfl (U.cell rfl)) (ar (av qF rfl) (ar (bc jr rfl (ah.cell rfl)) (ar (Df Tryz.underlying4 rfl rfl) ?_)))));refine w8 (fun oA:((v.is != y.is))=true=>?_) (fun oA=>?_)
 ·have mM:JV.pS v y=false:=JV.nN fun e=>(by subst e;simp at oA);exact ak 33 rfl (J aW (aD rfl (ab fun bI=>aT rfl (J bI (aZ (aO (by simp) (au rfl rfl ⟨by rw [mM],E⟩)))))))
 refine ak 2 rfl (ar (av kP rfl) (ar (bc dE rfl (U.cell rfl)) (ar (av kP rfl) (ar (bc dE rfl (ah.cell rfl)) (ar (eU rfl rfl) ?_)))));refine cT (fun yy:v.num≠y.num=>?_) (fun yy=>?_)
 ·have mM:JV.pS v y=false:=JV.nN fun e=>yy (by rw [e]);exact ak 26 rfl (J aW (aD rfl (ab fun bW=>aT rfl (J bW (aZ (aO (by simp) (au rfl rfl ⟨by rw [mM],E⟩)))))))
 refine ak 2 rfl (ar (av ju rfl) (ar (bc bs rfl (U.cell rfl)) (ar (av ju rfl) (ar (bc bs rfl (ah.cell rfl)) (ar (eu rfl rfl) ?_)))));refine cT (fun Im:v.str≠y.str=>?_) (fun Im=>?_)
 ·have mM:JV.pS v y=false:=JV.nN fun e=>Im (by rw [e]);exact ak 19 rfl (J aW (aD rfl (ab fun cb=>aT rfl (J cb (aZ (aO (by simp) (au rfl rfl ⟨by rw [mM],E⟩)))))))
 refine ak 2 rfl (ar (av gA rfl) (ar (bc jL rfl (U.cell rfl)) (ar (bl Tryz.underlying22 rfl) (ar (av gA rfl) (ar (bc jL rfl (ah.cell rfl)) (ar (bl Tryz.underlying22 rfl) (ar (eU rfl rfl) ?_)))))));refine cT (fun Pf:(v.list.length:Int)≠(y.list.length:Int)=>?_) (fun Pf=>?_)
 ·have mM:JV.pS v y=false:=JV.nN fun e=>Pf (by rw [e]);exact ak 10 rfl (J aW (aD rfl (ab fun cx=>aT rfl (J cx (aZ (aO (by simp) (au rfl rfl ⟨by rw [mM],E⟩)))))))
 refine ak 2 rfl (ar (av b9 rfl) (ar (bc dB rfl (U.cell rfl)) (ar (bl Tryz.underlying23 rfl) (ar (av b9 rfl) (ar (bc dB rfl (ah.cell rfl)) (ar (bl Tryz.underlying23 rfl) (ar (eU rfl rfl) ?_)))))));refine cT (fun Pg:(v.map.length:Int)≠(y.map.length:Int)=>?_) (fun Pg=>?_)
 ·have mM:JV.pS v y=false:=JV.nN fun e=>Pg (by rw [e]);exact ag (ji rfl rfl rfl) (J aW (aD rfl (ab fun cH=>aT rfl (J cH (aZ (aO (by simp) (au rfl rfl ⟨by rw [mM],E⟩)))))))
 refine ag (ji rfl rfl rfl) (J aW (aE rfl (ca (aw aL (ax fun b5=>ab fun bX=>ag (av gA rfl) (ag (bc jL rfl (U.cell rfl)) (ag (bl Tryz.underlying22 rfl) (aG rfl (J bX (eB (bU (σ:=Nat) (fun k=>[(2,.pointer (some ⟨g1,0,none⟩)),(3,.pointer (some ⟨g2,0,none⟩)),(53,.int .i64 v.list.length),(54,.int .i64 (k:Int))]) (fun k aB=>k≤v.list.length∧(∀ (i:Nat) (a b:JV),i<k→v.list[i]? = some a→y.list[i]? = some b→a=b)∧aF aB g1 25 [.int .i64 v.kind,.bool v.is,.int .i64 v.num,S v.str,.slice al v.list.length cl,.slice am v.map.length cm]∧aF aB g2 25 [.int .i64 y.kind,.bool y.is,.int .i64 y.num,S y.str,.slice A7 y.list.length A8,.slice A9 y.map.length Ba]∧Mod [] w aB) (fun k=>v.list.length-k) (0) ⟨rfl,rfl,rfl,rfl,trivial⟩ (⟨by omega,fun i a b h=>by omega,U,ah,E⟩) ?_)))))))))));rintro k fV ⟨hk,dF,U,ah,E⟩;refine ab fun cU=>ag (cI rfl rfl) (J cU (ax fun b7=>?_));refine aI rfl (fun akm=>?_) (fun akm=>?_)
 ·obtain⟨x,bO⟩:∃ x,v.list[k]? = some x:=⟨_,List.getElem?_eq_getElem (by omega)⟩;obtain⟨jD,lf,dv,ei,gB⟩:=JV.yv kW bO;obtain⟨jM,jN,jb,h3,rfl,lg,lD⟩:=JV.bb ei;have cj:=gB.I E;have hB:=JV.pR kW;obtain rfl:=dv;obtain⟨z,rQ⟩:∃ x,y.list[k]? = some x:=⟨_,List.getElem?_eq_getElem (by omega)⟩;obtain⟨akn,afM,Ph,Pj,Dg⟩:=JV.yv afK rQ;obtain⟨afN,afO,afP,afQ,rfl,afR,afS⟩:=JV.bb Pj;have yz:=Dg.I E;have Vw:=JV.pR afK;obtain rfl:=Ph;refine ca (aw b7 (ax fun cS=>eB (ab fun de=>ak 2 rfl (J de (ax fun dG=>bT wide (by kernel_rfl) (ai (fun R=>(av gA rfl)) (ai (fun R=>(bc jL rfl ((U.I R).cell rfl))) (ai (fun R=>(ec rfl)) (ai (fun R=>(b6 kk rfl rfl (by omega))) (ai (fun R=>(a8 aK rfl rfl (cj.I R))) ?_))))))))));refine ai (fun R=>(av gA rfl)) (ai (fun R=>(bc jL rfl ((ah.I R).cell rfl))) (ai (fun R=>(ec rfl)) (ai (fun R=>(b6 kk rfl rfl (by omega))) (ai (fun R=>(a8 aK rfl rfl (yz.I R))) (BQ (fun cQ R=>bF Dd rfl) (fun cQ R=>dK _ x z _ _ (by have:=JV.gN (List.mem_of_getElem? bO);omega) (ei.bB (E.then R)) (Pj.bB (E.then R))) rfl rfl (ai (fun R=>(ff rfl)) (bV rfl fun ic R=>?_)))))));replace U:=U.I R;replace ah:=ah.I R;replace E:=E.then R;refine aw dG ?_;refine a7 rfl (fun jc=>?_) (fun jc=>?_)
  ·have mM:JV.pS v y=false:=JV.nN fun e=>by
    subst e;rw [bO] at rQ;injection rQ with e
    subst e;rw [JV.sD] at jc;cases jc
   exact ab fun eC=>aT rfl (J eC (aZ (bx (by simp) (aO (by simp) (aO (by simp) (bx (by simp) (aO (by simp) (au rfl rfl ⟨by rw [mM],E⟩))))))))
  have abu:∀ (i:Nat) (a b:JV),i<k+1→v.list[i]? = some a→y.list[i]? = some b→a=b:=fun i a b hi ay aS=>by
   rcases Nat.lt_succ_iff_lt_or_eq.1 hi with h | h
   ·exact dF i a b h ay aS
   subst h;rw [bO] at ay;rw [rQ] at aS;injection ay with ay
   injection aS with aS
   subst ay;subst aS;exact JV.p8.1 (by simpa using jc)
  exact ca (bx (by simp) (aw cS (bQ (ag (aN rfl rfl (by omega)) (aG rfl (cF (fJ (σ:=Nat) (s:=k) (k+1) ⟨rfl,rfl,rfl,rfl,trivial⟩ ⟨by omega,abu,U,ah,E⟩ (by omega))))))))
 refine bm (aO (by simp) (aO (by simp) (bS (aw b5 (ax fun eb=>ab fun fq=>ag (av b9 rfl) (ag (bc dB rfl (U.cell rfl)) (ag (bl Tryz.underlying23 rfl) (aG rfl (J fq (eB (bU (σ:=Nat) (fun j=>[(2,.pointer (some ⟨g1,0,none⟩)),(3,.pointer (some ⟨g2,0,none⟩)),(72,.int .i64 v.map.length),(73,.int .i64 (j:Int))]) (fun j aB=>j≤v.map.length∧(∀ (i:Nat) (a b:List UInt8×JV),i<j→v.map[i]? = some a→y.map[i]? = some b→a=b)∧aF aB g1 25 [.int .i64 v.kind,.bool v.is,.int .i64 v.num,S v.str,.slice al v.list.length cl,.slice am v.map.length cm]∧aF aB g2 25 [.int .i64 y.kind,.bool y.is,.int .i64 y.num,S y.str,.slice A7 y.list.length A8,.slice A9 y.map.length Ba]∧Mod [] w aB) (fun j=>v.map.length-j) (0) ⟨rfl,rfl,rfl,rfl,trivial⟩ (⟨by omega,fun i a b h=>by omega,U,ah,E⟩) ?_)))))))))));rintro j jn ⟨d',eh,U,ah,E⟩;refine ab fun fE=>ag (cI rfl rfl) (J fE (ax fun fa=>?_));refine aI rfl (fun abv=>?_) (fun abv=>?_);rotate_left
 ·exact bm (aO (by simp) (aO (by simp) (bS (aw eb (ab fun hE=>aT rfl (J hE (aZ (au rfl rfl ⟨by rw [JV.p8.2 (JV.KP (Classical.byContradiction jO) (by simpa using oA) (Classical.byContradiction yy) (Classical.byContradiction Im) (JV.yA (by omega) fun i a b hi ay aS=>dF i a b (by omega) ay aS) (JV.yA (by omega) fun i a b hi ay aS=>eh i a b (by omega) ay aS))],E⟩))))))))
 obtain⟨x,bO⟩:∃ x,v.map[j]? = some x:=⟨_,List.getElem?_eq_getElem (by omega)⟩;obtain⟨jD,lf,dv,ei,gB⟩:=JV.kl jJ bO;obtain⟨jM,jN,jb,h3,rfl,lg,lD⟩:=JV.bb ei;have cj:=gB.I E;have hB:=JV.hq jJ;obtain rfl:=dv;obtain⟨z,rQ⟩:∃ x,y.map[j]? = some x:=⟨_,List.getElem?_eq_getElem (by omega)⟩;obtain⟨akn,afM,Ph,Pj,Dg⟩:=JV.kl afL rQ;obtain⟨afN,afO,afP,afQ,rfl,afR,afS⟩:=JV.bb Pj;have yz:=Dg.I E;have Vw:=JV.hq afL;obtain rfl:=Ph;refine ca (aw fa (ax fun fL=>eB (ab fun gX=>ak 2 rfl (J gX (ax fun hn=>?_)))))
 by_cases dy:x.1≠z.1
 ·refine bT wide (by kernel_rfl) (ai (fun R=>(av b9 rfl)) (ai (fun R=>(bc dB rfl ((U.I R).cell rfl))) (ai (fun R=>(ec rfl)) (ai (fun R=>(b6 cR rfl rfl (by omega))) (ai (fun R=>(dD eF rfl)) (ai (fun R=>(bc bs rfl ((cj.I R) 0 _ rfl))) (ai (fun R=>(av b9 rfl)) (ai (fun R=>(bc dB rfl ((ah.I R).cell rfl))) (ai (fun R=>(ec rfl)) (ai (fun R=>(b6 cR rfl rfl (by omega))) (ai (fun R=>(dD eF rfl)) (ai (fun R=>(bc bs rfl ((yz.I R) 0 _ rfl))) (ai (fun R=>(eu rfl rfl)) ?_)))))))))))));refine ai (fun R=>(ec rfl)) (eV rfl (bh dy) (eV rfl (bh dy) (eV rfl (bh dy) (eV rfl (bh dy) (eV rfl (bh dy) (eV rfl (bh dy) (eV rfl (bh dy) (eV rfl (bh dy) (eV rfl (bh dy) (eV rfl (bh dy) (eV rfl (bh dy) (eV rfl (bh dy) (eV rfl (bh dy) ?_)))))))))))));refine eV rfl (bh dy) (ai (fun R=>(lU (bh dy) rfl rfl)) (bV rfl fun jC R=>?_));replace U:=U.I R;replace ah:=ah.I R;replace E:=E.then R;refine aw hn (aD rfl ?_);have mM:JV.pS v y=false:=JV.nN fun e=>by
   subst e;rw [bO] at rQ;injection rQ with e
   subst e;exact dy rfl
  exact ab fun hD=>aT rfl (J hD (aZ (bx (by simp) (aO (by simp) (aO (by simp) (bx (by simp) (aO (by simp) (au rfl rfl ⟨by rw [mM],E⟩))))))))
 refine bT wide (by kernel_rfl) (ai (fun R=>(av b9 rfl)) (ai (fun R=>(bc dB rfl ((U.I R).cell rfl))) (ai (fun R=>(ec rfl)) (ai (fun R=>(b6 cR rfl rfl (by omega))) (ai (fun R=>(dD eF rfl)) (ai (fun R=>(bc bs rfl ((cj.I R) 0 _ rfl))) (ai (fun R=>(av b9 rfl)) (ai (fun R=>(bc dB rfl ((ah.I R).cell rfl))) (ai (fun R=>(ec rfl)) (ai (fun R=>(b6 cR rfl rfl (by omega))) (ai (fun R=>(dD eF rfl)) (ai (fun R=>(bc bs rfl ((yz.I R) 0 _ rfl))) (ai (fun R=>(eu rfl rfl)) ?_)))))))))))));refine ai (fun R=>(ec rfl)) (aM (bN dy) (fun R=>(av b9 rfl)) (aM (bN dy) (fun R=>(bc dB rfl ((U.I R).cell rfl))) (aM (bN dy) (fun R=>(ec rfl)) (aM (bN dy) (fun R=>(b6 cR rfl rfl (by omega))) (aM (bN dy) (fun R=>(dD h' rfl)) (aM (bN dy) (fun R=>(a8 aK rfl rfl (cj.I R).tv)) (aM (bN dy) (fun R=>(av b9 rfl)) (aM (bN dy) (fun R=>(bc dB rfl ((ah.I R).cell rfl))) (aM (bN dy) (fun R=>(ec rfl)) (aM (bN dy) (fun R=>(b6 cR rfl rfl (by omega))) (aM (bN dy) (fun R=>(dD h' rfl)) (aM (bN dy) (fun R=>(a8 aK rfl rfl (yz.I R).tv)) (Fc rfl (bN dy) (fun cQ R=>bF Dd rfl) (fun cQ R=>dK _ x.2 z.2 _ _ (by have:=JV.gp (List.mem_of_getElem? bO);omega) (ei.bB (E.then R)) (Pj.bB (E.then R))) rfl rfl ?_)))))))))))));refine aM (bN dy) (fun R=>(ff rfl)) (ai (fun R=>(ji (bN dy) rfl rfl)) (bV rfl fun iw R=>?_));replace U:=U.I R;replace ah:=ah.I R;replace E:=E.then R;refine aw hn ?_;refine a7 rfl (fun pq=>?_) (fun pq=>?_)
 ·have mM:JV.pS v y=false:=JV.nN fun e=>by
   subst e;rw [bO] at rQ;injection rQ with e
   subst e;rw [JV.sD] at pq;cases pq
  exact ab fun ho=>aT rfl (J ho (aZ (bx (by simp) (aO (by simp) (aO (by simp) (bx (by simp) (aO (by simp) (au rfl rfl ⟨by rw [mM],E⟩))))))))
 have ako:∀ (i:Nat) (a b:List UInt8×JV),i<j+1→v.map[i]? = some a→y.map[i]? = some b→a=b:=fun i a b hi ay aS=>by
  rcases Nat.lt_succ_iff_lt_or_eq.1 hi with h | h
  ·exact eh i a b h ay aS
  subst h;rw [bO] at ay;rw [rQ] at aS;injection ay with ay
  injection aS with aS
  subst ay;subst aS;exact Prod.ext (Classical.byContradiction dy) (JV.p8.1 (by simpa using pq))
 exact ca (bx (by simp) (aw fL (bQ (ag (aN rfl rfl (by omega)) (aG rfl (cF (fJ (σ:=Nat) (s:=j) (j+1) ⟨rfl,rfl,rfl,rfl,trivial⟩ ⟨by omega,ako,U,ah,E⟩ (by omega))))))))
theorem w9:∀ N:Nat,∀ (w:World) (v y:JV) (us vs:List Value),v.sz≤N→ao [] w v.D us→ao [] w y.D vs→Calls Tryz.prog 24 [.agg us.toArray,.agg vs.toArray].toArray w (bL fun u w'=>u = .bool (JV.pS v y)∧Mod [] w w')
 | 0,w,v,y,us,vs,h,asp,p7=>absurd (JV.oz v) (by omega)
 | N+1,w,v,y,us,vs,h,asp,p7=>De N (w9 N) w v y us vs h asp p7
theorem KQ (w:World) (v y:JV) (us vs:List Value) (asp:ao [] w v.D us) (p7:ao [] w y.D vs):Calls Tryz.prog 24 [.agg us.toArray,.agg vs.toArray].toArray w (bL fun u w'=>u = .bool (JV.pS v y)∧Mod [] w w'):=w9 v.sz w v y us vs (Nat.le_refl _) asp p7
set_option maxRecDepth 10000
theorem abw:aap Tryz.prog 226:=fun args w=>run_callFunc_extern Tryz.func226 (by kernel_rfl) (by kernel_rfl) (by kernel_rfl) (by kernel_rfl) args w
theorem Vx:aQ Tryz.prog 192:=aQ.of Tryz.func192 (by kernel_rfl) (by kernel_rfl)
theorem Vy:aQ Tryz.prog 160:=aQ.of Tryz.func160 (by kernel_rfl) (by kernel_rfl)
theorem jP:rO Tryz.prog 51 7=true:=by kernel_rfl
theorem KR:aQ Tryz.prog 124:=aQ.of Tryz.func124 (by kernel_rfl) (by kernel_rfl)
theorem hF:vT Tryz.prog 51 [(0,1),(1,6)]=true:=by kernel_rfl
theorem ey:hG Tryz.prog 51 ([S [],.int .i64 0,.bool false,.int .i64 0,S [],.slice none 0 0,.slice none 0 0]):=by unfold hG;kernel_rfl
theorem Vz:aQ Tryz.prog 123:=aQ.of Tryz.func123 (by kernel_rfl) (by kernel_rfl)
theorem VO (w:World) (a b:aa):Calls Tryz.prog 192 [S a,S b].toArray w (bL fun u w'=>u = .int .i64 (p9 a b)∧Mod [] w w'):=by
 refine enter Tryz.func192 rfl rfl rfl (l:=[(0,_),(1,_)]) ⟨rfl,rfl,trivial⟩ ?_;have E:=Mod.refl [] w;refine ab fun aV=>aT rfl (J aV (ab fun aL=>ak 2 rfl (ag ((Ms abw rfl rfl).to (by rw [vU])) ?_)));exact aT rfl (J aL (aZ (au rfl rfl ⟨rfl,E⟩)))
theorem VU (w:World) (a b:aa):Calls Tryz.prog 160 [S a,S b].toArray w (bL fun u w'=>u = .int .i64 (p9 a b)∧Mod [] w w'):=by
 refine enter Tryz.func160 rfl rfl rfl (l:=[(0,_),(1,_)]) ⟨rfl,rfl,trivial⟩ ?_;have E:=Mod.refl [] w;refine ab fun aV=>aT rfl (J aV (ab fun aL=>ak 2 rfl (cP (bF Vx rfl) (VO _ _ _) fun aB R=>?_)));replace E:=E.then R;exact aT rfl (J aL (aZ (au rfl rfl ⟨rfl,E⟩)))
theorem Fe (w:World) (a b:aa) (us vs:List Value):Calls Tryz.prog 124 [.agg (S a::us).toArray,.agg (S b::vs).toArray].toArray w (bL fun u w'=>u = .int .i64 (p9 a b)∧Mod [] w w'):=by
 refine enter Tryz.func124 rfl rfl rfl (l:=[(0,_),(1,_)]) ⟨rfl,rfl,trivial⟩ ?_;have E:=Mod.refl [] w;refine ab fun aV=>dP rfl rfl rfl fun g1 aB bR=>?_;have bH:=bR.le E;replace E:=E.then bR.mod;have U:=bR.az;refine dP rfl rfl rfl fun g2 cN cK=>?_;have b4:=cK.le E;have bP:=cK.ne U;replace U:=U.I cK.mod;replace E:=E.then cK.mod;have ah:=cK.az;refine aT rfl (J aV (ab fun aL=>ag (av eF rfl) (ag (bc bs rfl (U.cell rfl)) (ag (av eF rfl) (ag (bc bs rfl (ah.cell rfl)) (cP (bF Vy rfl) (VU _ _ _) fun fV R=>?_))))));replace U:=U.I R;replace ah:=ah.I R;replace E:=E.then R;exact aT rfl (J aL (aZ (au rfl rfl ⟨rfl,E⟩)))
theorem abx (w:World) (m:List (aa×JV)) (v:Value) (asp:ba [] w (.ie 7 (m.map JV.hP)) v) (k:aa) (akp z2 z3 z4 z5 akq:Value) (ay:er m) (ck:m.length≤1353245080310):Calls Tryz.prog 123 [v,.agg [S k,akp,z2,z3,z4,z5,akq].toArray,.func (.func 124) #[] #[]].toArray w (bL fun u w'=>u = .tuple #[.int .i64 (fo m k),.bool (look m k).isSome]∧Mod [] w w'):=by
 refine enter Tryz.func123 rfl rfl rfl (l:=[(0,_),(1,_),(2,_)]) ⟨rfl,rfl,rfl,trivial⟩ ?_;have E:=Mod.refl [] w;obtain⟨ad,c,rfl,fH,gC⟩:∃ ad c,v = .slice ad m.length c∧m.length≤c∧c≤9223372036854775807:=by
  obtain⟨ad,c,h1,aq,aU⟩:=asp.uu;rw [List.length_map] at h1 aq;exact⟨ad,c,h1,aq,aU⟩
 refine ab fun aV=>dP rfl rfl rfl fun g1 aB bR=>?_;have bH:=bR.le E;replace E:=E.then bR.mod;have U:=bR.az;refine ak 2 rfl (J aV (ab fun aL=>aG rfl (ag (bl Tryz.underlying23 rfl) (aT rfl (J aL (ab fun aW=>ak 3 rfl (J aW (ax fun br=>eB ?_))))))));refine bU (σ:=Nat×Nat) (fun⟨i,j⟩=>[(0,.slice ad m.length c),(2,.func (.func 124) #[] #[]),(4,.pointer (some ⟨g1,0,none⟩)),(8,.int .i64 m.length),(9,.int .i64 (i:Int)),(10,.int .i64 (j:Int))]) (fun⟨i,j⟩ aB=>i≤j∧j≤m.length∧(∀ (a:Nat) (y:aa×JV),a<i→m[a]? = some y→eR y.1 k=true)∧(∀ (a:Nat) (y:aa×JV),j≤a→m[a]? = some y→eR y.1 k=false)∧aF aB g1 51 [S k,akp,z2,z3,z4,z5,akq]∧Mod [] w aB) (fun⟨i,j⟩=>j-i) (⟨0,m.length⟩) ⟨rfl,rfl,rfl,rfl,rfl,rfl,trivial⟩ (⟨by omega,by omega,fun a y h=>by omega,fun a y h aY=>(by rw [List.getElem?_eq_none h] at aY;cases aY),U,E⟩) ?_;rintro⟨i,j⟩ cN ⟨xC,d',h1,aq,U,E⟩;refine ax fun bI=>ab fun bW=>ak 3 rfl (J bW ?_);refine aI rfl (fun vV=>?_) (fun vV=>?_);rotate_left
 ·refine bm (aO (by simp) (aO (by simp) (bS (aw br (ax fun cH=>?_)))))
  by_cases ih:(i:Int)<(m.length:Int)
  ·have Pk:i=j:=by omega
   subst Pk;have Fg:=yB (by omega) h1 aq;obtain⟨x,bO⟩:∃ x,m[i]? = some x:=⟨_,List.getElem?_eq_getElem (by omega)⟩;obtain⟨jD,lf,dv,ei,gB⟩:=JV.kl asp bO;obtain⟨jM,jN,jb,h3,rfl,lg,lD⟩:=JV.bb ei;have cj:=gB.I E;have hB:=JV.hq asp;obtain rfl:=dv;have jQ:decide (p9 x.1 k=0)=(look m k).isSome:=(afU ay Fg bO).symm;refine bT wide (by kernel_rfl) (f' 5 rfl rfl (aM (bh ih) (fun R=>(ec rfl)) (aM (bh ih) (fun R=>(ec rfl)) (aM (bh ih) (fun R=>(ec rfl)) (aM (bh ih) (fun R=>(b6 cR rfl rfl (by omega))) (aM (bh ih) (fun R=>(a8 jP rfl rfl (cj.I R))) (aM (bh ih) (fun R=>(a8 (vs:=[_,_,_,_,_,_,_]) jP rfl rfl ((U.I R).cs rfl))) (Fc rfl (bh ih) (fun cQ R=>uv KR rfl rfl) (fun cQ R=>Fe _ x.1 k _ _) rfl rfl (aM (bh ih) (fun R=>(lT rfl rfl)) (ai (fun R=>(lU (bh ih) rfl rfl)) (f' 2 rfl rfl (bV rfl fun ic R=>?_))))))))))));replace U:=U.I R;replace E:=E.then R;exact aw cH (aZ (ct rfl rfl rfl ⟨by rw [Fg,← jQ],E⟩))
  have Pk:i=j:=by omega
  subst Pk;have Fg:=yB (by omega) h1 aq;have jQ:false=(look m k).isSome:=(Fh ay (by omega)).symm;refine bT wide (by kernel_rfl) (f' 5 rfl rfl (eV rfl (bN ih) (eV rfl (bN ih) (eV rfl (bN ih) (eV rfl (bN ih) (eV rfl (bN ih) (eV rfl (bN ih) (eV rfl (bN ih) (eV rfl (bN ih) (ai (fun R=>(ji (bN ih) rfl rfl)) (f' 2 rfl rfl (bV rfl fun jn R=>?_))))))))))));replace U:=U.I R;replace E:=E.then R;exact aw cH (aZ (ct rfl rfl rfl ⟨by rw [Fg,← jQ],E⟩))
 have bJ:(i+j) / 2<m.length:=by omega
 obtain⟨x,bO⟩:∃ x,m[((i+j) / 2)]? = some x:=⟨_,List.getElem?_eq_getElem (by omega)⟩;obtain⟨jD,lf,dv,ei,gB⟩:=JV.kl asp bO;obtain⟨jM,jN,jb,h3,rfl,lg,lD⟩:=JV.bb ei;have cj:=gB.I E;have hB:=JV.hq asp;obtain rfl:=dv;refine ca (aw bI (eB (ab fun cb=>ak 2 rfl (ag (aN rfl rfl (by omega)) (ag (p' (r:=((i:Int)+j)) Tryz.underlying3 Tryz.underlying114 rfl (fF _ (by omega))) (ag (V' (r:=(((i+j) / 2:Nat):Int)) rfl rfl (by omega) (by rw [← Io];exact Mt _)) (ag (p' (r:=(((i+j) / 2:Nat):Int)) Tryz.underlying114 Tryz.underlying3 rfl (wrap64_in _ (by omega))) (aT rfl (J cb (ax fun cx=>bT wide (by kernel_rfl) (f' 3 rfl rfl ?_)))))))))));refine ai (fun R=>(b6 cR rfl rfl (by omega))) (ai (fun R=>(a8 jP rfl rfl (cj.I R))) (ai (fun R=>(a8 (vs:=[_,_,_,_,_,_,_]) jP rfl rfl ((U.I R).cs rfl))) (BQ (fun cQ R=>uv KR rfl rfl) (fun cQ R=>Fe _ x.1 k _ _) rfl rfl (ai (fun R=>(cI rfl rfl)) (bV rfl fun fV R=>?_)))));replace U:=U.I R;replace E:=E.then R;refine aw cx ?_;refine aI rfl (fun ig=>?_) (fun ig=>?_)
 ·have afT:∀ (a:Nat) (y:aa×JV),a<(i+j) / 2+1→m[a]? = some y→eR y.1 k=true:=fun a y Wa aY=>by
   rcases Nat.lt_succ_iff_lt_or_eq.1 Wa with h | h
   ·exact gh (rR ay aY bO h) (rS.1 ig)
   subst h;rw [bO] at aY;injection aY with aY;subst aY;exact rS.1 ig
  exact bQ (aG rfl (ag (cW (r:=(((i+j) / 2+1:Nat):Int)) rfl rfl (by rw [wrap64_in _ (by omega)];omega)) (aT rfl (cF (bx (by simp) (fJ (σ:=Nat×Nat) (s:=⟨i,j⟩) (⟨(i+j) / 2+1,j⟩) ⟨rfl,rfl,rfl,rfl,rfl,rfl,trivial⟩ ⟨by omega,by omega,afT,aq,U,E⟩ (by dsimp only;omega)))))))
 have aby:∀ (a:Nat) (y:aa×JV),(i+j) / 2≤a→m[a]? = some y→eR y.1 k=false:=fun a y Wa aY=>by
  cases Ff:eR y.1 k with
  | false=>rfl
  | true=>
   rcases Nat.lt_or_ge ((i+j) / 2) a with h | h
   ·exact absurd (rS.2 (gh (rR ay bO aY h) Ff)) ig
   have:a=(i+j) / 2:=by omega
   subst this;rw [bO] at aY;injection aY with aY;subst aY;exact absurd (rS.2 Ff) ig
 exact bQ (ak 2 rfl (cF (bx (by simp) (fJ (σ:=Nat×Nat) (s:=⟨i,j⟩) (⟨i,(i+j) / 2⟩) ⟨rfl,rfl,rfl,rfl,rfl,rfl,trivial⟩ ⟨by omega,by omega,h1,aby,U,E⟩ (by dsimp only;omega)))))
theorem yt (w:World) (m:List (aa×JV)) (v:Value) (asp:ba [] w (.ie 7 (m.map JV.hP)) v) (k:aa) (ay:er m) (ck:m.length≤1353245080310):Calls Tryz.prog 69 [v,S k].toArray w (bL fun u w'=>u = .tuple #[.int .i64 (fo m k),.bool (look m k).isSome]∧Mod [] w w'):=by
 refine enter Tryz.func69 rfl rfl rfl (l:=[(0,_),(1,_)]) ⟨rfl,rfl,trivial⟩ ?_;have E:=Mod.refl [] w;refine ab fun aV=>ak 2 rfl (J aV (ab fun aL=>ak 2 rfl (ag (a' (cs:=[_,_,_,_,_,_,_]) hF ey rfl rfl) (cP (bF Vz rfl) (abx _ m _ (asp.bB E) k _ _ _ _ _ _ ay ck) fun aB R=>?_))));replace E:=E.then R;exact ak 4 rfl (J aL (aZ (ct rfl rfl rfl ⟨rfl,E⟩)))
set_option maxRecDepth 10000
theorem cB:hG Tryz.prog 25 ([.int .i64 0,.bool false,.int .i64 0,S [],.slice none 0 0,.slice none 0 0]):=by unfold hG;kernel_rfl
theorem Ij:aQ Tryz.prog 69:=aQ.of Tryz.func69 (by kernel_rfl) (by kernel_rfl)
theorem gW:vT Tryz.prog 25 [(0,1),(1,1),(2,1),(3,1),(4,1),(5,1)]=true:=by kernel_rfl
theorem Dh (A:List Nat) (w0 w:World) (aaq:Mod [] w0 w) (v:JV) (us:List Value) (asp:ao A w0 v.D us) (k:aa) (ay:er v.map) (ck:v.map.length≤1353245080310):Calls Tryz.prog 83 [.agg us.toArray,S k].toArray w (bL fun u w'=>∃ gb,u = .tuple #[.agg gb.toArray,.bool (v.get k).isSome]∧ao A w0 ((v.get k).getD JV.gQ).D gb∧Mod [] w w'):=by
 refine enter Tryz.func83 rfl rfl rfl (l:=[(0,_),(1,_)]) ⟨rfl,rfl,trivial⟩ ?_;have E:=Mod.refl [] w;obtain⟨al,cl,am,cm,rfl,kW,jJ⟩:=JV.bb asp;refine ab fun aV=>dP rfl rfl rfl fun g1 aB bR=>?_;have bH:=bR.le E;replace E:=E.then bR.mod;have U:=bR.az;refine bt cB rfl fun g2 cN cK=>?_;have b4:=cK.le E;have bP:=cK.ne U;replace U:=U.I cK.mod;replace E:=E.then cK.mod;have ah:=cK.az;refine aT rfl (J aV (ab fun aL=>ag (av b9 rfl) (ag (bc dB rfl (U.cell rfl)) (aG rfl (cP (bF Ij rfl) (yt _ v.map _ ((jJ.e9 (by simp)).bB (aaq.then E)) k ay ck) fun fV R=>?_)))));replace U:=U.I R;replace ah:=ah.I R;replace E:=E.then R;refine ak 5 rfl (J aL (ax fun aW=>ab fun br=>ag (av hC rfl) (ag (bc dE rfl (U.cell rfl)) (ag (eU rfl rfl) ?_))));refine cT (fun yC:v.kind≠5=>?_) (fun yC=>?_)
 ·refine ak 4 rfl (J br (aD rfl ?_));have kA:v.get k=none:=by simp [JV.get,yC]
  refine ab fun bI=>ag (a' (cs:=[_,_,_,_,_,_]) gW cB rfl rfl) (bo (vs:=[_,_,_,_,_,_]) aK ah rfl rfl rfl (by simp [Value.oneCell']) (by simp) fun ic kZ=>?_);replace U:=U.ne kZ.mod bP;replace E:=E.own kZ.mod b4;replace ah:aF ic g2 _ [_,_,_,_,_,_]:=kZ.az;exact aT rfl (J bI (aZ (aO (by simp) (js (vs:=[_,_,_,_,_,_]) rfl aK rfl rfl (ah.cs rfl) rfl ⟨_,by rw [kA];rfl,by rw [kA];exact JV.gR,E⟩))))
 refine ak 4 rfl (J br ?_);refine a7 rfl (fun Fi=>?_) (fun Fi=>?_)
 ·have kA:v.get k=none:=by
   have h:look v.map k=none:=by simpa using Fi
   simp [JV.get,h]
  refine ab fun bW=>ag (a' (cs:=[_,_,_,_,_,_]) gW cB rfl rfl) (bo (vs:=[_,_,_,_,_,_]) aK ah rfl rfl rfl (by simp [Value.oneCell']) (by simp) fun jn hx=>?_);replace U:=U.ne hx.mod bP;replace E:=E.own hx.mod b4;replace ah:aF jn g2 _ [_,_,_,_,_,_]:=hx.az;exact aT rfl (J bW (aZ (aO (by simp) (js (vs:=[_,_,_,_,_,_]) rfl aK rfl rfl (ah.cs rfl) rfl ⟨_,by rw [kA];rfl,by rw [kA];exact JV.gR,E⟩))))
 have eA:v.kind=5:=Classical.byContradiction yC;obtain⟨x,bO,aqC,Fj⟩:=sC ay (by simpa using Fi);have yD:v.get k=some x.2:=by simp [JV.get,eA,Fj]
 have yu:=(List.getElem?_eq_some_iff.1 bO).1;obtain⟨jD,lf,dv,ei,gB⟩:=JV.kl jJ bO;obtain⟨jM,jN,jb,h3,rfl,lg,lD⟩:=JV.bb ei;have cj:=gB.I (aaq.then E);obtain rfl:=dv;refine ca (aw aW (ab fun cb=>ag (av b9 rfl) (ag (bc dB rfl (U.cell rfl)) (aG rfl (ag (b6 cR rfl rfl (by omega)) (ag (dD h' rfl) (ag (a8 aK rfl rfl cj.tv) (bo (vs:=[_,_,_,_,_,_]) aK ah rfl rfl rfl (by simp [Value.oneCell']) (by simp) fun jC nq=>?_))))))));replace U:=U.ne nq.mod bP;replace E:=E.own nq.mod b4;replace ah:aF jC g2 _ [_,_,_,_,_,_]:=nq.az;exact aT rfl (J cb (aZ (js (vs:=[_,_,_,_,_,_]) rfl aK rfl rfl (ah.cs rfl) rfl ⟨_,by rw [yD];rfl,by rw [yD];exact ei,E⟩)))
theorem BN (A:List Nat) (w0 w:World) (v:JV) (us:List Value) (asp:ao A w0 v.D us):Calls Tryz.prog 68 [.agg us.toArray].toArray w (bL fun u w'=>ba A w0 (.ie 7 (v.eT.map JV.hP)) u∧Mod [] w w'):=by
 refine enter Tryz.func68 rfl rfl rfl (l:=[(0,_)]) ⟨rfl,trivial⟩ ?_;have E:=Mod.refl [] w;obtain⟨al,cl,am,cm,rfl,kW,jJ⟩:=JV.bb asp;refine ab fun aV=>dP rfl rfl rfl fun g1 aB bR=>?_;have bH:=bR.le E;replace E:=E.then bR.mod;have U:=bR.az;refine aT rfl (J aV (ax fun aL=>ab fun aW=>ag (av hC rfl) (ag (bc dE rfl (U.cell rfl)) (ag (eU rfl rfl) (J aW ?_)))));refine aI rfl (fun cL=>?_) (fun cL=>?_)
 ·have cf:v.eT = []:=by simp [JV.eT,cL]
  exact ab fun br=>aT rfl (J br (aZ (aO (by simp) (au rfl rfl ⟨by rw [cf];exact ba.en,E⟩))))
 have cf:v.eT=v.map:=by simp [JV.eT];intro h;exact absurd h cL
 exact ca (aw aL (ab fun bI=>ag (av b9 rfl) (ag (bc dB rfl (U.cell rfl)) (aT rfl (J bI (aZ (au rfl rfl ⟨by rw [cf];exact jJ,E⟩)))))))
theorem Mu (A:List Nat) (w0 w:World) (aaq:Mod [] w0 w) (m:List (aa×JV)) (v:Value) (asp:ba A w0 (.ie 7 (m.map JV.hP)) v) (k:aa):Calls Tryz.prog 86 [v,S k].toArray w (bL fun u w'=>∃ gb,u = .tuple #[.agg gb.toArray,.bool (look m k).isSome]∧ao A w0 ((look m k).getD JV.gQ).D gb∧Mod [] w w'):=by
 refine enter Tryz.func86 rfl rfl rfl (l:=[(0,_),(1,_)]) ⟨rfl,rfl,trivial⟩ ?_;have E:=Mod.refl [] w;obtain⟨ad,c,rfl,fH,gC⟩:∃ ad c,v = .slice ad m.length c∧m.length≤c∧c≤9223372036854775807:=by
  obtain⟨ad,c,h1,aq,aU⟩:=asp.uu;rw [List.length_map] at h1 aq;exact⟨ad,c,h1,aq,aU⟩
 refine ab fun aV=>bt cB rfl fun g1 aB bR=>?_;have bH:=bR.le E;replace E:=E.then bR.mod;have U:=bR.az;refine aT rfl (J aV (ax fun aL=>ab fun aW=>aG rfl (ag (bl Tryz.underlying23 rfl) (aG rfl (J aW (eB (bU (σ:=Nat) (fun i=>[(1,S k),(4,.pointer (some ⟨g1,0,none⟩)),(5,.bool false),(8,.slice ad m.length c),(9,.int .i64 m.length),(10,.int .i64 (i:Int))]) (fun i aB=>i≤m.length∧(∀ (j:Nat) (y:aa×JV),j<i→m[j]? = some y→y.1≠k)∧aF aB g1 25 [.int .i64 0,.bool false,.int .i64 0,S [],.slice none 0 0,.slice none 0 0]∧w.heap.size≤g1∧Mod [] w aB) (fun i=>m.length-i) (0) ⟨rfl,rfl,rfl,rfl,rfl,rfl,trivial⟩ (⟨by omega,fun j y h=>by omega,U,bH,E⟩) ?_)))))));rintro i cN ⟨hi,dF,U,bH,E⟩;refine ab fun br=>ag (cI rfl rfl) (J br (ax fun bI=>?_));refine aI rfl (fun uw=>?_) (fun uw=>?_);rotate_left
 ·refine bm (aO (by simp) (aO (by simp) (bS (aw aL (ab fun b5=>ag (a' (cs:=[_,_,_,_,_,_]) gW cB rfl rfl) (bo (vs:=[_,_,_,_,_,_]) aK U rfl rfl rfl (by simp [Value.oneCell']) (by simp) fun jC nq=>?_))))));replace E:=E.own nq.mod bH;replace U:aF jC g1 _ [_,_,_,_,_,_]:=nq.az;exact aT rfl (J b5 (aZ (js (vs:=[_,_,_,_,_,_]) rfl aK rfl rfl (U.cs rfl) rfl ⟨_,by rw [hQ fun j y aY=>dF j y (by have:=(List.getElem?_eq_some_iff.1 aY).1;omega) aY];rfl,by rw [hQ fun j y aY=>dF j y (by have:=(List.getElem?_eq_some_iff.1 aY).1;omega) aY];exact JV.gR,E⟩)))
 obtain⟨x,bO⟩:∃ x,m[i]? = some x:=⟨_,List.getElem?_eq_getElem (by omega)⟩;obtain⟨jD,lf,dv,ei,gB⟩:=JV.kl asp bO;obtain⟨jM,jN,jb,h3,rfl,lg,lD⟩:=JV.bb ei;have cj:=gB.I (aaq.then E);have hB:=JV.hq asp;obtain rfl:=dv;refine ca (aw bI (ax fun bW=>eB (ab fun cb=>ag (b6 cR rfl rfl (by omega)) (ag (a8 jP rfl rfl cj) (bt ey rfl fun g2 fV cK=>?_)))));have b4:=cK.le E;have bP:=cK.ne U;replace U:=U.I cK.mod;replace E:=E.then cK.mod;have ah:=cK.az;refine bo (vs:=[_,_,_,_,_,_,_]) jP ah rfl rfl rfl (by simp [Value.oneCell']) (by simp) fun ic kZ=>?_;replace U:=U.ne kZ.mod bP;replace E:=E.own kZ.mod b4;replace ah:aF ic g2 _ [_,_,_,_,_,_,_]:=kZ.az;refine J cb (ab fun cx=>ag (av eF rfl) (ag (bc bs rfl (ah.cell rfl)) (aG rfl (ag (dQ rfl rfl) (J cx ?_)))));refine aI rfl (fun vV=>?_) (fun vV=>?_)
 ·have afV:look m k=some x.2:=BR dF bO vV;refine ab fun cH=>ag (av h' rfl) (ag (a8 (vs:=[_,_,_,_,_,_]) aK rfl rfl (ah.cs rfl)) (bo (vs:=[_,_,_,_,_,_]) aK U rfl rfl rfl (by simp [Value.oneCell']) (by simp) fun jn hx=>?_));replace ah:=ah.ne hx.mod (Ne.symm bP);replace E:=E.own hx.mod bH;replace U:aF jn g1 _ [_,_,_,_,_,_]:=hx.az;exact aT rfl (J cH (aZ (bx (by simp) (aO (by simp) (aO (by simp) (bx (by simp) (aO (by simp) (js (vs:=[_,_,_,_,_,_]) rfl aK rfl rfl (U.cs rfl) rfl ⟨_,by rw [afV];rfl,by rw [afV];exact ei,E⟩))))))))
 have abu:∀ (j:Nat) (y:aa×JV),j<i+1→m[j]? = some y→y.1≠k:=fun j y d' aY=>by
  rcases Nat.lt_succ_iff_lt_or_eq.1 d' with h | h
  ·exact dF j y h aY
  subst h;rw [bO] at aY;injection aY with aY;subst aY;exact vV
 exact ca (bx (by simp) (aw bW (bQ (ag (aN rfl rfl (by omega)) (aG rfl (cF (fJ (σ:=Nat) (s:=i) (i+1) ⟨rfl,rfl,rfl,rfl,rfl,rfl,trivial⟩ ⟨by omega,abu,U,bH,E⟩ (by omega))))))))
end Go.Proofs.YtnihidkbkhcfoaaGreatDoor.V
