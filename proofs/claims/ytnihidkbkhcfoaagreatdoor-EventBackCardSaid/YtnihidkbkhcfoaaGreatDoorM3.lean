/-
  A part of the proof: names of servers, users, rooms and keys in plain Lean: the runes of a text of one kind, and its bytes; library functions that reading uses: the shelf's contracts, in the words of the own base; several plain operations taken in one computed step; truths made literal; events: what they stand for in memory; whether one is greater than is played. No condition of its own.
-/
import Derived.Test.YtnihidkbkhcfoaaGreatDoorM2
import Derived.Lib.IndexMore
import Derived.Lib.Strings
import Derived.Laws.Runes
import Derived.Scope
import Derived.Test.YtnihidkbkhcfoaaGreatDoorM1
import Derived.Shelf.Small.Wraps
import Derived.Shelf.Strings.Search1
import Derived.Shelf.Strings.Search2
import Derived.Shelf.Strings.Cut
import Derived.Shelf.Strings.Shaped
import Derived.Shelf.Strings.Runes
import Derived.Test.YtnihidkbkhcfoaaGreatDoorProg
import Derived.Lib.AtoiAll
import Derived.Shelf.Strings.SlTrimAscii
import Derived.Shelf.Strings.Trim
import Derived.Shelf.Small.Utf8
import Derived.Shelf.Small.Bits
import Derived.Shelf.Small.Strs
import Derived.Shelf.Utf8.AppendRune
import Derived.Shelf.Strconv.Atoi
import Derived.Shelf.Strconv.Itoa0
import Derived.Shelf.Strconv.Itoa1
import Derived.Shelf.LaysM
import Derived.Shelf.Strconv.Itoa2
import Derived.Shelf.Strconv.Itoa3
import Derived.Shelf.Strconv.AtoiErrFast
import Derived.Shelf.Strconv.ParseIntEmpty
import Derived.Shelf.Strconv.AtoiFail
import Derived.Shelf.Strconv.Clone
import Derived.Shelf.Strconv.SyntaxError
import Derived.Shelf.LaysC
import Derived.Shelf.Strconv.ToError
import Derived.Shelf.Strconv.Lower
import Derived.Shelf.Strconv.ParseUint10
import Derived.Shelf.Strconv.ParseUint10Empty
import Derived.Shelf.Strconv.ParseUint10Any
import Derived.Shelf.Strconv.ParseInt10
import Derived.Shelf.Strconv.AtoiLong
import Derived.Shelf.Strconv.AtoiInnerAll
import Derived.Shelf.Strconv.RangeError
import Derived.Shelf.Strconv.ToErrorRange
import Derived.Shelf.Strconv.AtoiAll
import Derived.Shelf.Strconv.ErrVarAll
import Derived.Shelf.Strings.Prefix
import Derived.Shelf.Strings.AsciiSet
import Derived.Shelf.Unicode.DecodeSlow
import Derived.Shelf.Unicode.DecodeAny
import Derived.Ground.Names2Prog
import Derived.Shelf.Slices.Clone
import Derived.Lib.AppendIntMem
import Derived.Lib.LaidTab
set_option linter.unusedVariables false
set_option linter.unusedSimpArgs false
namespace Go.Proofs.YtnihidkbkhcfoaaGreatDoor.V
open Go
theorem SK {s:U} {p:Nat} {b:UInt8} (h:s[p]? = some b):fT (s.drop p) 0=b.toNat:=by
 unfold fT;rw [List.getD_eq_getElem?_getD,List.getElem?_drop,Nat.add_zero,h];rfl
theorem dec_lt {s:U} {p:Nat} {b:UInt8} (h:s[p]? = some b) (aH:b.toNat<128):Utf8.decode ⟨⟨s⟩⟩ p=(b.toNat,1):=by
 rw [mT];unfold lp;rw [SK h,if_pos (by omega)]
theorem HG {s:U} {p:Nat} {b:UInt8} (h:s[p]? = some b) (aH:128≤b.toNat):∃ c m,Utf8.decode ⟨⟨s⟩⟩ p=(c,m)∧128≤c∧c≤1114111∧¬ (55296≤c∧c≤57343):=by
 have bk:=(List.getElem?_eq_some_iff.1 h).1;rw [mT];rcases nG (gT bk)with⟨_,aj⟩ | ⟨h1,aj,aF,bn,ch,eB⟩
 ·exact⟨65533,1,aj,by omega,by omega,by omega⟩
 refine⟨_,_,aj,?_,bn,ch⟩;rcases Nat.lt_or_ge (aC (s.drop p)).1 128 with a6 | a6
 ·exfalso;unfold eF at aF;rw [if_pos a6] at aF;have bM:s.drop p=b::s.drop (p+1):=by
   rw [List.drop_eq_getElem_cons bk]
   congr 1
   exact(List.getElem?_eq_some_iff.1 h).2
  rw [bM] at aF h1;cases hm:(aC (b::s.drop (p+1))).2 with
  | zero=>exact h1 hm
  | succ m=>
   rw [hm,List.take_succ_cons] at aF;simp only [List.map_cons,List.cons.injEq] at aF;rw [bM] at a6;omega
 exact a6
def jM (q:Nat→Bool) (s:U):Bool:=decide (s≠[])&&s.all (fun b=>q b.toNat)
theorem all_succ {q:Nat→Bool} {s:U} {p:Nat} {b:UInt8} (h:s[p]? = some b) (ax:(s.take p).all (fun b=>q b.toNat)=true) (aH:q b.toNat=true):(s.take (p+1)).all (fun b=>q b.toNat)=true:=by
 have bk:=(List.getElem?_eq_some_iff.1 h).1;rw [List.take_succ_eq_append_getElem bk,(List.getElem?_eq_some_iff.1 h).2,List.all_append,ax];simp [aH]
theorem DL {q:Nat→Bool} {s:U} {p:Nat} {b:UInt8} (h:s[p]? = some b) (aH:q b.toNat=false):jM q s=false:=by
 unfold jM;have:s.all (fun b=>q b.toNat)=false:=by
  rw [List.all_eq_false];exact⟨b,List.mem_of_getElem? h,by simp [aH]⟩
 rw [this,Bool.and_false]
theorem Kg {q:Nat→Bool} {s:U} {p:Nat} (bJ:s.length≤p) (ax:(s.take p).all (fun b=>q b.toNat)=true):jM q s=decide (s≠[]):=by
 unfold jM;rw [List.take_of_length_le bJ] at ax;rw [ax,Bool.and_true]
def tm (c:Nat):Bool:=decide (97≤(c:Int))&&decide ((c:Int)≤122)
def xT (c:Nat):Bool:=decide (65≤(c:Int))&&decide ((c:Int)≤90)
def qU (c:Nat):Bool:=decide (48≤(c:Int))&&decide ((c:Int)≤57)
abbrev r5:U:=[46,95,61,45,47,43]
def ir (c:Nat):Bool:=tm c||qU c||decide ((c:Int)=46)||decide ((c:Int)=45)
def jA (c:Nat):Bool:=tm c||qU c||r5.any (fun b=>decide (b.toNat=c))
def iu (c:Nat):Bool:=tm c||xT c||qU c||decide ((c:Int)=95)||decide ((c:Int)=45)
def oB (c:Nat):Bool:=tm c||xT c||qU c||decide ((c:Int)=95)
theorem DN (c:Nat) (h:ir c=true):c<128:=by
 simp only [ir,tm,qU,Bool.or_eq_true,Bool.and_eq_true,decide_eq_true_eq] at h;omega
theorem ZG (c:Nat) (h:qU c=true):c<128:=by
 simp only [qU,Bool.and_eq_true,decide_eq_true_eq] at h;omega
theorem Kh (c:Nat) (h:jA c=true):c<128:=by
 simp [jA,tm,qU] at h;omega
theorem Ki (c:Nat) (h:iu c=true):c<128:=by
 simp only [iu,tm,xT,qU,Bool.or_eq_true,Bool.and_eq_true,decide_eq_true_eq] at h;omega
theorem Pa (c:Nat) (h:oB c=true):c<128:=by
 simp only [oB,tm,xT,qU,Bool.or_eq_true,Bool.and_eq_true,decide_eq_true_eq] at h;omega
/-! ### the first colon -/
def aZ (s:U):Nat:=s.findIdx (fun b=>b == 58)
theorem uC (s:U):aZ s≤s.length:=List.findIdx_le_length
theorem Bu (s:U):Lib.index s [58]=if aZ s<s.length then (aZ s:Int)else -1:=by
 induction s with
 | nil=>rfl
 | cons b s dh=>
  unfold Lib.index;rw [dh];have bJ:([58]:U).isPrefixOf (b::s)=(b == 58):=by
   simp only [List.isPrefixOf,Bool.and_true];rw [Bool.eq_iff_iff];simp only [beq_iff_eq];exact⟨Eq.symm,Eq.symm⟩
  rw [bJ];have bM:=uC s;cases aH:b == 58 with
  | true=>simp [aZ,List.findIdx_cons,aH]
  | false=>
   have:aZ (b::s)=aZ s+1:=by simp [aZ,List.findIdx_cons,aH]
   rw [this]
   by_cases h:aZ s<s.length
   ·have aV:((aZ s:Int) == -1)=false:=by rw [beq_eq_false_iff_ne];omega
    have bs:aZ s+1<(b::s).length:=by simp only [List.length_cons];omega
    simp only [if_pos h,aV,if_pos bs,Bool.false_eq_true,if_false];omega
   have bs:¬ aZ s+1<(b::s).length:=by simp only [List.length_cons];omega
   simp only [if_neg h,if_neg bs,Bool.false_eq_true,if_false];rfl
theorem Gp (s:U):Lib.cut s [58]=if aZ s<s.length then (s.take (aZ s),s.drop (aZ s+1),true)else (s,[],false):=by
 unfold Lib.cut;rw [Bu]
 by_cases h:aZ s<s.length
 ·rw [if_pos h,if_pos h,if_pos (by omega)];simp
 rw [if_neg h,if_neg h,if_neg (by omega)]
def fD (s:U):Bool:=
 jM ir (s.take (aZ s))&&decide (s.length≤255)&&(decide (aZ s=s.length)||(decide (s.length-aZ s≤6)&&jM qU (s.drop (aZ s+1))))
def gU (sign:UInt8) (q:Nat→Bool) (s:U):Bool:=
 decide (s.length≤255)&&decide (aZ s<s.length)&&decide (s.head? = some sign)&&jM q ((s.take (aZ s)).drop 1)&&fD (s.drop (aZ s+1))
abbrev Bt:U:=[101,100,50,53,53,49,57,58]
def xW (s:U):Bool:=decide (s.length≤255)&&decide (s.take 8=Bt)&&jM oB (s.drop 8)
/-! ### control: a scope that is not jumped about in -/
section
variable {P:Program} {Q:Exit→Act→World→Prop} {n:Nat} {ds:List Deferred} {l:List (Nat×Value)} {w:World}
theorem DI {c:Code} (h:nV P c (Exit.noGoto Q) n ds l w):nV P (.scope c) Q n ds l w:=fun a ax=>wp_scope_straight (h a ax)
theorem DJ {e:Exit} (he:∀ j,e≠.goto j) (h:hd Q e n ds l w):hd (Exit.noGoto Q) e n ds l w:=fun a ax=>by
 have:=h a ax;cases e <;> first | exact this | exact absurd rfl (he _)
variable {t t':TypeId} {ty:TypeId} {pos:String} {af:Array Edge} {dd:Option Nat} {gg:Option (Nat×Bool)} {x y:Operand} {ops:Array Oper} {rest:List Oper} {d:Nat}
theorem ZF {d0:TypeDesc} {c:Nat} {k:IntKind} (aN:P.underlying t=some d0) (bQ:P.underlying t'=some .string) (ab:aT l x=some (.int k (c:Int))):bo P l ⟨dd,.convert t t' x,ty,pos,af,gg⟩ w (.string (Utf8.encode c)) w:=fun ρ h=>by
 have h1:=run_convert_int_string (P:=P) w t t' k (c:Int) (by rw [aN];rfl) bQ;simp only [execOp,h _ _ ab,Sem.run_bind,h1,Result.andThen,Sem.run_pure]
end
theorem Kf {c:Nat} (h1:c≤1114111) (aj:¬ (55296≤c∧c≤57343)) (h:128≤c):∃ rs:U,Utf8.encode (c:Int)=⟨⟨rs⟩⟩∧2≤rs.length∧rs.length≤4∧∃ b,rs[rs.length-1]? = some b∧128≤b.toNat:=by
 obtain⟨f1,f2,f3⟩:=encode_facts (c:Int) (by rw [r4];simp;omega) (by omega);generalize Utf8.encode (c:Int)=e at f1 f2 f3 ⊢;obtain⟨⟨rs⟩⟩:=e;have aN:(⟨⟨rs⟩⟩:ByteArray).size=rs.length:=rfl;rw [aN] at f1 f2;have bM:rs.length-1<rs.length:=by omega
 exact⟨rs,rfl,f1,f2,rs[rs.length-1],List.getElem?_eq_getElem bM,f3 bM⟩
theorem indexByte_none {s:U} {b:UInt8} (h:∀ x∈s,x.toNat<128) (aH:128≤b.toNat):Lib.indexByte s b = -1:=by
 induction s with
 | nil=>rfl
 | cons c s dh=>
  have a6:=h c (by simp);have bS:(c == b)=false:=by
   rw [beq_eq_false_iff_ne];intro e;subst e;omega
  unfold Lib.indexByte;rw [bS,dh fun x ab=>h x (by simp [ab])];rfl
theorem wk (s:U) (c:Nat) (a6:c<128):decide (0≤Lib.indexByte s c.toUInt8)=s.any (fun b=>decide (b.toNat=c)):=by
 induction s with
 | nil=>rfl
 | cons b s dh=>
  unfold Lib.indexByte;rw [List.any_cons,← dh];have he:(b == c.toUInt8)=decide (b.toNat=c):=by
   rw [Bool.eq_iff_iff];simp only [beq_iff_eq,decide_eq_true_eq];have bW:c.toUInt8.toNat=c:=by
    show(UInt8.ofNat c).toNat=c;exact UInt8.toNat_ofNat_of_lt' (by have:c<256:=(by omega);exact this)
   constructor
   ·intro e;rw [e,bW]
   intro e;exact UInt8.toNat_inj.1 (by rw [bW,e])
  rw [he];have bf:Lib.indexByte s c.toUInt8 = -1∨0≤Lib.indexByte s c.toUInt8:=by
   clear dh he
   induction s with
   | nil=>exact .inl rfl
   | cons x s dh=>
    unfold Lib.indexByte
    split
    ·exact .inr (by omega)
    split
    ·exact .inl rfl
    rename_i h
    rcases dh with h1 | h1
    ·rw [h1] at h;simp at h
    exact .inr (by omega)
  by_cases aH:b.toNat=c
  ·simp [aH]
  simp only [aH,decide_false,Bool.false_eq_true,if_false,Bool.false_or];rcases bf with h | h
  ·rw [h];rfl
  have aV:(Lib.indexByte s c.toUInt8 == -1)=false:=by rw [beq_eq_false_iff_ne];omega
  rw [aV,decide_eq_true h];simp only [Bool.false_eq_true,if_false];exact decide_eq_true (by omega)
end Go.Proofs.YtnihidkbkhcfoaaGreatDoor.V
namespace Go.Proofs
open Go.Shelf
def Tryz.Ag:Go.Shelf.Ren:=⟨fun | 137=>111 | 217=>151 | 266=>184 | n=>n,fun | 9=>9 | 5=>5 | 3=>3 | n=>n,fun | n=>n⟩
theorem Tryz.Lb:Go.Proofs.Lays.n137 Tryz.prog Tryz.Ag:={
 mixed:=by kernel_rfl
 f137:=Tryz.func111.trans (congrArg some (by kernel_rfl))
 f217:=Tryz.func151.trans (congrArg some (by kernel_rfl))
 f266:=Tryz.func184.trans (congrArg some (by kernel_rfl))
 t3:=Tryz.underlying3
 a3:=Tryz.isAgg3
 z3:=Tryz.sizeOf3
 v3:=Tryz.zeroValue3
 t5:=Tryz.underlying5
 a5:=Tryz.isAgg5
 z5:=Tryz.sizeOf5
 v5:=Tryz.zeroValue5
 t9:=Tryz.underlying9
 a9:=Tryz.isAgg9
 z9:=Tryz.sizeOf9
 v9:=Tryz.zeroValue9}
open Go.RowKit in
theorem Tryz.strings_IndexByte (s:ByteArray) (c:Int) (w:World) :
  Calls Tryz.prog 111 #[.string s,.int .u8 c] w fun e w'=>e = .returned (.int .i64 (Lib.indexByte s.data.toList c.toNat.toUInt8))∧w'=w:=Any.strings_IndexByte Tryz.Lb s c w
def Tryz.Ah:Go.Shelf.Ren:=⟨fun | 103=>198 | 210=>231 | 206=>201 | n=>n,fun | 9=>9 | 4=>4 | 24=>179 | 3=>3 | n=>n,fun | n=>n⟩
theorem Tryz.Lc:Go.Proofs.Lays.n103 Tryz.prog Tryz.Ah:={
 mixed:=by kernel_rfl
 f103:=Tryz.func198.trans (congrArg some (by kernel_rfl))
 f206:=Tryz.func201.trans (congrArg some (by kernel_rfl))
 f210:=Tryz.func231.trans (congrArg some (by kernel_rfl))
 t3:=Tryz.underlying3
 a3:=Tryz.isAgg3
 z3:=Tryz.sizeOf3
 v3:=Tryz.zeroValue3
 t4:=Tryz.underlying4
 a4:=Tryz.isAgg4
 z4:=Tryz.sizeOf4
 v4:=Tryz.zeroValue4
 t9:=Tryz.underlying9
 a9:=Tryz.isAgg9
 z9:=Tryz.sizeOf9
 v9:=Tryz.zeroValue9
 t24:=Tryz.underlying179
 a24:=Tryz.isAgg179
 z24:=Tryz.sizeOf179
 v24:=Tryz.zeroValue179}
open Go.RowKit in
theorem Tryz.strings_CutPrefix (s p:ByteArray) (w:World) :
  Calls Tryz.prog 198 #[.string s,.string p] w fun e w'=>e = .returned (.tuple #[.string ⟨(Lib.trimPrefix s.data.toList p.data.toList).toArray⟩,.bool (Lib.hasPrefix s.data.toList p.data.toList)])∧w'=w:=Any.strings_CutPrefix Tryz.Lc s p w
def Tryz.Ai:Go.Shelf.Ren:=⟨fun | 145=>194 | 220=>227 | 219=>248 | 217=>151 | 225=>230 | 224=>229 | 267=>258 | 266=>184 | 314=>260 | n=>n,fun | 9=>9 | 4=>4 | 59=>182 | 3=>3 | 5=>5 | 46=>114 | 146=>266 | 51=>117 | n=>n,fun | 1=>1 | n=>n⟩
theorem Tryz.Ld:Go.Proofs.Lays.n145 Tryz.prog Tryz.Ai:={
 mixed:=by kernel_rfl
 f145:=Tryz.func194.trans (congrArg some (by kernel_rfl))
 f217:=Tryz.func151.trans (congrArg some (by kernel_rfl))
 f219:=Tryz.func248.trans (congrArg some (by kernel_rfl))
 f220:=Tryz.func227.trans (congrArg some (by kernel_rfl))
 f224:=Tryz.func229.trans (congrArg some (by kernel_rfl))
 f225:=Tryz.func230.trans (congrArg some (by kernel_rfl))
 f266:=Tryz.func184.trans (congrArg some (by kernel_rfl))
 f267:=Tryz.func258.trans (congrArg some (by kernel_rfl))
 f314:=Tryz.func260.trans (congrArg some (by kernel_rfl))
 t3:=Tryz.underlying3
 a3:=Tryz.isAgg3
 z3:=Tryz.sizeOf3
 v3:=Tryz.zeroValue3
 t4:=Tryz.underlying4
 a4:=Tryz.isAgg4
 z4:=Tryz.sizeOf4
 v4:=Tryz.zeroValue4
 t5:=Tryz.underlying5
 a5:=Tryz.isAgg5
 z5:=Tryz.sizeOf5
 v5:=Tryz.zeroValue5
 t9:=Tryz.underlying9
 a9:=Tryz.isAgg9
 z9:=Tryz.sizeOf9
 v9:=Tryz.zeroValue9
 t46:=Tryz.underlying114
 a46:=Tryz.isAgg114
 z46:=Tryz.sizeOf114
 v46:=Tryz.zeroValue114
 t51:=Tryz.underlying117
 a51:=Tryz.isAgg117
 z51:=Tryz.sizeOf117
 v51:=Tryz.zeroValue117
 t59:=Tryz.underlying182
 a59:=Tryz.isAgg182
 z59:=Tryz.sizeOf182
 v59:=Tryz.zeroValue182
 t146:=Tryz.underlying266
 a146:=Tryz.isAgg266
 z146:=Tryz.sizeOf266
 v146:=Tryz.zeroValue266
 g1:=by kernel_rfl}
open Go.RowKit Go.Lib in
theorem Tryz.strings_Cut (s sep:ByteArray) (m:Int) (w:World) (aN:s.size<4294967281) (hm:w.cell? ⟨1,0,none⟩=some (.int .i64 m)) :
  Calls Tryz.prog 194 #[.string s,.string sep] w fun e w'=>e = .returned (.tuple #[.string ⟨(Lib.cut s.data.toList sep.data.toList).1.toArray⟩,.string ⟨(Lib.cut s.data.toList sep.data.toList).2.1.toArray⟩,.bool (Lib.cut s.data.toList sep.data.toList).2.2])∧∃ n,w'=w.drewN n:=Any.strings_Cut Tryz.Ld s sep m w aN hm
def Tryz.yl:Go.Shelf.Ren:=⟨fun | 145=>194 | 220=>227 | 219=>248 | 217=>151 | 225=>230 | 224=>229 | 267=>258 | 266=>184 | 314=>260 | n=>n,fun | 9=>9 | 4=>4 | 59=>182 | 3=>3 | 5=>5 | 46=>114 | 146=>266 | 51=>117 | n=>n,fun | 1=>1 | n=>n⟩
theorem Tryz.Ie:Go.Proofs.LaysM.n145 Tryz.prog Tryz.yl:={
 mixed:=by kernel_rfl
 f145:=Tryz.func194.trans (congrArg some (by kernel_rfl))
 f217:=Tryz.func151.trans (congrArg some (by kernel_rfl))
 f219:=Tryz.func248.trans (congrArg some (by kernel_rfl))
 f220:=Tryz.func227.trans (congrArg some (by kernel_rfl))
 f224:=Tryz.func229.trans (congrArg some (by kernel_rfl))
 f225:=Tryz.func230.trans (congrArg some (by kernel_rfl))
 f266:=Tryz.func184.trans (congrArg some (by kernel_rfl))
 f267:=Tryz.func258.trans (congrArg some (by kernel_rfl))
 f314:=Tryz.func260.trans (congrArg some (by kernel_rfl))
 t3:=Tryz.underlying3
 a3:=Tryz.isAgg3
 z3:=Tryz.sizeOf3
 v3:=Tryz.zeroValue3
 t4:=Tryz.underlying4
 a4:=Tryz.isAgg4
 z4:=Tryz.sizeOf4
 v4:=Tryz.zeroValue4
 t5:=Tryz.underlying5
 a5:=Tryz.isAgg5
 z5:=Tryz.sizeOf5
 v5:=Tryz.zeroValue5
 t9:=Tryz.underlying9
 a9:=Tryz.isAgg9
 z9:=Tryz.sizeOf9
 v9:=Tryz.zeroValue9
 t46:=Tryz.underlying114
 a46:=Tryz.isAgg114
 z46:=Tryz.sizeOf114
 v46:=Tryz.zeroValue114
 t51:=Tryz.underlying117
 a51:=Tryz.isAgg117
 z51:=Tryz.sizeOf117
 v51:=Tryz.zeroValue117
 t59:=Tryz.underlying182
 a59:=Tryz.isAgg182
 z59:=Tryz.sizeOf182
 v59:=Tryz.zeroValue182
 t146:=Tryz.underlying266
 a146:=Tryz.isAgg266
 z146:=Tryz.sizeOf266
 v146:=Tryz.zeroValue266
 g1:=by kernel_rfl
 i3:=by kernel_rfl
 i4:=by kernel_rfl
 i5:=by kernel_rfl
 i9:=by kernel_rfl
 i46:=by kernel_rfl
 i51:=by kernel_rfl
 i59:=by kernel_rfl
 i146:=by kernel_rfl
 m1:=by kernel_rfl
 s1_3:=fun w h=>Go.Proofs.cell_of_shapedOpen_int (zero:=#[.int .i64 0]) (t:=3) h (of_decide_eq_true (by kernel_rfl)) (by kernel_rfl) rfl (by kernel_rfl) (by kernel_rfl) Tryz.underlying3}
def Tryz.Aj:Go.Shelf.Ren:=⟨fun | 151=>170 | 152=>196 | 137=>111 | 119=>228 | 224=>229 | 225=>230 | 217=>151 | 266=>184 | n=>n,fun | 9=>9 | 21=>21 | 4=>4 | 3=>3 | 5=>5 | 0=>0 | 46=>114 | n=>n,fun | n=>n⟩
theorem Tryz.Le:Go.Proofs.Lays.n151 Tryz.prog Tryz.Aj:={
 mixed:=by kernel_rfl
 f119:=Tryz.func228.trans (congrArg some (by kernel_rfl))
 f137:=Tryz.func111.trans (congrArg some (by kernel_rfl))
 f151:=Tryz.func170.trans (congrArg some (by kernel_rfl))
 f152:=Tryz.func196.trans (congrArg some (by kernel_rfl))
 f217:=Tryz.func151.trans (congrArg some (by kernel_rfl))
 f224:=Tryz.func229.trans (congrArg some (by kernel_rfl))
 f225:=Tryz.func230.trans (congrArg some (by kernel_rfl))
 f266:=Tryz.func184.trans (congrArg some (by kernel_rfl))
 t0:=Tryz.underlying0
 a0:=Tryz.isAgg0
 z0:=Tryz.sizeOf0
 v0:=Tryz.zeroValue0
 t3:=Tryz.underlying3
 a3:=Tryz.isAgg3
 z3:=Tryz.sizeOf3
 v3:=Tryz.zeroValue3
 t4:=Tryz.underlying4
 a4:=Tryz.isAgg4
 z4:=Tryz.sizeOf4
 v4:=Tryz.zeroValue4
 t5:=Tryz.underlying5
 a5:=Tryz.isAgg5
 z5:=Tryz.sizeOf5
 v5:=Tryz.zeroValue5
 t9:=Tryz.underlying9
 a9:=Tryz.isAgg9
 z9:=Tryz.sizeOf9
 v9:=Tryz.zeroValue9
 t21:=Tryz.underlying21
 a21:=Tryz.isAgg21
 z21:=Tryz.sizeOf21
 v21:=Tryz.zeroValue21
 t46:=Tryz.underlying114
 a46:=Tryz.isAgg114
 z46:=Tryz.sizeOf114
 v46:=Tryz.zeroValue114}
open Go.RowKit Go.Lib in
theorem Tryz.strings_ContainsRune_ascii (s:ByteArray) (r:Int) (w:World) (bD:0≤r) (h1:r<128) :
  Calls Tryz.prog 170 #[.string s,.int .i32 r] w fun e w'=>e = .returned (.bool (decide (0≤Lib.indexByte s.data.toList r.toNat.toUInt8)))∧w'=w:=Any.strings_ContainsRune_ascii Tryz.Le s r w bD h1
end Go.Proofs
namespace Go.Proofs.YtnihidkbkhcfoaaGreatDoor.V
open Go Go.Proofs
def g' (w:World):Prop:=∃ m,w.cell? ⟨1,0,none⟩=some (.int .i64 m)
theorem g'.Lf {W:World} (h:W.ShapedOpen Tryz.prog):g' W:=Tryz.Ie.s1_3 W h
theorem g'.I {w w':World} (h:g' w) (k:Mod [] w w'):g' w':=by
 obtain⟨m,hm⟩:=h;refine⟨m,?_⟩;have bk:1<w.heap.size:=by
  rcases Nat.lt_or_ge 1 w.heap.size with bM | bM
  ·exact bM
  unfold World.cell? at hm;rw [Array.getElem?_eq_none bM] at hm;cases hm
 unfold World.cell? at hm ⊢;rw [k.block 1 bk (by simp)];exact hm
theorem EN (w:World) (n:Nat):Mod [] w (w.drewN n):=⟨rfl,rfl,rfl,Nat.le_refl _,fun _ _ _=>rfl⟩
theorem UD (w:World) (s:U) (aN:s.length<4294967281) (eb:g' w):Calls Tryz.prog 194 [S s,S [58]].toArray w (bI fun u w'=>u = .tuple #[S (Lib.cut s [58]).1,S (Lib.cut s [58]).2.1,.bool (Lib.cut s [58]).2.2]∧Mod [] w w'):=by
 obtain⟨m,hm⟩:=eb;refine(Tryz.strings_Cut ⟨⟨s⟩⟩ ⟨⟨[58]⟩⟩ m w aN hm).mono fun e w' he=>?_;obtain⟨rfl,n,rfl⟩:=he;exact⟨rfl,EN w n⟩
theorem Ak (w:World) (s p:U):Calls Tryz.prog 198 [S s,S p].toArray w (bI fun u w'=>u = .tuple #[S (Lib.trimPrefix s p),.bool (Lib.hasPrefix s p)]∧Mod [] w w'):=by
 refine(Tryz.strings_CutPrefix ⟨⟨s⟩⟩ ⟨⟨p⟩⟩ w).mono fun e w' he=>?_;obtain⟨rfl,rfl⟩:=he;exact⟨rfl,Mod.refl _ _⟩
theorem yR (w:World) (s:U) (b:UInt8):Calls Tryz.prog 111 [S s,.int .u8 (b.toNat:Int)].toArray w (bI fun u w'=>u = .int .i64 (Lib.indexByte s b)∧Mod [] w w'):=by
 refine(Tryz.strings_IndexByte ⟨⟨s⟩⟩ (b.toNat:Int) w).mono fun e w' he=>?_;obtain⟨rfl,rfl⟩:=he;refine⟨?_,Mod.refl _ _⟩;have h1:((b.toNat:Int).toNat).toUInt8=b:=by rw [Int.toNat_natCast];exact UInt8.ofNat_toNat
 rw [h1]
theorem BY (w:World) (s:U) (c:Nat) (a6:c<128):Calls Tryz.prog 170 [S s,.int .i32 (c:Int)].toArray w (bI fun u w'=>u = .bool (s.any fun b=>decide (b.toNat=c))∧Mod [] w w'):=by
 refine(Tryz.strings_ContainsRune_ascii ⟨⟨s⟩⟩ (c:Int) w (by omega) (by omega)).mono fun e w' he=>?_;obtain⟨rfl,rfl⟩:=he;refine⟨?_,Mod.refl _ _⟩;rw [Int.toNat_natCast,wk _ _ a6]
end Go.Proofs.YtnihidkbkhcfoaaGreatDoor.V
namespace Go.Proofs
open Go.Shelf
def Tryz.Al:Go.Shelf.Ren:=⟨fun | 161=>235 | 231=>249 | 227=>250 | 233=>251 | 235=>252 | 228=>259 | 197=>202 | 151=>170 | 260=>232 | 152=>196 | 137=>111 | 119=>228 | 224=>229 | 225=>230 | 217=>151 | 266=>184 | n=>n,fun | 9=>9 | 4=>4 | 3=>3 | 5=>5 | 117=>254 | 116=>253 | 0=>0 | 124=>257 | 105=>205 | 21=>21 | 119=>247 | 46=>114 | 139=>250 | 138=>249 | n=>n,fun | 3=>5 | 4=>6 | n=>n⟩
theorem Tryz.Lg:Go.Proofs.Lays.n161 Tryz.prog Tryz.Al:={
 mixed:=by kernel_rfl
 f119:=Tryz.func228.trans (congrArg some (by kernel_rfl))
 f137:=Tryz.func111.trans (congrArg some (by kernel_rfl))
 f151:=Tryz.func170.trans (congrArg some (by kernel_rfl))
 f152:=Tryz.func196.trans (congrArg some (by kernel_rfl))
 f161:=Tryz.func235.trans (congrArg some (by kernel_rfl))
 f197:=Tryz.func202.trans (congrArg some (by kernel_rfl))
 f217:=Tryz.func151.trans (congrArg some (by kernel_rfl))
 f224:=Tryz.func229.trans (congrArg some (by kernel_rfl))
 f225:=Tryz.func230.trans (congrArg some (by kernel_rfl))
 f227:=Tryz.func250.trans (congrArg some (by kernel_rfl))
 f228:=Tryz.func259.trans (congrArg some (by kernel_rfl))
 f231:=Tryz.func249.trans (congrArg some (by kernel_rfl))
 f233:=Tryz.func251.trans (congrArg some (by kernel_rfl))
 f235:=Tryz.func252.trans (congrArg some (by kernel_rfl))
 f260:=Tryz.func232.trans (congrArg some (by kernel_rfl))
 f266:=Tryz.func184.trans (congrArg some (by kernel_rfl))
 t0:=Tryz.underlying0
 a0:=Tryz.isAgg0
 z0:=Tryz.sizeOf0
 v0:=Tryz.zeroValue0
 t3:=Tryz.underlying3
 a3:=Tryz.isAgg3
 z3:=Tryz.sizeOf3
 v3:=Tryz.zeroValue3
 t4:=Tryz.underlying4
 a4:=Tryz.isAgg4
 z4:=Tryz.sizeOf4
 v4:=Tryz.zeroValue4
 t5:=Tryz.underlying5
 a5:=Tryz.isAgg5
 z5:=Tryz.sizeOf5
 v5:=Tryz.zeroValue5
 t9:=Tryz.underlying9
 a9:=Tryz.isAgg9
 z9:=Tryz.sizeOf9
 v9:=Tryz.zeroValue9
 t21:=Tryz.underlying21
 a21:=Tryz.isAgg21
 z21:=Tryz.sizeOf21
 v21:=Tryz.zeroValue21
 t46:=Tryz.underlying114
 a46:=Tryz.isAgg114
 z46:=Tryz.sizeOf114
 v46:=Tryz.zeroValue114
 t105:=Tryz.underlying205
 a105:=Tryz.isAgg205
 z105:=Tryz.sizeOf205
 v105:=Tryz.zeroValue205
 t116:=Tryz.underlying253
 a116:=Tryz.isAgg253
 z116:=Tryz.sizeOf253
 t117:=Tryz.underlying254
 a117:=Tryz.isAgg254
 z117:=Tryz.sizeOf254
 v117:=Tryz.zeroValue254
 t119:=Tryz.underlying247
 a119:=Tryz.isAgg247
 z119:=Tryz.sizeOf247
 t124:=Tryz.underlying257
 a124:=Tryz.isAgg257
 z124:=Tryz.sizeOf257
 v124:=Tryz.zeroValue257
 t138:=Tryz.underlying249
 a138:=Tryz.isAgg249
 z138:=Tryz.sizeOf249
 v138:=Tryz.zeroValue249
 t139:=Tryz.underlying250
 a139:=Tryz.isAgg250
 z139:=Tryz.sizeOf250
 v139:=Tryz.zeroValue250
 g3:=by kernel_rfl
 g4:=by kernel_rfl}
def Tryz.ym:Go.Shelf.Ren:=⟨fun | 172=>156 | 244=>187 | 245=>188 | 247=>216 | 279=>217 | 280=>218 | 281=>219 | 282=>220 | 287=>241 | 316=>242 | 171=>120 | 205=>243 | 321=>254 | 322=>255 | 243=>158 | 246=>189 | 283=>221 | 284=>222 | 285=>223 | 286=>224 | 129=>215 | 317=>244 | 318=>245 | 319=>246 | 320=>247 | 337=>256 | 338=>257 | n=>n,fun | 9=>9 | 3=>3 | 75=>176 | 76=>177 | 4=>4 | 5=>5 | 167=>219 | 37=>65 | 0=>0 | 85=>220 | 2=>2 | 168=>222 | 53=>154 | 175=>238 | 46=>114 | 210=>242 | 127=>261 | 145=>264 | 143=>262 | 21=>21 | 171=>225 | 173=>227 | 212=>245 | 51=>117 | 20=>20 | 213=>246 | 232=>63 | 233=>265 | 80=>161 | n=>n,fun | 15=>2 | 16=>3 | 17=>4 | 18=>7 | 19=>8 | n=>n⟩
theorem Tryz.tF:Go.Proofs.LaysC.n172 Tryz.prog Tryz.ym:={
 mixed:=by kernel_rfl
 f129:=Tryz.func215.trans (congrArg some (by kernel_rfl))
 f171:=Tryz.func120.trans (congrArg some (by kernel_rfl))
 f172:=Tryz.func156.trans (congrArg some (by kernel_rfl))
 f205:=Tryz.func243.trans (congrArg some (by kernel_rfl))
 f243:=Tryz.func158.trans (congrArg some (by kernel_rfl))
 f244:=Tryz.func187.trans (congrArg some (by kernel_rfl))
 f245:=Tryz.func188.trans (congrArg some (by kernel_rfl))
 f246:=Tryz.func189.trans (congrArg some (by kernel_rfl))
 f247:=Tryz.func216.trans (congrArg some (by kernel_rfl))
 f279:=Tryz.func217.trans (congrArg some (by kernel_rfl))
 f280:=Tryz.func218.trans (congrArg some (by kernel_rfl))
 f281:=Tryz.func219.trans (congrArg some (by kernel_rfl))
 f282:=Tryz.func220.trans (congrArg some (by kernel_rfl))
 f283:=Tryz.func221.trans (congrArg some (by kernel_rfl))
 f284:=Tryz.func222.trans (congrArg some (by kernel_rfl))
 f285:=Tryz.func223.trans (congrArg some (by kernel_rfl))
 f286:=Tryz.func224.trans (congrArg some (by kernel_rfl))
 f287:=Tryz.func241.trans (congrArg some (by kernel_rfl))
 f316:=Tryz.func242.trans (congrArg some (by kernel_rfl))
 f317:=Tryz.func244.trans (congrArg some (by kernel_rfl))
 f318:=Tryz.func245.trans (congrArg some (by kernel_rfl))
 f319:=Tryz.func246.trans (congrArg some (by kernel_rfl))
 f320:=Tryz.func247.trans (congrArg some (by kernel_rfl))
 f321:=Tryz.func254.trans (congrArg some (by kernel_rfl))
 f322:=Tryz.func255.trans (congrArg some (by kernel_rfl))
 f337:=Tryz.func256.trans (congrArg some (by kernel_rfl))
 f338:=Tryz.func257.trans (congrArg some (by kernel_rfl))
 t0:=Tryz.underlying0
 a0:=Tryz.isAgg0
 z0:=Tryz.sizeOf0
 v0:=Tryz.zeroValue0
 t2:=Tryz.underlying2
 a2:=Tryz.isAgg2
 z2:=Tryz.sizeOf2
 v2:=Tryz.zeroValue2
 t3:=Tryz.underlying3
 a3:=Tryz.isAgg3
 z3:=Tryz.sizeOf3
 v3:=Tryz.zeroValue3
 t4:=Tryz.underlying4
 a4:=Tryz.isAgg4
 z4:=Tryz.sizeOf4
 v4:=Tryz.zeroValue4
 t5:=Tryz.underlying5
 a5:=Tryz.isAgg5
 z5:=Tryz.sizeOf5
 v5:=Tryz.zeroValue5
 t9:=Tryz.underlying9
 a9:=Tryz.isAgg9
 z9:=Tryz.sizeOf9
 v9:=Tryz.zeroValue9
 t20:=Tryz.underlying20
 a20:=Tryz.isAgg20
 z20:=Tryz.sizeOf20
 v20:=Tryz.zeroValue20
 t21:=Tryz.underlying21
 a21:=Tryz.isAgg21
 z21:=Tryz.sizeOf21
 v21:=Tryz.zeroValue21
 t37:=Tryz.underlying65
 a37:=Tryz.isAgg65
 z37:=Tryz.sizeOf65
 v37:=Tryz.zeroValue65
 t46:=Tryz.underlying114
 a46:=Tryz.isAgg114
 z46:=Tryz.sizeOf114
 v46:=Tryz.zeroValue114
 t51:=Tryz.underlying117
 a51:=Tryz.isAgg117
 z51:=Tryz.sizeOf117
 v51:=Tryz.zeroValue117
 t53:=Tryz.underlying154
 a53:=Tryz.isAgg154
 z53:=Tryz.sizeOf154
 v53:=Tryz.zeroValue154
 t75:=Tryz.underlying176
 a75:=Tryz.isAgg176
 z75:=Tryz.sizeOf176
 v75:=Tryz.zeroValue176
 t76:=Tryz.underlying177
 a76:=Tryz.isAgg177
 z76:=Tryz.sizeOf177
 v76:=Tryz.zeroValue177
 t85:=Tryz.underlying220
 a85:=Tryz.isAgg220
 z85:=Tryz.sizeOf220
 v85:=Tryz.zeroValue220
 t127:=Tryz.underlying261
 a127:=Tryz.isAgg261
 z127:=Tryz.sizeOf261
 v127:=Tryz.zeroValue261
 t143:=Tryz.underlying262
 a143:=Tryz.isAgg262
 z143:=Tryz.sizeOf262
 v143:=Tryz.zeroValue262
 t145:=Tryz.underlying264
 a145:=Tryz.isAgg264
 z145:=Tryz.sizeOf264
 v145:=Tryz.zeroValue264
 t167:=Tryz.underlying219
 a167:=Tryz.isAgg219
 z167:=Tryz.sizeOf219
 v167:=Tryz.zeroValue219
 t168:=Tryz.underlying222
 a168:=Tryz.isAgg222
 z168:=Tryz.sizeOf222
 v168:=Tryz.zeroValue222
 t171:=Tryz.underlying225
 a171:=Tryz.isAgg225
 z171:=Tryz.sizeOf225
 v171:=Tryz.zeroValue225
 t173:=Tryz.underlying227
 a173:=Tryz.isAgg227
 z173:=Tryz.sizeOf227
 v173:=Tryz.zeroValue227
 t175:=Tryz.underlying238
 a175:=Tryz.isAgg238
 z175:=Tryz.sizeOf238
 v175:=Tryz.zeroValue238
 t210:=Tryz.underlying242
 a210:=Tryz.isAgg242
 z210:=Tryz.sizeOf242
 v210:=Tryz.zeroValue242
 t212:=Tryz.underlying245
 a212:=Tryz.isAgg245
 z212:=Tryz.sizeOf245
 v212:=Tryz.zeroValue245
 t213:=Tryz.underlying246
 a213:=Tryz.isAgg246
 z213:=Tryz.sizeOf246
 t232:=Tryz.underlying63
 a232:=Tryz.isAgg63
 z232:=Tryz.sizeOf63
 v232:=Tryz.zeroValue63
 t233:=Tryz.underlying265
 a233:=Tryz.isAgg265
 z233:=Tryz.sizeOf265
 v233:=Tryz.zeroValue265
 g15:=by kernel_rfl
 g16:=by kernel_rfl
 g17:=by kernel_rfl
 g18:=by kernel_rfl
 g19:=by kernel_rfl
 t80:=Tryz.underlying161
 a80:=Tryz.isAgg161
 z80:=Tryz.sizeOf161
 v80:=Tryz.zeroValue161
 i0:=by kernel_rfl
 i2:=by kernel_rfl
 i3:=by kernel_rfl
 i4:=by kernel_rfl
 i5:=by kernel_rfl
 i9:=by kernel_rfl
 i20:=by kernel_rfl
 i21:=by kernel_rfl
 i37:=by kernel_rfl
 i46:=by kernel_rfl
 i51:=by kernel_rfl
 i53:=by kernel_rfl
 i75:=by kernel_rfl
 i76:=by kernel_rfl
 i80:=by kernel_rfl
 i85:=by kernel_rfl
 i127:=by kernel_rfl
 i143:=by kernel_rfl
 i145:=by kernel_rfl
 i167:=by kernel_rfl
 i168:=by kernel_rfl
 i171:=by kernel_rfl
 i173:=by kernel_rfl
 i175:=by kernel_rfl
 i210:=by kernel_rfl
 i212:=by kernel_rfl
 i232:=by kernel_rfl
 i233:=by kernel_rfl
 m15:=by kernel_rfl
 m16:=by kernel_rfl
 m17:=by kernel_rfl
 m18:=by kernel_rfl
 m19:=by kernel_rfl
 c0:=by kernel_rfl
 c2:=by kernel_rfl
 c3:=by kernel_rfl
 c4:=by kernel_rfl
 c5:=by kernel_rfl
 c9:=by kernel_rfl
 c20:=by kernel_rfl
 c21:=by kernel_rfl
 c37:=by kernel_rfl
 c46:=by kernel_rfl
 c51:=by kernel_rfl
 c53:=by kernel_rfl
 c75:=by kernel_rfl
 c76:=by kernel_rfl
 c80:=by kernel_rfl
 c85:=by kernel_rfl
 c127:=by kernel_rfl
 c143:=by kernel_rfl
 c145:=by kernel_rfl
 c167:=by kernel_rfl
 c168:=by kernel_rfl
 c171:=by kernel_rfl
 c173:=by kernel_rfl
 c175:=by kernel_rfl
 c210:=by kernel_rfl
 c212:=by kernel_rfl
 c213:=by kernel_rfl
 c232:=by kernel_rfl
 c233:=by kernel_rfl}
open Go.RowKit in
theorem Tryz.strconv_Atoi_ok (s:ByteArray) (aba:s.size≤9223372036854775806) (v:Int) (h:Lib.atoiAll s.data.toList = .ok v) (w:World) :
  Calls Tryz.prog 156 #[.string s] w fun e w'=>e = .returned (.tuple #[.int .i64 v,.nilIface])∧(w'=w∨∃ t,w'=Lib.bytesWorld w 5 t):=Any.strconv_Atoi_ok Tryz.tF s aba v h w
open Go.RowKit in
theorem Tryz.strconv_Atoi_syntax (s:ByteArray) (Lh:s.size≤281474976710656) (h:Lib.atoiAll s.data.toList = .«syntax») (nU:Value) (w:World) (bw:w.cell? ⟨2,0,none⟩=some nU) (UE:nU = .nilIface∨∃ UF UG,nU = .iface UF UG) :
  Calls Tryz.prog 156 #[.string s] w fun e w'=>∃ N,e = .returned (.tuple #[.int .i64 (0),.iface 222 (.pointer (some ⟨N,0,none⟩))])∧w.heap.size≤N∧w'.heap[N]? = some (.cells #[.string ⟨#[65,116,111,105]⟩,.string s,nU] 242 (0,0))∧Below w.heap.size w w':=Any.strconv_Atoi_syntax Tryz.tF s Lh h nU w bw UE
open Go.RowKit in
theorem Tryz.strconv_Atoi_range (s:ByteArray) (Lh:s.size≤281474976710656) (h:Lib.atoiAll s.data.toList = .range) (nU:Value) (w:World) (bw:w.cell? ⟨3,0,none⟩=some nU) (UE:nU = .nilIface∨∃ UF UG,nU = .iface UF UG) :
  Calls Tryz.prog 156 #[.string s] w fun e w'=>∃ N,e = .returned (.tuple #[.int .i64 (Lib.atoiSat s.data.toList),.iface 222 (.pointer (some ⟨N,0,none⟩))])∧w.heap.size≤N∧w'.heap[N]? = some (.cells #[.string ⟨#[65,116,111,105]⟩,.string s,nU] 242 (0,0))∧Below w.heap.size w w':=Any.strconv_Atoi_range Tryz.tF s Lh h nU w bw UE
def Tryz.Am:Go.Shelf.Ren:=⟨fun | 101=>204 | 208=>234 | 206=>201 | n=>n,fun | 9=>9 | 4=>4 | 3=>3 | n=>n,fun | n=>n⟩
theorem Tryz.Li:Go.Proofs.Lays.n101 Tryz.prog Tryz.Am:={
 mixed:=by kernel_rfl
 f101:=Tryz.func204.trans (congrArg some (by kernel_rfl))
 f206:=Tryz.func201.trans (congrArg some (by kernel_rfl))
 f208:=Tryz.func234.trans (congrArg some (by kernel_rfl))
 t3:=Tryz.underlying3
 a3:=Tryz.isAgg3
 z3:=Tryz.sizeOf3
 v3:=Tryz.zeroValue3
 t4:=Tryz.underlying4
 a4:=Tryz.isAgg4
 z4:=Tryz.sizeOf4
 v4:=Tryz.zeroValue4
 t9:=Tryz.underlying9
 a9:=Tryz.isAgg9
 z9:=Tryz.sizeOf9
 v9:=Tryz.zeroValue9}
open Go.RowKit Go.Lib in
theorem Tryz.strings_TrimPrefix (s p:ByteArray) (w:World) :
  Calls Tryz.prog 204 #[.string s,.string p] w fun e w'=>e = .returned (.string ⟨(Lib.trimPrefix s.data.toList p.data.toList).toArray⟩)∧w'=w:=Any.strings_TrimPrefix Tryz.Li s p w
def Tryz.An:Go.Shelf.Ren:=⟨fun | 152=>196 | 137=>111 | 119=>228 | 224=>229 | 225=>230 | 217=>151 | 266=>184 | n=>n,fun | 9=>9 | 21=>21 | 3=>3 | 4=>4 | 5=>5 | 0=>0 | 46=>114 | n=>n,fun | n=>n⟩
theorem Tryz.Lj:Go.Proofs.Lays.n152 Tryz.prog Tryz.An:={
 mixed:=by kernel_rfl
 f119:=Tryz.func228.trans (congrArg some (by kernel_rfl))
 f137:=Tryz.func111.trans (congrArg some (by kernel_rfl))
 f152:=Tryz.func196.trans (congrArg some (by kernel_rfl))
 f217:=Tryz.func151.trans (congrArg some (by kernel_rfl))
 f224:=Tryz.func229.trans (congrArg some (by kernel_rfl))
 f225:=Tryz.func230.trans (congrArg some (by kernel_rfl))
 f266:=Tryz.func184.trans (congrArg some (by kernel_rfl))
 t0:=Tryz.underlying0
 a0:=Tryz.isAgg0
 z0:=Tryz.sizeOf0
 v0:=Tryz.zeroValue0
 t3:=Tryz.underlying3
 a3:=Tryz.isAgg3
 z3:=Tryz.sizeOf3
 v3:=Tryz.zeroValue3
 t4:=Tryz.underlying4
 a4:=Tryz.isAgg4
 z4:=Tryz.sizeOf4
 v4:=Tryz.zeroValue4
 t5:=Tryz.underlying5
 a5:=Tryz.isAgg5
 z5:=Tryz.sizeOf5
 v5:=Tryz.zeroValue5
 t9:=Tryz.underlying9
 a9:=Tryz.isAgg9
 z9:=Tryz.sizeOf9
 v9:=Tryz.zeroValue9
 t21:=Tryz.underlying21
 a21:=Tryz.isAgg21
 z21:=Tryz.sizeOf21
 v21:=Tryz.zeroValue21
 t46:=Tryz.underlying114
 a46:=Tryz.isAgg114
 z46:=Tryz.sizeOf114
 v46:=Tryz.zeroValue114}
open Go.RowKit Go.Lib in
theorem Tryz.strings_IndexRune_ascii (s:ByteArray) (r:Int) (w:World) (bD:0≤r) (h1:r<128) :
  Calls Tryz.prog 196 #[.string s,.int .i32 r] w fun e w'=>e = .returned (.int .i64 (Lib.indexByte s.data.toList r.toNat.toUInt8))∧w'=w:=Any.strings_IndexRune_ascii Tryz.Lj s r w bD h1
def Tryz.sj:Go.Shelf.Ren:=⟨fun | 197=>202 | 260=>232 | n=>n,fun | 9=>9 | 21=>21 | 3=>3 | 4=>4 | 5=>5 | 105=>205 | 119=>247 | 0=>0 | 46=>114 | 139=>250 | 138=>249 | n=>n,fun | 3=>5 | 4=>6 | n=>n⟩
theorem Tryz.wm:Go.Proofs.Lays.n197 Tryz.prog Tryz.sj:={
 mixed:=by kernel_rfl
 f197:=Tryz.func202.trans (congrArg some (by kernel_rfl))
 f260:=Tryz.func232.trans (congrArg some (by kernel_rfl))
 t0:=Tryz.underlying0
 a0:=Tryz.isAgg0
 z0:=Tryz.sizeOf0
 v0:=Tryz.zeroValue0
 t3:=Tryz.underlying3
 a3:=Tryz.isAgg3
 z3:=Tryz.sizeOf3
 v3:=Tryz.zeroValue3
 t4:=Tryz.underlying4
 a4:=Tryz.isAgg4
 z4:=Tryz.sizeOf4
 v4:=Tryz.zeroValue4
 t5:=Tryz.underlying5
 a5:=Tryz.isAgg5
 z5:=Tryz.sizeOf5
 v5:=Tryz.zeroValue5
 t9:=Tryz.underlying9
 a9:=Tryz.isAgg9
 z9:=Tryz.sizeOf9
 v9:=Tryz.zeroValue9
 t21:=Tryz.underlying21
 a21:=Tryz.isAgg21
 z21:=Tryz.sizeOf21
 v21:=Tryz.zeroValue21
 t46:=Tryz.underlying114
 a46:=Tryz.isAgg114
 z46:=Tryz.sizeOf114
 v46:=Tryz.zeroValue114
 t105:=Tryz.underlying205
 a105:=Tryz.isAgg205
 z105:=Tryz.sizeOf205
 v105:=Tryz.zeroValue205
 t119:=Tryz.underlying247
 a119:=Tryz.isAgg247
 z119:=Tryz.sizeOf247
 t138:=Tryz.underlying249
 a138:=Tryz.isAgg249
 z138:=Tryz.sizeOf249
 v138:=Tryz.zeroValue249
 t139:=Tryz.underlying250
 a139:=Tryz.isAgg250
 z139:=Tryz.sizeOf250
 v139:=Tryz.zeroValue250
 g3:=by kernel_rfl
 g4:=by kernel_rfl}
open Go.RowKit Go.Lib in
theorem Tryz.utf8_DecodeRuneInString (s:ByteArray) (w:World) (jY:Lib.Utf8Tabs 5 6 w) :
  Calls Tryz.prog 202 #[.string s] w fun e w'=>e = .returned (.tuple #[.int .i32 (Lib.decodeGo s).1,.int .i64 (Lib.decodeGo s).2])∧Below w.heap.size w w':=Any.utf8_DecodeRuneInString Tryz.wm s w jY
end Go.Proofs
namespace Go.Proofs.YtnihidkbkhcfoaaGreatDoor.V
open Go Go.Proofs
theorem Mod.sl {w w':World} (h:RowKit.Below w.heap.size w w'):Mod [] w w':=⟨h.os,h.tape,h.output,h.size,fun i hi _=>h.block i hi⟩
theorem BZ (w:World) (e:Nat) (s:ByteArray):Mod [] w (Lib.bytesWorld w e s):=by
 refine⟨?_,?_,?_,?_,?_⟩
 ·simp only [Lib.bytesWorld,World.freeze];rfl
 ·simp only [Lib.bytesWorld,World.freeze];rfl
 ·simp only [Lib.bytesWorld,World.freeze];rfl
 ·rw [Lib.bytesWorld_size];omega
 exact fun i hi _=>Lib.bytesWorld_at_old w e _ i hi
theorem ob {w w':World} {M:List Nat} {a:Nat} {v:Value} {g:Nat} (h:w.cell? ⟨g,a,none⟩=some v) (k:Mod M w w') (cN:g∉M):w'.cell? ⟨g,a,none⟩=some v:=by
 have bk:g<w.heap.size:=by
  rcases Nat.lt_or_ge g w.heap.size with bM | bM
  ·exact bM
  unfold World.cell? at h;rw [Array.getElem?_eq_none bM] at h;cases h
 unfold World.cell? at h ⊢;rw [k.block g bk cN];exact h
def ve (w:World):Prop:=Lib.Utf8Tabs 5 6 w
theorem ve.mod {w w':World} {M:List Nat} (h:ve w) (k:Mod M w w') (eb:∀ x∈M,6<x):ve w':=
 ⟨fun c a6=>ob (h.1 c a6) k (fun ab=>by have:=eb _ ab;omega),fun i hi=>⟨ob (h.2 i hi).1 k (fun ab=>by have:=eb _ ab;omega),ob (h.2 i hi).2 k (fun ab=>by have:=eb _ ab;omega)⟩⟩
theorem ve.I {w w':World} (h:ve w) (k:Mod [] w w'):ve w':=h.mod k (by simp)
def B0 (w:World):Prop:=(∃ nU,w.cell? ⟨2,0,none⟩=some nU∧(nU = .nilIface∨∃ UF UG,nU = .iface UF UG))∧∃ nU,w.cell? ⟨3,0,none⟩=some nU∧(nU = .nilIface∨∃ UF UG,nU = .iface UF UG)
theorem B0.mod {w w':World} {M:List Nat} (h:B0 w) (k:Mod M w w') (eb:∀ x∈M,6<x):B0 w':=by
 obtain⟨⟨aV,h1,aj⟩,⟨bs,aF,bn⟩⟩:=h;exact⟨⟨aV,ob h1 k (fun ab=>by have:=eb _ ab;omega),aj⟩,⟨bs,ob aF k (fun ab=>by have:=eb _ ab;omega),bn⟩⟩
theorem B1 (w:World) (s:U) (c:Nat) (a6:c<128):Calls Tryz.prog 196 [S s,.int .i32 (c:Int)].toArray w (bI fun u w'=>u = .int .i64 (Lib.indexByte s (UInt8.ofNat c))∧Mod [] w w'):=by
 refine(Tryz.strings_IndexRune_ascii ⟨⟨s⟩⟩ (c:Int) w (by omega) (by omega)).mono fun e w' he=>?_;obtain⟨rfl,rfl⟩:=he;exact⟨by rw [Int.toNat_natCast],Mod.refl _ _⟩
theorem Lk (w:World) (s p:U):Calls Tryz.prog 204 [S s,S p].toArray w (bI fun u w'=>u=S (Lib.trimPrefix s p)∧Mod [] w w'):=by
 refine(Tryz.strings_TrimPrefix ⟨⟨s⟩⟩ ⟨⟨p⟩⟩ w).mono fun e w' he=>?_;obtain⟨rfl,rfl⟩:=he;exact⟨rfl,Mod.refl _ _⟩
theorem Ll (w:World) (s p:U) (bJ:p.length<1000) (ax:∀ b∈p,b.toNat<128):Calls Tryz.prog 235 [S s,S p].toArray w (bI fun u w'=>u=S (Lib.trimLeftS s p)∧Mod [] w w'):=by
 refine(Any.strings_TrimLeft_laid Tryz.Lg (by kernel_rfl) ⟨⟨s⟩⟩ ⟨⟨p⟩⟩ w (show p.length<4294967281 by omega) (fun j b aH=>ax b (List.mem_of_getElem? aH))).mono fun e w' he=>?_;obtain⟨rfl,k⟩:=he;exact⟨rfl,Mod.sl k⟩
def GJ (s:U):Nat×Nat:=Lib.decodeGo ⟨⟨s⟩⟩
theorem sn {s:U} {i:Nat} (h:i<s.length):GJ (s.drop i)=Utf8.decode ⟨⟨s.drop i⟩⟩ 0:=by
 unfold GJ Lib.decodeGo;rw [if_neg];show ¬ (s.drop i).length=0;rw [List.length_drop];omega
theorem vu (w:World) (s:U) (hZ:ve w):Calls Tryz.prog 202 [S s].toArray w (bI fun u w'=>u = .tuple #[.int .i32 ((GJ s).1:Int),.int .i64 ((GJ s).2:Int)]∧Mod [] w w'):=by
 refine(Any.utf8_DecodeRuneInString Tryz.wm ⟨⟨s⟩⟩ w hZ).mono fun e w' he=>?_;obtain⟨rfl,k⟩:=he;exact⟨rfl,Mod.sl k⟩
def UH (s:U) (n:Int) (err:Value):Prop:=(Lib.atoiAll s = .ok n∧err = .nilIface)∨((∀ v,Lib.atoiAll s≠.ok v)∧(∃ T p,err = .iface T p)∧(n=0∨n = -9223372036854775808∨n=9223372036854775807)∧(n=0→Lib.atoiAll s = .«syntax»))
theorem GK (w:World) (s:U) (aN:s.length≤1000000) (ed:B0 w):Calls Tryz.prog 156 [S s].toArray w (bI fun u w'=>∃ n err,u = .tuple #[.int .i64 n,err]∧UH s n err∧Mod [] w w'):=by
 obtain⟨⟨aV,h1,aj⟩,⟨bs,aF,bn⟩⟩:=ed;cases du:Lib.atoiAll s with
 | ok v=>
  refine(Tryz.strconv_Atoi_ok ⟨⟨s⟩⟩ (show s.length≤_ by omega) v du w).mono fun e w' he=>?_;obtain⟨rfl,k⟩:=he;refine⟨v,_,rfl,.inl ⟨du,rfl⟩,?_⟩;rcases k with rfl | ⟨t,rfl⟩
  ·exact Mod.refl _ _
  exact BZ _ _ _
 | «syntax» =>
  refine(Tryz.strconv_Atoi_syntax ⟨⟨s⟩⟩ (show s.length≤_ by omega) du aV w h1 aj).mono fun e w' he=>?_;obtain⟨N,rfl,_,_,k⟩:=he;exact⟨0,_,rfl,.inr ⟨fun v=>(by rw [du];intro h;cases h),⟨_,_,rfl⟩,.inl rfl,fun _=>du⟩,Mod.sl k⟩
 | range=>
  refine(Tryz.strconv_Atoi_range ⟨⟨s⟩⟩ (show s.length≤_ by omega) du bs w aF bn).mono fun e w' he=>?_;obtain⟨N,rfl,_,_,k⟩:=he;refine⟨Lib.atoiSat s,_,rfl,.inr ⟨fun v=>(by rw [du];intro h;cases h),⟨_,_,rfl⟩,?_,fun h=>?_⟩,Mod.sl k⟩
  ·unfold Lib.atoiSat
   split
   ·exact .inr (.inl rfl)
   exact .inr (.inr rfl)
  unfold Lib.atoiSat at h
  split at h <;> cases h
end Go.Proofs.YtnihidkbkhcfoaaGreatDoor.V
namespace Go.Proofs.YtnihidkbkhcfoaaGreatDoor.V
open Go
def xy (l:List (Nat×Value)):Op→Option Value
 | .move x=>aT l x
 | .assign x=>aT l x
 | .pick x y z=>match aT l x with
  | some (.bool true)=>aT l y
  | some (.bool false)=>aT l z
  | _=>none
 | .unOp .not _ x=>match aT l x with
  | some (.bool b)=>some (.bool (!b))
  | _=>none
 | .extract x i=>match aT l x with
  | some (.tuple vs)=>vs[i]?
  | _=>none
 | .nilCheck x=>match aT l x with
  | some (.pointer (some ad))=>some (.pointer (some ad))
  | _=>none
 | .binOp .lss _ x y _=>match aT l x,aT l y with
  | some (.int k m),some (.int jH gR)=>if k=jH then some (.bool (decide (m<gR)))else none
  | _,_=>none
 | .binOp .leq _ x y _=>match aT l x,aT l y with
  | some (.int k m),some (.int jH gR)=>if k=jH then some (.bool (decide (m≤gR)))else none
  | _,_=>none
 | .binOp .gtr _ x y _=>match aT l x,aT l y with
  | some (.int k m),some (.int jH gR)=>if k=jH then some (.bool (decide (gR<m)))else none
  | _,_=>none
 | .binOp .eql _ x y _=>match aT l x,aT l y with
  | some (.int k m),some (.int jH gR)=>if k=jH then some (.bool (decide (m=gR)))else none
  | _,_=>none
 | .binOp .neq _ x y _=>match aT l x,aT l y with
  | some (.int k m),some (.int jH gR)=>if k=jH then some (.bool (decide (m≠gR)))else none
  | _,_=>none
 | _=>none
def jx (ops:Array Oper) (n:Nat) (l:List (Nat×Value)):Oper→Option (List (Nat×Value))
 | ⟨some d,op,_,_,_,g⟩=>match Nat.blt d n with
  | true=>match g with
   | none=>match xy l op with
    | some v=>some ((d,v)::l)
    | none=>none
   | some (j,want)=>match xn ops l j with
    | some b=>match b,want with
     | true,true=>match xy l op with
      | some v=>some ((d,v)::l)
      | none=>none
     | false,false=>match xy l op with
      | some v=>some ((d,v)::l)
      | none=>none
     | true,false=>some ((d,undef)::l)
     | false,true=>some ((d,undef)::l)
    | none=>match (ops[j]?).bind (·.dst)with
     | some t=>match iN t l with
      | some (.tuple vs)=>match vs.size with
       | 0=>some ((d,undef)::l)
       | _=>none
      | _=>none
     | none=>none
  | false=>none
 | _=>none
def xz (ops:Array Oper) (n:Nat):Nat→List Oper→List (Nat×Value)→Option (List Oper×List (Nat×Value))
 | 0,lo,l=>some (lo,l)
 | k+1,o::lo,l=>match jx ops n l o with
  | some l'=>xz ops n k lo l'
  | none=>none
 | _+1,[],_=>none
section
variable {P:Program} {ops:Array Oper} {Q:Exit→Act→World→Prop} {n:Nat} {ds:List Deferred} {l l':List (Nat×Value)} {M:List (Nat×(Value→World→Prop))} {w w':World} {Fin:iE→Prop}
variable {lo Rg:List Oper} {d:Nat} {op:Op} {ty:TypeId} {pos:String} {af:Array Edge} {gg:Option (Nat×Bool)}
theorem mf {v:Value} (h:xy l op=some v):bo P l ⟨some d,op,ty,pos,af,gg⟩ w v w:=by
 unfold xy at h
 split at h
 ·exact dQ h
 ·exact cI h
 ·split at h
  ·rename_i ab;exact fun ρ e2=>by simp [execOp,e2 _ _ ab,e2 _ _ h,asBool,aT]
  ·rename_i ab;exact fun ρ e2=>by simp [execOp,e2 _ _ ab,e2 _ _ h,asBool]
  cases h
 ·split at h
  ·rename_i ab;injection h with h;subst h;exact gJ ab
  cases h
 ·split at h
  ·rename_i ab;exact dU ab h
  cases h
 ·split at h
  ·rename_i ab;injection h with h;subst h;exact dx ab
  cases h
 ·split at h
  ·rename_i ab aR
   split at h
   ·rename_i hk;subst hk;injection h with h;subst h;exact dK ab aR
   cases h
  cases h
 ·split at h
  ·rename_i ab aR
   split at h
   ·rename_i hk;subst hk;injection h with h;subst h;exact uf ab aR
   cases h
  cases h
 ·split at h
  ·rename_i ab aR
   split at h
   ·rename_i hk;subst hk;injection h with h;subst h;exact hY ab aR
   cases h
  cases h
 ·split at h
  ·rename_i ab aR
   split at h
   ·rename_i hk;subst hk;injection h with h;subst h;exact oC ab aR
   cases h
  cases h
 ·split at h
  ·rename_i ab aR
   split at h
   ·rename_i hk;subst hk;injection h with h;subst h;exact fE ab aR
   cases h
  cases h
 cases h
theorem Jx {o:Oper} (h:jx ops n l o=some l') (hp:fC P ops Q lo n ds l' w):fC P ops Q (o::lo) n ds l w:=by
 obtain⟨dst,op,ty,pos,af,g⟩:=o;cases dst with
 | none=>simp [jx] at h
 | some d=>
  cases bL:Nat.blt d n with
  | false=>simp [jx,bL] at h
  | true=>
   cases g with
   | none=>
    cases he:xy l op with
    | none=>simp [jx,bL,he] at h
    | some v=>
     simp [jx,bL,he] at h;subst h;exact e9 (mf he) bL hp
   | some aiy=>
    obtain⟨j,want⟩:=aiy;cases cN:xn ops l j with
    | some b=>
     cases b <;> cases want <;> simp only [jx,bL,cN] at h
     ·cases he:xy l op with
      | none=>simp [he] at h
      | some v=>
       simp [he] at h;subst h;exact mK cN rfl (mf he) bL hp
     ·injection h with h
      subst h;exact aic cN (by decide) bL hp
     ·injection h with h
      subst h;exact aic cN (by decide) bL hp
     cases he:xy l op with
     | none=>simp [he] at h
     | some v=>
      simp [he] at h;subst h;exact mK cN rfl (mf he) bL hp
    | none=>
     simp only [jx,bL,cN] at h
     split at h
     ·rename_i t bQ
      split at h
      ·rename_i vs bw
       split at h
       ·rename_i aN
        injection h with h
        subst h;have:vs = #[]:=Array.eq_empty_of_size_eq_zero aN;subst this;exact aip bQ bw bL hp
       cases h
      cases h
     cases h
theorem F4 {o:Oper} (h:jx ops n l o=some l') (aN:fa o.op=true) (hp:gh P ops w n Fin lo l' M):gh P ops w n Fin (o::lo) l M:=by
 obtain⟨dst,op,ty,pos,af,g⟩:=o;cases dst with
 | none=>simp [jx] at h
 | some d=>
  cases bL:Nat.blt d n with
  | false=>simp [jx,bL] at h
  | true=>
   cases g with
   | none=>
    cases he:xy l op with
    | none=>simp [jx,bL,he] at h
    | some v=>
     simp [jx,bL,he] at h;subst h;exact ahC (fun _ _=>mf he) bL aN hp
   | some aiy=>
    obtain⟨j,want⟩:=aiy;cases cN:xn ops l j with
    | some b=>
     cases b <;> cases want <;> simp only [jx,bL,cN] at h
     ·cases he:xy l op with
      | none=>simp [he] at h
      | some v=>
       simp [he] at h;subst h;exact Jr cN rfl (fun _ _=>mf he) bL aN hp
     ·injection h with h
      subst h;exact aie cN (by decide) bL hp
     ·injection h with h
      subst h;exact aie cN (by decide) bL hp
     cases he:xy l op with
     | none=>simp [he] at h
     | some v=>
      simp [he] at h;subst h;exact Jr cN rfl (fun _ _=>mf he) bL aN hp
    | none=>
     simp only [jx,bL,cN] at h
     split at h
     ·rename_i t bQ
      split at h
      ·rename_i vs bw
       split at h
       ·rename_i cO
        injection h with h
        subst h;have:vs = #[]:=Array.eq_empty_of_size_eq_zero cO;subst this;exact aiq bQ bw bL hp
       cases h
      cases h
     cases h
theorem aq (k:Nat) (h:xz ops n k lo l=some (Rg,l')) (hp:fC P ops Q Rg n ds l' w):fC P ops Q lo n ds l w:=by
 induction k generalizing lo l with
 | zero=>injection h with h;injection h with h1 aj;subst h1;subst aj;exact hp
 | succ k dh=>
  cases lo with
  | nil=>simp [xz] at h
  | cons o lo=>
   simp only [xz] at h
   split at h
   ·rename_i aaC h1
    exact Jx h1 (dh h)
   cases h
def Nv:Nat→List Oper→Bool
 | 0,_=>true
 | k+1,o::lo=>fa o.op&&Nv k lo
 | _+1,[]=>false
theorem fM (k:Nat) (h:xz ops n k lo l=some (Rg,l')) (aN:Nv k lo=true) (hp:gh P ops w n Fin Rg l' M):gh P ops w n Fin lo l M:=by
 induction k generalizing lo l with
 | zero=>injection h with h;injection h with h1 aj;subst h1;subst aj;exact hp
 | succ k dh=>
  cases lo with
  | nil=>simp [xz] at h
  | cons o lo=>
   simp only [Nv,Bool.and_eq_true] at aN;simp only [xz] at h
   split at h
   ·rename_i aaC h1
    exact F4 h1 aN.1 (dh h aN.2)
   cases h
/-! a truth made literal -/
variable {t:Nat} {p:Prop} {b eA:Bool}
theorem dR [Decidable p] (h1:p→fC P ops Q lo n ds ((t,.bool true)::l) w) (aj:¬ p→fC P ops Q lo n ds ((t,.bool false)::l) w):fC P ops Q lo n ds ((t,.bool (decide p))::l) w:=by
 by_cases h:p
 ·rw [decide_eq_true h];exact h1 h
 rw [decide_eq_false h];exact aj h
theorem rb (h1:b=true→fC P ops Q lo n ds ((t,.bool true)::l) w) (aj:¬ b=true→fC P ops Q lo n ds ((t,.bool false)::l) w):fC P ops Q lo n ds ((t,.bool b)::l) w:=by
 cases b
 ·exact aj (by decide)
 exact h1 rfl
theorem vX (h1:b=true→fC P ops Q lo n ds ((t,.bool true)::l) w) (aj:b=false→fC P ops Q lo n ds ((t,.bool false)::l) w):fC P ops Q lo n ds ((t,.bool b)::l) w:=by
 cases b
 ·exact aj rfl
 exact h1 rfl
theorem jZ (h:b=eA) (hp:fC P ops Q lo n ds ((t,.bool eA)::l) w):fC P ops Q lo n ds ((t,.bool b)::l) w:=h▸hp
end
end Go.Proofs.YtnihidkbkhcfoaaGreatDoor.V
set_option maxRecDepth 10000
namespace Go.Proofs.YtnihidkbkhcfoaaGreatDoor.V
open Go Go.Proofs
theorem j2:ho Tryz.prog 25 3 3 1=true:=by kernel_rfl
theorem bH:mY Tryz.prog 9=true:=by kernel_rfl
theorem ji:ho Tryz.prog 25 4 4 1=true:=by kernel_rfl
theorem lM:mY Tryz.prog 22=true:=by kernel_rfl
theorem ks:k2 Tryz.prog 22 25 6 88=true:=by kernel_rfl
theorem aK:pJ Tryz.prog 25 6=true:=by kernel_rfl
theorem mm:aP Tryz.prog 42:=aP.of Tryz.func42 (by kernel_rfl) (by kernel_rfl)
theorem cw:ho Tryz.prog 25 5 5 1=true:=by kernel_rfl
theorem eg:mY Tryz.prog 23=true:=by kernel_rfl
theorem wide:Tryz.prog.follows .mixedOrders=true:=by kernel_rfl
theorem dn:k2 Tryz.prog 23 51 7 104=true:=by kernel_rfl
theorem iz:ho Tryz.prog 51 1 1 6=true:=by kernel_rfl
theorem gw:ho Tryz.prog 51 0 0 1=true:=by kernel_rfl
theorem ye (N:Nat) (dh:∀ (w:World) (v:JV) (us:List Value) (left deep:Int),v.sz≤N→ak [] w v.D us→Calls Tryz.prog 42 [.agg us.toArray,.int .i64 left,.int .i64 deep].toArray w (bI fun u w'=>u = .int .i64 (v.hW left deep)∧Mod [] w w')) (w:World) (v:JV) (us:List Value) (left deep:Int) (hj:v.sz≤N+1) (apv:ak [] w v.D us):Calls Tryz.prog 42 [.agg us.toArray,.int .i64 left,.int .i64 deep].toArray w (bI fun u w'=>u = .int .i64 (v.hW left deep)∧Mod [] w w'):=by
 refine enter Tryz.func42 rfl rfl rfl (l:=[(0,_),(1,_),(2,_)]) ⟨rfl,rfl,rfl,trivial⟩ ?_;have E:=Mod.refl [] w;obtain⟨al,cl,am,cm,rfl,kq,jh⟩:=JV.bc apv;refine ae fun aX=>ef rfl rfl rfl fun g1 aE bO=>?_;have bR:=bO.le E;replace E:=E.then bO.mod;have aa:=bO.aA;refine bb rfl (R aX (ae fun aM=>aQ rfl (ao (ia rfl rfl) (ao (au j2 rfl) (ao (bh bH rfl (aa.cell rfl)) (ao (bF Tryz.underlying9 rfl) (ao (ia rfl rfl) (bb rfl (R aM (ay fun a7=>ae fun bC=>aq 2 rfl ?_))))))))));refine R bC ?_;refine bm rfl (fun k3=>?_) (fun k3=>?_)
 ·exact ae fun bU=>bb rfl (R bU (bg (a1 (by simp) (ar rfl rfl ⟨by rw [JV.yL,if_pos k3],E⟩))))
 have agx:¬ deep=0:=k3;have hp:=JV.yL v left deep;rw [if_neg agx] at hp;refine cJ (az a7 (ay fun ca=>ae fun cA=>bb rfl (R cA (fU (cz (σ:=Nat×Int) (fun⟨k,z⟩=>[(1,.int .i64 z),(2,.int .i64 deep),(3,.pointer (some ⟨g1,0,none⟩)),(7,.int .i64 (k:Int))]) (fun⟨k,z⟩ aE=>k≤v.list.length∧JV.h4 (v.list.drop k) z (iA (deep-1))=JV.h4 v.list (iA (iA (left-1)-v.str.length)) (iA (deep-1))∧aD aE g1 25 [.int .i64 v.kind,.bool v.is,.int .i64 v.num,S v.str,.slice al v.list.length cl,.slice am v.map.length cm]∧Mod [] w aE) (fun⟨k,z⟩=>v.list.length-k) (⟨0,(iA (iA (left-1)-v.str.length))⟩) ⟨rfl,rfl,rfl,rfl,trivial⟩ (⟨by omega,rfl,aa,E⟩) ?_)))));rintro⟨k,z⟩ cY ⟨hk,z8,aa,E⟩;refine ay fun cM=>ae fun db=>aQ rfl (ao (au ji rfl) (ao (bh lM rfl (aa.cell rfl)) (ao (bx Tryz.underlying22 rfl) (ao (dK rfl rfl) ?_))));refine dR (fun El:(k:Int)<(v.list.length:Int)=>?_) (fun El=>?_);rotate_left
 ·refine aq 4 rfl (R db (aJ rfl ?_));have rq:JV.h4 v.list (iA (iA (left-1)-v.str.length)) (iA (deep-1))=z:=by rw [← z8];exact JV.BK (by omega)
  refine bV (a1 (by simp) (a1 (by simp) (cr (az ca (ay fun e0=>ae fun gW=>bb rfl (R gW (fU (cz (σ:=Nat×Int) (fun⟨k,y⟩=>[(1,.int .i64 y),(2,.int .i64 deep),(3,.pointer (some ⟨g1,0,none⟩)),(8,.int .i64 (k:Int))]) (fun⟨k,y⟩ aE=>k≤v.map.length∧JV.h5 (v.map.drop k) y (iA (deep-1))=JV.h5 v.map z (iA (deep-1))∧aD aE g1 25 [.int .i64 v.kind,.bool v.is,.int .i64 v.num,S v.str,.slice al v.list.length cl,.slice am v.map.length cm]∧Mod [] w aE) (fun⟨k,y⟩=>v.map.length-k) (⟨0,z⟩) ⟨rfl,rfl,rfl,rfl,trivial⟩ (⟨by omega,rfl,aa,E⟩) ?_))))))));rintro⟨k,y⟩ jV ⟨hk,jm,aa,E⟩;refine ay fun hx=>ae fun gy=>aQ rfl (ao (au cw rfl) (ao (bh eg rfl (aa.cell rfl)) (ao (bx Tryz.underlying23 rfl) (ao (dK rfl rfl) ?_))));refine dR (fun En:(k:Int)<(v.map.length:Int)=>?_) (fun En=>?_);rotate_left
  ·refine aq 4 rfl (R gy (aJ rfl ?_));have k5:v.hW left deep=y:=by rw [hp,rq,← jm];exact JV.uE (by omega)
   exact bV (a1 (by simp) (a1 (by simp) (cr (az e0 (ae fun ib=>aq 2 rfl (R ib (bg (ar rfl rfl ⟨by rw [k5],E⟩))))))))
  refine aq 2 rfl (aw (et rfl rfl) (ao (lU rfl rfl rfl) (R gy ?_)));refine bm rfl (fun Un=>?_) (fun Un=>?_)
  ·obtain⟨x,b'⟩:∃ x,v.map[k]? = some x:=⟨_,List.getElem?_eq_getElem (by omega)⟩;obtain⟨mn,pe,fc,eV,gx⟩:=JV.nZ jh b';obtain⟨mo,mq,k4,jC,rfl,pf,pK⟩:=JV.bc eV;have dv:=gx.I E;have lV:=JV.lv jh;obtain rfl:=fc;have cO:¬ y<0:=by omega
   have kl:=JV.vV (d:=(iA (deep-1))) b' cO;refine cJ (az hx (ay fun gz=>fU (bK wide (by kernel_rfl) (ah (fun J=>(au cw rfl)) (ah (fun J=>(bh eg rfl ((aa.I J).cell rfl))) (ah (fun J=>(dQ rfl)) (ah (fun J=>(cf dn rfl rfl (by omega))) (ah (fun J=>(dL iz rfl)) (ah (fun J=>(a8 aK rfl rfl (dv.I J).vW)) (ah (fun J=>(dQ rfl)) (ah (fun J=>(au cw rfl)) (ah (fun J=>(bh eg rfl ((aa.I J).cell rfl))) ?_))))))))))));refine ah (fun J=>(dQ rfl)) (ah (fun J=>(cf dn rfl rfl (by omega))) (ah (fun J=>(dL gw rfl)) (ah (fun J=>(bh bH rfl ((dv.I J) 0 _ rfl))) (ah (fun J=>(bF Tryz.underlying9 rfl)) (ah (fun J=>(ia rfl rfl)) (ah (fun J=>(dQ rfl)) (ah (fun J=>(ia rfl rfl)) (Gy (fun di J=>bt mm rfl) (fun di J=>dh _ x.2 _ _ _ (by have:=JV.gI (List.mem_of_getElem? b');omega) (eV.bE (E.then J))) rfl rfl (ah (fun J=>(cI rfl)) (bN rfl fun ix J=>?_))))))))));replace aa:=aa.I J;replace E:=E.then J;refine b5 (by simp) (az gz (b8 (aQ rfl (ao (bT rfl rfl (by omega)) (bb rfl (eG ?_))))));have pL:=JV.lv jh;exact jW (σ:=Nat×Int) (s:=⟨k,y⟩) (⟨k+1,x.2.hW (iA (y-x.1.length)) (iA (deep-1))⟩) ⟨rfl,rfl,rfl,rfl,trivial⟩ ⟨by omega,by rw [← kl];exact jm,aa,E⟩ (by dsimp only;omega)
  have k5:v.hW left deep=y:=by rw [hp,rq,← jm];exact JV.uD (by omega)
  exact bV (a1 (by simp) (a1 (by simp) (cr (az e0 (ae fun hJ=>aq 2 rfl (R hJ (bg (ar rfl rfl ⟨by rw [k5],E⟩))))))))
 refine aq 2 rfl (aw (et rfl rfl) (ao (lU rfl rfl rfl) (R db ?_)));refine bm rfl (fun vU=>?_) (fun vU=>?_)
 ·obtain⟨x,b'⟩:∃ x,v.list[k]? = some x:=⟨_,List.getElem?_eq_getElem (by omega)⟩;obtain⟨mn,pe,fc,eV,gx⟩:=JV.BI kq b';obtain⟨mo,mq,k4,jC,rfl,pf,pK⟩:=JV.bc eV;have dv:=gx.I E;have lV:=JV.rp kq;obtain rfl:=fc;have cO:¬ z<0:=by omega
  have kl:=JV.Em (d:=(iA (deep-1))) b' cO;refine cJ (az cM (ay fun cq=>fU (b8 (ao (au ji rfl) (ao (bh lM rfl (aa.cell rfl)) (aQ rfl (ao (cf ks rfl rfl (by omega)) (ao (a8 aK rfl rfl dv) (aq 2 rfl (ao (ia rfl rfl) (cD (bt mm rfl) (dh _ x _ z _ (by have:=JV.hv (List.mem_of_getElem? b');omega) (eV.bE E)) fun gv J=>?_)))))))))));replace aa:=aa.I J;replace E:=E.then J;refine bb rfl (eG (b5 (by simp) (az cq (b8 (aQ rfl (ao (bT rfl rfl (by omega)) (bb rfl (eG ?_))))))));have pL:=JV.rp kq;exact jW (σ:=Nat×Int) (s:=⟨k,z⟩) (⟨k+1,x.hW z (iA (deep-1))⟩) ⟨rfl,rfl,rfl,rfl,trivial⟩ ⟨by omega,by rw [← kl];exact z8,aa,E⟩ (by dsimp only;omega)
 have rq:JV.h4 v.list (iA (iA (left-1)-v.str.length)) (iA (deep-1))=z:=by rw [← z8];exact JV.BJ (by omega)
 refine bV (a1 (by simp) (a1 (by simp) (cr (az ca (ay fun cj=>ae fun dH=>bb rfl (R dH (fU (cz (σ:=Nat×Int) (fun⟨k,y⟩=>[(1,.int .i64 y),(2,.int .i64 deep),(3,.pointer (some ⟨g1,0,none⟩)),(8,.int .i64 (k:Int))]) (fun⟨k,y⟩ aE=>k≤v.map.length∧JV.h5 (v.map.drop k) y (iA (deep-1))=JV.h5 v.map z (iA (deep-1))∧aD aE g1 25 [.int .i64 v.kind,.bool v.is,.int .i64 v.num,S v.str,.slice al v.list.length cl,.slice am v.map.length cm]∧Mod [] w aE) (fun⟨k,y⟩=>v.map.length-k) (⟨0,z⟩) ⟨rfl,rfl,rfl,rfl,trivial⟩ (⟨by omega,rfl,aa,E⟩) ?_))))))));rintro⟨k,y⟩ iH ⟨hk,jm,aa,E⟩;refine ay fun cL=>ae fun dz=>aQ rfl (ao (au cw rfl) (ao (bh eg rfl (aa.cell rfl)) (ao (bx Tryz.underlying23 rfl) (ao (dK rfl rfl) ?_))));refine dR (fun En:(k:Int)<(v.map.length:Int)=>?_) (fun En=>?_);rotate_left
 ·refine aq 4 rfl (R dz (aJ rfl ?_));have k5:v.hW left deep=y:=by rw [hp,rq,← jm];exact JV.uE (by omega)
  exact bV (a1 (by simp) (a1 (by simp) (cr (az cj (ae fun fl=>aq 2 rfl (R fl (bg (ar rfl rfl ⟨by rw [k5],E⟩))))))))
 refine aq 2 rfl (aw (et rfl rfl) (ao (lU rfl rfl rfl) (R dz ?_)));refine bm rfl (fun Un=>?_) (fun Un=>?_)
 ·obtain⟨x,b'⟩:∃ x,v.map[k]? = some x:=⟨_,List.getElem?_eq_getElem (by omega)⟩;obtain⟨mn,pe,fc,eV,gx⟩:=JV.nZ jh b';obtain⟨mo,mq,k4,jC,rfl,pf,pK⟩:=JV.bc eV;have dv:=gx.I E;have lV:=JV.lv jh;obtain rfl:=fc;have cO:¬ y<0:=by omega
  have kl:=JV.vV (d:=(iA (deep-1))) b' cO;refine cJ (az cL (ay fun dS=>fU (bK wide (by kernel_rfl) (ah (fun J=>(au cw rfl)) (ah (fun J=>(bh eg rfl ((aa.I J).cell rfl))) (ah (fun J=>(dQ rfl)) (ah (fun J=>(cf dn rfl rfl (by omega))) (ah (fun J=>(dL iz rfl)) (ah (fun J=>(a8 aK rfl rfl (dv.I J).vW)) (ah (fun J=>(dQ rfl)) (ah (fun J=>(au cw rfl)) (ah (fun J=>(bh eg rfl ((aa.I J).cell rfl))) ?_))))))))))));refine ah (fun J=>(dQ rfl)) (ah (fun J=>(cf dn rfl rfl (by omega))) (ah (fun J=>(dL gw rfl)) (ah (fun J=>(bh bH rfl ((dv.I J) 0 _ rfl))) (ah (fun J=>(bF Tryz.underlying9 rfl)) (ah (fun J=>(ia rfl rfl)) (ah (fun J=>(dQ rfl)) (ah (fun J=>(ia rfl rfl)) (Gy (fun di J=>bt mm rfl) (fun di J=>dh _ x.2 _ _ _ (by have:=JV.gI (List.mem_of_getElem? b');omega) (eV.bE (E.then J))) rfl rfl (ah (fun J=>(cI rfl)) (bN rfl fun jO J=>?_))))))))));replace aa:=aa.I J;replace E:=E.then J;refine b5 (by simp) (az dS (b8 (aQ rfl (ao (bT rfl rfl (by omega)) (bb rfl (eG ?_))))));have pL:=JV.lv jh;exact jW (σ:=Nat×Int) (s:=⟨k,y⟩) (⟨k+1,x.2.hW (iA (y-x.1.length)) (iA (deep-1))⟩) ⟨rfl,rfl,rfl,rfl,trivial⟩ ⟨by omega,by rw [← kl];exact jm,aa,E⟩ (by dsimp only;omega)
 have k5:v.hW left deep=y:=by rw [hp,rq,← jm];exact JV.uD (by omega)
 exact bV (a1 (by simp) (a1 (by simp) (cr (az cj (ae fun eD=>aq 2 rfl (R eD (bg (ar rfl rfl ⟨by rw [k5],E⟩))))))))
theorem sb:∀ N:Nat,∀ (w:World) (v:JV) (us:List Value) (left deep:Int),v.sz≤N→ak [] w v.D us→Calls Tryz.prog 42 [.agg us.toArray,.int .i64 left,.int .i64 deep].toArray w (bI fun u w'=>u = .int .i64 (v.hW left deep)∧Mod [] w w')
 | 0,w,v,us,left,deep,h,apv=>absurd (JV.nI v) (by omega)
 | N+1,w,v,us,left,deep,h,apv=>ye N (sb N) w v us left deep h apv
theorem k6 (w:World) (v:JV) (us:List Value) (left deep:Int) (apv:ak [] w v.D us):Calls Tryz.prog 42 [.agg us.toArray,.int .i64 left,.int .i64 deep].toArray w (bI fun u w'=>u = .int .i64 (v.hW left deep)∧Mod [] w w'):=sb v.sz w v us left deep (Nat.le_refl _) apv
set_option maxRecDepth 10000
theorem jj:ho Tryz.prog 25 0 0 1=true:=by kernel_rfl
theorem dY:mY Tryz.prog 3=true:=by kernel_rfl
theorem vr:ho Tryz.prog 25 1 1 1=true:=by kernel_rfl
theorem jQ:mY Tryz.prog 4=true:=by kernel_rfl
theorem oF:ho Tryz.prog 25 2 2 1=true:=by kernel_rfl
theorem Eo:aP Tryz.prog 24:=aP.of Tryz.func24 (by kernel_rfl) (by kernel_rfl)
theorem z' (N:Nat) (dh:∀ (w:World) (v y:JV) (us vs:List Value),v.sz≤N→ak [] w v.D us→ak [] w y.D vs→Calls Tryz.prog 24 [.agg us.toArray,.agg vs.toArray].toArray w (bI fun u w'=>u = .bool (JV.n0 v y)∧Mod [] w w')) (w:World) (v y:JV) (us vs:List Value) (hj:v.sz≤N+1) (apv:ak [] w v.D us) (rr:ak [] w y.D vs):Calls Tryz.prog 24 [.agg us.toArray,.agg vs.toArray].toArray w (bI fun u w'=>u = .bool (JV.n0 v y)∧Mod [] w w'):=by
 refine enter Tryz.func24 rfl rfl rfl (l:=[(0,_),(1,_)]) ⟨rfl,rfl,trivial⟩ ?_;have E:=Mod.refl [] w;obtain⟨al,cl,am,cm,rfl,kq,jh⟩:=JV.bc apv;obtain⟨Ep,Er,Es,Et,rfl,aaM,aaN⟩:=JV.bc rr;refine ae fun aX=>ef rfl rfl rfl fun g1 aE bO=>?_;have bR:=bO.le E;replace E:=E.then bO.mod;have aa:=bO.aA;refine ef rfl rfl rfl fun g2 cY cU=>?_;have cp:=cU.le E;have cb:=cU.ne aa;replace aa:=aa.I cU.mod;replace E:=E.then cU.mod;have ai:=cU.aA;refine bb rfl (R aX (ay fun aM=>ae fun a7=>ao (au jj rfl) (ao (bh dY rfl (aa.cell rfl)) (ao (au jj rfl) (ao (bh dY rfl (ai.cell rfl)) (ao (fE rfl rfl) ?_))))));refine dR (fun ic:v.kind≠y.kind=>?_) (fun ic=>?_)
 ·have k5:JV.n0 v y=false:=JV.lW fun e=>ic (by rw [e]);exact aq 39 rfl (R a7 (aO rfl (ae fun bC=>bb rfl (R bC (bg (a1 (by simp) (ar rfl rfl ⟨by rw [k5],E⟩)))))))
 refine aQ rfl (aw (au vr rfl) (aw (bh jQ rfl (aa.cell rfl)) (aw (au vr rfl) (aw (bh jQ rfl (ai.cell rfl)) (aw (Gz Tryz.underlying4 rfl rfl) ?_)))));refine vX (fun mr:((v.is != y.is))=true=>?_) (fun mr=>?_)
 ·have k5:JV.n0 v y=false:=JV.lW fun e=>(by subst e;simp at mr);exact aq 33 rfl (R a7 (aO rfl (ae fun bU=>bb rfl (R bU (bg (a1 (by simp) (ar rfl rfl ⟨by rw [k5],E⟩)))))))
 refine aq 2 rfl (aw (au oF rfl) (aw (bh dY rfl (aa.cell rfl)) (aw (au oF rfl) (aw (bh dY rfl (ai.cell rfl)) (aw (fE rfl rfl) ?_)))));refine dR (fun vY:v.num≠y.num=>?_) (fun vY=>?_)
 ·have k5:JV.n0 v y=false:=JV.lW fun e=>vY (by rw [e]);exact aq 26 rfl (R a7 (aO rfl (ae fun ca=>bb rfl (R ca (bg (a1 (by simp) (ar rfl rfl ⟨by rw [k5],E⟩)))))))
 refine aq 2 rfl (aw (au j2 rfl) (aw (bh bH rfl (aa.cell rfl)) (aw (au j2 rfl) (aw (bh bH rfl (ai.cell rfl)) (aw (e3 rfl rfl) ?_)))));refine dR (fun Eu:v.str≠y.str=>?_) (fun Eu=>?_)
 ·have k5:JV.n0 v y=false:=JV.lW fun e=>Eu (by rw [e]);exact aq 19 rfl (R a7 (aO rfl (ae fun cA=>bb rfl (R cA (bg (a1 (by simp) (ar rfl rfl ⟨by rw [k5],E⟩)))))))
 refine aq 2 rfl (aw (au ji rfl) (aw (bh lM rfl (aa.cell rfl)) (aw (bx Tryz.underlying22 rfl) (aw (au ji rfl) (aw (bh lM rfl (ai.cell rfl)) (aw (bx Tryz.underlying22 rfl) (aw (fE rfl rfl) ?_)))))));refine dR (fun KO:(v.list.length:Int)≠(y.list.length:Int)=>?_) (fun KO=>?_)
 ·have k5:JV.n0 v y=false:=JV.lW fun e=>KO (by rw [e]);exact aq 10 rfl (R a7 (aO rfl (ae fun cM=>bb rfl (R cM (bg (a1 (by simp) (ar rfl rfl ⟨by rw [k5],E⟩)))))))
 refine aq 2 rfl (aw (au cw rfl) (aw (bh eg rfl (aa.cell rfl)) (aw (bx Tryz.underlying23 rfl) (aw (au cw rfl) (aw (bh eg rfl (ai.cell rfl)) (aw (bx Tryz.underlying23 rfl) (aw (fE rfl rfl) ?_)))))));refine dR (fun KP:(v.map.length:Int)≠(y.map.length:Int)=>?_) (fun KP=>?_)
 ·have k5:JV.n0 v y=false:=JV.lW fun e=>KP (by rw [e]);exact ao (ky rfl rfl rfl) (R a7 (aO rfl (ae fun db=>bb rfl (R db (bg (a1 (by simp) (ar rfl rfl ⟨by rw [k5],E⟩)))))))
 refine ao (ky rfl rfl rfl) (R a7 (aJ rfl (cJ (az aM (ay fun cq=>ae fun cj=>ao (au ji rfl) (ao (bh lM rfl (aa.cell rfl)) (ao (bx Tryz.underlying22 rfl) (aQ rfl (R cj (fU (cz (σ:=Nat) (fun k=>[(2,.pointer (some ⟨g1,0,none⟩)),(3,.pointer (some ⟨g2,0,none⟩)),(53,.int .i64 v.list.length),(54,.int .i64 (k:Int))]) (fun k aE=>k≤v.list.length∧(∀ (i:Nat) (a b:JV),i<k→v.list[i]? = some a→y.list[i]? = some b→a=b)∧aD aE g1 25 [.int .i64 v.kind,.bool v.is,.int .i64 v.num,S v.str,.slice al v.list.length cl,.slice am v.map.length cm]∧aD aE g2 25 [.int .i64 y.kind,.bool y.is,.int .i64 y.num,S y.str,.slice Ep y.list.length Er,.slice Es y.map.length Et]∧Mod [] w aE) (fun k=>v.list.length-k) (0) ⟨rfl,rfl,rfl,rfl,trivial⟩ (⟨by omega,fun i a b h=>by omega,aa,ai,E⟩) ?_)))))))))));rintro k gv ⟨hk,du,aa,ai,E⟩;refine ae fun dH=>ao (dK rfl rfl) (R dH (ay fun cL=>?_));refine bm rfl (fun agy=>?_) (fun agy=>?_)
 ·obtain⟨x,b'⟩:∃ x,v.list[k]? = some x:=⟨_,List.getElem?_eq_getElem (by omega)⟩;obtain⟨mn,pe,fc,eV,gx⟩:=JV.BI kq b';obtain⟨mo,mq,k4,jC,rfl,pf,pK⟩:=JV.bc eV;have dv:=gx.I E;have lV:=JV.rp kq;obtain rfl:=fc;obtain⟨z,pM⟩:∃ x,y.list[k]? = some x:=⟨_,List.getElem?_eq_getElem (by omega)⟩;obtain⟨agz,aaO,KQ,KR,Aa⟩:=JV.BI aaM pM;obtain⟨aaP,aaQ,aaR,aaS,rfl,aaT,aaU⟩:=JV.bc KR;have vZ:=Aa.I E;have PW:=JV.rp aaM;obtain rfl:=KQ;refine cJ (az cL (ay fun dz=>fU (ae fun dS=>aq 2 rfl (R dS (ay fun eD=>bK wide (by kernel_rfl) (ah (fun J=>(au ji rfl)) (ah (fun J=>(bh lM rfl ((aa.I J).cell rfl))) (ah (fun J=>(dQ rfl)) (ah (fun J=>(cf ks rfl rfl (by omega))) (ah (fun J=>(a8 aK rfl rfl (dv.I J))) ?_))))))))));refine ah (fun J=>(au ji rfl)) (ah (fun J=>(bh lM rfl ((ai.I J).cell rfl))) (ah (fun J=>(dQ rfl)) (ah (fun J=>(cf ks rfl rfl (by omega))) (ah (fun J=>(a8 aK rfl rfl (vZ.I J))) (Gy (fun di J=>bt Eo rfl) (fun di J=>dh _ x z _ _ (by have:=JV.hv (List.mem_of_getElem? b');omega) (eV.bE (E.then J)) (KR.bE (E.then J))) rfl rfl (ah (fun J=>(gJ rfl)) (bN rfl fun iH J=>?_)))))));replace aa:=aa.I J;replace ai:=ai.I J;replace E:=E.then J;refine az eD ?_;refine aU rfl (fun hK=>?_) (fun hK=>?_)
  ·have k5:JV.n0 v y=false:=JV.lW fun e=>by
    subst e;rw [b'] at pM;injection pM with e
    subst e;rw [JV.qs] at hK;cases hK
   exact ae fun fl=>bb rfl (R fl (bg (b5 (by simp) (a1 (by simp) (a1 (by simp) (b5 (by simp) (a1 (by simp) (ar rfl rfl ⟨by rw [k5],E⟩))))))))
  have KS:∀ (i:Nat) (a b:JV),i<k+1→v.list[i]? = some a→y.list[i]? = some b→a=b:=fun i a b hi ax aH=>by
   rcases Nat.lt_succ_iff_lt_or_eq.1 hi with h | h
   ·exact du i a b h ax aH
   subst h;rw [b'] at ax;rw [pM] at aH;injection ax with ax
   injection aH with aH
   subst ax;subst aH;exact JV.sc.1 (by simpa using hK)
  exact cJ (b5 (by simp) (az dz (b8 (ao (bT rfl rfl (by omega)) (aQ rfl (eG (jW (σ:=Nat) (s:=k) (k+1) ⟨rfl,rfl,rfl,rfl,trivial⟩ ⟨by omega,KS,aa,ai,E⟩ (by omega))))))))
 refine bV (a1 (by simp) (a1 (by simp) (cr (az cq (ay fun e0=>ae fun gW=>ao (au cw rfl) (ao (bh eg rfl (aa.cell rfl)) (ao (bx Tryz.underlying23 rfl) (aQ rfl (R gW (fU (cz (σ:=Nat) (fun j=>[(2,.pointer (some ⟨g1,0,none⟩)),(3,.pointer (some ⟨g2,0,none⟩)),(72,.int .i64 v.map.length),(73,.int .i64 (j:Int))]) (fun j aE=>j≤v.map.length∧(∀ (i:Nat) (a b:List UInt8×JV),i<j→v.map[i]? = some a→y.map[i]? = some b→a=b)∧aD aE g1 25 [.int .i64 v.kind,.bool v.is,.int .i64 v.num,S v.str,.slice al v.list.length cl,.slice am v.map.length cm]∧aD aE g2 25 [.int .i64 y.kind,.bool y.is,.int .i64 y.num,S y.str,.slice Ep y.list.length Er,.slice Es y.map.length Et]∧Mod [] w aE) (fun j=>v.map.length-j) (0) ⟨rfl,rfl,rfl,rfl,trivial⟩ (⟨by omega,fun i a b h=>by omega,aa,ai,E⟩) ?_)))))))))));rintro j jO ⟨dG,dT,aa,ai,E⟩;refine ae fun hx=>ao (dK rfl rfl) (R hx (ay fun gy=>?_));refine bm rfl (fun agA=>?_) (fun agA=>?_);rotate_left
 ·exact bV (a1 (by simp) (a1 (by simp) (cr (az e0 (ae fun iK=>bb rfl (R iK (bg (ar rfl rfl ⟨by rw [JV.sc.2 (JV.KT (Classical.byContradiction ic) (by simpa using mr) (Classical.byContradiction vY) (Classical.byContradiction Eu) (JV.v7 (by omega) fun i a b hi ax aH=>du i a b (by omega) ax aH) (JV.v7 (by omega) fun i a b hi ax aH=>dT i a b (by omega) ax aH))],E⟩))))))))
 obtain⟨x,b'⟩:∃ x,v.map[j]? = some x:=⟨_,List.getElem?_eq_getElem (by omega)⟩;obtain⟨mn,pe,fc,eV,gx⟩:=JV.nZ jh b';obtain⟨mo,mq,k4,jC,rfl,pf,pK⟩:=JV.bc eV;have dv:=gx.I E;have lV:=JV.lv jh;obtain rfl:=fc;obtain⟨z,pM⟩:∃ x,y.map[j]? = some x:=⟨_,List.getElem?_eq_getElem (by omega)⟩;obtain⟨agz,aaO,KQ,KR,Aa⟩:=JV.nZ aaN pM;obtain⟨aaP,aaQ,aaR,aaS,rfl,aaT,aaU⟩:=JV.bc KR;have vZ:=Aa.I E;have PW:=JV.lv aaN;obtain rfl:=KQ;refine cJ (az gy (ay fun gz=>fU (ae fun hJ=>aq 2 rfl (R hJ (ay fun ib=>?_)))))
 by_cases dj:x.1≠z.1
 ·refine bK wide (by kernel_rfl) (ah (fun J=>(au cw rfl)) (ah (fun J=>(bh eg rfl ((aa.I J).cell rfl))) (ah (fun J=>(dQ rfl)) (ah (fun J=>(cf dn rfl rfl (by omega))) (ah (fun J=>(dL gw rfl)) (ah (fun J=>(bh bH rfl ((dv.I J) 0 _ rfl))) (ah (fun J=>(au cw rfl)) (ah (fun J=>(bh eg rfl ((ai.I J).cell rfl))) (ah (fun J=>(dQ rfl)) (ah (fun J=>(cf dn rfl rfl (by omega))) (ah (fun J=>(dL gw rfl)) (ah (fun J=>(bh bH rfl ((vZ.I J) 0 _ rfl))) (ah (fun J=>(e3 rfl rfl)) ?_)))))))))))));refine ah (fun J=>(dQ rfl)) (eX rfl (bB dj) (eX rfl (bB dj) (eX rfl (bB dj) (eX rfl (bB dj) (eX rfl (bB dj) (eX rfl (bB dj) (eX rfl (bB dj) (eX rfl (bB dj) (eX rfl (bB dj) (eX rfl (bB dj) (eX rfl (bB dj) (eX rfl (bB dj) (eX rfl (bB dj) ?_)))))))))))));refine eX rfl (bB dj) (ah (fun J=>(lU (bB dj) rfl rfl)) (bN rfl fun jV J=>?_));replace aa:=aa.I J;replace ai:=ai.I J;replace E:=E.then J;refine az ib (aO rfl ?_);have k5:JV.n0 v y=false:=JV.lW fun e=>by
   subst e;rw [b'] at pM;injection pM with e
   subst e;exact dj rfl
  exact ae fun iJ=>bb rfl (R iJ (bg (b5 (by simp) (a1 (by simp) (a1 (by simp) (b5 (by simp) (a1 (by simp) (ar rfl rfl ⟨by rw [k5],E⟩))))))))
 refine bK wide (by kernel_rfl) (ah (fun J=>(au cw rfl)) (ah (fun J=>(bh eg rfl ((aa.I J).cell rfl))) (ah (fun J=>(dQ rfl)) (ah (fun J=>(cf dn rfl rfl (by omega))) (ah (fun J=>(dL gw rfl)) (ah (fun J=>(bh bH rfl ((dv.I J) 0 _ rfl))) (ah (fun J=>(au cw rfl)) (ah (fun J=>(bh eg rfl ((ai.I J).cell rfl))) (ah (fun J=>(dQ rfl)) (ah (fun J=>(cf dn rfl rfl (by omega))) (ah (fun J=>(dL gw rfl)) (ah (fun J=>(bh bH rfl ((vZ.I J) 0 _ rfl))) (ah (fun J=>(e3 rfl rfl)) ?_)))))))))))));refine ah (fun J=>(dQ rfl)) (aI (bX dj) (fun J=>(au cw rfl)) (aI (bX dj) (fun J=>(bh eg rfl ((aa.I J).cell rfl))) (aI (bX dj) (fun J=>(dQ rfl)) (aI (bX dj) (fun J=>(cf dn rfl rfl (by omega))) (aI (bX dj) (fun J=>(dL iz rfl)) (aI (bX dj) (fun J=>(a8 aK rfl rfl (dv.I J).vW)) (aI (bX dj) (fun J=>(au cw rfl)) (aI (bX dj) (fun J=>(bh eg rfl ((ai.I J).cell rfl))) (aI (bX dj) (fun J=>(dQ rfl)) (aI (bX dj) (fun J=>(cf dn rfl rfl (by omega))) (aI (bX dj) (fun J=>(dL iz rfl)) (aI (bX dj) (fun J=>(a8 aK rfl rfl (vZ.I J).vW)) (HY rfl (bX dj) (fun di J=>bt Eo rfl) (fun di J=>dh _ x.2 z.2 _ _ (by have:=JV.gI (List.mem_of_getElem? b');omega) (eV.bE (E.then J)) (KR.bE (E.then J))) rfl rfl ?_)))))))))))));refine aI (bX dj) (fun J=>(gJ rfl)) (ah (fun J=>(ky (bX dj) rfl rfl)) (bN rfl fun ix J=>?_));replace aa:=aa.I J;replace ai:=ai.I J;replace E:=E.then J;refine az ib ?_;refine aU rfl (fun GA=>?_) (fun GA=>?_)
 ·have k5:JV.n0 v y=false:=JV.lW fun e=>by
   subst e;rw [b'] at pM;injection pM with e
   subst e;rw [JV.qs] at GA;cases GA
  exact ae fun j3=>bb rfl (R j3 (bg (b5 (by simp) (a1 (by simp) (a1 (by simp) (b5 (by simp) (a1 (by simp) (ar rfl rfl ⟨by rw [k5],E⟩))))))))
 have agB:∀ (i:Nat) (a b:List UInt8×JV),i<j+1→v.map[i]? = some a→y.map[i]? = some b→a=b:=fun i a b hi ax aH=>by
  rcases Nat.lt_succ_iff_lt_or_eq.1 hi with h | h
  ·exact dT i a b h ax aH
  subst h;rw [b'] at ax;rw [pM] at aH;injection ax with ax
  injection aH with aH
  subst ax;subst aH;exact Prod.ext (Classical.byContradiction dj) (JV.sc.1 (by simpa using GA))
 exact cJ (b5 (by simp) (az gz (b8 (ao (bT rfl rfl (by omega)) (aQ rfl (eG (jW (σ:=Nat) (s:=j) (j+1) ⟨rfl,rfl,rfl,rfl,trivial⟩ ⟨by omega,agB,aa,ai,E⟩ (by omega))))))))
theorem uF:∀ N:Nat,∀ (w:World) (v y:JV) (us vs:List Value),v.sz≤N→ak [] w v.D us→ak [] w y.D vs→Calls Tryz.prog 24 [.agg us.toArray,.agg vs.toArray].toArray w (bI fun u w'=>u = .bool (JV.n0 v y)∧Mod [] w w')
 | 0,w,v,y,us,vs,h,apv,rr=>absurd (JV.nI v) (by omega)
 | N+1,w,v,y,us,vs,h,apv,rr=>z' N (uF N) w v y us vs h apv rr
theorem PX (w:World) (v y:JV) (us vs:List Value) (apv:ak [] w v.D us) (rr:ak [] w y.D vs):Calls Tryz.prog 24 [.agg us.toArray,.agg vs.toArray].toArray w (bI fun u w'=>u = .bool (JV.n0 v y)∧Mod [] w w'):=uF v.sz w v y us vs (Nat.le_refl _) apv rr
set_option maxRecDepth 10000
theorem Uo:S0 Tryz.prog 226:=fun args w=>run_callFunc_extern Tryz.func226 (by kernel_rfl) (by kernel_rfl) (by kernel_rfl) (by kernel_rfl) args w
theorem PY:aP Tryz.prog 192:=aP.of Tryz.func192 (by kernel_rfl) (by kernel_rfl)
theorem PZ:aP Tryz.prog 160:=aP.of Tryz.func160 (by kernel_rfl) (by kernel_rfl)
theorem nj:pJ Tryz.prog 51 7=true:=by kernel_rfl
theorem GB:aP Tryz.prog 124:=aP.of Tryz.func124 (by kernel_rfl) (by kernel_rfl)
theorem mu:tC Tryz.prog 51 [(0,1),(1,6)]=true:=by kernel_rfl
theorem gV:hq Tryz.prog 51 ([S [],.int .i64 0,.bool false,.int .i64 0,S [],.slice none 0 0,.slice none 0 0]):=by unfold hq;kernel_rfl
theorem P0:aP Tryz.prog 123:=aP.of Tryz.func123 (by kernel_rfl) (by kernel_rfl)
theorem P1 (w:World) (a b:U):Calls Tryz.prog 192 [S a,S b].toArray w (bI fun u w'=>u = .int .i64 (n1 a b)∧Mod [] w w'):=by
 refine enter Tryz.func192 rfl rfl rfl (l:=[(0,_),(1,_)]) ⟨rfl,rfl,trivial⟩ ?_;have E:=Mod.refl [] w;refine ae fun aX=>bb rfl (R aX (ae fun aM=>aq 2 rfl (ao ((HZ Uo rfl rfl).to (by rw [tD])) ?_)));exact bb rfl (R aM (bg (ar rfl rfl ⟨rfl,E⟩)))
theorem P2 (w:World) (a b:U):Calls Tryz.prog 160 [S a,S b].toArray w (bI fun u w'=>u = .int .i64 (n1 a b)∧Mod [] w w'):=by
 refine enter Tryz.func160 rfl rfl rfl (l:=[(0,_),(1,_)]) ⟨rfl,rfl,trivial⟩ ?_;have E:=Mod.refl [] w;refine ae fun aX=>bb rfl (R aX (ae fun aM=>aq 2 rfl (cD (bt PY rfl) (P1 _ _ _) fun aE J=>?_)));replace E:=E.then J;exact bb rfl (R aM (bg (ar rfl rfl ⟨rfl,E⟩)))
theorem BL (w:World) (a b:U) (us vs:List Value):Calls Tryz.prog 124 [.agg (S a::us).toArray,.agg (S b::vs).toArray].toArray w (bI fun u w'=>u = .int .i64 (n1 a b)∧Mod [] w w'):=by
 refine enter Tryz.func124 rfl rfl rfl (l:=[(0,_),(1,_)]) ⟨rfl,rfl,trivial⟩ ?_;have E:=Mod.refl [] w;refine ae fun aX=>ef rfl rfl rfl fun g1 aE bO=>?_;have bR:=bO.le E;replace E:=E.then bO.mod;have aa:=bO.aA;refine ef rfl rfl rfl fun g2 cY cU=>?_;have cp:=cU.le E;have cb:=cU.ne aa;replace aa:=aa.I cU.mod;replace E:=E.then cU.mod;have ai:=cU.aA;refine bb rfl (R aX (ae fun aM=>ao (au gw rfl) (ao (bh bH rfl (aa.cell rfl)) (ao (au gw rfl) (ao (bh bH rfl (ai.cell rfl)) (cD (bt PZ rfl) (P2 _ _ _) fun gv J=>?_))))));replace aa:=aa.I J;replace ai:=ai.I J;replace E:=E.then J;exact bb rfl (R aM (bg (ar rfl rfl ⟨rfl,E⟩)))
theorem Up (w:World) (m:List (U×JV)) (v:Value) (apv:aS [] w (.iW 7 (m.map JV.hG)) v) (k:U) (aaV z2 z3 z4 z5 agC:Value) (ax:cZ m) (bW:m.length≤1353245080310):Calls Tryz.prog 123 [v,.agg [S k,aaV,z2,z3,z4,z5,agC].toArray,.func (.func 124) #[] #[]].toArray w (bI fun u w'=>u = .tuple #[.int .i64 (eK m k),.bool (look m k).isSome]∧Mod [] w w'):=by
 refine enter Tryz.func123 rfl rfl rfl (l:=[(0,_),(1,_),(2,_)]) ⟨rfl,rfl,rfl,trivial⟩ ?_;have E:=Mod.refl [] w;obtain⟨ad,c,rfl,fi,gA⟩:∃ ad c,v = .slice ad m.length c∧m.length≤c∧c≤9223372036854775807:=by
  obtain⟨ad,c,h1,aj,aF⟩:=apv.Ab;rw [List.length_map] at h1 aj;exact⟨ad,c,h1,aj,aF⟩
 refine ae fun aX=>ef rfl rfl rfl fun g1 aE bO=>?_;have bR:=bO.le E;replace E:=E.then bO.mod;have aa:=bO.aA;refine aq 2 rfl (R aX (ae fun aM=>aQ rfl (ao (bx Tryz.underlying23 rfl) (bb rfl (R aM (ae fun a7=>aq 3 rfl (R a7 (ay fun bC=>fU ?_))))))));refine cz (σ:=Nat×Nat) (fun⟨i,j⟩=>[(0,.slice ad m.length c),(2,.func (.func 124) #[] #[]),(4,.pointer (some ⟨g1,0,none⟩)),(8,.int .i64 m.length),(9,.int .i64 (i:Int)),(10,.int .i64 (j:Int))]) (fun⟨i,j⟩ aE=>i≤j∧j≤m.length∧(∀ (a:Nat) (y:U×JV),a<i→m[a]? = some y→fA y.1 k=true)∧(∀ (a:Nat) (y:U×JV),j≤a→m[a]? = some y→fA y.1 k=false)∧aD aE g1 51 [S k,aaV,z2,z3,z4,z5,agC]∧Mod [] w aE) (fun⟨i,j⟩=>j-i) (⟨0,m.length⟩) ⟨rfl,rfl,rfl,rfl,rfl,rfl,trivial⟩ (⟨by omega,by omega,fun a y h=>by omega,fun a y h aR=>(by rw [List.getElem?_eq_none h] at aR;cases aR),aa,E⟩) ?_;rintro⟨i,j⟩ cY ⟨u9,dG,h1,aj,aa,E⟩;refine ay fun bU=>ae fun ca=>aq 3 rfl (R ca ?_);refine bm rfl (fun Uq=>?_) (fun Uq=>?_);rotate_left
 ·refine bV (a1 (by simp) (a1 (by simp) (cr (az bC (ay fun db=>?_)))))
  by_cases hX:(i:Int)<(m.length:Int)
  ·have KU:i=j:=by omega
   subst KU;have BN:=v8 (by omega) h1 aj;obtain⟨x,b'⟩:∃ x,m[i]? = some x:=⟨_,List.getElem?_eq_getElem (by omega)⟩;obtain⟨mn,pe,fc,eV,gx⟩:=JV.nZ apv b';obtain⟨mo,mq,k4,jC,rfl,pf,pK⟩:=JV.bc eV;have dv:=gx.I E;have lV:=JV.lv apv;obtain rfl:=fc;have ie:decide (n1 x.1 k=0)=(look m k).isSome:=(aaX ax BN b').symm;refine bK wide (by kernel_rfl) (fM 5 rfl rfl (aI (bB hX) (fun J=>(dQ rfl)) (aI (bB hX) (fun J=>(dQ rfl)) (aI (bB hX) (fun J=>(dQ rfl)) (aI (bB hX) (fun J=>(cf dn rfl rfl (by omega))) (aI (bB hX) (fun J=>(a8 nj rfl rfl (dv.I J))) (aI (bB hX) (fun J=>(a8 (vs:=[_,_,_,_,_,_,_]) nj rfl rfl ((aa.I J).cs rfl))) (HY rfl (bB hX) (fun di J=>se GB rfl rfl) (fun di J=>BL _ x.1 k _ _) rfl rfl (aI (bB hX) (fun J=>(oC rfl rfl)) (ah (fun J=>(lU (bB hX) rfl rfl)) (fM 2 rfl rfl (bN rfl fun iH J=>?_))))))))))));replace aa:=aa.I J;replace E:=E.then J;exact az db (bg (ei rfl rfl rfl ⟨by rw [BN,← ie],E⟩))
  have KU:i=j:=by omega
  subst KU;have BN:=v8 (by omega) h1 aj;have ie:false=(look m k).isSome:=(BO ax (by omega)).symm;refine bK wide (by kernel_rfl) (fM 5 rfl rfl (eX rfl (bX hX) (eX rfl (bX hX) (eX rfl (bX hX) (eX rfl (bX hX) (eX rfl (bX hX) (eX rfl (bX hX) (eX rfl (bX hX) (eX rfl (bX hX) (ah (fun J=>(ky (bX hX) rfl rfl)) (fM 2 rfl rfl (bN rfl fun jO J=>?_))))))))))));replace aa:=aa.I J;replace E:=E.then J;exact az db (bg (ei rfl rfl rfl ⟨by rw [BN,← ie],E⟩))
 have bk:(i+j) / 2<m.length:=by omega
 obtain⟨x,b'⟩:∃ x,m[((i+j) / 2)]? = some x:=⟨_,List.getElem?_eq_getElem (by omega)⟩;obtain⟨mn,pe,fc,eV,gx⟩:=JV.nZ apv b';obtain⟨mo,mq,k4,jC,rfl,pf,pK⟩:=JV.bc eV;have dv:=gx.I E;have lV:=JV.lv apv;obtain rfl:=fc;refine cJ (az bU (fU (ae fun cA=>aq 2 rfl (ao (bT rfl rfl (by omega)) (ao (sd (r:=((i:Int)+j)) Tryz.underlying3 Tryz.underlying114 rfl (hy _ (by omega))) (ao (P3 (r:=(((i+j) / 2:Nat):Int)) rfl rfl (by omega) (by rw [← Ev];exact H0 _)) (ao (sd (r:=(((i+j) / 2:Nat):Int)) Tryz.underlying114 Tryz.underlying3 rfl (wrap64_in _ (by omega))) (bb rfl (R cA (ay fun cM=>bK wide (by kernel_rfl) (fM 3 rfl rfl ?_)))))))))));refine ah (fun J=>(cf dn rfl rfl (by omega))) (ah (fun J=>(a8 nj rfl rfl (dv.I J))) (ah (fun J=>(a8 (vs:=[_,_,_,_,_,_,_]) nj rfl rfl ((aa.I J).cs rfl))) (Gy (fun di J=>se GB rfl rfl) (fun di J=>BL _ x.1 k _ _) rfl rfl (ah (fun J=>(dK rfl rfl)) (bN rfl fun gv J=>?_)))));replace aa:=aa.I J;replace E:=E.then J;refine az cM ?_;refine bm rfl (fun gX=>?_) (fun gX=>?_)
 ·have aaW:∀ (a:Nat) (y:U×JV),a<(i+j) / 2+1→m[a]? = some y→fA y.1 k=true:=fun a y P4 aR=>by
   rcases Nat.lt_succ_iff_lt_or_eq.1 P4 with h | h
   ·exact fo (pN ax aR b' h) (pO.1 gX)
   subst h;rw [b'] at aR;injection aR with aR;subst aR;exact pO.1 gX
  exact b8 (aQ rfl (ao (c7 (r:=(((i+j) / 2+1:Nat):Int)) rfl rfl (by rw [wrap64_in _ (by omega)];omega)) (bb rfl (eG (b5 (by simp) (jW (σ:=Nat×Nat) (s:=⟨i,j⟩) (⟨(i+j) / 2+1,j⟩) ⟨rfl,rfl,rfl,rfl,rfl,rfl,trivial⟩ ⟨by omega,by omega,aaW,aj,aa,E⟩ (by dsimp only;omega)))))))
 have Ur:∀ (a:Nat) (y:U×JV),(i+j) / 2≤a→m[a]? = some y→fA y.1 k=false:=fun a y P4 aR=>by
  cases BM:fA y.1 k with
  | false=>rfl
  | true=>
   rcases Nat.lt_or_ge ((i+j) / 2) a with h | h
   ·exact absurd (pO.2 (fo (pN ax b' aR h) BM)) gX
   have:a=(i+j) / 2:=by omega
   subst this;rw [b'] at aR;injection aR with aR;subst aR;exact absurd (pO.2 BM) gX
 exact b8 (aq 2 rfl (eG (b5 (by simp) (jW (σ:=Nat×Nat) (s:=⟨i,j⟩) (⟨i,(i+j) / 2⟩) ⟨rfl,rfl,rfl,rfl,rfl,rfl,trivial⟩ ⟨by omega,by omega,h1,Ur,aa,E⟩ (by dsimp only;omega)))))
theorem vS (w:World) (m:List (U×JV)) (v:Value) (apv:aS [] w (.iW 7 (m.map JV.hG)) v) (k:U) (ax:cZ m) (bW:m.length≤1353245080310):Calls Tryz.prog 69 [v,S k].toArray w (bI fun u w'=>u = .tuple #[.int .i64 (eK m k),.bool (look m k).isSome]∧Mod [] w w'):=by
 refine enter Tryz.func69 rfl rfl rfl (l:=[(0,_),(1,_)]) ⟨rfl,rfl,trivial⟩ ?_;have E:=Mod.refl [] w;refine ae fun aX=>aq 2 rfl (R aX (ae fun aM=>aq 2 rfl (ao (bj (cs:=[_,_,_,_,_,_,_]) mu gV rfl rfl) (cD (bt P0 rfl) (Up _ m _ (apv.bE E) k _ _ _ _ _ _ ax bW) fun aE J=>?_))));replace E:=E.then J;exact aq 4 rfl (R aM (bg (ei rfl rfl rfl ⟨rfl,E⟩)))
set_option maxRecDepth 10000
theorem cK:hq Tryz.prog 25 ([.int .i64 0,.bool false,.int .i64 0,S [],.slice none 0 0,.slice none 0 0]):=by unfold hq;kernel_rfl
theorem Ek:aP Tryz.prog 69:=aP.of Tryz.func69 (by kernel_rfl) (by kernel_rfl)
theorem iI:tC Tryz.prog 25 [(0,1),(1,1),(2,1),(3,1),(4,1),(5,1)]=true:=by kernel_rfl
theorem Ac (A:List Nat) (w0 w:World) (aat:Mod [] w0 w) (v:JV) (us:List Value) (apv:ak A w0 v.D us) (k:U) (ax:cZ v.map) (bW:v.map.length≤1353245080310):Calls Tryz.prog 83 [.agg us.toArray,S k].toArray w (bI fun u w'=>∃ gH,u = .tuple #[.agg gH.toArray,.bool (v.get k).isSome]∧ak A w0 ((v.get k).getD JV.fQ).D gH∧Mod [] w w'):=by
 refine enter Tryz.func83 rfl rfl rfl (l:=[(0,_),(1,_)]) ⟨rfl,rfl,trivial⟩ ?_;have E:=Mod.refl [] w;obtain⟨al,cl,am,cm,rfl,kq,jh⟩:=JV.bc apv;refine ae fun aX=>ef rfl rfl rfl fun g1 aE bO=>?_;have bR:=bO.le E;replace E:=E.then bO.mod;have aa:=bO.aA;refine bl cK rfl fun g2 cY cU=>?_;have cp:=cU.le E;have cb:=cU.ne aa;replace aa:=aa.I cU.mod;replace E:=E.then cU.mod;have ai:=cU.aA;refine bb rfl (R aX (ae fun aM=>ao (au cw rfl) (ao (bh eg rfl (aa.cell rfl)) (aQ rfl (cD (bt Ek rfl) (vS _ v.map _ ((jh.fN (by simp)).bE (aat.then E)) k ax bW) fun gv J=>?_)))));replace aa:=aa.I J;replace ai:=ai.I J;replace E:=E.then J;refine aq 5 rfl (R aM (ay fun a7=>ae fun bC=>ao (au jj rfl) (ao (bh dY rfl (aa.cell rfl)) (ao (fE rfl rfl) ?_))));refine dR (fun wa:v.kind≠5=>?_) (fun wa=>?_)
 ·refine aq 4 rfl (R bC (aO rfl ?_));have kz:v.get k=none:=by simp [JV.get,wa]
  refine ae fun bU=>ao (bj (cs:=[_,_,_,_,_,_]) iI cK rfl rfl) (bd (vs:=[_,_,_,_,_,_]) aK ai rfl rfl rfl (by simp [Value.oneCell']) (by simp) fun iH lX=>?_);replace aa:=aa.ne lX.mod cb;replace E:=E.own lX.mod cp;replace ai:aD iH g2 _ [_,_,_,_,_,_]:=lX.aA;exact bb rfl (R bU (bg (a1 (by simp) (iO (vs:=[_,_,_,_,_,_]) rfl aK rfl rfl (ai.cs rfl) rfl ⟨_,by rw [kz];rfl,by rw [kz];exact JV.gp,E⟩))))
 refine aq 4 rfl (R bC ?_);refine aU rfl (fun BP=>?_) (fun BP=>?_)
 ·have kz:v.get k=none:=by
   have h:look v.map k=none:=by simpa using BP
   simp [JV.get,h]
  refine ae fun ca=>ao (bj (cs:=[_,_,_,_,_,_]) iI cK rfl rfl) (bd (vs:=[_,_,_,_,_,_]) aK ai rfl rfl rfl (by simp [Value.oneCell']) (by simp) fun jO hl=>?_);replace aa:=aa.ne hl.mod cb;replace E:=E.own hl.mod cp;replace ai:aD jO g2 _ [_,_,_,_,_,_]:=hl.aA;exact bb rfl (R ca (bg (a1 (by simp) (iO (vs:=[_,_,_,_,_,_]) rfl aK rfl rfl (ai.cs rfl) rfl ⟨_,by rw [kz];rfl,by rw [kz];exact JV.gp,E⟩))))
 have fj:v.kind=5:=Classical.byContradiction wa;obtain⟨x,b',anc,BQ⟩:=qq ax (by simpa using BP);have wb:v.get k=some x.2:=by simp [JV.get,fj,BQ]
 have vT:=(List.getElem?_eq_some_iff.1 b').1;obtain⟨mn,pe,fc,eV,gx⟩:=JV.nZ jh b';obtain⟨mo,mq,k4,jC,rfl,pf,pK⟩:=JV.bc eV;have dv:=gx.I (aat.then E);obtain rfl:=fc;refine cJ (az a7 (ae fun cA=>ao (au cw rfl) (ao (bh eg rfl (aa.cell rfl)) (aQ rfl (ao (cf dn rfl rfl (by omega)) (ao (dL iz rfl) (ao (a8 aK rfl rfl dv.vW) (bd (vs:=[_,_,_,_,_,_]) aK ai rfl rfl rfl (by simp [Value.oneCell']) (by simp) fun jV ni=>?_))))))));replace aa:=aa.ne ni.mod cb;replace E:=E.own ni.mod cp;replace ai:aD jV g2 _ [_,_,_,_,_,_]:=ni.aA;exact bb rfl (R cA (bg (iO (vs:=[_,_,_,_,_,_]) rfl aK rfl rfl (ai.cs rfl) rfl ⟨_,by rw [wb];rfl,by rw [wb];exact eV,E⟩)))
theorem yJ (A:List Nat) (w0 w:World) (v:JV) (us:List Value) (apv:ak A w0 v.D us):Calls Tryz.prog 68 [.agg us.toArray].toArray w (bI fun u w'=>aS A w0 (.iW 7 (v.ec.map JV.hG)) u∧Mod [] w w'):=by
 refine enter Tryz.func68 rfl rfl rfl (l:=[(0,_)]) ⟨rfl,trivial⟩ ?_;have E:=Mod.refl [] w;obtain⟨al,cl,am,cm,rfl,kq,jh⟩:=JV.bc apv;refine ae fun aX=>ef rfl rfl rfl fun g1 aE bO=>?_;have bR:=bO.le E;replace E:=E.then bO.mod;have aa:=bO.aA;refine bb rfl (R aX (ay fun aM=>ae fun a7=>ao (au jj rfl) (ao (bh dY rfl (aa.cell rfl)) (ao (fE rfl rfl) (R a7 ?_)))));refine bm rfl (fun ch=>?_) (fun ch=>?_)
 ·have bQ:v.ec = []:=by simp [JV.ec,ch]
  exact ae fun bC=>bb rfl (R bC (bg (a1 (by simp) (ar rfl rfl ⟨by rw [bQ];exact aS.dI,E⟩))))
 have bQ:v.ec=v.map:=by simp [JV.ec];intro h;exact absurd h ch
 exact cJ (az aM (ae fun bU=>ao (au cw rfl) (ao (bh eg rfl (aa.cell rfl)) (bb rfl (R bU (bg (ar rfl rfl ⟨by rw [bQ];exact jh,E⟩)))))))
set_option maxRecDepth 10000
set_option maxRecDepth 10000
set_option maxRecDepth 10000
theorem jD:k2 Tryz.prog 65 5 1 1=true:=by kernel_rfl
theorem yg:hq Tryz.prog 5 ([.int .u8 0]):=by unfold hq;kernel_rfl
set_option maxRecDepth 10000
end Go.Proofs.YtnihidkbkhcfoaaGreatDoor.V
namespace Go.Proofs
open Go.Shelf
def Tryz.yk:Go.Shelf.Ren:=⟨fun | 171=>120 | 243=>158 | 246=>189 | 283=>221 | 284=>222 | 285=>223 | 286=>224 | 129=>215 | 317=>244 | 318=>245 | 319=>246 | 320=>247 | 337=>256 | 338=>257 | n=>n,fun | 3=>3 | 9=>9 | 2=>2 | 4=>4 | 171=>225 | 0=>0 | 53=>154 | 37=>65 | 5=>5 | 173=>227 | 212=>245 | 51=>117 | 20=>20 | 213=>246 | 46=>114 | 232=>63 | 233=>265 | n=>n,fun | 17=>4 | 18=>7 | 19=>8 | n=>n⟩
theorem Tryz.Ib:Go.Proofs.LaysM.n171 Tryz.prog Tryz.yk:={
 mixed:=by kernel_rfl
 f129:=Tryz.func215.trans (congrArg some (by kernel_rfl))
 f171:=Tryz.func120.trans (congrArg some (by kernel_rfl))
 f243:=Tryz.func158.trans (congrArg some (by kernel_rfl))
 f246:=Tryz.func189.trans (congrArg some (by kernel_rfl))
 f283:=Tryz.func221.trans (congrArg some (by kernel_rfl))
 f284:=Tryz.func222.trans (congrArg some (by kernel_rfl))
 f285:=Tryz.func223.trans (congrArg some (by kernel_rfl))
 f286:=Tryz.func224.trans (congrArg some (by kernel_rfl))
 f317:=Tryz.func244.trans (congrArg some (by kernel_rfl))
 f318:=Tryz.func245.trans (congrArg some (by kernel_rfl))
 f319:=Tryz.func246.trans (congrArg some (by kernel_rfl))
 f320:=Tryz.func247.trans (congrArg some (by kernel_rfl))
 f337:=Tryz.func256.trans (congrArg some (by kernel_rfl))
 f338:=Tryz.func257.trans (congrArg some (by kernel_rfl))
 t0:=Tryz.underlying0
 a0:=Tryz.isAgg0
 z0:=Tryz.sizeOf0
 v0:=Tryz.zeroValue0
 t2:=Tryz.underlying2
 a2:=Tryz.isAgg2
 z2:=Tryz.sizeOf2
 v2:=Tryz.zeroValue2
 t3:=Tryz.underlying3
 a3:=Tryz.isAgg3
 z3:=Tryz.sizeOf3
 v3:=Tryz.zeroValue3
 t4:=Tryz.underlying4
 a4:=Tryz.isAgg4
 z4:=Tryz.sizeOf4
 v4:=Tryz.zeroValue4
 t5:=Tryz.underlying5
 a5:=Tryz.isAgg5
 z5:=Tryz.sizeOf5
 v5:=Tryz.zeroValue5
 t9:=Tryz.underlying9
 a9:=Tryz.isAgg9
 z9:=Tryz.sizeOf9
 v9:=Tryz.zeroValue9
 t20:=Tryz.underlying20
 a20:=Tryz.isAgg20
 z20:=Tryz.sizeOf20
 v20:=Tryz.zeroValue20
 t37:=Tryz.underlying65
 a37:=Tryz.isAgg65
 z37:=Tryz.sizeOf65
 v37:=Tryz.zeroValue65
 t46:=Tryz.underlying114
 a46:=Tryz.isAgg114
 z46:=Tryz.sizeOf114
 v46:=Tryz.zeroValue114
 t51:=Tryz.underlying117
 a51:=Tryz.isAgg117
 z51:=Tryz.sizeOf117
 v51:=Tryz.zeroValue117
 t53:=Tryz.underlying154
 a53:=Tryz.isAgg154
 z53:=Tryz.sizeOf154
 v53:=Tryz.zeroValue154
 t171:=Tryz.underlying225
 a171:=Tryz.isAgg225
 z171:=Tryz.sizeOf225
 v171:=Tryz.zeroValue225
 t173:=Tryz.underlying227
 a173:=Tryz.isAgg227
 z173:=Tryz.sizeOf227
 v173:=Tryz.zeroValue227
 t212:=Tryz.underlying245
 a212:=Tryz.isAgg245
 z212:=Tryz.sizeOf245
 v212:=Tryz.zeroValue245
 t213:=Tryz.underlying246
 a213:=Tryz.isAgg246
 z213:=Tryz.sizeOf246
 t232:=Tryz.underlying63
 a232:=Tryz.isAgg63
 z232:=Tryz.sizeOf63
 v232:=Tryz.zeroValue63
 t233:=Tryz.underlying265
 a233:=Tryz.isAgg265
 z233:=Tryz.sizeOf265
 v233:=Tryz.zeroValue265
 g17:=by kernel_rfl
 g18:=by kernel_rfl
 g19:=by kernel_rfl
 i0:=by kernel_rfl
 i2:=by kernel_rfl
 i3:=by kernel_rfl
 i4:=by kernel_rfl
 i5:=by kernel_rfl
 i9:=by kernel_rfl
 i20:=by kernel_rfl
 i37:=by kernel_rfl
 i46:=by kernel_rfl
 i51:=by kernel_rfl
 i53:=by kernel_rfl
 i171:=by kernel_rfl
 i173:=by kernel_rfl
 i212:=by kernel_rfl
 i232:=by kernel_rfl
 i233:=by kernel_rfl
 m17:=by kernel_rfl
 m18:=by kernel_rfl
 m19:=by kernel_rfl}
open Go.RowKit Go.Sort Go.Lib in
theorem Tryz.strconv_Itoa (n:Int) (bD : -9223372036854775808≤n) (h1:n≤9223372036854775807) (w:World) (aa':Lib.TabIs Tryz.prog w "internal/strconv.uint64pow10" .u64 Lib.pow10Tab) :
  Calls Tryz.prog 120 #[.int .i64 n] w fun e w'=>e = .returned (.string ⟨(Lib.itoa n).toArray⟩)∧∃ k os,w'=grow (w.drewN k) os:=Any.strconv_Itoa Tryz.Ib n bD h1 w aa'
end Go.Proofs
namespace Go.Proofs.YtnihidkbkhcfoaaGreatDoor.V
open Go Go.Proofs
abbrev oN (w:World):Prop:=Lib.TabIs Tryz.prog w "internal/strconv.uint64pow10" .u64 Lib.pow10Tab
abbrev K':Nat:=4
theorem La:Tryz.prog.globalNamed "internal/strconv.uint64pow10" = some K':=by kernel_rfl
theorem oN.mod {M:List Nat} {w w':World} (h:oN w) (k:Mod M w w') (eb:K'∉M):oN w':=by
 unfold oN Lib.TabIs World.var? at h ⊢;simp only [La,Option.bind_some] at h ⊢;have bk:K'<w.heap.size:=by
  rcases Nat.lt_or_ge K' w.heap.size with bM | bM
  ·exact bM
  rw [Array.getElem?_eq_none bM] at h;cases h
 rw [k.block K' bk eb];exact h
theorem oN.lt {w:World} (h:oN w):K'<w.heap.size:=by
 unfold oN Lib.TabIs World.var? at h;simp only [La,Option.bind_some] at h;rcases Nat.lt_or_ge K' w.heap.size with bM | bM
 ·exact bM
 rw [Array.getElem?_eq_none bM] at h;cases h
theorem Ic (w:World) (k:Nat) (os:Array Obj):Mod [] w (Sort.grow (w.drewN k) os):=by
 have h:=Lib.below_grow w.heap.size w (Nat.le_refl _) k os;exact⟨h.os,h.tape,h.output,h.size,fun i hi _=>h.block i hi⟩
theorem lZ (w:World) (n:Int) (bD : -9223372036854775808≤n) (h1:n≤9223372036854775807) (jY:oN w):Calls Tryz.prog 120 [.int .i64 n].toArray w (bI fun u w'=>u=S (Lib.itoa n)∧Mod [] w w'):=
 (Tryz.strconv_Itoa n bD h1 w jY).mono fun e w' he=>by
  obtain⟨rfl,k,os,rfl⟩:=he
  exact⟨rfl,Ic w k os⟩
end Go.Proofs.YtnihidkbkhcfoaaGreatDoor.V
set_option maxRecDepth 10000
namespace Go.Proofs.YtnihidkbkhcfoaaGreatDoor.V
open Go Go.Proofs
theorem lY:aP Tryz.prog 120:=aP.of Tryz.func120 (by kernel_rfl) (by kernel_rfl)
end Go.Proofs.YtnihidkbkhcfoaaGreatDoor.V
namespace Go.Proofs.YtnihidkbkhcfoaaGreatDoor.V
open Go
structure cX where
 cP:U
 key:U
 sig:U
abbrev cX.cells (s:cX):List Value:=[S s.cP,S s.key,S s.sig]
structure EV where
 room:U
 snd:U
 ty:U
 st:Bool
 key:U
 bu:JV
 prev:List U
 b2:List U
 dep:Int
 time:Int
 hash:U
 sigs:List cX
namespace EV
def D (e:EV):List Go.Proofs.YtnihidkbkhcfoaaGreatDoor.V.D:=[.v (S e.room),.v (S e.snd),.v (S e.ty),.v (.bool e.st),.v (S e.key)]++(e.bu.D ++ [lO e.prev,lO e.b2,.v (.int .i64 e.dep),.v (.int .i64 e.time),.v (S e.hash),flat 3 cX.cells e.sigs])
theorem rF (e:EV):e.D.length=17:=by simp [D,JV.rF]
theorem bc {A:List Nat} {w:World} {e:EV} {us:List Value} (apv:ak A w e.D us):∃ cs ap ry uH r' uI uJ,us = [S e.room,S e.snd,S e.ty,.bool e.st,S e.key]++(cs ++ [.slice ap e.prev.length ry,.slice uH e.b2.length r',.int .i64 e.dep,.int .i64 e.time,S e.hash,.slice uI e.sigs.length uJ])∧
  ak A w e.bu.D cs∧aS A w (lO e.prev) (.slice ap e.prev.length ry)∧aS A w (lO e.b2) (.slice uH e.b2.length r')∧aS A w (flat 3 cX.cells e.sigs) (.slice uI e.sigs.length uJ):=by
 unfold D at apv
 obtain⟨h1,aj⟩:=apv.cut
 simp only [List.length_cons,List.length_nil] at h1 aj
 obtain⟨aF,bn⟩:=aj.cut
 have UN:us=us.take (0+1+1+1+1+1)++((us.drop (0+1+1+1+1+1)).take e.bu.D.length++(us.drop (0+1+1+1+1+1)).drop e.bu.D.length):=by rw [List.take_append_drop,List.take_append_drop]
 obtain⟨_,_,aV,g1,h1⟩:=h1
 obtain⟨_,_,rfl,g2,h1⟩:=h1
 obtain⟨_,_,rfl,g3,h1⟩:=h1
 obtain⟨_,_,rfl,g4,h1⟩:=h1
 obtain⟨_,_,rfl,g5,h1⟩:=h1
 obtain rfl:=h1
 obtain⟨_,_,bs,dr,bn⟩:=bn
 obtain⟨_,_,rfl,iP,bn⟩:=bn
 obtain⟨_,_,rfl,pV,bn⟩:=bn
 obtain⟨_,_,rfl,rG,bn⟩:=bn
 obtain⟨_,_,rfl,q4,bn⟩:=bn
 obtain⟨_,_,rfl,als,bn⟩:=bn
 obtain rfl:=bn
 obtain rfl:=g1.ku;obtain rfl:=g2.ku;obtain rfl:=g3.ku;obtain rfl:=g4.ku;obtain rfl:=g5.ku
 obtain rfl:=pV.ku;obtain rfl:=rG.ku;obtain rfl:=q4.ku
 obtain⟨ap,ry,rfl,_⟩:=hS dr
 obtain⟨uH,r',rfl,_⟩:=hS iP
 obtain⟨uI,uJ,rfl,_⟩:=hS als
 rw [aV,bs] at UN
 exact⟨_,ap,ry,uH,r',uI,uJ,UN,aF,dr,iP,als⟩
theorem fe {A:List Nat} {w:World} {e:EV} {us:List Value} (apv:ak A w e.D us):∃ al cl am cm ap ry uH r' uI uJ,us = [S e.room,S e.snd,S e.ty,.bool e.st,S e.key,.int .i64 e.bu.kind,.bool e.bu.is,.int .i64 e.bu.num,S e.bu.str,.slice al e.bu.list.length cl,.slice am e.bu.map.length cm,.slice ap e.prev.length ry,.slice uH e.b2.length r',.int .i64 e.dep,.int .i64 e.time,S e.hash,.slice uI e.sigs.length uJ]∧
  ak A w e.bu.D [.int .i64 e.bu.kind,.bool e.bu.is,.int .i64 e.bu.num,S e.bu.str,.slice al e.bu.list.length cl,.slice am e.bu.map.length cm]∧aS A w (lO e.prev) (.slice ap e.prev.length ry)∧aS A w (lO e.b2) (.slice uH e.b2.length r')∧aS A w (flat 3 cX.cells e.sigs) (.slice uI e.sigs.length uJ):=by
 obtain⟨cs,ap,ry,uH,r',uI,uJ,rfl,h1,aj,aF,bn⟩:=bc apv
 obtain⟨al,cl,am,cm,rfl,_,_⟩:=JV.bc h1
 exact⟨al,cl,am,cm,ap,ry,uH,r',uI,uJ,rfl,h1,aj,aF,bn⟩
theorem at_ {A:List Nat} {w:World} {es:List EV} {e:EV} {ad:Option Addr} {n c i:Nat} (apv:aS A w (.iW 17 (es.map EV.D)) (.slice ad n c)) (h:es[i]? = some e):∃ a us,ad=some a∧ak A w e.D us∧pd w (a.add (i*17)) us:=by
 obtain⟨a,us,h1,aj,_,aF,_⟩:=aS.at_ (i:=i) (r:=e.D) apv (by simp [h]);exact⟨a,us,h1,aj,aF⟩
def ok (e:EV):Prop:=e.room.length≤140737488351232∧e.snd.length≤140737488351232∧e.ty.length≤140737488351232∧e.key.length≤140737488351232∧e.bu.ok∧(∀ s∈e.prev,s.length≤140737488351232)∧e.prev.length≤140737488351232∧(∀ s∈e.b2,s.length≤140737488351232)∧e.b2.length≤140737488351232∧e.hash.length≤140737488351232∧(∀ s∈e.sigs,s.cP.length≤140737488351232∧s.key.length≤140737488351232∧s.sig.length≤140737488351232)∧e.sigs.length≤140737488351232
end EV
def iL:List Nat→Nat→Nat→Nat
 | [],n,_=>n
 | x::r,n,most=>if n≤most then iL r (n+x) most else n
theorem my {l:List Nat} {k n most x:Nat} (h:l[k]? = some x) (bW:n≤most):iL (l.drop k) n most=iL (l.drop (k+1)) (n+x) most:=by
 obtain⟨hk,rfl⟩:=List.getElem?_eq_some_iff.1 h;rw [List.drop_eq_getElem_cons hk,iL,if_pos bW]
theorem kC {l:List Nat} {k n most:Nat} (h:l.length≤k):iL (l.drop k) n most=n:=by
 rw [List.drop_eq_nil_of_le h,iL]
theorem kA {l:List Nat} {n most:Nat} (h:¬ n≤most):iL l n most=n:=by cases l <;> simp [iL,h]
namespace EV
def Af (e:EV):Nat:=e.room.length+e.snd.length+e.ty.length+e.key.length+e.hash.length+e.prev.length+e.b2.length+e.sigs.length
def qy (e:EV) (most:Nat):Nat:=iL (e.prev.map List.length) e.Af most
def kB (e:EV) (most:Nat):Nat:=iL (e.b2.map List.length) (e.qy most) most
def n3 (e:EV) (most:Nat):Nat:=iL (e.sigs.map fun s=>s.cP.length+s.key.length+s.sig.length) (e.kB most) most
def great (e:EV) (most:Nat):Bool:=decide (e.n3 most > most)||decide (e.bu.hW ((most:Int)-e.n3 most) 60<0)
end EV
end Go.Proofs.YtnihidkbkhcfoaaGreatDoor.V
set_option maxRecDepth 10000
namespace Go.Proofs.YtnihidkbkhcfoaaGreatDoor.V
open Go Go.Proofs
end Go.Proofs.YtnihidkbkhcfoaaGreatDoor.V
