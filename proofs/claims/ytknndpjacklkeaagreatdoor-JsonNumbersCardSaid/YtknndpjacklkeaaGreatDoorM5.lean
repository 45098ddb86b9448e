/-
  A part of the proof: library functions that reading uses: the shelf's contracts, in the words of the own base; several plain operations taken in one computed step; truths made literal; events: what they stand for in memory; whether one is greater than is played. No condition of its own.
-/
import Derived.Test.YtknndpjacklkeaaGreatDoorM2
import Derived.Test.YtknndpjacklkeaaGreatDoorM4
import Derived.Lib.AtoiAll
import Derived.Shelf.Strings.SlTrimAscii
import Derived.Shelf.Strings.Trim
import Derived.Shelf.Small.Utf8
import Derived.Shelf.Small.Bits
import Derived.Shelf.Small.Strs
import Derived.Shelf.Small.Wraps
import Derived.Shelf.Utf8.AppendRune
import Derived.Shelf.Strconv.Atoi
import Derived.Shelf.Strconv.Itoa0
import Derived.Shelf.Strconv.Itoa1
import Derived.Shelf.LaysM
import Derived.Shelf.Strconv.Itoa2
import Derived.Shelf.Strconv.Itoa3
import Derived.Shelf.Strconv.AtoiErrFast
import Derived.Shelf.Strconv.ParseIntEmpty
import Derived.Shelf.Strconv.AtoiFail
import Derived.Shelf.Strconv.Clone
import Derived.Shelf.Strconv.SyntaxError
import Derived.Shelf.LaysC
import Derived.Shelf.Strconv.ToError
import Derived.Shelf.Strconv.Lower
import Derived.Shelf.Strconv.ParseUint10
import Derived.Shelf.Strconv.ParseUint10Empty
import Derived.Shelf.Strconv.ParseUint10Any
import Derived.Shelf.Strconv.ParseInt10
import Derived.Shelf.Strconv.AtoiLong
import Derived.Shelf.Strconv.AtoiInnerAll
import Derived.Shelf.Strconv.RangeError
import Derived.Shelf.Strconv.ToErrorRange
import Derived.Shelf.Strconv.AtoiAll
import Derived.Shelf.Strconv.ErrVarAll
import Derived.Shelf.Strings.Search1
import Derived.Shelf.Strings.Search2
import Derived.Shelf.Strings.Cut
import Derived.Shelf.Strings.Shaped
import Derived.Shelf.Strings.Prefix
import Derived.Shelf.Strings.Runes
import Derived.Shelf.Strings.AsciiSet
import Derived.Shelf.Unicode.DecodeSlow
import Derived.Shelf.Unicode.DecodeAny
import Derived.Ground.Names2Prog
import Derived.Shelf.Slices.Clone
import Derived.Test.YtknndpjacklkeaaGreatDoorProg
import Derived.Test.YtknndpjacklkeaaGreatDoorM3
import Derived.Lib.AppendIntMem
import Derived.Lib.LaidTab
set_option linter.unusedVariables false
set_option linter.unusedSimpArgs false
namespace Go.Proofs
open Go.Shelf
def Tryz.lays161_ren : Go.Shelf.Ren := ⟨fun | 161 => 235 | 231 => 249 | 227 => 250 | 233 => 251 | 235 => 252 | 228 => 259 | 197 => 202 | 151 => 165 | 260 => 232 | 152 => 194 | 137 => 100 | 119 => 228 | 224 => 229 | 225 => 230 | 217 => 146 | 266 => 182 | n => n, fun | 9 => 9 | 4 => 4 | 3 => 3 | 5 => 5 | 117 => 254 | 116 => 253 | 0 => 0 | 124 => 257 | 105 => 205 | 21 => 21 | 119 => 247 | 46 => 144 | 139 => 250 | 138 => 249 | n => n, fun | 3 => 5 | 4 => 6 | n => n⟩
theorem Tryz.lays161 : Go.Proofs.Lays.n161 Tryz.prog Tryz.lays161_ren := {
 mixed := by kernel_rfl
 f119 := Tryz.func228.trans (congrArg some (by kernel_rfl))
 f137 := Tryz.func100.trans (congrArg some (by kernel_rfl))
 f151 := Tryz.func165.trans (congrArg some (by kernel_rfl))
 f152 := Tryz.func194.trans (congrArg some (by kernel_rfl))
 f161 := Tryz.func235.trans (congrArg some (by kernel_rfl))
 f197 := Tryz.func202.trans (congrArg some (by kernel_rfl))
 f217 := Tryz.func146.trans (congrArg some (by kernel_rfl))
 f224 := Tryz.func229.trans (congrArg some (by kernel_rfl))
 f225 := Tryz.func230.trans (congrArg some (by kernel_rfl))
 f227 := Tryz.func250.trans (congrArg some (by kernel_rfl))
 f228 := Tryz.func259.trans (congrArg some (by kernel_rfl))
 f231 := Tryz.func249.trans (congrArg some (by kernel_rfl))
 f233 := Tryz.func251.trans (congrArg some (by kernel_rfl))
 f235 := Tryz.func252.trans (congrArg some (by kernel_rfl))
 f260 := Tryz.func232.trans (congrArg some (by kernel_rfl))
 f266 := Tryz.func182.trans (congrArg some (by kernel_rfl))
 t0 := Tryz.underlying0
 a0 := Tryz.isAgg0
 z0 := Tryz.sizeOf0
 v0 := Tryz.zeroValue0
 t3 := Tryz.underlying3
 a3 := Tryz.isAgg3
 z3 := Tryz.sizeOf3
 v3 := Tryz.zeroValue3
 t4 := Tryz.underlying4
 a4 := Tryz.isAgg4
 z4 := Tryz.sizeOf4
 v4 := Tryz.zeroValue4
 t5 := Tryz.underlying5
 a5 := Tryz.isAgg5
 z5 := Tryz.sizeOf5
 v5 := Tryz.zeroValue5
 t9 := Tryz.underlying9
 a9 := Tryz.isAgg9
 z9 := Tryz.sizeOf9
 v9 := Tryz.zeroValue9
 t21 := Tryz.underlying21
 a21 := Tryz.isAgg21
 z21 := Tryz.sizeOf21
 v21 := Tryz.zeroValue21
 t46 := Tryz.underlying144
 a46 := Tryz.isAgg144
 z46 := Tryz.sizeOf144
 v46 := Tryz.zeroValue144
 t105 := Tryz.underlying205
 a105 := Tryz.isAgg205
 z105 := Tryz.sizeOf205
 v105 := Tryz.zeroValue205
 t116 := Tryz.underlying253
 a116 := Tryz.isAgg253
 z116 := Tryz.sizeOf253
 t117 := Tryz.underlying254
 a117 := Tryz.isAgg254
 z117 := Tryz.sizeOf254
 v117 := Tryz.zeroValue254
 t119 := Tryz.underlying247
 a119 := Tryz.isAgg247
 z119 := Tryz.sizeOf247
 t124 := Tryz.underlying257
 a124 := Tryz.isAgg257
 z124 := Tryz.sizeOf257
 v124 := Tryz.zeroValue257
 t138 := Tryz.underlying249
 a138 := Tryz.isAgg249
 z138 := Tryz.sizeOf249
 v138 := Tryz.zeroValue249
 t139 := Tryz.underlying250
 a139 := Tryz.isAgg250
 z139 := Tryz.sizeOf250
 v139 := Tryz.zeroValue250
 g3 := by kernel_rfl
 g4 := by kernel_rfl }

def Tryz.laysC172_ren : Go.Shelf.Ren := ⟨fun | 172 => 151 | 244 => 185 | 245 => 186 | 247 => 216 | 279 => 217 | 280 => 218 | 281 => 219 | 282 => 220 | 287 => 241 | 316 => 242 | 171 => 109 | 205 => 243 | 321 => 254 | 322 => 255 | 243 => 153 | 246 => 187 | 283 => 221 | 284 => 222 | 285 => 223 | 286 => 224 | 129 => 215 | 317 => 244 | 318 => 245 | 319 => 246 | 320 => 247 | 337 => 256 | 338 => 257 | n => n, fun | 9 => 9 | 3 => 3 | 75 => 168 | 76 => 169 | 4 => 4 | 5 => 5 | 167 => 219 | 37 => 74 | 0 => 0 | 85 => 220 | 2 => 2 | 168 => 222 | 53 => 182 | 175 => 238 | 46 => 144 | 210 => 242 | 127 => 261 | 145 => 264 | 143 => 262 | 21 => 21 | 171 => 225 | 173 => 227 | 212 => 245 | 51 => 147 | 20 => 20 | 213 => 246 | 232 => 103 | 233 => 265 | 80 => 153 | n => n, fun | 15 => 2 | 16 => 3 | 17 => 4 | 18 => 7 | 19 => 8 | n => n⟩
theorem Tryz.laysC172 : Go.Proofs.LaysC.n172 Tryz.prog Tryz.laysC172_ren := {
 mixed := by kernel_rfl
 f129 := Tryz.func215.trans (congrArg some (by kernel_rfl))
 f171 := Tryz.func109.trans (congrArg some (by kernel_rfl))
 f172 := Tryz.func151.trans (congrArg some (by kernel_rfl))
 f205 := Tryz.func243.trans (congrArg some (by kernel_rfl))
 f243 := Tryz.func153.trans (congrArg some (by kernel_rfl))
 f244 := Tryz.func185.trans (congrArg some (by kernel_rfl))
 f245 := Tryz.func186.trans (congrArg some (by kernel_rfl))
 f246 := Tryz.func187.trans (congrArg some (by kernel_rfl))
 f247 := Tryz.func216.trans (congrArg some (by kernel_rfl))
 f279 := Tryz.func217.trans (congrArg some (by kernel_rfl))
 f280 := Tryz.func218.trans (congrArg some (by kernel_rfl))
 f281 := Tryz.func219.trans (congrArg some (by kernel_rfl))
 f282 := Tryz.func220.trans (congrArg some (by kernel_rfl))
 f283 := Tryz.func221.trans (congrArg some (by kernel_rfl))
 f284 := Tryz.func222.trans (congrArg some (by kernel_rfl))
 f285 := Tryz.func223.trans (congrArg some (by kernel_rfl))
 f286 := Tryz.func224.trans (congrArg some (by kernel_rfl))
 f287 := Tryz.func241.trans (congrArg some (by kernel_rfl))
 f316 := Tryz.func242.trans (congrArg some (by kernel_rfl))
 f317 := Tryz.func244.trans (congrArg some (by kernel_rfl))
 f318 := Tryz.func245.trans (congrArg some (by kernel_rfl))
 f319 := Tryz.func246.trans (congrArg some (by kernel_rfl))
 f320 := Tryz.func247.trans (congrArg some (by kernel_rfl))
 f321 := Tryz.func254.trans (congrArg some (by kernel_rfl))
 f322 := Tryz.func255.trans (congrArg some (by kernel_rfl))
 f337 := Tryz.func256.trans (congrArg some (by kernel_rfl))
 f338 := Tryz.func257.trans (congrArg some (by kernel_rfl))
 t0 := Tryz.underlying0
 a0 := Tryz.isAgg0
 z0 := Tryz.sizeOf0
 v0 := Tryz.zeroValue0
 t2 := Tryz.underlying2
 a2 := Tryz.isAgg2
 z2 := Tryz.sizeOf2
 v2 := Tryz.zeroValue2
 t3 := Tryz.underlying3
 a3 := Tryz.isAgg3
 z3 := Tryz.sizeOf3
 v3 := Tryz.zeroValue3
 t4 := Tryz.underlying4
 a4 := Tryz.isAgg4
 z4 := Tryz.sizeOf4
 v4 := Tryz.zeroValue4
 t5 := Tryz.underlying5
 a5 := Tryz.isAgg5
 z5 := Tryz.sizeOf5
 v5 := Tryz.zeroValue5
 t9 := Tryz.underlying9
 a9 := Tryz.isAgg9
 z9 := Tryz.sizeOf9
 v9 := Tryz.zeroValue9
 t20 := Tryz.underlying20
 a20 := Tryz.isAgg20
 z20 := Tryz.sizeOf20
 v20 := Tryz.zeroValue20
 t21 := Tryz.underlying21
 a21 := Tryz.isAgg21
 z21 := Tryz.sizeOf21
 v21 := Tryz.zeroValue21
 t37 := Tryz.underlying74
 a37 := Tryz.isAgg74
 z37 := Tryz.sizeOf74
 v37 := Tryz.zeroValue74
 t46 := Tryz.underlying144
 a46 := Tryz.isAgg144
 z46 := Tryz.sizeOf144
 v46 := Tryz.zeroValue144
 t51 := Tryz.underlying147
 a51 := Tryz.isAgg147
 z51 := Tryz.sizeOf147
 v51 := Tryz.zeroValue147
 t53 := Tryz.underlying182
 a53 := Tryz.isAgg182
 z53 := Tryz.sizeOf182
 v53 := Tryz.zeroValue182
 t75 := Tryz.underlying168
 a75 := Tryz.isAgg168
 z75 := Tryz.sizeOf168
 v75 := Tryz.zeroValue168
 t76 := Tryz.underlying169
 a76 := Tryz.isAgg169
 z76 := Tryz.sizeOf169
 v76 := Tryz.zeroValue169
 t85 := Tryz.underlying220
 a85 := Tryz.isAgg220
 z85 := Tryz.sizeOf220
 v85 := Tryz.zeroValue220
 t127 := Tryz.underlying261
 a127 := Tryz.isAgg261
 z127 := Tryz.sizeOf261
 v127 := Tryz.zeroValue261
 t143 := Tryz.underlying262
 a143 := Tryz.isAgg262
 z143 := Tryz.sizeOf262
 v143 := Tryz.zeroValue262
 t145 := Tryz.underlying264
 a145 := Tryz.isAgg264
 z145 := Tryz.sizeOf264
 v145 := Tryz.zeroValue264
 t167 := Tryz.underlying219
 a167 := Tryz.isAgg219
 z167 := Tryz.sizeOf219
 v167 := Tryz.zeroValue219
 t168 := Tryz.underlying222
 a168 := Tryz.isAgg222
 z168 := Tryz.sizeOf222
 v168 := Tryz.zeroValue222
 t171 := Tryz.underlying225
 a171 := Tryz.isAgg225
 z171 := Tryz.sizeOf225
 v171 := Tryz.zeroValue225
 t173 := Tryz.underlying227
 a173 := Tryz.isAgg227
 z173 := Tryz.sizeOf227
 v173 := Tryz.zeroValue227
 t175 := Tryz.underlying238
 a175 := Tryz.isAgg238
 z175 := Tryz.sizeOf238
 v175 := Tryz.zeroValue238
 t210 := Tryz.underlying242
 a210 := Tryz.isAgg242
 z210 := Tryz.sizeOf242
 v210 := Tryz.zeroValue242
 t212 := Tryz.underlying245
 a212 := Tryz.isAgg245
 z212 := Tryz.sizeOf245
 v212 := Tryz.zeroValue245
 t213 := Tryz.underlying246
 a213 := Tryz.isAgg246
 z213 := Tryz.sizeOf246
 t232 := Tryz.underlying103
 a232 := Tryz.isAgg103
 z232 := Tryz.sizeOf103
 v232 := Tryz.zeroValue103
 t233 := Tryz.underlying265
 a233 := Tryz.isAgg265
 z233 := Tryz.sizeOf265
 v233 := Tryz.zeroValue265
 g15 := by kernel_rfl
 g16 := by kernel_rfl
 g17 := by kernel_rfl
 g18 := by kernel_rfl
 g19 := by kernel_rfl
 t80 := Tryz.underlying153
 a80 := Tryz.isAgg153
 z80 := Tryz.sizeOf153
 v80 := Tryz.zeroValue153
 i0 := by kernel_rfl
 i2 := by kernel_rfl
 i3 := by kernel_rfl
 i4 := by kernel_rfl
 i5 := by kernel_rfl
 i9 := by kernel_rfl
 i20 := by kernel_rfl
 i21 := by kernel_rfl
 i37 := by kernel_rfl
 i46 := by kernel_rfl
 i51 := by kernel_rfl
 i53 := by kernel_rfl
 i75 := by kernel_rfl
 i76 := by kernel_rfl
 i80 := by kernel_rfl
 i85 := by kernel_rfl
 i127 := by kernel_rfl
 i143 := by kernel_rfl
 i145 := by kernel_rfl
 i167 := by kernel_rfl
 i168 := by kernel_rfl
 i171 := by kernel_rfl
 i173 := by kernel_rfl
 i175 := by kernel_rfl
 i210 := by kernel_rfl
 i212 := by kernel_rfl
 i232 := by kernel_rfl
 i233 := by kernel_rfl
 m15 := by kernel_rfl
 m16 := by kernel_rfl
 m17 := by kernel_rfl
 m18 := by kernel_rfl
 m19 := by kernel_rfl
 c0 := by kernel_rfl
 c2 := by kernel_rfl
 c3 := by kernel_rfl
 c4 := by kernel_rfl
 c5 := by kernel_rfl
 c9 := by kernel_rfl
 c20 := by kernel_rfl
 c21 := by kernel_rfl
 c37 := by kernel_rfl
 c46 := by kernel_rfl
 c51 := by kernel_rfl
 c53 := by kernel_rfl
 c75 := by kernel_rfl
 c76 := by kernel_rfl
 c80 := by kernel_rfl
 c85 := by kernel_rfl
 c127 := by kernel_rfl
 c143 := by kernel_rfl
 c145 := by kernel_rfl
 c167 := by kernel_rfl
 c168 := by kernel_rfl
 c171 := by kernel_rfl
 c173 := by kernel_rfl
 c175 := by kernel_rfl
 c210 := by kernel_rfl
 c212 := by kernel_rfl
 c213 := by kernel_rfl
 c232 := by kernel_rfl
 c233 := by kernel_rfl }
open Go.RowKit in
theorem Tryz.strconv_Atoi_ok (s : ByteArray) (hmax : s.size ≤ 9223372036854775806) (v : Int) (h : Lib.atoiAll s.data.toList = .ok v) (w : World) :
  Calls Tryz.prog 151 #[.string s] w fun e w' => e = .returned (.tuple #[.int .i64 v, .nilIface]) ∧ (w' = w ∨ ∃ t, w' = Lib.bytesWorld w 5 t) := Any.strconv_Atoi_ok Tryz.laysC172 s hmax v h w
open Go.RowKit in
theorem Tryz.strconv_Atoi_syntax (s : ByteArray) (hlim : s.size ≤ 281474976710656) (h : Lib.atoiAll s.data.toList = .«syntax») (ev : Value) (w : World) (hv : w.cell? ⟨2, 0, none⟩ = some ev) (hev : ev = .nilIface ∨ ∃ te pe, ev = .iface te pe) :
  Calls Tryz.prog 151 #[.string s] w fun e w' => ∃ N, e = .returned (.tuple #[.int .i64 (0), .iface 222 (.pointer (some ⟨N, 0, none⟩))]) ∧ w.heap.size ≤ N ∧ w'.heap[N]? = some (.cells #[.string ⟨#[65, 116, 111, 105]⟩, .string s, ev] 242 (0, 0)) ∧ Below w.heap.size w w' := Any.strconv_Atoi_syntax Tryz.laysC172 s hlim h ev w hv hev
open Go.RowKit in
theorem Tryz.strconv_Atoi_range (s : ByteArray) (hlim : s.size ≤ 281474976710656) (h : Lib.atoiAll s.data.toList = .range) (ev : Value) (w : World) (hv : w.cell? ⟨3, 0, none⟩ = some ev) (hev : ev = .nilIface ∨ ∃ te pe, ev = .iface te pe) :
  Calls Tryz.prog 151 #[.string s] w fun e w' => ∃ N, e = .returned (.tuple #[.int .i64 (Lib.atoiSat s.data.toList), .iface 222 (.pointer (some ⟨N, 0, none⟩))]) ∧ w.heap.size ≤ N ∧ w'.heap[N]? = some (.cells #[.string ⟨#[65, 116, 111, 105]⟩, .string s, ev] 242 (0, 0)) ∧ Below w.heap.size w w' := Any.strconv_Atoi_range Tryz.laysC172 s hlim h ev w hv hev


def Tryz.lays101_ren : Go.Shelf.Ren := ⟨fun | 101 => 204 | 208 => 234 | 206 => 201 | n => n, fun | 9 => 9 | 4 => 4 | 3 => 3 | n => n, fun | n => n⟩
theorem Tryz.lays101 : Go.Proofs.Lays.n101 Tryz.prog Tryz.lays101_ren := {
 mixed := by kernel_rfl
 f101 := Tryz.func204.trans (congrArg some (by kernel_rfl))
 f206 := Tryz.func201.trans (congrArg some (by kernel_rfl))
 f208 := Tryz.func234.trans (congrArg some (by kernel_rfl))
 t3 := Tryz.underlying3
 a3 := Tryz.isAgg3
 z3 := Tryz.sizeOf3
 v3 := Tryz.zeroValue3
 t4 := Tryz.underlying4
 a4 := Tryz.isAgg4
 z4 := Tryz.sizeOf4
 v4 := Tryz.zeroValue4
 t9 := Tryz.underlying9
 a9 := Tryz.isAgg9
 z9 := Tryz.sizeOf9
 v9 := Tryz.zeroValue9 }
open Go.RowKit Go.Lib in
theorem Tryz.strings_TrimPrefix (s p : ByteArray) (w : World) :
  Calls Tryz.prog 204 #[.string s, .string p] w fun e w' => e = .returned (.string ⟨(Lib.trimPrefix s.data.toList p.data.toList).toArray⟩) ∧ w' = w := Any.strings_TrimPrefix Tryz.lays101 s p w
def Tryz.lays152_ren : Go.Shelf.Ren := ⟨fun | 152 => 194 | 137 => 100 | 119 => 228 | 224 => 229 | 225 => 230 | 217 => 146 | 266 => 182 | n => n, fun | 9 => 9 | 21 => 21 | 3 => 3 | 4 => 4 | 5 => 5 | 0 => 0 | 46 => 144 | n => n, fun | n => n⟩
theorem Tryz.lays152 : Go.Proofs.Lays.n152 Tryz.prog Tryz.lays152_ren := {
 mixed := by kernel_rfl
 f119 := Tryz.func228.trans (congrArg some (by kernel_rfl))
 f137 := Tryz.func100.trans (congrArg some (by kernel_rfl))
 f152 := Tryz.func194.trans (congrArg some (by kernel_rfl))
 f217 := Tryz.func146.trans (congrArg some (by kernel_rfl))
 f224 := Tryz.func229.trans (congrArg some (by kernel_rfl))
 f225 := Tryz.func230.trans (congrArg some (by kernel_rfl))
 f266 := Tryz.func182.trans (congrArg some (by kernel_rfl))
 t0 := Tryz.underlying0
 a0 := Tryz.isAgg0
 z0 := Tryz.sizeOf0
 v0 := Tryz.zeroValue0
 t3 := Tryz.underlying3
 a3 := Tryz.isAgg3
 z3 := Tryz.sizeOf3
 v3 := Tryz.zeroValue3
 t4 := Tryz.underlying4
 a4 := Tryz.isAgg4
 z4 := Tryz.sizeOf4
 v4 := Tryz.zeroValue4
 t5 := Tryz.underlying5
 a5 := Tryz.isAgg5
 z5 := Tryz.sizeOf5
 v5 := Tryz.zeroValue5
 t9 := Tryz.underlying9
 a9 := Tryz.isAgg9
 z9 := Tryz.sizeOf9
 v9 := Tryz.zeroValue9
 t21 := Tryz.underlying21
 a21 := Tryz.isAgg21
 z21 := Tryz.sizeOf21
 v21 := Tryz.zeroValue21
 t46 := Tryz.underlying144
 a46 := Tryz.isAgg144
 z46 := Tryz.sizeOf144
 v46 := Tryz.zeroValue144 }
open Go.RowKit Go.Lib in
theorem Tryz.strings_IndexRune_ascii (s : ByteArray) (r : Int) (w : World) (h0 : 0 ≤ r) (h1 : r < 128) :
  Calls Tryz.prog 194 #[.string s, .int .i32 r] w fun e w' => e = .returned (.int .i64 (Lib.indexByte s.data.toList r.toNat.toUInt8)) ∧ w' = w := Any.strings_IndexRune_ascii Tryz.lays152 s r w h0 h1
def Tryz.lays197_ren : Go.Shelf.Ren := ⟨fun | 197 => 202 | 260 => 232 | n => n, fun | 9 => 9 | 21 => 21 | 3 => 3 | 4 => 4 | 5 => 5 | 105 => 205 | 119 => 247 | 0 => 0 | 46 => 144 | 139 => 250 | 138 => 249 | n => n, fun | 3 => 5 | 4 => 6 | n => n⟩
theorem Tryz.lays197 : Go.Proofs.Lays.n197 Tryz.prog Tryz.lays197_ren := {
 mixed := by kernel_rfl
 f197 := Tryz.func202.trans (congrArg some (by kernel_rfl))
 f260 := Tryz.func232.trans (congrArg some (by kernel_rfl))
 t0 := Tryz.underlying0
 a0 := Tryz.isAgg0
 z0 := Tryz.sizeOf0
 v0 := Tryz.zeroValue0
 t3 := Tryz.underlying3
 a3 := Tryz.isAgg3
 z3 := Tryz.sizeOf3
 v3 := Tryz.zeroValue3
 t4 := Tryz.underlying4
 a4 := Tryz.isAgg4
 z4 := Tryz.sizeOf4
 v4 := Tryz.zeroValue4
 t5 := Tryz.underlying5
 a5 := Tryz.isAgg5
 z5 := Tryz.sizeOf5
 v5 := Tryz.zeroValue5
 t9 := Tryz.underlying9
 a9 := Tryz.isAgg9
 z9 := Tryz.sizeOf9
 v9 := Tryz.zeroValue9
 t21 := Tryz.underlying21
 a21 := Tryz.isAgg21
 z21 := Tryz.sizeOf21
 v21 := Tryz.zeroValue21
 t46 := Tryz.underlying144
 a46 := Tryz.isAgg144
 z46 := Tryz.sizeOf144
 v46 := Tryz.zeroValue144
 t105 := Tryz.underlying205
 a105 := Tryz.isAgg205
 z105 := Tryz.sizeOf205
 v105 := Tryz.zeroValue205
 t119 := Tryz.underlying247
 a119 := Tryz.isAgg247
 z119 := Tryz.sizeOf247
 t138 := Tryz.underlying249
 a138 := Tryz.isAgg249
 z138 := Tryz.sizeOf249
 v138 := Tryz.zeroValue249
 t139 := Tryz.underlying250
 a139 := Tryz.isAgg250
 z139 := Tryz.sizeOf250
 v139 := Tryz.zeroValue250
 g3 := by kernel_rfl
 g4 := by kernel_rfl }
open Go.RowKit Go.Lib in
theorem Tryz.utf8_DecodeRuneInString (s : ByteArray) (w : World) (hT : Lib.Utf8Tabs 5 6 w) :
  Calls Tryz.prog 202 #[.string s] w fun e w' => e = .returned (.tuple #[.int .i32 (Lib.decodeGo s).1, .int .i64 (Lib.decodeGo s).2]) ∧ Below w.heap.size w w' := Any.utf8_DecodeRuneInString Tryz.lays197 s w hT
end Go.Proofs

namespace Go.Proofs.YtknndpjacklkeaaGreatDoor.V
open Go Go.Proofs
theorem Mod.ofBelow {w w' : World} (h : RowKit.Below w.heap.size w w') : Mod [] w w' := ⟨h.os, h.tape, h.output, h.size, fun i hi _ => h.block i hi⟩
theorem bytesW_mod (w : World) (e : Nat) (s : ByteArray) : Mod [] w (Lib.bytesWorld w e s) := by
 refine ⟨?_, ?_, ?_, ?_, ?_⟩
 ·simp only [Lib.bytesWorld, World.freeze]; rfl
 ·simp only [Lib.bytesWorld, World.freeze]; rfl
 ·simp only [Lib.bytesWorld, World.freeze]; rfl
 ·rw [Lib.bytesWorld_size]; omega
 ·exact fun i hi _ => Lib.bytesWorld_at_old w e _ i hi
theorem cell_mod {w w' : World} {M : List Nat} {a : Nat} {v : Value} {g : Nat} (h : w.cell? ⟨g, a, none⟩ = some v) (k : Mod M w w') (hg : g ∉ M) : w'.cell? ⟨g, a, none⟩ = some v := by
 have hlt : g < w.heap.size := by
  rcases Nat.lt_or_ge g w.heap.size with hl | hl
  ·exact hl
  ·unfold World.cell? at h
   rw [Array.getElem?_eq_none hl] at h
   cases h
 unfold World.cell? at h ⊢
 rw [k.block g hlt hg]
 exact h
def UtT (w : World) : Prop := Lib.Utf8Tabs 5 6 w
theorem UtT.mod {w w' : World} {M : List Nat} (h : UtT w) (k : Mod M w w') (hM : ∀ x ∈ M, 6 < x) : UtT w' :=
 ⟨fun c hc => cell_mod (h.1 c hc) k (fun hx => by have := hM _ hx; omega), fun i hi => ⟨cell_mod (h.2 i hi).1 k (fun hx => by have := hM _ hx; omega), cell_mod (h.2 i hi).2 k (fun hx => by have := hM _ hx; omega)⟩⟩
theorem UtT.mod0 {w w' : World} (h : UtT w) (k : Mod [] w w') : UtT w' := h.mod k (by simp)
def ErrT (w : World) : Prop := (∃ ev, w.cell? ⟨2, 0, none⟩ = some ev ∧ (ev = .nilIface ∨ ∃ te pe, ev = .iface te pe)) ∧ ∃ ev, w.cell? ⟨3, 0, none⟩ = some ev ∧ (ev = .nilIface ∨ ∃ te pe, ev = .iface te pe)
theorem ErrT.mod {w w' : World} {M : List Nat} (h : ErrT w) (k : Mod M w w') (hM : ∀ x ∈ M, 6 < x) : ErrT w' := by
 obtain ⟨⟨e1, h1, h2⟩, ⟨e2, h3, h4⟩⟩ := h
 exact ⟨⟨e1, cell_mod h1 k (fun hx => by have := hM _ hx; omega), h2⟩, ⟨e2, cell_mod h3 k (fun hx => by have := hM _ hx; omega), h4⟩⟩
theorem c_irune_lo (w : World) (s : Str) (c : Nat) (hc : c < 128) : Calls Tryz.prog 194 [S s, .int .i32 (c : Int)].toArray w (Ret fun u w' => u = .int .i64 (Lib.indexByte s (UInt8.ofNat c)) ∧ Mod [] w w') := by
 refine (Tryz.strings_IndexRune_ascii ⟨⟨s⟩⟩ (c : Int) w (by omega) (by omega)).mono fun e w' he => ?_
 obtain ⟨rfl, rfl⟩ := he
 exact ⟨by rw [Int.toNat_natCast], Mod.refl _ _⟩
theorem c_trimP (w : World) (s p : Str) : Calls Tryz.prog 204 [S s, S p].toArray w (Ret fun u w' => u = S (Lib.trimPrefix s p) ∧ Mod [] w w') := by
 refine (Tryz.strings_TrimPrefix ⟨⟨s⟩⟩ ⟨⟨p⟩⟩ w).mono fun e w' he => ?_
 obtain ⟨rfl, rfl⟩ := he
 exact ⟨rfl, Mod.refl _ _⟩
theorem c_trimL (w : World) (s p : Str) (hp : p.length < 1000) (ha : ∀ b ∈ p, b.toNat < 128) : Calls Tryz.prog 235 [S s, S p].toArray w (Ret fun u w' => u = S (Lib.trimLeftS s p) ∧ Mod [] w w') := by
 refine (Any.strings_TrimLeft_laid Tryz.lays161 (by kernel_rfl) ⟨⟨s⟩⟩ ⟨⟨p⟩⟩ w (show p.length < 4294967281 by omega) (fun j b hb => ha b (List.mem_of_getElem? hb))).mono fun e w' he => ?_
 obtain ⟨rfl, k⟩ := he
 exact ⟨rfl, Mod.ofBelow k⟩
def decP (s : Str) : Nat × Nat := Lib.decodeGo ⟨⟨s⟩⟩
theorem decP_at {s : Str} {i : Nat} (h : i < s.length) : decP (s.drop i) = Utf8.decode ⟨⟨s.drop i⟩⟩ 0 := by
 unfold decP Lib.decodeGo
 rw [if_neg]
 show ¬ (s.drop i).length = 0
 rw [List.length_drop]
 omega
theorem c_decR (w : World) (s : Str) (hU : UtT w) : Calls Tryz.prog 202 [S s].toArray w (Ret fun u w' => u = .tuple #[.int .i32 ((decP s).1 : Int), .int .i64 ((decP s).2 : Int)] ∧ Mod [] w w') := by
 refine (Any.utf8_DecodeRuneInString Tryz.lays197 ⟨⟨s⟩⟩ w hU).mono fun e w' he => ?_
 obtain ⟨rfl, k⟩ := he
 exact ⟨rfl, Mod.ofBelow k⟩
def AtoiS (s : Str) (n : Int) (err : Value) : Prop := (Lib.atoiAll s = .ok n ∧ err = .nilIface) ∨ ((∀ v, Lib.atoiAll s ≠ .ok v) ∧ (∃ T p, err = .iface T p) ∧ (n = 0 ∨ n = -9223372036854775808 ∨ n = 9223372036854775807) ∧ (n = 0 → Lib.atoiAll s = .«syntax»))
theorem c_atoi (w : World) (s : Str) (hs : s.length ≤ 1000000) (hE : ErrT w) : Calls Tryz.prog 151 [S s].toArray w (Ret fun u w' => ∃ n err, u = .tuple #[.int .i64 n, err] ∧ AtoiS s n err ∧ Mod [] w w') := by
 obtain ⟨⟨e1, h1, h2⟩, ⟨e2, h3, h4⟩⟩ := hE
 cases hA : Lib.atoiAll s with
 | ok v =>
  refine (Tryz.strconv_Atoi_ok ⟨⟨s⟩⟩ (show s.length ≤ _ by omega) v hA w).mono fun e w' he => ?_
  obtain ⟨rfl, k⟩ := he
  refine ⟨v, _, rfl, .inl ⟨hA, rfl⟩, ?_⟩
  rcases k with rfl | ⟨t, rfl⟩
  ·exact Mod.refl _ _
  ·exact bytesW_mod _ _ _
 | «syntax» =>
  refine (Tryz.strconv_Atoi_syntax ⟨⟨s⟩⟩ (show s.length ≤ _ by omega) hA e1 w h1 h2).mono fun e w' he => ?_
  obtain ⟨N, rfl, _, _, k⟩ := he
  exact ⟨0, _, rfl, .inr ⟨fun v => (by rw [hA]; intro h; cases h), ⟨_, _, rfl⟩, .inl rfl, fun _ => hA⟩, Mod.ofBelow k⟩
 | range =>
  refine (Tryz.strconv_Atoi_range ⟨⟨s⟩⟩ (show s.length ≤ _ by omega) hA e2 w h3 h4).mono fun e w' he => ?_
  obtain ⟨N, rfl, _, _, k⟩ := he
  refine ⟨Lib.atoiSat s, _, rfl, .inr ⟨fun v => (by rw [hA]; intro h; cases h), ⟨_, _, rfl⟩, ?_, fun h => ?_⟩, Mod.ofBelow k⟩
  ·unfold Lib.atoiSat
   split
   ·exact .inr (.inl rfl)
   ·exact .inr (.inr rfl)
  ·unfold Lib.atoiSat at h
   split at h <;> cases h
end Go.Proofs.YtknndpjacklkeaaGreatDoor.V

set_option linter.unusedVariables false
set_option linter.unusedSimpArgs false
namespace Go.Proofs.YtknndpjacklkeaaGreatDoor.V
open Go
def ev1 (l : List (Nat × Value)) : Op → Option Value
 | .move x => evO l x
 | .assign x => evO l x
 | .pick x y z => match evO l x with
  | some (.bool true) => evO l y
  | some (.bool false) => evO l z
  | _ => none
 | .unOp .not _ x => match evO l x with
  | some (.bool b) => some (.bool (!b))
  | _ => none
 | .extract x i => match evO l x with
  | some (.tuple vs) => vs[i]?
  | _ => none
 | .nilCheck x => match evO l x with
  | some (.pointer (some ad)) => some (.pointer (some ad))
  | _ => none
 | .binOp .lss _ x y _ => match evO l x, evO l y with
  | some (.int k m), some (.int k' m') => if k = k' then some (.bool (decide (m < m'))) else none
  | _, _ => none
 | .binOp .leq _ x y _ => match evO l x, evO l y with
  | some (.int k m), some (.int k' m') => if k = k' then some (.bool (decide (m ≤ m'))) else none
  | _, _ => none
 | .binOp .gtr _ x y _ => match evO l x, evO l y with
  | some (.int k m), some (.int k' m') => if k = k' then some (.bool (decide (m' < m))) else none
  | _, _ => none
 | .binOp .eql _ x y _ => match evO l x, evO l y with
  | some (.int k m), some (.int k' m') => if k = k' then some (.bool (decide (m = m'))) else none
  | _, _ => none
 | .binOp .neq _ x y _ => match evO l x, evO l y with
  | some (.int k m), some (.int k' m') => if k = k' then some (.bool (decide (m ≠ m'))) else none
  | _, _ => none
 | _ => none
def tstep (ops : Array Oper) (n : Nat) (l : List (Nat × Value)) : Oper → Option (List (Nat × Value))
 | ⟨some d, op, _, _, _, g⟩ => match Nat.blt d n with
  | true => match g with
   | none => match ev1 l op with
    | some v => some ((d, v) :: l)
    | none => none
   | some (j, want) => match gv ops l j with
    | some b => match b, want with
     | true, true => match ev1 l op with
      | some v => some ((d, v) :: l)
      | none => none
     | false, false => match ev1 l op with
      | some v => some ((d, v) :: l)
      | none => none
     | true, false => some ((d, undef) :: l)
     | false, true => some ((d, undef) :: l)
    | none => match (ops[j]?).bind (·.dst) with
     | some t => match lk t l with
      | some (.tuple vs) => match vs.size with
       | 0 => some ((d, undef) :: l)
       | _ => none
      | _ => none
     | none => none
  | false => none
 | _ => none
def trun (ops : Array Oper) (n : Nat) : Nat → List Oper → List (Nat × Value) → Option (List Oper × List (Nat × Value))
 | 0, lo, l => some (lo, l)
 | k + 1, o :: lo, l => match tstep ops n l o with
  | some l' => trun ops n k lo l'
  | none => none
 | _ + 1, [], _ => none
section
variable {P : Program} {ops : Array Oper} {Q : Exit → Act → World → Prop} {n : Nat} {ds : List Deferred} {l l' : List (Nat × Value)} {M : List (Nat × (Value → World → Prop))} {w w' : World} {Fin : Kn → Prop}
variable {lo lo' : List Oper} {d : Nat} {op : Op} {ty : TypeId} {pos : String} {af : Array Edge} {gg : Option (Nat × Bool)}
theorem ev1_runs {v : Value} (h : ev1 l op = some v) : Runs P l ⟨some d, op, ty, pos, af, gg⟩ w v w := by
 unfold ev1 at h
 split at h
 ·exact oM h
 ·exact o_as h
 ·split at h
  ·rename_i hx; exact fun ρ hρ => by simp [execOp, hρ _ _ hx, hρ _ _ h, asBool, evO]
  ·rename_i hx; exact fun ρ hρ => by simp [execOp, hρ _ _ hx, hρ _ _ h, asBool]
  ·cases h
 ·split at h
  ·rename_i hx; injection h with h; subst h; exact o_not hx
  ·cases h
 ·split at h
  ·rename_i hx; exact o_ext hx h
  ·cases h
 ·split at h
  ·rename_i hx; injection h with h; subst h; exact o_nilc hx
  ·cases h
 ·split at h
  ·rename_i hx hy
   split at h
   ·rename_i hk; subst hk; injection h with h; subst h; exact o_lss hx hy
   ·cases h
  ·cases h
 ·split at h
  ·rename_i hx hy
   split at h
   ·rename_i hk; subst hk; injection h with h; subst h; exact o_leq hx hy
   ·cases h
  ·cases h
 ·split at h
  ·rename_i hx hy
   split at h
   ·rename_i hk; subst hk; injection h with h; subst h; exact o_gtr hx hy
   ·cases h
  ·cases h
 ·split at h
  ·rename_i hx hy
   split at h
   ·rename_i hk; subst hk; injection h with h; subst h; exact oE hx hy
   ·cases h
  ·cases h
 ·split at h
  ·rename_i hx hy
   split at h
   ·rename_i hk; subst hk; injection h with h; subst h; exact o_neq hx hy
   ·cases h
  ·cases h
 ·cases h
theorem tstep_wl {o : Oper} (h : tstep ops n l o = some l') (hW : WL P ops Q lo n ds l' w) : WL P ops Q (o :: lo) n ds l w := by
 obtain ⟨dst, op, ty, pos, af, g⟩ := o
 cases dst with
 | none => simp [tstep] at h
 | some d =>
  cases hd : Nat.blt d n with
  | false => simp [tstep, hd] at h
  | true =>
   cases g with
   | none =>
    cases he : ev1 l op with
    | none => simp [tstep, hd, he] at h
    | some v =>
     simp [tstep, hd, he] at h
     subst h
     exact sv (ev1_runs he) hd hW
   | some jw =>
    obtain ⟨j, want⟩ := jw
    cases hg : gv ops l j with
    | some b =>
     cases b <;> cases want <;> simp only [tstep, hd, hg] at h
     ·cases he : ev1 l op with
      | none => simp [he] at h
      | some v =>
       simp [he] at h
       subst h
       exact sg hg rfl (ev1_runs he) hd hW
     ·injection h with h
      subst h
      exact sn hg (by decide) hd hW
     ·injection h with h
      subst h
      exact sn hg (by decide) hd hW
     ·cases he : ev1 l op with
      | none => simp [he] at h
      | some v =>
       simp [he] at h
       subst h
       exact sg hg rfl (ev1_runs he) hd hW
    | none =>
     simp only [tstep, hd, hg] at h
     split at h
     ·rename_i t ht
      split at h
      ·rename_i vs hv
       split at h
       ·rename_i hs
        injection h with h
        subst h
        have : vs = #[] := Array.eq_empty_of_size_eq_zero hs
        subst this
        exact snu ht hv hd hW
       ·cases h
      ·cases h
     ·cases h
theorem tstep_twl {o : Oper} (h : tstep ops n l o = some l') (hs : notSel o.op = true) (hW : TWL P ops w n Fin lo l' M) : TWL P ops w n Fin (o :: lo) l M := by
 obtain ⟨dst, op, ty, pos, af, g⟩ := o
 cases dst with
 | none => simp [tstep] at h
 | some d =>
  cases hd : Nat.blt d n with
  | false => simp [tstep, hd] at h
  | true =>
   cases g with
   | none =>
    cases he : ev1 l op with
    | none => simp [tstep, hd, he] at h
    | some v =>
     simp [tstep, hd, he] at h
     subst h
     exact tv (fun _ _ => ev1_runs he) hd hs hW
   | some jw =>
    obtain ⟨j, want⟩ := jw
    cases hg : gv ops l j with
    | some b =>
     cases b <;> cases want <;> simp only [tstep, hd, hg] at h
     ·cases he : ev1 l op with
      | none => simp [he] at h
      | some v =>
       simp [he] at h
       subst h
       exact tvg hg rfl (fun _ _ => ev1_runs he) hd hs hW
     ·injection h with h
      subst h
      exact tn hg (by decide) hd hW
     ·injection h with h
      subst h
      exact tn hg (by decide) hd hW
     ·cases he : ev1 l op with
      | none => simp [he] at h
      | some v =>
       simp [he] at h
       subst h
       exact tvg hg rfl (fun _ _ => ev1_runs he) hd hs hW
    | none =>
     simp only [tstep, hd, hg] at h
     split at h
     ·rename_i t ht
      split at h
      ·rename_i vs hv
       split at h
       ·rename_i hz
        injection h with h
        subst h
        have : vs = #[] := Array.eq_empty_of_size_eq_zero hz
        subst this
        exact tnu ht hv hd hW
       ·cases h
      ·cases h
     ·cases h
theorem tW (k : Nat) (h : trun ops n k lo l = some (lo', l')) (hW : WL P ops Q lo' n ds l' w) : WL P ops Q lo n ds l w := by
 induction k generalizing lo l with
 | zero => injection h with h; injection h with h1 h2; subst h1; subst h2; exact hW
 | succ k ih =>
  cases lo with
  | nil => simp [trun] at h
  | cons o lo =>
   simp only [trun] at h
   split at h
   ·rename_i l1 h1
    exact tstep_wl h1 (ih h)
   ·cases h
def selN : Nat → List Oper → Bool
 | 0, _ => true
 | k + 1, o :: lo => notSel o.op && selN k lo
 | _ + 1, [] => false
theorem tU (k : Nat) (h : trun ops n k lo l = some (lo', l')) (hs : selN k lo = true) (hW : TWL P ops w n Fin lo' l' M) : TWL P ops w n Fin lo l M := by
 induction k generalizing lo l with
 | zero => injection h with h; injection h with h1 h2; subst h1; subst h2; exact hW
 | succ k ih =>
  cases lo with
  | nil => simp [trun] at h
  | cons o lo =>
   simp only [selN, Bool.and_eq_true] at hs
   simp only [trun] at h
   split at h
   ·rename_i l1 h1
    exact tstep_twl h1 hs.1 (ih h hs.2)
   ·cases h
/-! a truth made literal -/
variable {t : Nat} {p : Prop} {b b' : Bool}
theorem bD [Decidable p] (h1 : p → WL P ops Q lo n ds ((t, .bool true) :: l) w) (h2 : ¬ p → WL P ops Q lo n ds ((t, .bool false) :: l) w) : WL P ops Q lo n ds ((t, .bool (decide p)) :: l) w := by
 by_cases h : p
 ·rw [decide_eq_true h]; exact h1 h
 ·rw [decide_eq_false h]; exact h2 h
theorem bB (h1 : b = true → WL P ops Q lo n ds ((t, .bool true) :: l) w) (h2 : ¬ b = true → WL P ops Q lo n ds ((t, .bool false) :: l) w) : WL P ops Q lo n ds ((t, .bool b) :: l) w := by
 cases b
 ·exact h2 (by decide)
 ·exact h1 rfl
theorem bC (h1 : b = true → WL P ops Q lo n ds ((t, .bool true) :: l) w) (h2 : b = false → WL P ops Q lo n ds ((t, .bool false) :: l) w) : WL P ops Q lo n ds ((t, .bool b) :: l) w := by
 cases b
 ·exact h2 rfl
 ·exact h1 rfl
theorem bE (h : b = b') (hW : WL P ops Q lo n ds ((t, .bool b') :: l) w) : WL P ops Q lo n ds ((t, .bool b) :: l) w := h ▸ hW
end
end Go.Proofs.YtknndpjacklkeaaGreatDoor.V

set_option linter.unusedVariables false
set_option linter.unusedSimpArgs false
set_option maxRecDepth 10000
namespace Go.Proofs.YtknndpjacklkeaaGreatDoor.V
open Go Go.Proofs
theorem fd25_3 : fdB Tryz.prog 25 3 3 1 = true := by kernel_rfl
theorem sc9 : scB Tryz.prog 9 = true := by kernel_rfl
theorem fd25_4 : fdB Tryz.prog 25 4 4 1 = true := by kernel_rfl
theorem sc22 : scB Tryz.prog 22 = true := by kernel_rfl
theorem sl22 : slB Tryz.prog 22 25 6 88 = true := by kernel_rfl
theorem ag25 : agB Tryz.prog 25 6 = true := by kernel_rfl
theorem fd25_5 : fdB Tryz.prog 25 5 5 1 = true := by kernel_rfl
theorem sc23 : scB Tryz.prog 23 = true := by kernel_rfl
theorem wide : Tryz.prog.follows .mixedOrders = true := by kernel_rfl
theorem sl23 : slB Tryz.prog 23 44 7 104 = true := by kernel_rfl
theorem fd44_1 : fdB Tryz.prog 44 1 1 6 = true := by kernel_rfl
theorem fd44_0 : fdB Tryz.prog 44 0 0 1 = true := by kernel_rfl
end Go.Proofs.YtknndpjacklkeaaGreatDoor.V

set_option linter.unusedVariables false
set_option linter.unusedSimpArgs false
set_option maxRecDepth 10000
namespace Go.Proofs.YtknndpjacklkeaaGreatDoor.V
open Go Go.Proofs
theorem fd25_0 : fdB Tryz.prog 25 0 0 1 = true := by kernel_rfl
theorem sc3 : scB Tryz.prog 3 = true := by kernel_rfl
theorem fd25_1 : fdB Tryz.prog 25 1 1 1 = true := by kernel_rfl
theorem sc4 : scB Tryz.prog 4 = true := by kernel_rfl
theorem fd25_2 : fdB Tryz.prog 25 2 2 1 = true := by kernel_rfl
end Go.Proofs.YtknndpjacklkeaaGreatDoor.V

set_option linter.unusedVariables false
set_option linter.unusedSimpArgs false
set_option maxRecDepth 10000
namespace Go.Proofs.YtknndpjacklkeaaGreatDoor.V
open Go Go.Proofs
theorem ag44 : agB Tryz.prog 44 7 = true := by kernel_rfl
theorem pl44 : plB Tryz.prog 44 [(0, 1), (1, 6)] = true := by kernel_rfl
theorem zv44 : zvB Tryz.prog 44 ([S [], .int .i64 0, .bool false, .int .i64 0, S [], .slice none 0 0, .slice none 0 0]) := by unfold zvB; kernel_rfl
end Go.Proofs.YtknndpjacklkeaaGreatDoor.V

set_option linter.unusedVariables false
set_option linter.unusedSimpArgs false
set_option maxRecDepth 10000
namespace Go.Proofs.YtknndpjacklkeaaGreatDoor.V
open Go Go.Proofs
theorem zv25 : zvB Tryz.prog 25 ([.int .i64 0, .bool false, .int .i64 0, S [], .slice none 0 0, .slice none 0 0]) := by unfold zvB; kernel_rfl
theorem pl25 : plB Tryz.prog 25 [(0, 1), (1, 1), (2, 1), (3, 1), (4, 1), (5, 1)] = true := by kernel_rfl
end Go.Proofs.YtknndpjacklkeaaGreatDoor.V

set_option linter.unusedVariables false
set_option linter.unusedSimpArgs false
set_option maxRecDepth 10000
namespace Go.Proofs.YtknndpjacklkeaaGreatDoor.V
open Go Go.Proofs

end Go.Proofs.YtknndpjacklkeaaGreatDoor.V

set_option linter.unusedVariables false
set_option linter.unusedSimpArgs false
set_option maxRecDepth 10000
namespace Go.Proofs.YtknndpjacklkeaaGreatDoor.V
open Go Go.Proofs
end Go.Proofs.YtknndpjacklkeaaGreatDoor.V

set_option linter.unusedVariables false
set_option linter.unusedSimpArgs false
set_option maxRecDepth 10000
namespace Go.Proofs.YtknndpjacklkeaaGreatDoor.V
open Go Go.Proofs
theorem sl74 : slB Tryz.prog 74 5 1 1 = true := by kernel_rfl
theorem zv5 : zvB Tryz.prog 5 ([.int .u8 0]) := by unfold zvB; kernel_rfl
end Go.Proofs.YtknndpjacklkeaaGreatDoor.V

set_option linter.unusedVariables false
set_option linter.unusedSimpArgs false
set_option maxRecDepth 10000
namespace Go.Proofs.YtknndpjacklkeaaGreatDoor.V
open Go Go.Proofs
end Go.Proofs.YtknndpjacklkeaaGreatDoor.V

namespace Go.Proofs
open Go.Shelf
def Tryz.laysM171_ren : Go.Shelf.Ren := ⟨fun | 171 => 109 | 243 => 153 | 246 => 187 | 283 => 221 | 284 => 222 | 285 => 223 | 286 => 224 | 129 => 215 | 317 => 244 | 318 => 245 | 319 => 246 | 320 => 247 | 337 => 256 | 338 => 257 | n => n, fun | 3 => 3 | 9 => 9 | 2 => 2 | 4 => 4 | 171 => 225 | 0 => 0 | 53 => 182 | 37 => 74 | 5 => 5 | 173 => 227 | 212 => 245 | 51 => 147 | 20 => 20 | 213 => 246 | 46 => 144 | 232 => 103 | 233 => 265 | n => n, fun | 17 => 4 | 18 => 7 | 19 => 8 | n => n⟩
theorem Tryz.laysM171 : Go.Proofs.LaysM.n171 Tryz.prog Tryz.laysM171_ren := {
 mixed := by kernel_rfl
 f129 := Tryz.func215.trans (congrArg some (by kernel_rfl))
 f171 := Tryz.func109.trans (congrArg some (by kernel_rfl))
 f243 := Tryz.func153.trans (congrArg some (by kernel_rfl))
 f246 := Tryz.func187.trans (congrArg some (by kernel_rfl))
 f283 := Tryz.func221.trans (congrArg some (by kernel_rfl))
 f284 := Tryz.func222.trans (congrArg some (by kernel_rfl))
 f285 := Tryz.func223.trans (congrArg some (by kernel_rfl))
 f286 := Tryz.func224.trans (congrArg some (by kernel_rfl))
 f317 := Tryz.func244.trans (congrArg some (by kernel_rfl))
 f318 := Tryz.func245.trans (congrArg some (by kernel_rfl))
 f319 := Tryz.func246.trans (congrArg some (by kernel_rfl))
 f320 := Tryz.func247.trans (congrArg some (by kernel_rfl))
 f337 := Tryz.func256.trans (congrArg some (by kernel_rfl))
 f338 := Tryz.func257.trans (congrArg some (by kernel_rfl))
 t0 := Tryz.underlying0
 a0 := Tryz.isAgg0
 z0 := Tryz.sizeOf0
 v0 := Tryz.zeroValue0
 t2 := Tryz.underlying2
 a2 := Tryz.isAgg2
 z2 := Tryz.sizeOf2
 v2 := Tryz.zeroValue2
 t3 := Tryz.underlying3
 a3 := Tryz.isAgg3
 z3 := Tryz.sizeOf3
 v3 := Tryz.zeroValue3
 t4 := Tryz.underlying4
 a4 := Tryz.isAgg4
 z4 := Tryz.sizeOf4
 v4 := Tryz.zeroValue4
 t5 := Tryz.underlying5
 a5 := Tryz.isAgg5
 z5 := Tryz.sizeOf5
 v5 := Tryz.zeroValue5
 t9 := Tryz.underlying9
 a9 := Tryz.isAgg9
 z9 := Tryz.sizeOf9
 v9 := Tryz.zeroValue9
 t20 := Tryz.underlying20
 a20 := Tryz.isAgg20
 z20 := Tryz.sizeOf20
 v20 := Tryz.zeroValue20
 t37 := Tryz.underlying74
 a37 := Tryz.isAgg74
 z37 := Tryz.sizeOf74
 v37 := Tryz.zeroValue74
 t46 := Tryz.underlying144
 a46 := Tryz.isAgg144
 z46 := Tryz.sizeOf144
 v46 := Tryz.zeroValue144
 t51 := Tryz.underlying147
 a51 := Tryz.isAgg147
 z51 := Tryz.sizeOf147
 v51 := Tryz.zeroValue147
 t53 := Tryz.underlying182
 a53 := Tryz.isAgg182
 z53 := Tryz.sizeOf182
 v53 := Tryz.zeroValue182
 t171 := Tryz.underlying225
 a171 := Tryz.isAgg225
 z171 := Tryz.sizeOf225
 v171 := Tryz.zeroValue225
 t173 := Tryz.underlying227
 a173 := Tryz.isAgg227
 z173 := Tryz.sizeOf227
 v173 := Tryz.zeroValue227
 t212 := Tryz.underlying245
 a212 := Tryz.isAgg245
 z212 := Tryz.sizeOf245
 v212 := Tryz.zeroValue245
 t213 := Tryz.underlying246
 a213 := Tryz.isAgg246
 z213 := Tryz.sizeOf246
 t232 := Tryz.underlying103
 a232 := Tryz.isAgg103
 z232 := Tryz.sizeOf103
 v232 := Tryz.zeroValue103
 t233 := Tryz.underlying265
 a233 := Tryz.isAgg265
 z233 := Tryz.sizeOf265
 v233 := Tryz.zeroValue265
 g17 := by kernel_rfl
 g18 := by kernel_rfl
 g19 := by kernel_rfl
 i0 := by kernel_rfl
 i2 := by kernel_rfl
 i3 := by kernel_rfl
 i4 := by kernel_rfl
 i5 := by kernel_rfl
 i9 := by kernel_rfl
 i20 := by kernel_rfl
 i37 := by kernel_rfl
 i46 := by kernel_rfl
 i51 := by kernel_rfl
 i53 := by kernel_rfl
 i171 := by kernel_rfl
 i173 := by kernel_rfl
 i212 := by kernel_rfl
 i232 := by kernel_rfl
 i233 := by kernel_rfl
 m17 := by kernel_rfl
 m18 := by kernel_rfl
 m19 := by kernel_rfl }
open Go.RowKit Go.Sort Go.Lib in
theorem Tryz.strconv_Itoa (n : Int) (h0 : -9223372036854775808 ≤ n) (h1 : n ≤ 9223372036854775807) (w : World) (htab : Lib.TabIs Tryz.prog w "internal/strconv.uint64pow10" .u64 Lib.pow10Tab) :
  Calls Tryz.prog 109 #[.int .i64 n] w fun e w' => e = .returned (.string ⟨(Lib.itoa n).toArray⟩) ∧ ∃ k os, w' = grow (w.drewN k) os := Any.strconv_Itoa Tryz.laysM171 n h0 h1 w htab
end Go.Proofs

namespace Go.Proofs.YtknndpjacklkeaaGreatDoor.V
open Go Go.Proofs
abbrev Tab (w : World) : Prop := Lib.TabIs Tryz.prog w "internal/strconv.uint64pow10" .u64 Lib.pow10Tab
abbrev gT : Nat := 4
theorem gPow : Tryz.prog.globalNamed "internal/strconv.uint64pow10" = some gT := by kernel_rfl
theorem Tab.mod {M : List Nat} {w w' : World} (h : Tab w) (k : Mod M w w') (hM : gT ∉ M) : Tab w' := by
 unfold Tab Lib.TabIs World.var? at h ⊢
 simp only [gPow, Option.bind_some] at h ⊢
 have hlt : gT < w.heap.size := by
  rcases Nat.lt_or_ge gT w.heap.size with hl | hl
  ·exact hl
  ·rw [Array.getElem?_eq_none hl] at h
   cases h
 rw [k.block gT hlt hM]
 exact h
theorem Tab.lt {w : World} (h : Tab w) : gT < w.heap.size := by
 unfold Tab Lib.TabIs World.var? at h
 simp only [gPow, Option.bind_some] at h
 rcases Nat.lt_or_ge gT w.heap.size with hl | hl
 ·exact hl
 ·rw [Array.getElem?_eq_none hl] at h
  cases h
theorem mod_grow (w : World) (k : Nat) (os : Array Obj) : Mod [] w (Sort.grow (w.drewN k) os) := by
 have h := Lib.below_grow w.heap.size w (Nat.le_refl _) k os
 exact ⟨h.os, h.tape, h.output, h.size, fun i hi _ => h.block i hi⟩
theorem c_itoa (w : World) (n : Int) (h0 : -9223372036854775808 ≤ n) (h1 : n ≤ 9223372036854775807) (hT : Tab w) : Calls Tryz.prog 109 [.int .i64 n].toArray w (Ret fun u w' => u = S (Lib.itoa n) ∧ Mod [] w w') :=
 (Tryz.strconv_Itoa n h0 h1 w hT).mono fun e w' he => by
  obtain ⟨rfl, k, os, rfl⟩ := he
  exact ⟨rfl, mod_grow w k os⟩
end Go.Proofs.YtknndpjacklkeaaGreatDoor.V

set_option linter.unusedVariables false
set_option linter.unusedSimpArgs false
set_option maxRecDepth 10000
namespace Go.Proofs.YtknndpjacklkeaaGreatDoor.V
open Go Go.Proofs
theorem ent109 : Ent Tryz.prog 109 := Ent.of Tryz.func109 (by kernel_rfl) (by kernel_rfl)
end Go.Proofs.YtknndpjacklkeaaGreatDoor.V

set_option linter.unusedVariables false
set_option linter.unusedSimpArgs false
namespace Go.Proofs.YtknndpjacklkeaaGreatDoor.V
open Go
structure Sig3 where
 srv : Str
 key : Str
 sig : Str
abbrev Sig3.cells (s : Sig3) : List Value := [S s.srv, S s.key, S s.sig]
structure EV where
 room : Str
 snd : Str
 ty : Str
 st : Bool
 key : Str
 con : JV
 prev : List Str
 auth : List Str
 dep : Int
 time : Int
 hash : Str
 sigs : List Sig3
namespace EV
def D (e : EV) : List Go.Proofs.YtknndpjacklkeaaGreatDoor.V.D := [.v (S e.room), .v (S e.snd), .v (S e.ty), .v (.bool e.st), .v (S e.key)] ++ (e.con.D ++ [strD e.prev, strD e.auth, .v (.int .i64 e.dep), .v (.int .i64 e.time), .v (S e.hash), flat 3 Sig3.cells e.sigs])
theorem D_len (e : EV) : e.D.length = 17 := by simp [D, JV.D_len]
theorem cells_ {A : List Nat} {w : World} {e : EV} {us : List Value} (R : Reps A w e.D us) : ∃ cs ap cp aa ca aS cS, us = [S e.room, S e.snd, S e.ty, .bool e.st, S e.key] ++ (cs ++ [.slice ap e.prev.length cp, .slice aa e.auth.length ca, .int .i64 e.dep, .int .i64 e.time, S e.hash, .slice aS e.sigs.length cS]) ∧
  Reps A w e.con.D cs ∧ Rep A w (strD e.prev) (.slice ap e.prev.length cp) ∧ Rep A w (strD e.auth) (.slice aa e.auth.length ca) ∧ Rep A w (flat 3 Sig3.cells e.sigs) (.slice aS e.sigs.length cS) := by
 unfold D at R
 obtain ⟨h1, h2⟩ := R.cut
 simp only [List.length_cons, List.length_nil] at h1 h2
 obtain ⟨h3, h4⟩ := h2.cut
 have hus : us = us.take (0 + 1 + 1 + 1 + 1 + 1) ++ ((us.drop (0 + 1 + 1 + 1 + 1 + 1)).take e.con.D.length ++ (us.drop (0 + 1 + 1 + 1 + 1 + 1)).drop e.con.D.length) := by rw [List.take_append_drop, List.take_append_drop]
 obtain ⟨_, _, e1, g1, h1⟩ := h1
 obtain ⟨_, _, rfl, g2, h1⟩ := h1
 obtain ⟨_, _, rfl, g3, h1⟩ := h1
 obtain ⟨_, _, rfl, g4, h1⟩ := h1
 obtain ⟨_, _, rfl, g5, h1⟩ := h1
 obtain rfl := h1
 obtain ⟨_, _, e2, k1, h4⟩ := h4
 obtain ⟨_, _, rfl, k2, h4⟩ := h4
 obtain ⟨_, _, rfl, k3, h4⟩ := h4
 obtain ⟨_, _, rfl, k4, h4⟩ := h4
 obtain ⟨_, _, rfl, k5, h4⟩ := h4
 obtain ⟨_, _, rfl, k6, h4⟩ := h4
 obtain rfl := h4
 obtain rfl := g1.v_eq; obtain rfl := g2.v_eq; obtain rfl := g3.v_eq; obtain rfl := g4.v_eq; obtain rfl := g5.v_eq
 obtain rfl := k3.v_eq; obtain rfl := k4.v_eq; obtain rfl := k5.v_eq
 obtain ⟨ap, cp, rfl, _⟩ := flat_len k1
 obtain ⟨aa, ca, rfl, _⟩ := flat_len k2
 obtain ⟨aS, cS, rfl, _⟩ := flat_len k6
 rw [e1, e2] at hus
 exact ⟨_, ap, cp, aa, ca, aS, cS, hus, h3, k1, k2, k6⟩
theorem at_ {A : List Nat} {w : World} {es : List EV} {e : EV} {ad : Option Addr} {n c i : Nat} (R : Rep A w (.sl 17 (es.map EV.D)) (.slice ad n c)) (h : es[i]? = some e) : ∃ a us, ad = some a ∧ Reps A w e.D us ∧ Cs w (a.add (i * 17)) us := by
 obtain ⟨a, us, h1, h2, _, h3, _⟩ := Rep.at_ (i := i) (r := e.D) R (by simp [h])
 exact ⟨a, us, h1, h2, h3⟩
def ok (e : EV) : Prop := e.room.length ≤ 140737488351232 ∧ e.snd.length ≤ 140737488351232 ∧ e.ty.length ≤ 140737488351232 ∧ e.key.length ≤ 140737488351232 ∧ e.con.ok ∧ (∀ s ∈ e.prev, s.length ≤ 140737488351232) ∧ e.prev.length ≤ 140737488351232 ∧ (∀ s ∈ e.auth, s.length ≤ 140737488351232) ∧ e.auth.length ≤ 140737488351232 ∧ e.hash.length ≤ 140737488351232 ∧ (∀ s ∈ e.sigs, s.srv.length ≤ 140737488351232 ∧ s.key.length ≤ 140737488351232 ∧ s.sig.length ≤ 140737488351232) ∧ e.sigs.length ≤ 140737488351232
end EV
def addW : List Nat → Nat → Nat → Nat
 | [], n, _ => n
 | x :: r, n, most => if n ≤ most then addW r (n + x) most else n
namespace EV
def n0 (e : EV) : Nat := e.room.length + e.snd.length + e.ty.length + e.key.length + e.hash.length + e.prev.length + e.auth.length + e.sigs.length
def n1 (e : EV) (most : Nat) : Nat := addW (e.prev.map List.length) e.n0 most
def n2 (e : EV) (most : Nat) : Nat := addW (e.auth.map List.length) (e.n1 most) most
def n3 (e : EV) (most : Nat) : Nat := addW (e.sigs.map fun s => s.srv.length + s.key.length + s.sig.length) (e.n2 most) most
def great (e : EV) (most : Nat) : Bool := decide (e.n3 most > most) || decide (e.con.weigh ((most : Int) - e.n3 most) 60 < 0)
end EV
end Go.Proofs.YtknndpjacklkeaaGreatDoor.V

set_option linter.unusedVariables false
set_option linter.unusedSimpArgs false
set_option maxRecDepth 10000
namespace Go.Proofs.YtknndpjacklkeaaGreatDoor.V
open Go Go.Proofs

end Go.Proofs.YtknndpjacklkeaaGreatDoor.V

set_option linter.unusedVariables false
set_option linter.unusedSimpArgs false
set_option maxRecDepth 10000
namespace Go.Proofs.YtknndpjacklkeaaGreatDoor.V
open Go Go.Proofs
theorem ent201 : Ent Tryz.prog 201 := Ent.of Tryz.func201 (by kernel_rfl) (by kernel_rfl)
theorem ent177 : Ent Tryz.prog 177 := Ent.of Tryz.func177 (by kernel_rfl) (by kernel_rfl)
theorem c_short (w : World) (c : Nat) (hc : c ≤ 1114111) : Calls Tryz.prog 188 [.int .i32 (c : Int)].toArray w (Ret fun u w' => u = .int .u8 (shq c : Int) ∧ Mod [] w w') := by
 refine enter Tryz.func188 rfl rfl rfl (l := [(0, _)]) ⟨rfl, trivial⟩ ?_
 have E := Mod.refl [] w
 refine Cq fun K1 hK1 => Cr (Za rfl (Ln (e_K (hK1 _ _ _ _ (Cq fun K2 hK2 => Cq fun K3 hK3 => Cr (Zm rfl (Ln (e_K (hK3 _ _ _ _ (cB (Cq fun K4 hK4 => Cq fun K5 hK5 => ?_)))))))))))
 refine Cr (Sv (oE rfl rfl) ?_)
 refine bD (fun hs2_0 : (c : Int) = 34 => ?_) (fun hs2_0 => ?_)
 ·refine Za rfl (Ln (e_K (hK5 _ _ _ _ (c_true rfl (cK (e_K (hK4 _ _ _ _ (c_true rfl (Cq fun K6 hK6 => Cr (Zm rfl (Sv (o_convE (r := (c : Int)) Tryz.underlying21 Tryz.underlying5 rfl (wrapu8_in _ (by omega))) (Za rfl (Ln (e_K (hK6 _ _ _ _ ?_)))))))))))))))
  exact cR (eI (by simp) (eT (by simp) (ret1 rfl rfl ⟨congrArg (Value.int .u8) (show (c : Int) = ((shq c : Nat) : Int) by unfold shq; by_cases h34 : c = 34; (rw [if_pos h34, h34]); rw [if_neg h34, if_pos (by omega)]; omega), E⟩)))
 ·refine Za rfl (Ln (e_K (hK5 _ _ _ _ (c_false rfl (Cr (Sv (oE rfl rfl) ?_))))))
  refine bD (fun hs3_0 : (c : Int) = 92 => ?_) (fun hs3_0 => ?_)
  ·exact Za rfl (Ln (e_K (hK4 _ _ _ _ (c_true rfl (Cq fun K7 hK7 => Cr (Zm rfl (Sv (o_convE (r := (c : Int)) Tryz.underlying21 Tryz.underlying5 rfl (wrapu8_in _ (by omega))) (Za rfl (Ln (e_K (hK7 _ _ _ _ (cR (eI (by simp) (eT (by simp) (ret1 rfl rfl ⟨congrArg (Value.int .u8) (show (c : Int) = ((shq c : Nat) : Int) by unfold shq; by_cases h34 : c = 34; (rw [if_pos h34, h34]); rw [if_neg h34, if_pos (by omega)]; omega), E⟩)))))))))))))))
  ·refine Za rfl (Ln (e_K (hK4 _ _ _ _ (c_false rfl (Cq fun K8 hK8 => Cr (tW 2 rfl (Ln (e_K (hK8 _ _ _ _ ?_)))))))))
   refine c_if rfl (fun h9 => ?_) (fun h9 => ?_)
   ·exact Cq fun K9 hK9 => Cr (Za rfl (Ln (e_K (hK9 _ _ _ _ (cR (eI (by simp) (eT (by simp) (ret1 rfl rfl ⟨congrArg (Value.int .u8) (show (_ : Int) = ((shq c : Nat) : Int) by unfold shq; rw [if_neg (by omega), if_neg (by omega), if_pos (by omega)]; rfl), E⟩))))))))
   ·refine Cq fun K10 hK10 => Cr (tW 2 rfl (Ln (e_K (hK10 _ _ _ _ ?_))))
    refine c_if rfl (fun h11 => ?_) (fun h11 => ?_)
    ·exact Cq fun K11 hK11 => Cr (Za rfl (Ln (e_K (hK11 _ _ _ _ (cR (eI (by simp) (eT (by simp) (ret1 rfl rfl ⟨congrArg (Value.int .u8) (show (_ : Int) = ((shq c : Nat) : Int) by unfold shq; rw [if_neg (by omega), if_neg (by omega), if_neg (by omega), if_pos (by omega)]; rfl), E⟩))))))))
    ·refine Cq fun K12 hK12 => Cr (tW 2 rfl (Ln (e_K (hK12 _ _ _ _ ?_))))
     refine c_if rfl (fun h13 => ?_) (fun h13 => ?_)
     ·exact Cq fun K13 hK13 => Cr (Za rfl (Ln (e_K (hK13 _ _ _ _ (cR (eI (by simp) (eT (by simp) (ret1 rfl rfl ⟨congrArg (Value.int .u8) (show (_ : Int) = ((shq c : Nat) : Int) by unfold shq; rw [if_neg (by omega), if_neg (by omega), if_neg (by omega), if_neg (by omega), if_pos (by omega)]; rfl), E⟩))))))))
     ·refine Cq fun K14 hK14 => Cr (tW 2 rfl (Ln (e_K (hK14 _ _ _ _ ?_))))
      refine c_if rfl (fun h15 => ?_) (fun h15 => ?_)
      ·exact Cq fun K15 hK15 => Cr (Za rfl (Ln (e_K (hK15 _ _ _ _ (cR (eI (by simp) (eT (by simp) (ret1 rfl rfl ⟨congrArg (Value.int .u8) (show (_ : Int) = ((shq c : Nat) : Int) by unfold shq; rw [if_neg (by omega), if_neg (by omega), if_neg (by omega), if_neg (by omega), if_neg (by omega), if_pos (by omega)]; rfl), E⟩))))))))
      ·refine Cq fun K16 hK16 => Cr (tW 2 rfl (Ln (e_K (hK16 _ _ _ _ ?_))))
       refine c_if rfl (fun h17 => ?_) (fun h17 => ?_)
       ·exact Cq fun K17 hK17 => Cr (Za rfl (Ln (e_K (hK17 _ _ _ _ (cR (eI (by simp) (eT (by simp) (ret1 rfl rfl ⟨congrArg (Value.int .u8) (show (_ : Int) = ((shq c : Nat) : Int) by unfold shq; rw [if_neg (by omega), if_neg (by omega), if_neg (by omega), if_neg (by omega), if_neg (by omega), if_neg (by omega), if_pos (by omega)]; rfl), E⟩))))))))
       ·exact cK (eI (by simp) (e_K (hK2 _ _ _ _ (Cq fun K18 hK18 => Cr (Za rfl (Ln (e_K (hK18 _ _ _ _ (cR (ret1 rfl rfl ⟨congrArg (Value.int .u8) (show (_ : Int) = ((shq c : Nat) : Int) by unfold shq; rw [if_neg (by omega), if_neg (by omega), if_neg (by omega), if_neg (by omega), if_neg (by omega), if_neg (by omega), if_neg (by omega)]; rfl), E⟩))))))))))

theorem c_hpl (w : World) (s p : Str) : Calls Tryz.prog 201 [S s, S p].toArray w (Ret fun u w' => u = .bool (decide (p.length ≤ s.length ∧ s.take p.length = p)) ∧ Mod [] w w') := by
 refine enter Tryz.func201 rfl rfl rfl (l := [(0, _), (1, _)]) ⟨rfl, rfl, trivial⟩ ?_
 have E := Mod.refl [] w
 refine Cq fun K1 hK1 => Cr (Za rfl (Ln (e_K (hK1 _ _ _ _ (Cq fun K2 hK2 => Cr (Zm rfl (Sv (o_slen Tryz.underlying9 rfl) (Zm rfl (Sv (o_slen Tryz.underlying9 rfl) (Sv (o_geq rfl rfl) ?_))))))))))
 refine bD (fun hs1_0 : (s.length : Int) ≥ (p.length : Int) => ?_) (fun hs1_0 => ?_)
 ·exact tW 3 rfl (Sg rfl rfl (o_slen Tryz.underlying9 rfl) (Sg rfl rfl (o_ssto Tryz.underlying9 rfl rfl (by omega)) (Sg rfl rfl (oM rfl) (Sg rfl rfl (o_seq rfl rfl) (tW 2 rfl (Ln (e_K (hK2 _ _ _ _ (cR (ret1 rfl rfl ⟨by rw [decide_eq_decide.2 (show s.take p.length = p ↔ p.length ≤ s.length ∧ s.take p.length = p from ⟨fun h => ⟨by omega, h⟩, fun h => h.2⟩)], E⟩))))))))))
 ·exact tW 9 rfl (Ln (e_K (hK2 _ _ _ _ (cR (ret1 rfl rfl ⟨by rw [dF (fun h => by omega)], E⟩)))))

theorem c_hpre (w : World) (s p : Str) : Calls Tryz.prog 177 [S s, S p].toArray w (Ret fun u w' => u = .bool (decide (p.length ≤ s.length ∧ s.take p.length = p)) ∧ Mod [] w w') := by
 refine enter Tryz.func177 rfl rfl rfl (l := [(0, _), (1, _)]) ⟨rfl, rfl, trivial⟩ ?_
 have E := Mod.refl [] w
 refine Cq fun K1 hK1 => Cr (Za rfl (Ln (e_K (hK1 _ _ _ _ (Cq fun K2 hK2 => Cr (tW 2 rfl (sc (oC ent201 rfl) (c_hpl _ _ _) rfl fun v_ w1 h_ => ?_)))))))
 obtain ⟨rfl, E_⟩ := h_
 replace E := E.then E_
 exact Za rfl (Ln (e_K (hK2 _ _ _ _ (cR (ret1 rfl rfl ⟨rfl, E⟩)))))

theorem c_qvalid (w : World) (s : Str) : Calls Tryz.prog 166 [S s].toArray w (Ret fun u w' => u = .bool (validR s) ∧ Mod [] w w') := by
 refine enter Tryz.func166 rfl rfl rfl (l := [(0, _)]) ⟨rfl, trivial⟩ ?_
 have E := Mod.refl [] w
 refine Cq fun K1 hK1 => Cr (Za rfl (Ln (e_K (hK1 _ _ _ _ (Cq fun K2 hK2 => Cq fun K3 hK3 => Cr (Zm rfl (s_range Tryz.underlying9 rfl rfl fun gi w1 IT hgi EI => ?_)))))))
 have Lgi : w.heap.size ≤ gi := by have := E.size; omega
 replace E := E.then EI
 refine Ln (e_K (hK3 _ _ _ _ (cB (c_loop (σ := Nat) (fun p => [(0, S s), (6, .pointer (some ⟨gi, 0, none⟩))]) (fun p w1 => p ≤ s.length ∧ validR s = validR (s.drop p) ∧ It w1 gi s p ∧ w.heap.size ≤ gi ∧ Mod [] w w1) (fun p => s.length - p) (0) ⟨rfl, rfl, trivial⟩ (⟨by omega, rfl, IT, Lgi, E⟩) ?_))))
 rintro p w2 ⟨hp, hv, IT, Lgi, E⟩
 refine Cq fun K4 hK4 => ?_
 by_cases hplt : p < s.length
 ·have hne := dec_at hplt
  have hle := runeR_le (s.drop p)
  have hdl : (s.drop p).length = s.length - p := List.length_drop ..
  by_cases hz : (runeR (s.drop p)).2 = 0
  ·skip
   refine Cr (s_next rfl IT hplt (dec_bad hplt hz) rfl fun w3 IT2 EN hzN => ?_)
   replace E := E.trans' EN (fun x hx => .inr (by simp at hx; subst hx; exact Lgi))
   clear IT
   have IT := IT2
   refine Sv (o_ext rfl rfl) (Ln (e_K (hK4 _ _ _ _ (Cq fun K5 hK5 => ?_))))
   refine c_cond rfl (fun h8 => ?_) (fun h8 => ?_)
   ·skip
    refine cK (e_K (hK5 _ _ _ _ (cB (Cq fun K6 hK6 => Cr (tW 4 rfl (Ln (e_K (hK6 _ _ _ _ (Cq fun K7 hK7 => Cr (tW 2 rfl (bE (dT rfl) (tW 3 rfl (Sg rfl rfl (o_ssfrom Tryz.underlying9 rfl rfl hp) ?_)))))))))))))
    refine sgc rfl rfl (oC ent177 rfl) (c_hpre _ (s.drop p) [239, 191, 189]) rfl fun v_ w4 h_ => ?_
    obtain ⟨rfl, E_⟩ := h_
    replace IT := IT.mod0 E_
    replace E := E.then E_
    refine tW 2 rfl (Ln (e_K (hK7 _ _ _ _ ?_)))
    refine c_cond rfl (fun h19 => ?_) (fun h19 => ?_)
    ·have hR : validR s = false := hv.trans (validR_no hne hz)
     exact Cq fun K8 hK8 => Cr (Za rfl (Ln (e_K (hK8 _ _ _ _ (cR (eI (by simp) (eT (by simp) (eI (by simp) (eT (by simp) (ret1 rfl rfl ⟨by rw [hR], E⟩))))))))))
    ·exact absurd (by simpa using h19) (no_pre hz)
   ·cases h8
  ·skip
   refine Cr (s_next rfl IT hplt (dec_ok hplt hz) rfl fun w5 IT2 EN hzN => ?_)
   replace E := E.trans' EN (fun x hx => .inr (by simp at hx; subst hx; exact Lgi))
   clear IT
   have IT := IT2
   refine Sv (o_ext rfl rfl) (Ln (e_K (hK4 _ _ _ _ (Cq fun K9 hK9 => ?_))))
   refine c_cond rfl (fun h8 => ?_) (fun h8 => ?_)
   ·skip
    refine cK (e_K (hK9 _ _ _ _ (cB (Cq fun K10 hK10 => Cr (tW 4 rfl (Ln (e_K (hK10 _ _ _ _ (Cq fun K11 hK11 => Cr (tW 2 rfl ?_))))))))))
    refine bD (fun hs4_0 : ((runeR (s.drop p)).1 : Int) = 65533 => ?_) (fun hs4_0 => ?_)
    ·skip
     refine tW 3 rfl (Sg rfl rfl (o_ssfrom Tryz.underlying9 rfl rfl hp) (sgc rfl rfl (oC ent177 rfl) (c_hpre _ (s.drop p) [239, 191, 189]) rfl fun v_ w6 h_ => ?_))
     obtain ⟨rfl, E_⟩ := h_
     replace IT := IT.mod0 E_
     replace E := E.then E_
     refine tW 2 rfl (Ln (e_K (hK11 _ _ _ _ ?_)))
     refine c_cond rfl (fun h19 => ?_) (fun h19 => ?_)
     ·rw [dT (show ([239, 191, 189] : Str).length ≤ (s.drop p).length ∧ (s.drop p).take ([239, 191, 189] : Str).length = [239, 191, 189] from is_pre hne hz (by omega))] at h19
      cases h19
     ·skip
      exact cK (eI (by simp) (eR (σ := Nat) (s := p) (p + (runeR (s.drop p)).2) ⟨rfl, rfl, trivial⟩ ⟨by omega, by rw [hv, validR_go hne hz, List.drop_drop], IT, Lgi, E⟩ (by omega)))
    ·skip
     refine tW 7 rfl (Ln (e_K (hK11 _ _ _ _ (c_false rfl ?_))))
     skip
     exact cK (eI (by simp) (eR (σ := Nat) (s := p) (p + (runeR (s.drop p)).2) ⟨rfl, rfl, trivial⟩ ⟨by omega, by rw [hv, validR_go hne hz, List.drop_drop], IT, Lgi, E⟩ (by omega)))
   ·cases h8
 ·have hs_end := hplt
  refine Cr (s_next_end rfl IT hs_end rfl (Sv (o_ext rfl rfl) (Ln (e_K (hK4 _ _ _ _ (Cq fun K12 hK12 => ?_))))))
  refine c_cond rfl (fun h8 => ?_) (fun h8 => ?_)
  ·cases h8
  ·have hR : validR s = true := by rw [hv, List.drop_eq_nil_of_le (by omega), validR_nil]
   exact c_exit (eT (by simp) (eT (by simp) (e_hit (e_K (hK2 _ _ _ _ (Cq fun K13 hK13 => Cr (Za rfl (Ln (e_K (hK13 _ _ _ _ (cR (ret1 rfl rfl ⟨by rw [hR], E⟩))))))))))))
end Go.Proofs.YtknndpjacklkeaaGreatDoor.V
