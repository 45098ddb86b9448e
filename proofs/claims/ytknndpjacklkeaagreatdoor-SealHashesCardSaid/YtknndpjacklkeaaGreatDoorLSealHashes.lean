/-
  Proved: the law SealHashes answers true at every input, and each argument reads afterwards as it read before. No condition beside the given statement's own.
-/
import Derived.Test.YtknndpjacklkeaaGreatDoorM10
import Derived.Test.YtknndpjacklkeaaGreatDoorM26
import Derived.Test.YtknndpjacklkeaaGreatDoorRows
import Derived.OpenShut
import Derived.Deep.DeepHandedRow
import Derived.Test.YtknndpjacklkeaaGreatDoorCards
import Derived.Test.YtknndpjacklkeaaGreatDoorTie
import Derived.Lib.LaidTab
set_option linter.unusedVariables false
set_option linter.unusedSimpArgs false
namespace Go.Proofs.YtknndpjacklkeaaGreatDoor.V.SealHashes
open Go Go.Proofs Go.Proofs.YtknndpjacklkeaaGreatDoor Go.ChangeShapes Go.WideShapes Go.RowKit
section
variable {H : Type} {enc : TypeId × Value → H} {w : World}
theorem laid_tail {P : Program} {n1 : String} {d1 : DataW Unit} {rest : List (String × DataW Unit)} {W : World} (h : laidMet P ((n1, d1) :: rest) W) : laidMet P rest W := by
 obtain ⟨ps, ⟨g, t, cs, fuel, p, q, _, _, _, _, hq, rfl⟩, hn, hc⟩ := h
 exact ⟨q, hq, (List.nodup_append.1 hn).2.1, fun b off hb => hc b off (List.mem_append_right _ hb)⟩
theorem gTab : Tryz.prog.globalNamed "hustings/digest.table" = some gD := by kernel_rfl
theorem gTabType : (Tryz.prog.globals[gD]?).map (·.type) = some 202 := by kernel_rfl
theorem cellsT : Tryz.prog.cellsOf 202 = 64 := by kernel_rfl
theorem cellsE : Tryz.prog.cellsOf 147 = 1 := by kernel_rfl
def zsT : List Int := [1116352408, 1899447441, 3049323471, 3921009573, 961987163, 1508970993, 2453635748, 2870763221, 3624381080, 310598401, 607225278, 1426881987, 1925078388, 2162078206, 2614888103, 3248222580, 3835390401, 4022224774, 264347078, 604807628, 770255983, 1249150122, 1555081692, 1996064986, 2554220882, 2821834349, 2952996808, 3210313671, 3336571891, 3584528711, 113926993, 338241895, 666307205, 773529912, 1294757372, 1396182291, 1695183700, 1986661051, 2177026350, 2456956037, 2730485921, 2820302411, 3259730800, 3345764771, 3516065817, 3600352804, 4094571909, 275423344, 430227734, 506948616, 659060556, 883997877, 958139571, 1322822218, 1537002063, 1747873779, 1955562222, 2024104815, 2227730452, 2361852424, 2428436474, 2756734187, 3204031479, 3329325298]
theorem zs_nums : ∀ j : Fin 64, zsT.getD j.val 0 = ((at32 numsK j.val).toNat : Int) := by decide +kernel
theorem dgOf {W : World} (h : laidMetH Tryz.prog Rows.sealHashesRow.laid W) : DgT W := by
 have h2 : laidMet Tryz.prog (("hustings/digest.table", Lib.tabData .u32 zsT) :: [("internal/strconv.uint64pow10", Lib.tabData .u64 Lib.pow10Tab)]) W := laid_tail (laid_tail h)
 have ht : Lib.TabIs Tryz.prog W "hustings/digest.table" .u32 zsT := Lib.tabIs_of_head gTab gTabType Tryz.underlying202 Tryz.underlying147 cellsE cellsT h2
 have hc : Cs W ⟨gD, 0, none⟩ (numsK.map W4) := fun j v hv => by
  have hj : j < 64 := by
   have h := (List.getElem?_eq_some_iff.1 hv).1
   rw [List.length_map] at h
   exact h
  rw [nums_get hj] at hv
  injection hv with hv
  have := ht.cell gTab j hj
  rw [Addr.add_lit, Nat.zero_add, this, ← hv]
  exact congrArg (fun z => some (Value.int .u32 z)) (zs_nums ⟨j, hj⟩)
 refine ⟨hc, ?_⟩
 have h0 := hc 0 _ (nums_get (by decide))
 rcases Nat.lt_or_ge gD W.heap.size with hl | hl
 ·exact hl
 ·rw [Addr.add_lit] at h0
  unfold World.cell? at h0
  rw [Array.getElem?_eq_none hl] at h0
  cases h0
theorem tabOf4 {W : World} (h : laidMetH Tryz.prog Rows.sealHashesRow.laid W) : Tab W :=
 Lib.tabIs_of_head (rest := []) gPow (by kernel_rfl) Tryz.underlying245 Tryz.underlying182 (by kernel_rfl) (by kernel_rfl) (show laidMet Tryz.prog [("internal/strconv.uint64pow10", Lib.tabData .u64 Lib.pow10Tab)] W from laid_tail (laid_tail (laid_tail h)))
end
theorem laid : laidOutB Tryz.prog = true := by kernel_rfl
theorem own : ownKnob Tryz.prog.godebug = none := by kernel_rfl
set_option maxRecDepth 100000 in
theorem contract (H : Type) (enc : TypeId × Value → H) (W : World) (base : Nat) (args : Array Value) (ds gs : List (DataW H)) (before : List MemPlace)
  (hval : ∀ (j : Nat) t v, Tryz.f13.params[j]? = some t → args[j]? = some v → Value.okWide Tryz.prog W .any base t v)
  (hW : DataW.Whole enc Tryz.prog Tryz.f13.params.toList Rows.sealHashesSpec.vars false W args.toList ds gs before)
  (hm : (DataW.weightsEach Tryz.prog (Tryz.f13.params.toList ++ (OpenSpec.ofChange Rows.sealHashesSpec).bare.plain.varTypes Tryz.prog) (ds ++ gs)).all (· ≤ reachBytes) = true) (hL : laidMetH Tryz.prog Rows.sealHashesRow.laid W) (hSh : W.ShapedOpen Tryz.prog) :
  Calls Tryz.prog 13 args W fun e W' => ∃ v, e = .returned v ∧ Rows.sealHashesSpec.post enc Tryz.prog Tryz.f13 false true false false W args v W' := by
 have hW' := hW
 obtain ⟨p, q, hA0, hV, rfl, hfz, hnd⟩ := hW
 have hA : DataW.TrodAll enc Tryz.prog W 0 (fun _ => true) true Tryz.f13.params.toList args.toList ds p := hA0
 rw [Tryz.params13] at hA hval hm
 obtain ⟨v0, vs0, d0, ds0, p0, q0, hargs, rfl, rfl, h0, r0⟩ := trodAll_cons hA
 obtain ⟨rfl, rfl, rfl⟩ := trodAll_nil r0
 obtain rfl : args = #[v0] := Array.toList_inj.1 hargs
 obtain ⟨rfl, rfl⟩ := trodVars_none hV
 obtain ⟨fuel0, h0⟩ := h0
 have hm0 : ∀ m ∈ d0.weights Tryz.prog 48, m ≤ reachBytes := fun m hm' => by
  have := List.all_eq_true.1 hm m (by simp [DataW.weightsEach, hm'])
  simpa using this
 clear hm
 obtain ⟨cs0, rfl, _⟩ := okWide_struct Tryz.underlying48 (hval 0 48 v0 rfl rfl)
 obtain ⟨e, hR0, hs0⟩ := opn_ev fuel0 _ _ h0 hm0
 obtain ⟨us0, rfl⟩ : ∃ us : List Value, cs0 = us.toArray := ⟨cs0.toList, by simp⟩
 simp only [Value.cells] at hR0
 have hT : Tab W := tabOf4 hL
 have hM : MaxL W := MaxL.of_ hSh
 have hD : DgT W := dgOf hL
 refine (c_SealHashes W e us0 hR0 hs0 hT hM hD).mono fun e W1 he => ?_
 cases e with
 | returned v =>
  obtain ⟨rfl, k⟩ := he
  exact ⟨_, rfl, post_true laid (by rfl) (by kernel_rfl) Tryz.underlying4 (by kernel_rfl) (by rfl) hW' k⟩
 | _ => exact he.elim
noncomputable def laidWorld (os : Os) : World :=
 { (World.holding Tryz.prog os ⟨#[], #[], []⟩) with heap := (((((World.holding Tryz.prog os ⟨#[], #[], []⟩).heap.modify 7 (fun
   | .cells _ t frozen => .cells #[.int .u8 0, .int .u8 1, .int .u8 28, .int .u8 2, .int .u8 29, .int .u8 14, .int .u8 24, .int .u8 3, .int .u8 30, .int .u8 22, .int .u8 20, .int .u8 15, .int .u8 25, .int .u8 17, .int .u8 4, .int .u8 8, .int .u8 31, .int .u8 27, .int .u8 13, .int .u8 23, .int .u8 21, .int .u8 19, .int .u8 16, .int .u8 7, .int .u8 26, .int .u8 12, .int .u8 18, .int .u8 6, .int .u8 11, .int .u8 5, .int .u8 10, .int .u8 9] t frozen
   | o => o)).modify 8 (fun
   | .cells _ t frozen => .cells #[.int .u8 0, .int .u8 1, .int .u8 56, .int .u8 2, .int .u8 57, .int .u8 49, .int .u8 28, .int .u8 3, .int .u8 61, .int .u8 58, .int .u8 42, .int .u8 50, .int .u8 38, .int .u8 29, .int .u8 17, .int .u8 4, .int .u8 62, .int .u8 47, .int .u8 59, .int .u8 36, .int .u8 45, .int .u8 43, .int .u8 51, .int .u8 22, .int .u8 53, .int .u8 39, .int .u8 33, .int .u8 30, .int .u8 24, .int .u8 18, .int .u8 12, .int .u8 5, .int .u8 63, .int .u8 55, .int .u8 48, .int .u8 27, .int .u8 60, .int .u8 41, .int .u8 37, .int .u8 16, .int .u8 46, .int .u8 35, .int .u8 44, .int .u8 21, .int .u8 52, .int .u8 32, .int .u8 23, .int .u8 11, .int .u8 54, .int .u8 26, .int .u8 40, .int .u8 15, .int .u8 34, .int .u8 20, .int .u8 31, .int .u8 10, .int .u8 25, .int .u8 14, .int .u8 19, .int .u8 9, .int .u8 13, .int .u8 8, .int .u8 7, .int .u8 6] t frozen
   | o => o)).modify 0 (fun
   | .cells _ t frozen => .cells #[.int .u32 1116352408, .int .u32 1899447441, .int .u32 3049323471, .int .u32 3921009573, .int .u32 961987163, .int .u32 1508970993, .int .u32 2453635748, .int .u32 2870763221, .int .u32 3624381080, .int .u32 310598401, .int .u32 607225278, .int .u32 1426881987, .int .u32 1925078388, .int .u32 2162078206, .int .u32 2614888103, .int .u32 3248222580, .int .u32 3835390401, .int .u32 4022224774, .int .u32 264347078, .int .u32 604807628, .int .u32 770255983, .int .u32 1249150122, .int .u32 1555081692, .int .u32 1996064986, .int .u32 2554220882, .int .u32 2821834349, .int .u32 2952996808, .int .u32 3210313671, .int .u32 3336571891, .int .u32 3584528711, .int .u32 113926993, .int .u32 338241895, .int .u32 666307205, .int .u32 773529912, .int .u32 1294757372, .int .u32 1396182291, .int .u32 1695183700, .int .u32 1986661051, .int .u32 2177026350, .int .u32 2456956037, .int .u32 2730485921, .int .u32 2820302411, .int .u32 3259730800, .int .u32 3345764771, .int .u32 3516065817, .int .u32 3600352804, .int .u32 4094571909, .int .u32 275423344, .int .u32 430227734, .int .u32 506948616, .int .u32 659060556, .int .u32 883997877, .int .u32 958139571, .int .u32 1322822218, .int .u32 1537002063, .int .u32 1747873779, .int .u32 1955562222, .int .u32 2024104815, .int .u32 2227730452, .int .u32 2361852424, .int .u32 2428436474, .int .u32 2756734187, .int .u32 3204031479, .int .u32 3329325298] t frozen
   | o => o)).modify 4 (fun
   | .cells _ t frozen => .cells #[.int .u64 1, .int .u64 10, .int .u64 100, .int .u64 1000, .int .u64 10000, .int .u64 100000, .int .u64 1000000, .int .u64 10000000, .int .u64 100000000, .int .u64 1000000000, .int .u64 10000000000, .int .u64 100000000000, .int .u64 1000000000000, .int .u64 10000000000000, .int .u64 100000000000000, .int .u64 1000000000000000, .int .u64 10000000000000000, .int .u64 100000000000000000, .int .u64 1000000000000000000, .int .u64 10000000000000000000] t frozen
   | o => o)) }
theorem laid_met (os : Os) : laidMet Tryz.prog Rows.sealHashesRow.laid ((laidWorld os).forCall (fun _ _ => 0) ⟨#[], #[.agg #[.string ⟨#[]⟩, .string ⟨#[]⟩, .string ⟨#[]⟩, .bool false, .string ⟨#[]⟩, .int .i64 0, .bool false, .int .i64 0, .string ⟨#[]⟩, .slice none 0 0, .slice none 0 0, .slice none 0 0, .slice none 0 0, .int .i64 0, .int .i64 0, .string ⟨#[]⟩, .slice none 0 0]], []⟩).memory :=
 laidMet_of_run' 8 (by kernel_rfl) (by kernel_rfl)
theorem reads (os : Os) {H : Type} (enc : TypeId × Value → H) : ∃ places, DataW.whole enc Tryz.prog ((laidWorld os).forCall (fun _ _ => 0) ⟨#[], #[.agg #[.string ⟨#[]⟩, .string ⟨#[]⟩, .string ⟨#[]⟩, .bool false, .string ⟨#[]⟩, .int .i64 0, .bool false, .int .i64 0, .string ⟨#[]⟩, .slice none 0 0, .slice none 0 0, .slice none 0 0, .slice none 0 0, .int .i64 0, .int .i64 0, .string ⟨#[]⟩, .slice none 0 0]], []⟩).memory Tryz.f13.params.toList Rows.sealHashesSpec.vars false (#[.agg #[.string ⟨#[]⟩, .string ⟨#[]⟩, .string ⟨#[]⟩, .bool false, .string ⟨#[]⟩, .int .i64 0, .bool false, .int .i64 0, .string ⟨#[]⟩, .slice none 0 0, .slice none 0 0, .slice none 0 0, .slice none 0 0, .int .i64 0, .int .i64 0, .string ⟨#[]⟩, .slice none 0 0]] : Array Value).toList 8 = some ([.agg [.lit (.string []), .lit (.string []), .lit (.string []), .lit (.bool false), .lit (.string []), .agg [.lit (.int .i64 0), .lit (.bool false), .lit (.int .i64 0), .lit (.string []), .nil, .nil], .nil, .nil, .lit (.int .i64 0), .lit (.int .i64 0), .lit (.string []), .nil]], [], places) :=
 ⟨[], by kernel_rfl⟩
set_option maxRecDepth 100000 in
theorem lifted (os : Os) (started : os.Started) (H : Type) (enc : TypeId × Value → H) (F : Stop.Interp) :
  ReturnsInHanded {} Tryz.checked os 13 .any ((OpenSpec.ofChange Rows.sealHashesSpec).preRow enc Tryz.prog Tryz.f13 Rows.sealHashesRow.domain false Rows.sealHashesRow.laid) (((OpenSpec.ofChange Rows.sealHashesSpec).at F).post enc Tryz.prog Tryz.f13 false true false false) := by
 obtain ⟨places, hx⟩ := reads os enc
 refine returnsInHanded_of_row (C := Tryz.checked) (s := OpenSpec.ofChange Rows.sealHashesSpec) own started (by kernel_rfl) Tryz.func13
  (witness_row_at (enc := enc) (C := Tryz.checked) false (laidWorld os) #[.agg #[.string ⟨#[]⟩, .string ⟨#[]⟩, .string ⟨#[]⟩, .bool false, .string ⟨#[]⟩, .int .i64 0, .bool false, .int .i64 0, .string ⟨#[]⟩, .slice none 0 0, .slice none 0 0, .slice none 0 0, .slice none 0 0, .int .i64 0, .int .i64 0, .string ⟨#[]⟩, .slice none 0 0]] rfl (by kernel_rfl) (by kernel_rfl) (by kernel_rfl)
   (OpenSpec.preRow_of_cond 8 hx (by kernel_rfl) (fun k hk => by cases hk) (by kernel_rfl) (laid_met os))) ?_
 intro W base args ds gs before hval hW _ _ hm hL hSh _
 exact contract H enc W base args ds gs before hval hW hm hL hSh
theorem jf0 : Tryz.pinned.checked.prog.inPlace 13 = Rows.sealHashesRow.inPlace := by kernel_rfl
theorem jf1 : Tryz.pinned.checked.prog.unfollowed 13 = Rows.sealHashesRow.unfollowed := by kernel_rfl
theorem jf2 : Tryz.pinned.checked.prog.recurses 13 = Rows.sealHashesRow.recurses := by kernel_rfl
theorem jf3 : Tryz.pinned.checked.prog.varsNamed 13 = Rows.sealHashesRow.named := by kernel_rfl
theorem jg0 : laidOutB Tryz.pinned.checked.prog = true := by kernel_rfl
theorem jg1 : mapsRowed Tryz.pinned.checked.prog = true := by kernel_rfl
theorem jg2 : Tryz.pinned.checked.prog.stopsHeard = true := by kernel_rfl
theorem jg3 : Tryz.pinned.checked.prog.mayEnter = true := by kernel_rfl
theorem jh0 : Tryz.pinned.checked.prog.liftsFinal = Rows.sealHashesRow.lifted := by kernel_rfl
theorem closed : joinedFacts Tryz.pinned.checked.prog 13 Tryz.f13 (OpenSpec.ofChange Rows.sealHashesSpec).bare Rows.sealHashesRow = true := by
 unfold joinedFacts
 rw [jf0, jf1, jf2, jf3, jg0, jg1, jg2, jg3, jh0]
 kernel_rfl
theorem hinst : Tryz.f13.isInstance Tryz.pinned.checked.prog Rows.sealHashesRow.origin Rows.sealHashesRow.targs := of_decide_eq_true (by kernel_rfl)
theorem hwrap : Tryz.f13.isWrapper Tryz.pinned.checked.prog Rows.sealHashesRow.wrapper Rows.sealHashesRow.mainSum := by unfold Func.isWrapper; first | (rw [if_pos (by decide +kernel)]; kernel_rfl) | (rw [if_neg (by decide +kernel)]; exact ⟨rfl, rfl⟩)
theorem fnamed : Tryz.pinned.checked.prog.funcNamed Rows.sealHashesRow.func = some 13 := by kernel_rfl
theorem said : Rows.SealHashesSaid :=
 OpenClaim.holds_of_cond 13 Tryz.f13 rfl rfl rfl rfl rfl rfl rfl ⟨rfl, rfl, rfl, rfl, rfl⟩ rfl rfl rfl rfl rfl fnamed Tryz.func13 closed hinst hwrap
  (fun os started H enc _ F => by rw [OpenClaim.pre_eq_preRow]; exact lifted os started H enc F)
theorem plain (f : FuncId) (fn : Func) (hf : Tryz.pinned.checked.prog.funcNamed "hustings/hustingslaw13.SealHashes" = some f) (hfn : Tryz.pinned.checked.prog.funcs[f]? = some fn) :
  true = Tryz.pinned.checked.prog.looks [] ∧ ∀ (j : Nat) t, fn.params[j]? = some t → Tryz.pinned.checked.prog.wantsStandIn t = false := by
 obtain rfl : f = 13 := Option.some.inj ((show Tryz.prog.funcNamed "hustings/hustingslaw13.SealHashes" = some 13 by kernel_rfl).symm.trans hf) |>.symm
 obtain rfl : fn = Tryz.f13 := (Option.some.inj (Tryz.func13.symm.trans hfn)).symm
 refine ⟨by kernel_rfl, fun j t ht => ?_⟩
 rw [Tryz.params13] at ht
 have hm := Array.mem_of_getElem? ht
 simp at hm
 rcases hm with rfl
 ·exact (show Tryz.prog.wantsStandIn 48 = false by kernel_rfl)
theorem card : Rows.SealHashesCardSaid :=
 Claim7.holds_tied_plain_at .later [] _ _ _ _ said (fun _ h => by cases h) (by kernel_rfl) (fun _ h => by cases h) sealHashes_row_tie rfl ⟨rfl, rfl⟩ (by kernel_rfl) rfl plain (by kernel_rfl)
end Go.Proofs.YtknndpjacklkeaaGreatDoor.V.SealHashes
namespace Go.Proofs.YtknndpjacklkeaaGreatDoor
theorem sealHashesCard_holds : Rows.SealHashesCardSaid := Go.Proofs.YtknndpjacklkeaaGreatDoor.V.SealHashes.card
end Go.Proofs.YtknndpjacklkeaaGreatDoor
