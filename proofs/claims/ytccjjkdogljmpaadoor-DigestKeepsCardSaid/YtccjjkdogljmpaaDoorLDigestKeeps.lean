/-
  Proved: the law DigestKeeps answers true at every input, and each argument reads afterwards as it read before; the card ties the table that the row lists to the program's text. No condition beside the given statement's own.
-/
import Derived.Test.YtccjjkdogljmpaaDoorDE
import Derived.Test.YtccjjkdogljmpaaDoorVF
import Derived.Test.YtccjjkdogljmpaaDoorRows
import Derived.Test.YtccjjkdogljmpaaDoorCards
import Derived.Test.YtccjjkdogljmpaaDoorTie
import Derived.OpenShut
import Derived.Deep.DeepHandedRow
import Derived.Lib.LaidTab
set_option linter.unusedVariables false
set_option linter.unusedSimpArgs false
namespace Go.Proofs.YtccjjkdogljmpaaDoor.V
open Go
theorem opn_u8 {H : Type} {enc : TypeId × Value → H} {P : Program} {w : World} {n : Nat} {t : TypeId} (ht : P.underlying t = some (.int .u8)) : OpnN enc P w n t (fun c : UInt8 => (bcells c).map D.v) (fun _ => True) := fun cs x hx hm => by
  obtain ⟨m, rfl, rfl, h⟩ := DataW.trod_int ht hx
  have hb : 0 ≤ m ∧ m ≤ 255 := by
    simp [Lit.wf, IntKind.min, IntKind.max, IntKind.signed, IntKind.bits] at h
    omega
  refine ⟨UInt8.ofNat m.toNat, Reps.cons_ ?_ Reps.nil_, trivial⟩
  have hv : B8 (UInt8.ofNat m.toNat) = .int .u8 m := by
    unfold B8
    congr 1
    rw [UInt8.toNat_ofNat']
    omega
  rw [hv]
  exact Rep.v_ rfl
end Go.Proofs.YtccjjkdogljmpaaDoor.V
namespace Go.Proofs.YtccjjkdogljmpaaDoor.V.DigestKeeps
open Go Go.Proofs Go.Proofs.YtccjjkdogljmpaaDoor Go.ChangeShapes Go.WideShapes Go.RowKit
theorem laid : laidOutB Tryd.prog = true := by kernel_rfl
theorem own : ownKnob Tryd.prog.godebug = none := by kernel_rfl
theorem gTab : Tryd.prog.globalNamed "hustings/digest.table" = some 0 := by kernel_rfl
theorem gTabType : (Tryd.prog.globals[0]?).map (·.type) = some 65 := by kernel_rfl
theorem cells65 : Tryd.prog.cellsOf 65 = 64 := by kernel_rfl
theorem cells44 : Tryd.prog.cellsOf 44 = 1 := by kernel_rfl
def zsT : List Int := [1116352408, 1899447441, 3049323471, 3921009573, 961987163, 1508970993, 2453635748, 2870763221, 3624381080, 310598401, 607225278, 1426881987, 1925078388, 2162078206, 2614888103, 3248222580, 3835390401, 4022224774, 264347078, 604807628, 770255983, 1249150122, 1555081692, 1996064986, 2554220882, 2821834349, 2952996808, 3210313671, 3336571891, 3584528711, 113926993, 338241895, 666307205, 773529912, 1294757372, 1396182291, 1695183700, 1986661051, 2177026350, 2456956037, 2730485921, 2820302411, 3259730800, 3345764771, 3516065817, 3600352804, 4094571909, 275423344, 430227734, 506948616, 659060556, 883997877, 958139571, 1322822218, 1537002063, 1747873779, 1955562222, 2024104815, 2227730452, 2361852424, 2428436474, 2756734187, 3204031479, 3329325298]
theorem zs_nums : ∀ j : Fin 64, zsT.getD j.val 0 = ((at32 numsK j.val).toNat : Int) := by decide +kernel
theorem table {W : World} (h : laidMetH Tryd.prog Rows.digestKeepsRow.laid W) : Lib.TabIs Tryd.prog W "hustings/digest.table" .u32 zsT :=
  Lib.tabIs_of_head (rest := []) gTab gTabType Tryd.underlying65 Tryd.underlying44 cells44 cells65 h
theorem tableCs {W : World} (h : laidMetH Tryd.prog Rows.digestKeepsRow.laid W) : Cs W ⟨0, 0, none⟩ (numsK.map W4) := fun j v hv => by
  have hj : j < 64 := by
    have h := (List.getElem?_eq_some_iff.1 hv).1
    rw [List.length_map] at h
    exact h
  rw [nums_get hj] at hv
  injection hv with hv
  have := (table h).cell gTab j hj
  rw [Addr.add_lit, Nat.zero_add, this, ← hv]
  exact congrArg (fun z => some (Value.int .u32 z)) (zs_nums ⟨j, hj⟩)
theorem opn_bytes {H : Type} {enc : TypeId × Value → H} {w : World} (n : Nat) : OpnN enc Tryd.prog w n 22 (fun xs : List UInt8 => [byD xs]) (fun xs => (∀ x ∈ xs, True) ∧ xs.length * 1 ≤ 140737488351232) := by
  cases n with
  | zero => exact OpnN.zero
  | succ n => exact opn_slice Tryd.underlying22 (by kernel_rfl) (by kernel_rfl) (by decide) (opn_u8 Tryd.underlying5)
set_option maxRecDepth 100000 in
theorem contract (H : Type) (enc : TypeId × Value → H) (W : World) (base : Nat) (args : Array Value) (ds gs : List (DataW H)) (before : List MemPlace)
    (hval : ∀ (j : Nat) t v, Tryd.f6.params[j]? = some t → args[j]? = some v → Value.okWide Tryd.prog W .any base t v)
    (hW : DataW.Whole enc Tryd.prog Tryd.f6.params.toList Rows.digestKeepsSpec.vars false W args.toList ds gs before)
    (hm : (DataW.weightsEach Tryd.prog (Tryd.f6.params.toList ++ (OpenSpec.ofChange Rows.digestKeepsSpec).bare.plain.varTypes Tryd.prog) (ds ++ gs)).all (· ≤ reachBytes) = true) (hL : laidMetH Tryd.prog Rows.digestKeepsRow.laid W) :
    Calls Tryd.prog 6 args W fun e W' => ∃ v, e = .returned v ∧ Rows.digestKeepsSpec.post enc Tryd.prog Tryd.f6 false true false false W args v W' := by
  have hW' := hW
  obtain ⟨p, q, hA0, hV, rfl, hfz, hnd⟩ := hW
  have hA : DataW.TrodAll enc Tryd.prog W 0 (fun _ => true) true Tryd.f6.params.toList args.toList ds p := hA0
  rw [Tryd.params6] at hA hval hm
  obtain ⟨v0, vs0, d0, ds0, p0, q0, hargs, rfl, rfl, h0, r0⟩ := trodAll_cons hA
  obtain ⟨v1, vs1, d1, ds1, p1, q1, rfl, rfl, rfl, h1, r1⟩ := trodAll_cons r0
  obtain ⟨rfl, rfl, rfl⟩ := trodAll_nil r1
  obtain rfl : args = #[v0, v1] := Array.toList_inj.1 hargs
  obtain ⟨rfl, rfl⟩ := trodVars_none hV
  obtain ⟨fuel0, h0⟩ := h0
  have hm0 : ∀ m ∈ d0.weights Tryd.prog 22, m ≤ reachBytes := fun m hm' => by
    have := List.all_eq_true.1 hm m (by simp [DataW.weightsEach, hm'])
    simpa using this
  obtain ⟨fuel1, h1⟩ := h1
  have hm1 : ∀ m ∈ d1.weights Tryd.prog 22, m ≤ reachBytes := fun m hm' => by
    have := List.all_eq_true.1 hm m (by simp [DataW.weightsEach, hm'])
    simpa using this
  clear hm
  obtain ⟨ad0, c0, c0', rfl⟩ := okWide_slice Tryd.underlying22 (hval 0 22 v0 rfl rfl)
  obtain ⟨ad1, c1, c1', rfl⟩ := okWide_slice Tryd.underlying22 (hval 1 22 v1 rfl rfl)
  obtain ⟨a, hR0, hs0⟩ := opn_bytes fuel0 _ _ h0 hm0
  obtain ⟨b, hR1, hs1⟩ := opn_bytes fuel1 _ _ h1 hm1
  obtain ⟨u, us, hu, hR0, hus⟩ := hR0
  simp [Value.cells] at hu
  obtain ⟨rfl, rfl⟩ := hu
  obtain ⟨u, us, hu, hR1, hus⟩ := hR1
  simp [Value.cells] at hu
  obtain ⟨rfl, rfl⟩ := hu
  have hT := tableCs hL
  have hw0 : 0 < W.heap.size := block_lt_of_cell (a := ⟨0, 0, none⟩) ((table hL).cell gTab 0 (by decide))
  refine (c_DigestKeeps W a b _ _ hR0 hR1 hT hw0).mono fun e W1 he => ?_
  cases e with
  | returned v =>
    obtain ⟨rfl, k⟩ := he
    exact ⟨_, rfl, post_true laid (by rfl) (by kernel_rfl) Tryd.underlying4 (by kernel_rfl) (by rfl) hW' k⟩
  | _ => exact he.elim
noncomputable def laidWorld (os : Os) : World :=
  { World.holding Tryd.prog os ⟨#[], #[], []⟩ with heap := (World.holding Tryd.prog os ⟨#[], #[], []⟩).heap.modify 0 fun
      | .cells _ t frozen => .cells #[.int .u32 1116352408, .int .u32 1899447441, .int .u32 3049323471, .int .u32 3921009573, .int .u32 961987163, .int .u32 1508970993, .int .u32 2453635748, .int .u32 2870763221, .int .u32 3624381080, .int .u32 310598401, .int .u32 607225278, .int .u32 1426881987, .int .u32 1925078388, .int .u32 2162078206, .int .u32 2614888103, .int .u32 3248222580, .int .u32 3835390401, .int .u32 4022224774, .int .u32 264347078, .int .u32 604807628, .int .u32 770255983, .int .u32 1249150122, .int .u32 1555081692, .int .u32 1996064986, .int .u32 2554220882, .int .u32 2821834349, .int .u32 2952996808, .int .u32 3210313671, .int .u32 3336571891, .int .u32 3584528711, .int .u32 113926993, .int .u32 338241895, .int .u32 666307205, .int .u32 773529912, .int .u32 1294757372, .int .u32 1396182291, .int .u32 1695183700, .int .u32 1986661051, .int .u32 2177026350, .int .u32 2456956037, .int .u32 2730485921, .int .u32 2820302411, .int .u32 3259730800, .int .u32 3345764771, .int .u32 3516065817, .int .u32 3600352804, .int .u32 4094571909, .int .u32 275423344, .int .u32 430227734, .int .u32 506948616, .int .u32 659060556, .int .u32 883997877, .int .u32 958139571, .int .u32 1322822218, .int .u32 1537002063, .int .u32 1747873779, .int .u32 1955562222, .int .u32 2024104815, .int .u32 2227730452, .int .u32 2361852424, .int .u32 2428436474, .int .u32 2756734187, .int .u32 3204031479, .int .u32 3329325298] t frozen
      | o => o }
theorem laid_met (os : Os) : laidMet Tryd.prog Rows.digestKeepsRow.laid ((laidWorld os).forCall (fun _ _ => 0) ⟨#[], #[.slice none 0 0, .slice none 0 0], []⟩).memory :=
  laidMet_of_run' 8 (by kernel_rfl) (by kernel_rfl)
theorem reads (os : Os) {H : Type} (enc : TypeId × Value → H) : ∃ places, DataW.whole enc Tryd.prog ((laidWorld os).forCall (fun _ _ => 0) ⟨#[], #[.slice none 0 0, .slice none 0 0], []⟩).memory Tryd.f6.params.toList Rows.digestKeepsSpec.vars false (#[.slice none 0 0, .slice none 0 0] : Array Value).toList 8 = some ([.nil, .nil], [], places) :=
  ⟨[], by kernel_rfl⟩
set_option maxRecDepth 100000 in
theorem lifted (os : Os) (started : os.Started) (H : Type) (enc : TypeId × Value → H) (F : Stop.Interp) :
    ReturnsInHanded {} Tryd.checked os 6 .any ((OpenSpec.ofChange Rows.digestKeepsSpec).preRow enc Tryd.prog Tryd.f6 Rows.digestKeepsRow.domain false Rows.digestKeepsRow.laid) (((OpenSpec.ofChange Rows.digestKeepsSpec).at F).post enc Tryd.prog Tryd.f6 false true false false) := by
  obtain ⟨places, hx⟩ := reads os enc
  refine returnsInHanded_of_row (C := Tryd.checked) (s := OpenSpec.ofChange Rows.digestKeepsSpec) own started (by kernel_rfl) Tryd.func6
    (witness_row_at (enc := enc) (C := Tryd.checked) false (laidWorld os) #[.slice none 0 0, .slice none 0 0] rfl (by kernel_rfl) (by kernel_rfl) (by kernel_rfl)
      (OpenSpec.preRow_of_cond 8 hx (by kernel_rfl) (fun k hk => by cases hk) (by kernel_rfl) (laid_met os))) ?_
  intro W base args ds gs before hval hW _ _ hm hL _ _
  exact contract H enc W base args ds gs before hval hW hm hL
theorem said : Rows.DigestKeepsSaid :=
  OpenClaim.holds_of_cond 6 Tryd.f6 rfl rfl rfl rfl rfl rfl rfl ⟨rfl, rfl, rfl, rfl, rfl⟩ rfl rfl rfl rfl rfl (by kernel_rfl) Tryd.func6 (by kernel_rfl)
    (of_decide_eq_true (by kernel_rfl)) (by unfold Func.isWrapper; first | (rw [if_pos (by decide +kernel)]; kernel_rfl) | (rw [if_neg (by decide +kernel)]; exact ⟨rfl, rfl⟩))
    (fun os started H enc _ F => by rw [OpenClaim.pre_eq_preRow]; exact lifted os started H enc F)
theorem plain (f : FuncId) (fn : Func) (hf : Tryd.pinned.checked.prog.funcNamed "hustings/hustingslaw02.DigestKeeps" = some f) (hfn : Tryd.pinned.checked.prog.funcs[f]? = some fn) :
    true = Tryd.pinned.checked.prog.looks [] ∧ ∀ (j : Nat) t, fn.params[j]? = some t → Tryd.pinned.checked.prog.wantsStandIn t = false := by
  obtain rfl : f = 6 := Option.some.inj ((show Tryd.prog.funcNamed "hustings/hustingslaw02.DigestKeeps" = some 6 by kernel_rfl).symm.trans hf) |>.symm
  obtain rfl : fn = Tryd.f6 := (Option.some.inj (Tryd.func6.symm.trans hfn)).symm
  refine ⟨by kernel_rfl, fun j t ht => ?_⟩
  rw [Tryd.params6] at ht
  obtain rfl : t = 22 := by have := Array.mem_of_getElem? ht; simp at this; exact this
  exact (show Tryd.prog.wantsStandIn 22 = false by kernel_rfl)
theorem card : Rows.DigestKeepsCardSaid :=
  Claim7.holds_tied_plain_at .later [] _ _ _ _ said (fun _ h => by cases h) (by kernel_rfl) (fun _ h => by cases h) digestKeeps_row_tie rfl ⟨rfl, rfl⟩ (by kernel_rfl) rfl plain (by kernel_rfl)
end Go.Proofs.YtccjjkdogljmpaaDoor.V.DigestKeeps
namespace Go.Proofs.YtccjjkdogljmpaaDoor
theorem digestKeepsCard_holds : Rows.DigestKeepsCardSaid := Go.Proofs.YtccjjkdogljmpaaDoor.V.DigestKeeps.card
end Go.Proofs.YtccjjkdogljmpaaDoor
