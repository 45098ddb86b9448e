/-
  Proved: the law PickKeeps answers true at every input, and each argument reads afterwards as it read before. No condition beside the given statement's own.
-/
import Derived.Test.YtccjjkdogljmpaaPB
import Derived.Test.YtccjjkdogljmpaaVF
import Derived.Test.YtccjjkdogljmpaaRows
import Derived.OpenShut
import Derived.Deep.DeepHandedRow
set_option linter.unusedVariables false
set_option linter.unusedSimpArgs false
namespace Go.Proofs.Ytccjjkdogljmpaa.V.PickKeeps
open Go Go.Proofs Go.Proofs.Ytccjjkdogljmpaa Go.ChangeShapes Go.WideShapes Go.RowKit
section
variable {H : Type} {enc : TypeId × Value → H} {w : World}
theorem opn_slot (n : Nat) : OpnN enc Try.prog w n 24 (fun x : Slot => (Slot.cells x).map D.v) Slot.small := by
  cases n with
  | zero => exact OpnN.zero
  | succ n =>
    refine OpnN.to (opn_struct (tot := 3) Try.underlying24 (by kernel_rfl) (opn_cons (k := 1) rfl (by kernel_rfl) (opn_str Try.underlying9) (opn_cons (k := 1) rfl (by kernel_rfl) (opn_str Try.underlying9) (opn_cons (k := 1) rfl (by kernel_rfl) (opn_str Try.underlying9) opn_nil)))) (fun p => ⟨p.1, p.2.1, p.2.2.1⟩) (fun _ => rfl) (fun p h => ⟨?_, ?_, ?_⟩)
    · have := h.1; dsimp only; omega
    · have := h.2.1; dsimp only; omega
    · have := h.2.2.1; dsimp only; omega
theorem opn_slots (n : Nat) : OpnN enc Try.prog w n 22 (fun xs : List Slot => [slotsD xs]) (fun xs => (∀ x ∈ xs, x.small) ∧ xs.length * 48 ≤ 140737488351232) := by
  cases n with
  | zero => exact OpnN.zero
  | succ n => exact opn_slice Try.underlying22 (by kernel_rfl) (by kernel_rfl) (by decide) (opn_slot n)
end
theorem laid : laidOutB Try.prog = true := by kernel_rfl
theorem own : ownKnob Try.prog.godebug = none := by kernel_rfl
set_option maxRecDepth 100000 in
theorem contract (H : Type) (enc : TypeId × Value → H) (W : World) (base : Nat) (args : Array Value) (ds gs : List (DataW H)) (before : List MemPlace)
    (hval : ∀ (j : Nat) t v, Try.f7.params[j]? = some t → args[j]? = some v → Value.okWide Try.prog W .any base t v)
    (hW : DataW.Whole enc Try.prog Try.f7.params.toList Rows.pickKeepsSpec.vars false W args.toList ds gs before)
    (hm : (DataW.weightsEach Try.prog (Try.f7.params.toList ++ (OpenSpec.ofChange Rows.pickKeepsSpec).bare.plain.varTypes Try.prog) (ds ++ gs)).all (· ≤ reachBytes) = true) :
    Calls Try.prog 7 args W fun e W' => ∃ v, e = .returned v ∧ Rows.pickKeepsSpec.post enc Try.prog Try.f7 false true false false W args v W' := by
  have hW' := hW
  obtain ⟨p, q, hA0, hV, rfl, hfz, hnd⟩ := hW
  have hA : DataW.TrodAll enc Try.prog W 0 (fun _ => true) true Try.f7.params.toList args.toList ds p := hA0
  rw [Try.params7] at hA hval hm
  obtain ⟨v0, vs0, d0, ds0, p0, q0, hargs, rfl, rfl, h0, r0⟩ := trodAll_cons hA
  obtain ⟨v1, vs1, d1, ds1, p1, q1, rfl, rfl, rfl, h1, r1⟩ := trodAll_cons r0
  obtain ⟨rfl, rfl, rfl⟩ := trodAll_nil r1
  obtain rfl : args = #[v0, v1] := Array.toList_inj.1 hargs
  obtain ⟨rfl, rfl⟩ := trodVars_none hV
  obtain ⟨fuel0, h0⟩ := h0
  have hm0 : ∀ m ∈ d0.weights Try.prog 22, m ≤ reachBytes := fun m hm' => by
    have := List.all_eq_true.1 hm m (by simp [DataW.weightsEach, hm'])
    simpa using this
  obtain ⟨fuel1, h1⟩ := h1
  have hm1 : ∀ m ∈ d1.weights Try.prog 24, m ≤ reachBytes := fun m hm' => by
    have := List.all_eq_true.1 hm m (by simp [DataW.weightsEach, hm'])
    simpa using this
  clear hm
  obtain ⟨ad0, c0, c0', rfl⟩ := okWide_slice Try.underlying22 (hval 0 22 v0 rfl rfl)
  obtain ⟨xs, hR0, hs0⟩ := opn_slots fuel0 _ _ h0 hm0
  obtain ⟨u, us, hu, hR0, hus⟩ := hR0
  simp [Value.cells] at hu
  obtain ⟨rfl, rfl⟩ := hu
  obtain ⟨cs1, rfl, _⟩ := okWide_struct Try.underlying24 (hval 1 24 v1 rfl rfl)
  obtain ⟨s, hR1, hs1⟩ := opn_slot fuel1 _ _ h1 hm1
  have hR1' := reps_v hR1
  obtain rfl : cs1 = s.cells.toArray := by
    apply Array.toList_inj.1
    simpa [Value.cells] using hR1'
  refine (c_PickKeeps [] W xs _ hR0 s hs0.1 hs1).mono fun e W1 he => ?_
  cases e with
  | returned v =>
    obtain ⟨rfl, k⟩ := he
    exact ⟨_, rfl, post_true laid (by rfl) (by kernel_rfl) Try.underlying4 (by kernel_rfl) (by rfl) hW' k⟩
  | _ => exact he.elim
theorem reads (os : Os) {H : Type} (enc : TypeId × Value → H) : ∃ places, DataW.whole enc Try.prog ((World.holding Try.prog os ⟨#[], #[], []⟩).forCall (fun _ _ => 0) ⟨#[], #[.slice none 0 0, .agg #[.string ⟨#[]⟩, .string ⟨#[]⟩, .string ⟨#[]⟩]], []⟩).memory Try.f7.params.toList Rows.pickKeepsSpec.vars false (#[.slice none 0 0, .agg #[.string ⟨#[]⟩, .string ⟨#[]⟩, .string ⟨#[]⟩]] : Array Value).toList 8 = some ([.nil, .agg [.lit (.string []), .lit (.string []), .lit (.string [])]], [], places) :=
  ⟨[], by kernel_rfl⟩
set_option maxRecDepth 100000 in
theorem lifted (os : Os) (started : os.Started) (H : Type) (enc : TypeId × Value → H) (F : Stop.Interp) :
    ReturnsInHanded {} Try.checked os 7 .any ((OpenSpec.ofChange Rows.pickKeepsSpec).preRow enc Try.prog Try.f7 Rows.pickKeepsRow.domain false Rows.pickKeepsRow.laid) (((OpenSpec.ofChange Rows.pickKeepsSpec).at F).post enc Try.prog Try.f7 false true false false) := by
  obtain ⟨places, hx⟩ := reads os enc
  refine returnsInHanded_of_row (C := Try.checked) (s := OpenSpec.ofChange Rows.pickKeepsSpec) own started (by kernel_rfl) Try.func7
    (witness_row_at (enc := enc) (C := Try.checked) false (World.holding Try.prog os ⟨#[], #[], []⟩) #[.slice none 0 0, .agg #[.string ⟨#[]⟩, .string ⟨#[]⟩, .string ⟨#[]⟩]] rfl (by kernel_rfl) (by kernel_rfl) (by kernel_rfl)
      (OpenSpec.preRow_of_cond 8 hx (by kernel_rfl) (fun k hk => by cases hk) (by kernel_rfl) (laidMet_nil _ _))) ?_
  intro W base args ds gs before hval hW _ _ hm hL _ _
  exact contract H enc W base args ds gs before hval hW hm
theorem said : Rows.PickKeepsSaid :=
  OpenClaim.holds_of_cond 7 Try.f7 rfl rfl rfl rfl rfl rfl rfl ⟨rfl, rfl, rfl, rfl, rfl⟩ rfl rfl rfl rfl rfl (by kernel_rfl) Try.func7 (by kernel_rfl)
    (of_decide_eq_true (by kernel_rfl)) (by unfold Func.isWrapper; first | (rw [if_pos (by decide +kernel)]; kernel_rfl) | (rw [if_neg (by decide +kernel)]; exact ⟨rfl, rfl⟩))
    (fun os started H enc _ F => by rw [OpenClaim.pre_eq_preRow]; exact lifted os started H enc F)
end Go.Proofs.Ytccjjkdogljmpaa.V.PickKeeps
namespace Go.Proofs.Ytccjjkdogljmpaa
theorem pickKeeps_holds : Rows.PickKeepsSaid := Go.Proofs.Ytccjjkdogljmpaa.V.PickKeeps.said
end Go.Proofs.Ytccjjkdogljmpaa
