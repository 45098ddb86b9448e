/-
  Proved: the law DagSorts answers true at every input, and each argument reads afterwards as it read before. No condition beside the given statement's own.
-/
import Derived.Test.YthmohmpalbnjoaaM20
import Derived.Test.YthmohmpalbnjoaaM4
import Derived.Test.YthmohmpalbnjoaaRows
import Derived.OpenShut
import Derived.Deep.DeepHandedRow
set_option linter.unusedVariables false
set_option linter.unusedSimpArgs false
namespace Go.Proofs.Ythmohmpalbnjoaa.V.DagSorts
open Go Go.Proofs Go.Proofs.Ythmohmpalbnjoaa Go.ChangeShapes Go.WideShapes Go.RowKit
section
variable {H : Type} {enc : TypeId × Value → H} {w : World}
theorem opn_strs (n : Nat) : OpnN enc Try.prog w n 23 (fun xs : List Str => [strD xs]) (fun xs => (∀ x ∈ xs, x.length ≤ 140737488351232) ∧ xs.length ≤ 140737488351232) := by
  cases n with
  | zero => exact OpnN.zero
  | succ n => exact OpnN.to (opn_slice (by_ := 16) Try.underlying23 (by kernel_rfl) (by kernel_rfl) (by decide) (opn_str Try.underlying9)) (fun xs => xs) (fun _ => rfl) (fun xs h => ⟨h.1, by have := h.2; omega⟩)
theorem opn_call (n : Nat) : OpnN enc Try.prog w n 28 (fun p : Str × List Str => [D.v (S p.1), strD p.2]) (fun p => p.1.length ≤ 140737488351232 ∧ p.2.length ≤ 140737488351232 ∧ ∀ x ∈ p.2, x.length ≤ 140737488351232) := by
  cases n with
  | zero => exact OpnN.zero
  | succ n => exact OpnN.to (opn_struct (tot := 2) Try.underlying28 (by kernel_rfl) (opn_cons (k := 1) rfl (by kernel_rfl) (opn_str Try.underlying9) (opn_cons (k := 1) rfl (by kernel_rfl) (opn_strs n) opn_nil))) (fun p => (p.1, p.2.1)) (fun _ => rfl) (fun p h => ⟨h.1, h.2.1.2, h.2.1.1⟩)
theorem opn_cs (n : Nat) : OpnN enc Try.prog w n 22 (fun cs : Gm => [ndD cs]) CSm := by
  cases n with
  | zero => exact OpnN.zero
  | succ n => exact OpnN.to (opn_slice (by_ := 40) Try.underlying22 (by kernel_rfl) (by kernel_rfl) (by decide) (opn_call n)) (fun cs => cs) (fun _ => rfl) (fun cs h => ⟨by have := h.2; omega, h.1⟩)
theorem opn_rk (n : Nat) : OpnN enc Try.prog w n 44 (fun r : Rk => r.cells.map D.v) (fun _ => True) := by
  cases n with
  | zero => exact OpnN.zero
  | succ n => exact OpnN.to (opn_struct (tot := 3) Try.underlying44 (by kernel_rfl) (opn_cons (k := 1) rfl (by kernel_rfl) (opn_int Try.underlying3) (opn_cons (k := 1) rfl (by kernel_rfl) (opn_int Try.underlying3) (opn_cons (k := 1) rfl (by kernel_rfl) (opn_str Try.underlying9) opn_nil)))) (fun p => ⟨p.1, p.2.1, p.2.2.1⟩) (fun _ => rfl) (fun _ _ => trivial)
theorem opn_rks (n : Nat) : OpnN enc Try.prog w n 24 (fun xs : List Rk => [rksD xs]) (fun xs => xs.length ≤ 140737488351232) := by
  cases n with
  | zero => exact OpnN.zero
  | succ n => exact OpnN.to (opn_slice (by_ := 32) Try.underlying24 (by kernel_rfl) (by kernel_rfl) (by decide) (opn_rk n)) (fun xs => xs) (fun _ => rfl) (fun xs h => by have := h.2; omega)
end
theorem laid : laidOutB Try.prog = true := by kernel_rfl
theorem own : ownKnob Try.prog.godebug = none := by kernel_rfl
set_option maxRecDepth 100000 in
theorem contract (H : Type) (enc : TypeId × Value → H) (W : World) (base : Nat) (args : Array Value) (ds gs : List (DataW H)) (before : List MemPlace)
    (hval : ∀ (j : Nat) t v, Try.f5.params[j]? = some t → args[j]? = some v → Value.okWide Try.prog W .any base t v)
    (hW : DataW.Whole enc Try.prog Try.f5.params.toList Rows.dagSortsSpec.vars false W args.toList ds gs before)
    (hm : (DataW.weightsEach Try.prog (Try.f5.params.toList ++ (OpenSpec.ofChange Rows.dagSortsSpec).bare.plain.varTypes Try.prog) (ds ++ gs)).all (· ≤ reachBytes) = true) :
    Calls Try.prog 5 args W fun e W' => ∃ v, e = .returned v ∧ Rows.dagSortsSpec.post enc Try.prog Try.f5 false true false false W args v W' := by
  have hW' := hW
  obtain ⟨p, q, hA0, hV, rfl, hfz, hnd⟩ := hW
  have hA : DataW.TrodAll enc Try.prog W 0 (fun _ => true) true Try.f5.params.toList args.toList ds p := hA0
  rw [Try.params5] at hA hval hm
  obtain ⟨v0, vs0, d0, ds0, p0, q0, hargs, rfl, rfl, h0, r0⟩ := trodAll_cons hA
  obtain ⟨v1, vs1, d1, ds1, p1, q1, rfl, rfl, rfl, h1, r1⟩ := trodAll_cons r0
  obtain ⟨rfl, rfl, rfl⟩ := trodAll_nil r1
  obtain rfl : args = #[v0, v1] := Array.toList_inj.1 hargs
  obtain ⟨rfl, rfl⟩ := trodVars_none hV
  obtain ⟨fuel0, h0⟩ := h0
  have hm0 : ∀ m ∈ d0.weights Try.prog 22, m ≤ reachBytes := fun m hm' => by
    have := List.all_eq_true.1 hm m (by simp [DataW.weightsEach, hm'])
    simpa using this
  obtain ⟨fuel1, h1⟩ := h1
  have hm1 : ∀ m ∈ d1.weights Try.prog 24, m ≤ reachBytes := fun m hm' => by
    have := List.all_eq_true.1 hm m (by simp [DataW.weightsEach, hm'])
    simpa using this
  clear hm
  obtain ⟨ad0, c0, c0', rfl⟩ := okWide_slice Try.underlying22 (hval 0 22 v0 rfl rfl)
  obtain ⟨cs, hR0, hs0⟩ := opn_cs fuel0 _ _ h0 hm0
  obtain ⟨u, us, hu, hR0, hus⟩ := hR0
  simp [Value.cells] at hu
  obtain ⟨rfl, rfl⟩ := hu
  obtain ⟨ad1, c1, c1', rfl⟩ := okWide_slice Try.underlying24 (hval 1 24 v1 rfl rfl)
  obtain ⟨rks, hR1, hs1⟩ := opn_rks fuel1 _ _ h1 hm1
  obtain ⟨u, us, hu, hR1, hus⟩ := hR1
  simp [Value.cells] at hu
  obtain ⟨rfl, rfl⟩ := hu
  refine (c_DagSorts W cs _ hR0 hs0 rks _ hR1 hs1).mono fun e W1 he => ?_
  cases e with
  | returned v =>
    obtain ⟨rfl, k⟩ := he
    exact ⟨_, rfl, post_true laid (by rfl) (by kernel_rfl) Try.underlying4 (by kernel_rfl) (by rfl) hW' k⟩
  | _ => exact he.elim
theorem reads (os : Os) {H : Type} (enc : TypeId × Value → H) : ∃ places, DataW.whole enc Try.prog ((World.holding Try.prog os ⟨#[], #[], []⟩).forCall (fun _ _ => 0) ⟨#[], #[.slice none 0 0, .slice none 0 0], []⟩).memory Try.f5.params.toList Rows.dagSortsSpec.vars false (#[.slice none 0 0, .slice none 0 0] : Array Value).toList 8 = some ([.nil, .nil], [], places) :=
  ⟨[], by kernel_rfl⟩
set_option maxRecDepth 100000 in
theorem lifted (os : Os) (started : os.Started) (H : Type) (enc : TypeId × Value → H) (F : Stop.Interp) :
    ReturnsInHanded {} Try.checked os 5 .any ((OpenSpec.ofChange Rows.dagSortsSpec).preRow enc Try.prog Try.f5 Rows.dagSortsRow.domain false Rows.dagSortsRow.laid) (((OpenSpec.ofChange Rows.dagSortsSpec).at F).post enc Try.prog Try.f5 false true false false) := by
  obtain ⟨places, hx⟩ := reads os enc
  refine returnsInHanded_of_row (C := Try.checked) (s := OpenSpec.ofChange Rows.dagSortsSpec) own started (by kernel_rfl) Try.func5
    (witness_row_at (enc := enc) (C := Try.checked) false (World.holding Try.prog os ⟨#[], #[], []⟩) #[.slice none 0 0, .slice none 0 0] rfl (by kernel_rfl) (by kernel_rfl) (by kernel_rfl)
      (OpenSpec.preRow_of_cond 8 hx (by kernel_rfl) (fun k hk => by cases hk) (by kernel_rfl) (laidMet_nil _ _))) ?_
  intro W base args ds gs before hval hW _ _ hm hL hSh _
  exact contract H enc W base args ds gs before hval hW hm
theorem said : Rows.DagSortsSaid :=
  OpenClaim.holds_of_cond 5 Try.f5 rfl rfl rfl rfl rfl rfl rfl ⟨rfl, rfl, rfl, rfl, rfl⟩ rfl rfl rfl rfl rfl (by kernel_rfl) Try.func5 (by kernel_rfl)
    (of_decide_eq_true (by kernel_rfl)) (by unfold Func.isWrapper; first | (rw [if_pos (by decide +kernel)]; kernel_rfl) | (rw [if_neg (by decide +kernel)]; exact ⟨rfl, rfl⟩))
    (fun os started H enc _ F => by rw [OpenClaim.pre_eq_preRow]; exact lifted os started H enc F)
end Go.Proofs.Ythmohmpalbnjoaa.V.DagSorts
namespace Go.Proofs.Ythmohmpalbnjoaa
theorem dagSorts_holds : Rows.DagSortsSaid := Go.Proofs.Ythmohmpalbnjoaa.V.DagSorts.said
end Go.Proofs.Ythmohmpalbnjoaa
