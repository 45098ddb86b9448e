/-
  Proved: the law RedactMore answers true at every input, and each argument reads afterwards as it read before. No condition beside the given statement's own.
-/
import Derived.Test.YtccjjkdogljmpaaJB
import Derived.Test.YtccjjkdogljmpaaVF
import Derived.Test.YtccjjkdogljmpaaRows
import Derived.OpenShut
import Derived.Deep.DeepHandedRow
set_option linter.unusedVariables false
set_option linter.unusedSimpArgs false
namespace Go.Proofs.Ytccjjkdogljmpaa.V.RedactMore
open Go Go.Proofs Go.Proofs.Ytccjjkdogljmpaa Go.ChangeShapes Go.WideShapes Go.RowKit
section
variable {H : Type} {enc : TypeId × Value → H} {w : World}
theorem opn_jv (n : Nat) : OpnN enc Try.prog w n 38 JV.D JV.ok := by
  induction n using Nat.strongRecOn with
  | ind n ih =>
    cases n with
    | zero => exact OpnN.zero
    | succ n =>
      have hl : OpnN enc Try.prog w n 35 (fun xs : List JV => [.sl 6 (xs.map JV.D)]) (fun xs => (∀ x ∈ xs, x.ok) ∧ xs.length * 88 ≤ 140737488351232) := by
        cases n with
        | zero => exact OpnN.zero
        | succ n => exact opn_slice Try.underlying35 (by kernel_rfl) (by kernel_rfl) (by decide) (ih n (by omega))
      have hm : OpnN enc Try.prog w n 36 (fun xs : List (List UInt8 × JV) => [.sl 7 (xs.map JV.Dp)]) (fun xs => (∀ x ∈ xs, x.1.length ≤ 140737488351232 ∧ x.2.ok) ∧ xs.length * 104 ≤ 140737488351232) := by
        cases n with
        | zero => exact OpnN.zero
        | succ n =>
          refine opn_slice Try.underlying36 (by kernel_rfl) (by kernel_rfl) (by decide) ?_
          cases n with
          | zero => exact OpnN.zero
          | succ n =>
            exact OpnN.to (opn_struct (tot := 7) Try.underlying49 (by kernel_rfl) (opn_cons (k := 1) rfl (by kernel_rfl) (opn_str Try.underlying9) (opn_cons (k := 6) rfl (by kernel_rfl) (ih n (by omega)) opn_nil))) (fun p => (p.1, p.2.1)) (fun p => by simp [JV.Dp]) (fun p h => ⟨h.1, h.2.1⟩)
      refine OpnN.to (opn_struct (tot := 6) Try.underlying38 (by kernel_rfl) (opn_cons (k := 1) rfl (by kernel_rfl) (opn_int Try.underlying3) (opn_cons (k := 1) rfl (by kernel_rfl) (opn_bool Try.underlying4) (opn_cons (k := 1) rfl (by kernel_rfl) (opn_int Try.underlying3) (opn_cons (k := 1) rfl (by kernel_rfl) (opn_str Try.underlying9) (opn_cons (k := 1) rfl (by kernel_rfl) hl (opn_cons (k := 1) rfl (by kernel_rfl) hm opn_nil))))))) (fun p => JV.mk p.1 p.2.1 p.2.2.1 p.2.2.2.1 p.2.2.2.2.1 p.2.2.2.2.2.1) (fun p => by rw [JV.D_eq]; rfl) (fun p h => ?_)
      obtain ⟨h1, h2, h3, h4, h5, h6, _⟩ := h
      rw [JV.ok_eq]
      refine ⟨h4, ?_, ?_, h5.1, h6.1⟩
      · have := h5.2; show p.2.2.2.2.1.length ≤ _; omega
      · have := h6.2; show p.2.2.2.2.2.1.length ≤ _; omega
end
theorem laid : laidOutB Try.prog = true := by kernel_rfl
theorem own : ownKnob Try.prog.godebug = none := by kernel_rfl
set_option maxRecDepth 100000 in
theorem contract (H : Type) (enc : TypeId × Value → H) (W : World) (base : Nat) (args : Array Value) (ds gs : List (DataW H)) (before : List MemPlace)
    (hval : ∀ (j : Nat) t v, Try.f6.params[j]? = some t → args[j]? = some v → Value.okWide Try.prog W .any base t v)
    (hW : DataW.Whole enc Try.prog Try.f6.params.toList Rows.redactMoreSpec.vars false W args.toList ds gs before)
    (hm : (DataW.weightsEach Try.prog (Try.f6.params.toList ++ (OpenSpec.ofChange Rows.redactMoreSpec).bare.plain.varTypes Try.prog) (ds ++ gs)).all (· ≤ reachBytes) = true) :
    Calls Try.prog 6 args W fun e W' => ∃ v, e = .returned v ∧ Rows.redactMoreSpec.post enc Try.prog Try.f6 false true false false W args v W' := by
  have hW' := hW
  obtain ⟨p, q, hA0, hV, rfl, hfz, hnd⟩ := hW
  have hA : DataW.TrodAll enc Try.prog W 0 (fun _ => true) true Try.f6.params.toList args.toList ds p := hA0
  rw [Try.params6] at hA hval hm
  obtain ⟨v0, vs0, d0, ds0, p0, q0, hargs, rfl, rfl, h0, r0⟩ := trodAll_cons hA
  obtain ⟨v1, vs1, d1, ds1, p1, q1, rfl, rfl, rfl, h1, r1⟩ := trodAll_cons r0
  obtain ⟨v2, vs2, d2, ds2, p2, q2, rfl, rfl, rfl, h2, r2⟩ := trodAll_cons r1
  obtain ⟨v3, vs3, d3, ds3, p3, q3, rfl, rfl, rfl, h3, r3⟩ := trodAll_cons r2
  obtain ⟨rfl, rfl, rfl⟩ := trodAll_nil r3
  obtain rfl : args = #[v0, v1, v2, v3] := Array.toList_inj.1 hargs
  obtain ⟨rfl, rfl⟩ := trodVars_none hV
  obtain ⟨fuel0, h0⟩ := h0
  have hm0 : ∀ m ∈ d0.weights Try.prog 9, m ≤ reachBytes := fun m hm' => by
    have := List.all_eq_true.1 hm m (by simp [DataW.weightsEach, hm'])
    simpa using this
  obtain ⟨fuel1, h1⟩ := h1
  have hm1 : ∀ m ∈ d1.weights Try.prog 38, m ≤ reachBytes := fun m hm' => by
    have := List.all_eq_true.1 hm m (by simp [DataW.weightsEach, hm'])
    simpa using this
  obtain ⟨fuel2, h2⟩ := h2
  have hm2 : ∀ m ∈ d2.weights Try.prog 9, m ≤ reachBytes := fun m hm' => by
    have := List.all_eq_true.1 hm m (by simp [DataW.weightsEach, hm'])
    simpa using this
  obtain ⟨fuel3, h3⟩ := h3
  have hm3 : ∀ m ∈ d3.weights Try.prog 38, m ≤ reachBytes := fun m hm' => by
    have := List.all_eq_true.1 hm m (by simp [DataW.weightsEach, hm'])
    simpa using this
  clear hm
  obtain ⟨b0, rfl⟩ := okWide_string Try.underlying9 (hval 0 9 v0 rfl rfl)
  obtain ⟨kind, hR0, hs0⟩ := opn_str Try.underlying9 (n := fuel0) _ _ h0 hm0
  obtain ⟨u, us, hu, hR0, hus⟩ := hR0
  have hR0' := Rep.v_eq hR0
  simp only [Value.cells] at hu
  obtain ⟨rfl, rfl⟩ := (List.cons.injEq ..).mp hu
  rw [hR0'] at hval hW' h0 hargs ⊢
  obtain ⟨cs1, rfl, _⟩ := okWide_struct Try.underlying38 (hval 1 38 v1 rfl rfl)
  obtain ⟨v, hR1, hs1⟩ := opn_jv fuel1 _ _ h1 hm1
  obtain ⟨b2, rfl⟩ := okWide_string Try.underlying9 (hval 2 9 v2 rfl rfl)
  obtain ⟨key, hR2, hs2⟩ := opn_str Try.underlying9 (n := fuel2) _ _ h2 hm2
  obtain ⟨u, us, hu, hR2, hus⟩ := hR2
  have hR2' := Rep.v_eq hR2
  simp only [Value.cells] at hu
  obtain ⟨rfl, rfl⟩ := (List.cons.injEq ..).mp hu
  rw [hR2'] at hval hW' h2 hargs ⊢
  obtain ⟨cs3, rfl, _⟩ := okWide_struct Try.underlying38 (hval 3 38 v3 rfl rfl)
  obtain ⟨x, hR3, hs3⟩ := opn_jv fuel3 _ _ h3 hm3
  obtain ⟨us1, rfl⟩ : ∃ us : List Value, cs1 = us.toArray := ⟨cs1.toList, by simp⟩
  simp only [Value.cells] at hR1
  obtain ⟨us3, rfl⟩ : ∃ us : List Value, cs3 = us.toArray := ⟨cs3.toList, by simp⟩
  simp only [Value.cells] at hR3

  refine (c_RedactMore W kind v us1 hR1 key x us3 hR3 ((JV.ok_eq v).1 hs1).2.2.1 (JV.third_len hs1)).mono fun e W1 he => ?_
  cases e with
  | returned v =>
    obtain ⟨rfl, k⟩ := he
    exact ⟨_, rfl, post_true laid (by rfl) (by kernel_rfl) Try.underlying4 (by kernel_rfl) (by rfl) hW' k⟩
  | _ => exact he.elim
theorem reads (os : Os) {H : Type} (enc : TypeId × Value → H) : ∃ places, DataW.whole enc Try.prog ((World.holding Try.prog os ⟨#[], #[], []⟩).forCall (fun _ _ => 0) ⟨#[], #[.string ⟨#[]⟩, .agg #[.int .i64 0, .bool false, .int .i64 0, .string ⟨#[]⟩, .slice none 0 0, .slice none 0 0], .string ⟨#[]⟩, .agg #[.int .i64 0, .bool false, .int .i64 0, .string ⟨#[]⟩, .slice none 0 0, .slice none 0 0]], []⟩).memory Try.f6.params.toList Rows.redactMoreSpec.vars false (#[.string ⟨#[]⟩, .agg #[.int .i64 0, .bool false, .int .i64 0, .string ⟨#[]⟩, .slice none 0 0, .slice none 0 0], .string ⟨#[]⟩, .agg #[.int .i64 0, .bool false, .int .i64 0, .string ⟨#[]⟩, .slice none 0 0, .slice none 0 0]] : Array Value).toList 8 = some ([.lit (.string []), .agg [.lit (.int .i64 0), .lit (.bool false), .lit (.int .i64 0), .lit (.string []), .nil, .nil], .lit (.string []), .agg [.lit (.int .i64 0), .lit (.bool false), .lit (.int .i64 0), .lit (.string []), .nil, .nil]], [], places) :=
  ⟨[], by kernel_rfl⟩
set_option maxRecDepth 100000 in
theorem lifted (os : Os) (started : os.Started) (H : Type) (enc : TypeId × Value → H) (F : Stop.Interp) :
    ReturnsInHanded {} Try.checked os 6 .any ((OpenSpec.ofChange Rows.redactMoreSpec).preRow enc Try.prog Try.f6 Rows.redactMoreRow.domain false Rows.redactMoreRow.laid) (((OpenSpec.ofChange Rows.redactMoreSpec).at F).post enc Try.prog Try.f6 false true false false) := by
  obtain ⟨places, hx⟩ := reads os enc
  refine returnsInHanded_of_row (C := Try.checked) (s := OpenSpec.ofChange Rows.redactMoreSpec) own started (by kernel_rfl) Try.func6
    (witness_row_at (enc := enc) (C := Try.checked) false (World.holding Try.prog os ⟨#[], #[], []⟩) #[.string ⟨#[]⟩, .agg #[.int .i64 0, .bool false, .int .i64 0, .string ⟨#[]⟩, .slice none 0 0, .slice none 0 0], .string ⟨#[]⟩, .agg #[.int .i64 0, .bool false, .int .i64 0, .string ⟨#[]⟩, .slice none 0 0, .slice none 0 0]] rfl (by kernel_rfl) (by kernel_rfl) (by kernel_rfl)
      (OpenSpec.preRow_of_cond 8 hx (by kernel_rfl) (fun k hk => by cases hk) (by kernel_rfl) (laidMet_nil _ _))) ?_
  intro W base args ds gs before hval hW _ _ hm hL _ _
  exact contract H enc W base args ds gs before hval hW hm
theorem said : Rows.RedactMoreSaid :=
  OpenClaim.holds_of_cond 6 Try.f6 rfl rfl rfl rfl rfl rfl rfl ⟨rfl, rfl, rfl, rfl, rfl⟩ rfl rfl rfl rfl rfl (by kernel_rfl) Try.func6 (by kernel_rfl)
    (of_decide_eq_true (by kernel_rfl)) (by unfold Func.isWrapper; first | (rw [if_pos (by decide +kernel)]; kernel_rfl) | (rw [if_neg (by decide +kernel)]; exact ⟨rfl, rfl⟩))
    (fun os started H enc _ F => by rw [OpenClaim.pre_eq_preRow]; exact lifted os started H enc F)
end Go.Proofs.Ytccjjkdogljmpaa.V.RedactMore
namespace Go.Proofs.Ytccjjkdogljmpaa
theorem redactMore_holds : Rows.RedactMoreSaid := Go.Proofs.Ytccjjkdogljmpaa.V.RedactMore.said
end Go.Proofs.Ytccjjkdogljmpaa
