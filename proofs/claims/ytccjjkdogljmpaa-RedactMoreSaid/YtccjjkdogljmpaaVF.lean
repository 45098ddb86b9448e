/-
  A part of the proof: behind the call: true, and each argument reads as it did, where nothing that was there has turned. No condition of its own.
-/
import Derived.Test.YtccjjkdogljmpaaVE
import Derived.ProofKit
import Derived.Carry
import Derived.WalkKit
set_option linter.unusedVariables false
set_option linter.unusedSimpArgs false
namespace Go.Proofs.Ytccjjkdogljmpaa.V
open Go Go.ChangeShapes Go.WideShapes Go.RowKit
section
variable {H : Type} {enc : TypeId × Value → H} {P : Program} {W W' : World}
theorem trodAll_later (hl : laidOutB P = true) (k : Mod [] W W') : ∀ {ts : List TypeId} {vs : List Value} {ds : List (DataW H)} {ps : List MemPlace}, (ts.all fun t => P.readableRec t && decide (t < P.types.size)) = true →
    DataW.TrodAll enc P W 0 (fun _ => true) true ts vs ds ps → (∀ p ∈ ps, p.block < W.heap.size) → DataW.TrodAll enc P W' 0 (fun b => decide (b < W.heap.size)) true ts vs ds ps
  | [], vs, ds, ps, _, h, _ => by
    obtain ⟨rfl, rfl, rfl⟩ := trodAll_nil h
    exact trodAll_mk0
  | t :: ts, vs, ds, ps, hr, h, hp => by
    obtain ⟨v, vs1, d, ds1, a, b, rfl, rfl, rfl, h1, h2⟩ := trodAll_cons h
    simp only [List.all_cons, Bool.and_eq_true, decide_eq_true_eq] at hr
    have ha : ∀ p ∈ a, p.block < W.heap.size := fun p hp' => hp p (List.mem_append_left _ hp')
    exact trodAll_cons_mk (Below.trod hl hr.1.1 hr.1.2 h1 k.below ha) (trodAll_later hl k hr.2 h2 fun p hp' => hp p (List.mem_append_right _ hp'))
theorem Mod.keptBut (k : Mod [] W W') (S : MemPlace → Prop) : W.keptBut W' S := by
  refine ⟨k.os, k.output, fun i hi => ?_⟩
  rw [k.block i hi (by simp)]
  cases h : W.heap[i]? with
  | none => rfl
  | some o => cases o <;> simp
/-- what a law's row asks behind the call -/
theorem post_true (hl : laidOutB P = true) {f : Func} {s : ChangeSpec} {t : TypeId} {args : Array Value} {ds : List (DataW H)} {before : List MemPlace} (hs : s.vars = []) (hr : f.resultTypes = #[t]) (ht : P.underlying t = some .bool)
    (hrow : (f.params.toList.all fun t => P.readableRec t && decide (t < P.types.size)) = true) (hspec : s.fn H ds = { results := [.lit (.bool true)], args := ds })
    (hW : DataW.Whole enc P f.params.toList s.vars false W args.toList ds [] before) (k : Mod [] W W') : s.post enc P f false true false false W args (.bool true) W' := by
  have hlt := hW.lt
  have hW0 := hW
  obtain ⟨p, q, hA, hV, rfl, hfz, hnd⟩ := hW
  rw [hs] at hV
  obtain ⟨_, rfl⟩ := trodVars_none hV
  have hlen : f.resultTypes.size = 1 := by rw [hr]; rfl
  refine ⟨ds, [], _, [], p, [], hW0, ?_, ?_, ?_, k.keptBut _, fun h => by cases h⟩
  · rw [List.append_nil, hspec, hlen, hr]
    exact trodAll_cons_mk (shut_bool ht true) trodAll_mk0
  · rw [List.append_nil, hspec]
    exact trodAll_later hl k hrow hA fun p hp => by simpa using hlt p (List.mem_append_left _ hp)
  · rw [List.append_nil, hspec, hs]
    exact rfl
end
end Go.Proofs.Ytccjjkdogljmpaa.V
