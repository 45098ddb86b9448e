/-
  A part of the proof: a member's value written in place. No condition of its own.
-/
import Derived.Test.YtccjjkdogljmpaaU5
set_option linter.unusedVariables false
set_option linter.unusedSimpArgs false
namespace Go.Proofs.Ytccjjkdogljmpaa.V
open Go
theorem JV.rows_setv {A : List Nat} {w : World} {m : List (Str × JV)} {y : Str × JV} {x : JV} {vs us : List Value} {i : Nat} (h : Reps A w (m.map JV.Dp).flatten vs) (hy : m[i]? = some y) (hx : Reps A w x.D us) :
    Reps A w ((m.set i (y.1, x)).map JV.Dp).flatten (vs.take (i * 7 + 1) ++ us ++ vs.drop (i * 7 + 1 + 6)) := by
  have hi := (List.getElem?_eq_some_iff.1 hy).1
  have h1 := JV.rows_set (p := (y.1, x)) h hi (JV.Dp_reps (p := (y.1, x)) hx)
  have h2 := Reps.row_of_flat (JV.Dp_all m) h i (JV.Dp y) (by simp [hy])
  obtain ⟨u, us', he, h3, _⟩ := h2
  obtain rfl := h3.v_eq
  have h4 : vs[i * 7]? = some (S y.1) := by
    have := congrArg (fun l => l[0]?) he
    simpa [List.getElem?_take, List.getElem?_drop] using this
  have h5 : vs.take (i * 7 + 1) = vs.take (i * 7) ++ [S y.1] := by rw [List.take_add_one, h4]; rfl
  rw [h5, show i * 7 + 1 + 6 = (i + 1) * 7 by omega]
  simpa using h1
theorem JV.obj_repsN {A : List Nat} {w : World} {m : List (Str × JV)} {am : Option Addr} {cm n : Nat} (hn : m.length = n) (R : Rep A w (.sl 7 (m.map JV.Dp)) (.slice am n cm)) : Reps A w (JV.obj m).D [.int .i64 5, .bool false, .int .i64 0, S [], .slice none 0 0, .slice am n cm] := by
  subst hn
  exact JV.obj_reps R
end Go.Proofs.Ytccjjkdogljmpaa.V
