/-
  A part of the proof: members put into a map: rows of seven cells. No condition of its own.
-/
import Derived.Test.YtccjjkdogljmpaaU3
set_option linter.unusedVariables false
set_option linter.unusedSimpArgs false
namespace Go.Proofs.Ytccjjkdogljmpaa.V
open Go
theorem ins_grow7 {n i : Nat} {vs news sc : List Value} (hv : vs.length = n * 7) (hn : news.length = (n + 1 - i) * 7) (hs : sc.length = 7) (hi : i ≤ n) :
    ((vs.take (i * 7) ++ news).take (i * 7) ++ sc ++ (vs.take (i * 7) ++ news).drop ((i + 1) * 7)).take ((i + 1) * 7) ++ (vs.drop (i * 7)).take ((n - i) * 7) ++ ((vs.take (i * 7) ++ news).take (i * 7) ++ sc ++ (vs.take (i * 7) ++ news).drop ((i + 1) * 7)).drop ((i + 1 + (n - i)) * 7) = vs.take (i * 7) ++ sc ++ vs.drop (i * 7) := by
  have h1 : (vs.take (i * 7)).length = i * 7 := by rw [List.length_take]; omega
  have h2 : (vs.take (i * 7) ++ news).take (i * 7) = vs.take (i * 7) := List.take_left' h1
  have h3 : (vs.take (i * 7) ++ sc).length = (i + 1) * 7 := by rw [List.length_append, h1, hs]; omega
  rw [h2]
  have h4 : ((vs.take (i * 7) ++ sc) ++ (vs.take (i * 7) ++ news).drop ((i + 1) * 7)).take ((i + 1) * 7) = vs.take (i * 7) ++ sc := by rw [← h3]; exact List.take_left
  have h5 : ((vs.take (i * 7) ++ sc) ++ (vs.take (i * 7) ++ news).drop ((i + 1) * 7)).drop ((i + 1 + (n - i)) * 7) = [] := List.drop_eq_nil_of_le (by rw [List.length_append, h3, List.length_drop, List.length_append, h1, hn]; omega)
  have h6 : (vs.drop (i * 7)).take ((n - i) * 7) = vs.drop (i * 7) := List.take_of_length_le (by rw [List.length_drop]; omega)
  rw [h4, h5, h6, List.append_nil]
/-- .. in place -/
theorem ins_room7 {n i : Nat} {vs vs' sc : List Value} (hv : vs.length = n * 7) (hv' : vs'.length = (n + 1) * 7) (ht : vs'.take (n * 7) = vs) (hs : sc.length = 7) (hi : i ≤ n) :
    (vs'.take ((i + 1) * 7) ++ (vs'.drop (i * 7)).take ((n - i) * 7) ++ vs'.drop ((i + 1 + (n - i)) * 7)).take (i * 7) ++ sc ++ (vs'.take ((i + 1) * 7) ++ (vs'.drop (i * 7)).take ((n - i) * 7) ++ vs'.drop ((i + 1 + (n - i)) * 7)).drop ((i + 1) * 7) = vs.take (i * 7) ++ sc ++ vs.drop (i * 7) := by
  have h1 : (vs'.take ((i + 1) * 7)).length = (i + 1) * 7 := by rw [List.length_take]; omega
  have h2 : vs'.drop ((i + 1 + (n - i)) * 7) = [] := List.drop_eq_nil_of_le (by omega)
  rw [h2, List.append_nil]
  congr 1
  · congr 1
    rw [List.take_append_of_le_length (by omega), List.take_take, ← ht, List.take_take]
    congr 1
    omega
  · rw [List.drop_left' h1, ← ht, List.drop_take]
    congr 1
    omega

theorem JV.none_m {A : List Nat} {w : World} {m : List (Str × JV)} {n c : Nat} (R : Rep A w (.sl 7 (m.map JV.Dp)) (.slice none n c)) : m = [] := by
  cases m with
  | nil => rfl
  | cons p r =>
    obtain ⟨a, us, h, _⟩ := JV.at_m (i := 0) (p := p) R rfl
    cases h
namespace JV
/-- what Get answers -/
def get (v : JV) (k : Str) : Option JV := if v.kind = 5 then look v.map k else none
/-- a map's members -/
def tbl (v : JV) : List (Str × JV) := if v.kind = 5 then v.map else []
/-- a map -/
def obj (m : List (Str × JV)) : JV := .mk 5 false 0 [] [] m
theorem obj_reps {A : List Nat} {w : World} {m : List (Str × JV)} {am : Option Addr} {cm : Nat} (R : Rep A w (.sl 7 (m.map Dp)) (.slice am m.length cm)) : Reps A w (obj m).D [.int .i64 5, .bool false, .int .i64 0, S [], .slice none 0 0, .slice am m.length cm] :=
  reps_ (v := obj m) (al := none) (cl := 0) Rep.sl_nil R
end JV
theorem posM_put {m : List (Str × JV)} {k : Str} {x : JV} (h : ascM m) : (look m k).isSome = true → putM m k x = m.set (posM m k) (k, x) := fun hs => by
  obtain ⟨y, hy, hk, _⟩ := isM_some h hs
  exact (thereM h hy hk).2 x
theorem posM_ins {m : List (Str × JV)} {k : Str} {x : JV} (h : ascM m) : (look m k).isSome = false → putM m k x = m.take (posM m k) ++ [(k, x)] ++ m.drop (posM m k) := fun hs => (goneM h (isM_none h hs)).2 x
end Go.Proofs.Ytccjjkdogljmpaa.V
