/-
  A part of the proof: JSON values: what they stand for in memory, and what Same, rises, Get and Find say of them, in plain Lean. No condition of its own.
-/
import Derived.Test.YtccjjkdogljmpaaT0
import Derived.Test.YtccjjkdogljmpaaVI
import Derived.Test.YtccjjkdogljmpaaTA
set_option linter.unusedVariables false
set_option linter.unusedSimpArgs false
namespace Go.Proofs.Ytccjjkdogljmpaa.V
open Go
inductive JV where
  | mk (k : Int) (b : Bool) (n : Int) (s : List UInt8) (l : List JV) (m : List (List UInt8 × JV))
namespace JV
def kind : JV → Int | .mk k _ _ _ _ _ => k
def is : JV → Bool | .mk _ b _ _ _ _ => b
def num : JV → Int | .mk _ _ n _ _ _ => n
def str : JV → List UInt8 | .mk _ _ _ s _ _ => s
def list : JV → List JV | .mk _ _ _ _ l _ => l
def map : JV → List (List UInt8 × JV) | .mk _ _ _ _ _ m => m
theorem eta (v : JV) : v = .mk v.kind v.is v.num v.str v.list v.map := by cases v; rfl
mutual
def D : JV → List Go.Proofs.Ytccjjkdogljmpaa.V.D
  | .mk k b n s l m => [.v (.int .i64 k), .v (.bool b), .v (.int .i64 n), .v (S s), .sl 6 (Dl l), .sl 7 (Dm m)]
def Dl : List JV → List (List Go.Proofs.Ytccjjkdogljmpaa.V.D)
  | [] => []
  | v :: r => v.D :: Dl r
def Dm : List (List UInt8 × JV) → List (List Go.Proofs.Ytccjjkdogljmpaa.V.D)
  | [] => []
  | p :: r => (.v (S p.1) :: p.2.D) :: Dm r
end
abbrev Dp (p : List UInt8 × JV) : List Go.Proofs.Ytccjjkdogljmpaa.V.D := .v (S p.1) :: p.2.D
theorem Dl_eq : ∀ l : List JV, Dl l = l.map D
  | [] => rfl
  | v :: r => by simp [Dl, Dl_eq r]
theorem Dm_eq : ∀ m : List (List UInt8 × JV), Dm m = m.map Dp
  | [] => rfl
  | v :: r => by simp [Dm, Dm_eq r]
theorem D_eq (v : JV) : v.D = [.v (.int .i64 v.kind), .v (.bool v.is), .v (.int .i64 v.num), .v (S v.str), .sl 6 (v.list.map D), .sl 7 (v.map.map Dp)] := by
  cases v
  simp [D, kind, is, num, str, list, map, Dl_eq, Dm_eq]
theorem D_len (v : JV) : v.D.length = 6 := by rw [D_eq]; rfl
theorem Dp_len (p : List UInt8 × JV) : (Dp p).length = 7 := by simp [D_len]
mutual
/-- how many values stand in it -/
def sz : JV → Nat
  | .mk _ _ _ _ l m => 1 + szl l + szm m
def szl : List JV → Nat
  | [] => 0
  | v :: r => v.sz + szl r
def szm : List (List UInt8 × JV) → Nat
  | [] => 0
  | p :: r => p.2.sz + szm r
end
theorem sz_list {l : List JV} {v : JV} (h : v ∈ l) : v.sz ≤ szl l := by
  induction l with
  | nil => cases h
  | cons a r ih =>
    simp only [szl]
    rcases List.mem_cons.1 h with rfl | h
    · omega
    · have := ih h; omega
theorem sz_map {l : List (List UInt8 × JV)} {p : List UInt8 × JV} (h : p ∈ l) : p.2.sz ≤ szm l := by
  induction l with
  | nil => cases h
  | cons a r ih =>
    simp only [szm]
    rcases List.mem_cons.1 h with rfl | h
    · omega
    · have := ih h; omega
theorem sz_eq (v : JV) : v.sz = 1 + szl v.list + szm v.map := by cases v; simp [sz, list, map]
theorem sz_in_list {v x : JV} (h : x ∈ v.list) : x.sz < v.sz := by have := sz_list h; rw [sz_eq v]; omega
theorem sz_in_map {v : JV} {p : List UInt8 × JV} (h : p ∈ v.map) : p.2.sz < v.sz := by have := sz_map h; rw [sz_eq v]; omega
mutual
/-- all lists and texts in it are no longer than memory -/
def ok : JV → Prop
  | .mk k b n s l m => s.length ≤ 140737488351232 ∧ l.length ≤ 1599289640400 ∧ m.length ≤ 1353245080300 ∧ okl l ∧ okm m
def okl : List JV → Prop
  | [] => True
  | v :: r => v.ok ∧ okl r
def okm : List (List UInt8 × JV) → Prop
  | [] => True
  | p :: r => (p.1.length ≤ 140737488351232 ∧ p.2.ok) ∧ okm r
end
theorem okl_mem : ∀ {l : List JV}, okl l ↔ ∀ v ∈ l, v.ok
  | [] => by simp [okl]
  | v :: r => by simp [okl, okl_mem (l := r)]
theorem okm_mem : ∀ {l : List (List UInt8 × JV)}, okm l ↔ ∀ p ∈ l, p.1.length ≤ 140737488351232 ∧ p.2.ok
  | [] => by simp [okm]
  | v :: r => by simp [okm, okm_mem (l := r)]
theorem ok_eq (v : JV) : v.ok ↔ v.str.length ≤ 140737488351232 ∧ v.list.length ≤ 1599289640400 ∧ v.map.length ≤ 1353245080300 ∧ (∀ x ∈ v.list, x.ok) ∧ ∀ p ∈ v.map, p.1.length ≤ 140737488351232 ∧ p.2.ok := by
  cases v
  simp [ok, str, list, map, okl_mem, okm_mem]
end JV
end Go.Proofs.Ytccjjkdogljmpaa.V
