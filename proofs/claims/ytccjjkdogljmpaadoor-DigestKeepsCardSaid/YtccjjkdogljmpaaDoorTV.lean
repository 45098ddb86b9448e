/-
  A part of the proof: the reference's digest is the digest. No condition of its own.
-/
import Derived.Test.YtccjjkdogljmpaaDoorTW
set_option linter.unusedVariables false
set_option linter.unusedSimpArgs false
namespace Go.Proofs.YtccjjkdogljmpaaDoor.V
open Go
theorem sch_pre {b b' : List UInt8} (h : b.take 64 = b'.take 64) : ∀ i, sch b i = sch b' i
  | 0 => rfl
  | i + 1 => by
    have hi := sch_pre h i
    by_cases h16 : i < 16
    · have h1 : ∀ c : List UInt8, (c.drop (4 * i)).take 4 = ((c.take 64).drop (4 * i)).take 4 := by
        intro c
        rw [List.drop_take, List.take_take]
        congr 1
        omega
      simp only [sch, if_pos h16, hi]
      rw [h1 b, h1 b', h]
    · simp only [sch, if_neg h16, hi]
theorem comp_pre {s : S8} {b b' : List UInt8} (h : b.take 64 = b'.take 64) : comp s b = comp s b' := by
  rw [comp, comp, sch_pre h]
theorem comp_take (s : S8) (b : List UInt8) : comp s (b.take 64) = comp s b := comp_pre (by rw [List.take_take]; rfl)
theorem abs64_pre {s : S8} {l p : List UInt8} : ∀ {k : Nat}, 64 * k ≤ l.length → abs64 s (l ++ p) k = abs64 s l k
  | 0, _ => rfl
  | k + 1, h => by
    rw [abs64, abs64, abs64_pre (by omega)]
    refine comp_pre ?_
    rw [List.drop_append_of_le_length (by omega), List.take_append_of_le_length (by rw [List.length_drop]; omega)]
theorem abs64_add {s : S8} {l : List UInt8} {k : Nat} : ∀ {m : Nat}, abs64 s l (k + m) = abs64 (abs64 s l k) (l.drop (64 * k)) m
  | 0 => rfl
  | m + 1 => by
    rw [show k + (m + 1) = (k + m) + 1 from rfl, abs64, abs64, abs64_add, List.drop_drop]
    congr 2
    omega
theorem padL_mod {m m' n : Nat} (h : m % 64 = m' % 64) : padL m n = padL m' n := by
  rw [padL, padL, padz, padz, h]
theorem sha_eq (b : List UInt8) : outB (abs64 s8of (b ++ padL b.length b.length) ((b ++ padL b.length b.length).length / 64)) 32 = sha b := by
  have hk : 64 * (b.length / 64) ≤ b.length := by omega
  have hp : padL (b.drop (64 * (b.length / 64))).length b.length = padL b.length b.length := padL_mod (by rw [List.length_drop]; omega)
  rw [sha, fin64, hp]
  congr 1
  have hd : (b ++ padL b.length b.length).drop (64 * (b.length / 64)) = b.drop (64 * (b.length / 64)) ++ padL b.length b.length := List.drop_append_of_le_length hk
  rw [← hd, ← abs64_pre (p := padL b.length b.length) hk, ← abs64_add]
  congr 1
  rw [List.length_drop]
  have : b.length ≤ (b ++ padL b.length b.length).length := by rw [List.length_append]; omega
  omega
theorem flat_B8 (l : List UInt8) : (l.map bcells).flatten = l.map B8 := by
  induction l with
  | nil => rfl
  | cons x l ih => simp [ih]
section
variable {P : Program} {l : List (Nat × Value)} {w : World} {ty : TypeId} {pos : String} {af : Array Edge}
variable {dd : Option Nat} {gg : Option (Nat × Bool)} {x y : Operand} {t : TypeId}
theorem o_slft {ad : Option Addr} {c c' e sz by_ lo hi : Nat} {h h' : Operand} (ht : slB P t e sz by_ = true) (hx : evO l x = some (.slice ad c c')) (hl : evO l h = some (.int .i64 (lo : Int))) (hh : evO l h' = some (.int .i64 (hi : Int))) (hb : lo ≤ hi ∧ hi ≤ c') (hc : c ≤ c') :
    Runs P l ⟨dd, .slice t x (some h) (some h') none, ty, pos, af, gg⟩ w (.slice (adS ad c' lo sz) (hi - lo) (c' - lo)) w := by
  have := o_sl (P := P) (w := w) (dd := dd) (ty := ty) (pos := pos) (af := af) (gg := gg) ht hx (lo := some h) (pl := some (.i64, (lo : Int))) (hi := some h') (ph := some (.i64, (hi : Int))) (by simp [evS, hl]) (by simp [evS, hh]) (by simp only [loV, hiV]; omega) hc
  refine this.to ?_
  simp [loV, hiV]
end
theorem Own.block {w : World} {e c i : Nat} {ad : Option Addr} {t : List UInt8} (h : Own w e 1 (.slice ad t.length c) t.length ((t.map bcells).flatten)) (hi : 64 * i + 64 ≤ t.length) : Rep [] w (byD ((t.drop (64 * i)).take 64)) (.slice (adS ad c (64 * i) 1) (64 * i + 64 - 64 * i) (c - 64 * i)) := by
  have h1 := h.cut (lo := 64 * i) (hi := 64 * i + 64) (by omega) hi
  have h2 := flat_drop_ (cells := bcells) (sz := 1) (xs := t) (fun _ => rfl) (64 * i)
  have h3 := flat_take_ (cells := bcells) (sz := 1) (xs := t.drop (64 * i)) (fun _ => rfl) (64 * i + 64 - 64 * i)
  rw [h2, h3] at h1
  have h4 : 64 * i + 64 - 64 * i = 64 := by omega
  rw [h4] at h1 ⊢
  exact Own.byts [] h1 (by rw [List.length_take, List.length_drop]; omega) (by simp)
end Go.Proofs.YtccjjkdogljmpaaDoor.V
