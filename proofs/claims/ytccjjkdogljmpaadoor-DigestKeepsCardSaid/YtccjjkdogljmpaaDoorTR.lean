/-
  A part of the proof: bytes given piece by piece. No condition of its own.
-/
import Derived.Test.YtccjjkdogljmpaaDoorTS
import Derived.Stop.BytesEq
set_option linter.unusedVariables false
set_option linter.unusedSimpArgs false
namespace Go.Proofs.YtccjjkdogljmpaaDoor.V
open Go
theorem abs64_join {s : S8} {l p : List UInt8} {K k : Nat} (h : 64 * K ≤ l.length) : abs64 (abs64 s l K) (l.drop (64 * K) ++ p) k = abs64 s (l ++ p) (K + k) := by
  rw [abs64_add, abs64_pre h, List.drop_append_of_le_length h]
theorem drop_join {l p : List UInt8} {K k : Nat} (h : 64 * K ≤ l.length) : (l.drop (64 * K) ++ p).drop (64 * k) = (l ++ p).drop (64 * (K + k)) := by
  rw [← List.drop_append_of_le_length h, List.drop_drop]
  congr 1
  omega
/-- what Sum answers of a Hash to which 'l' was given -/
theorem sha_sum {l : List UInt8} {K : Nat} (h1 : 64 * K ≤ l.length) (h2 : l.length < 64 * K + 64) : outB (fin64 (abs64 s8of l K) (l.drop (64 * K)) l.length) 32 = sha l := by
  have : K = l.length / 64 := by omega
  subst this
  rfl
section
variable {P : Program} {l : List (Nat × Value)} {w : World} {ty : TypeId} {pos : String} {af : Array Edge}
variable {dd : Option Nat} {gg : Option (Nat × Bool)} {x y : Operand} {t t' : TypeId}
theorem cell_B8 (xs : List UInt8) : xs.map Extern.Stop.cell = xs.map B8 := by
  congr 1
theorem o_areq {n e sz : Nat} {xs ys : List UInt8} (ht : arB P t n e sz = true) (he : P.underlying e = some (.int .u8)) (hsz : sz = 1) (hg : P.eqGuardType P.depth t = false) (hx : evO l x = some (.agg (xs.map B8).toArray)) (hy : evO l y = some (.agg (ys.map B8).toArray)) (h1 : xs.length = n) (h2 : ys.length = n) :
    Runs P l ⟨dd, .binOp .eql t x y t', ty, pos, af, gg⟩ w (.bool (xs == ys)) w := fun ρ h => by
  obtain ⟨i, h3, h4, h5⟩ := arB_spec ht
  have hr := run_equalIn_bytes (P := P) w 9998 t e n h3 he (fun w' => (run_sizeOf_of h4).trans (by rw [h5, hsz])) xs ys h1 h2
  rw [cell_B8, cell_B8] at hr
  have h6 := run_eqGuard_agg (P := P) w .eql t x y (xs.map B8).toArray (ys.map B8).toArray hg
  have h7 := run_eql_struct (P := P) w t (xs.map B8).toArray (ys.map B8).toArray
  rw [show (10000 : Nat) = 9998 + 2 from rfl, hr] at h7
  simp [execOp, h _ _ hx, h _ _ hy, h6, h7]
theorem o_arne {n e sz : Nat} {xs ys : List UInt8} (ht : arB P t n e sz = true) (he : P.underlying e = some (.int .u8)) (hsz : sz = 1) (hg : P.eqGuardType P.depth t = false) (hx : evO l x = some (.agg (xs.map B8).toArray)) (hy : evO l y = some (.agg (ys.map B8).toArray)) (h1 : xs.length = n) (h2 : ys.length = n) :
    Runs P l ⟨dd, .binOp .neq t x y t', ty, pos, af, gg⟩ w (.bool (!(xs == ys))) w := fun ρ h => by
  obtain ⟨i, h3, h4, h5⟩ := arB_spec ht
  have hr := run_equalIn_bytes (P := P) w 9998 t e n h3 he (fun w' => (run_sizeOf_of h4).trans (by rw [h5, hsz])) xs ys h1 h2
  rw [cell_B8, cell_B8] at hr
  have h6 := run_eqGuard_agg (P := P) w .neq t x y (xs.map B8).toArray (ys.map B8).toArray hg
  have h7 := run_neq_struct (P := P) w t (xs.map B8).toArray (ys.map B8).toArray
  rw [show (10000 : Nat) = 9998 + 2 from rfl, hr] at h7
  simp [execOp, h _ _ hx, h _ _ hy, h6, h7]
end
abbrev psD (ps : List (List UInt8)) : D := .sl 1 (ps.map fun p => [byD p])
theorem ps_len {A : List Nat} {w : World} {ps : List (List UInt8)} {v : Value} (h : Rep A w (psD ps) v) : ∃ ad c, v = .slice ad ps.length c ∧ ps.length ≤ c ∧ c ≤ 9223372036854775807 := by
  simp only [Rep, List.length_map] at h
  obtain ⟨ad, c, h1, h2, h3, _⟩ := h
  exact ⟨ad, c, h1, h2, by simp only [maxLen] at h3; omega⟩
theorem ps_at {A : List Nat} {w : World} {ps : List (List UInt8)} {p : List UInt8} {ad : Option Addr} {n c k : Nat} (h : Rep A w (psD ps) (.slice ad n c)) (hk : ps[k]? = some p) : ∃ a adp cp, ad = some a ∧ w.cell? (a.add (k * 1)) = some (.slice adp p.length cp) ∧ Rep A w (byD p) (.slice adp p.length cp) ∧ p.length ≤ cp ∧ cp ≤ 9223372036854775807 := by
  obtain ⟨a, us, ha, hus, hl, hcs, _⟩ := Rep.at_ (i := k) h (r := [byD p]) (by simp [hk])
  obtain ⟨u, us2, rfl, hRp, h2⟩ := hus
  obtain ⟨adp, cp, rfl, h3, h4⟩ := flat_len hRp
  exact ⟨a, adp, cp, ha, hcs.first, hRp, h3, h4⟩
def allP (ps : List (List UInt8)) (k : Nat) : List UInt8 := (ps.take k).flatten
theorem allP_succ {ps : List (List UInt8)} {k : Nat} {p : List UInt8} (h : ps[k]? = some p) : allP ps (k + 1) = allP ps k ++ p := by
  have hlt := (List.getElem?_eq_some_iff.1 h).1
  rw [allP, List.take_succ_eq_append_getElem hlt, (List.getElem?_eq_some_iff.1 h).2, List.flatten_append]
  simp [allP]
theorem cell_to0 {w w' : World} {a : Addr} {v : Value} (h : w.cell? a = some v) (k : Mod [] w w') : w'.cell? a = some v := by
  have h0 : Cs w a [v] := fun j u hu => by
    cases j with
    | zero => simp at hu; subst hu; rw [Addr.add_zero']; exact h
    | succ j => simp at hu
  exact (h0.mod0 k).first
end Go.Proofs.YtccjjkdogljmpaaDoor.V
