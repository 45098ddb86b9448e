/-
  A part of the proof: Content, told arm by arm. No condition of its own.
-/
import Derived.Test.YtccjjkdogljmpaaU9
set_option linter.unusedVariables false
set_option linter.unusedSimpArgs false
namespace Go.Proofs.Ytccjjkdogljmpaa.V
open Go
namespace JV
variable {kind : Str} {v : JV}
def kf (v : JV) (K : List Str) (k : Nat) : List (Str × JV) := (K.take k).foldl (putG v) []
theorem kf_asc {K : List Str} {k : Nat} : ascM (v.kf K k) := foldG_asc List.Pairwise.nil
theorem kf_succ {K : List Str} {k : Nat} {q : Str} (h : K[k]? = some q) : v.kf K (k + 1) = putG v (v.kf K k) q := by
  have hlt := (List.getElem?_eq_some_iff.1 h).1
  rw [kf, List.take_succ_eq_append_getElem hlt, (List.getElem?_eq_some_iff.1 h).2, List.foldl_append]
  rfl
theorem kf_yes {K : List Str} {k : Nat} {q : Str} (h : K[k]? = some q) (hs : (v.get q).isSome = true) : v.kf K (k + 1) = putM (v.kf K k) q ((v.get q).getD nul) := by
  rw [kf_succ h, putG]
  cases hg : v.get q with
  | none => rw [hg] at hs; cases hs
  | some x => rfl
theorem kf_no {K : List Str} {k : Nat} {q : Str} (h : K[k]? = some q) (hs : (v.get q).isSome = false) : v.kf K (k + 1) = v.kf K k := by
  rw [kf_succ h, putG]
  cases hg : v.get q with
  | none => rfl
  | some x => rw [hg] at hs; cases hs
theorem kf_all {K : List Str} {k : Nat} (h : K.length ≤ k) : v.kf K k = v.keep K := by rw [kf, List.take_of_length_le h]; rfl
theorem kf_len {K : List Str} {k : Nat} : (v.kf K k).length ≤ k := by
  induction k with
  | zero => simp [kf]
  | succ k ih =>
    rcases Nat.lt_or_ge k K.length with h | h
    · rw [kf_succ (List.getElem?_eq_getElem h), putG]
      split
      · have := putM_len (k := K[k]) (x := ‹JV›) (kf_asc (v := v) (K := K) (k := k))
        omega
      · omega
    · have : v.kf K (k + 1) = v.kf K k := by rw [kf_all h, kf_all (by omega)]
      rw [this]
      omega
theorem kept_len (kind : Str) : (keptK kind).length ≤ 9 := by
  unfold keptK
  repeat' split
  all_goals simp
theorem putAll_one (k : Str) (y : JV) : putAll [(k, y)] 1 = [(k, y)] := by simp [putAll, putM]
theorem content_yes (hc : ¬ kind = kCreate) (hs : (v.third.get kSigned).isSome = true) (hm : kind = k_member) : content kind v = obj (putM (v.keep (keptK kind)) kThird (obj (putAll [(kSigned, (v.third.get kSigned).getD nul)] 1))) := by
  rw [putAll_one]
  unfold content contentM
  rw [if_neg hc]
  cases hg : v.third.get kSigned with
  | none => rw [hg] at hs; cases hs
  | some y => simp only [if_pos hm, Option.getD_some]
theorem content_no1 (hc : ¬ kind = kCreate) (hs : (v.third.get kSigned).isSome = false) : content kind v = obj (v.keep (keptK kind)) := by
  unfold content contentM
  rw [if_neg hc]
  cases hg : v.third.get kSigned with
  | none => rfl
  | some y => rw [hg] at hs; cases hs
theorem content_no2 (hc : ¬ kind = kCreate) (hm : ¬ kind = k_member) : content kind v = obj (v.keep (keptK kind)) := by
  unfold content contentM
  rw [if_neg hc]
  cases hg : v.third.get kSigned with
  | none => rfl
  | some y => simp only [if_neg hm]
theorem get_mem {k : Str} {x : JV} (h : v.get k = some x) : (k, x) ∈ v.map := by
  unfold JV.get at h
  split at h
  · exact look_some h
  · cases h
theorem third_ok (h : v.ok) (hr : v.Rise) : v.third.map.length ≤ 1353245080300 ∧ ascM v.third.map := by
  unfold third
  cases hg : v.get kThird with
  | none => exact ⟨by simp [nul, map], List.Pairwise.nil⟩
  | some x =>
    have hm := get_mem hg
    exact ⟨((ok_eq x).1 (((ok_eq v).1 h).2.2.2.2 _ hm).2).2.2.1, ((Rise_eq x).1 (((Rise_eq v).1 hr).2.2 _ hm)).1⟩
end JV
end Go.Proofs.Ytccjjkdogljmpaa.V
