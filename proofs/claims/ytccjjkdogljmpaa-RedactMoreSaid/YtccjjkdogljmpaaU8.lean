/-
  A part of the proof: what stays of a content, as the program and as the document tell it: the same. No condition of its own.
-/
import Derived.Test.YtccjjkdogljmpaaU7
set_option linter.unusedVariables false
set_option linter.unusedSimpArgs false
namespace Go.Proofs.Ytccjjkdogljmpaa.V
open Go
abbrev kCreate : Str := [109, 46, 114, 111, 111, 109, 46, 99, 114, 101, 97, 116, 101]
abbrev kThird : Str := [116, 104, 105, 114, 100, 95, 112, 97, 114, 116, 121, 95, 105, 110, 118, 105, 116, 101]
abbrev kSigned : Str := [115, 105, 103, 110, 101, 100]
abbrev k_member : Str := [109, 46, 114, 111, 111, 109, 46, 109, 101, 109, 98, 101, 114]
abbrev l_member : List Str := [[106, 111, 105, 110, 95, 97, 117, 116, 104, 111, 114, 105, 115, 101, 100, 95, 118, 105, 97, 95, 117, 115, 101, 114, 115, 95, 115, 101, 114, 118, 101, 114], [109, 101, 109, 98, 101, 114, 115, 104, 105, 112]]
abbrev k_join_rules : Str := [109, 46, 114, 111, 111, 109, 46, 106, 111, 105, 110, 95, 114, 117, 108, 101, 115]
abbrev l_join_rules : List Str := [[97, 108, 108, 111, 119], [106, 111, 105, 110, 95, 114, 117, 108, 101]]
abbrev k_power_levels : Str := [109, 46, 114, 111, 111, 109, 46, 112, 111, 119, 101, 114, 95, 108, 101, 118, 101, 108, 115]
abbrev l_power_levels : List Str := [[98, 97, 110], [101, 118, 101, 110, 116, 115], [101, 118, 101, 110, 116, 115, 95, 100, 101, 102, 97, 117, 108, 116], [105, 110, 118, 105, 116, 101], [107, 105, 99, 107], [114, 101, 100, 97, 99, 116], [115, 116, 97, 116, 101, 95, 100, 101, 102, 97, 117, 108, 116], [117, 115, 101, 114, 115], [117, 115, 101, 114, 115, 95, 100, 101, 102, 97, 117, 108, 116]]
abbrev k_history_visibility : Str := [109, 46, 114, 111, 111, 109, 46, 104, 105, 115, 116, 111, 114, 121, 95, 118, 105, 115, 105, 98, 105, 108, 105, 116, 121]
abbrev l_history_visibility : List Str := [[104, 105, 115, 116, 111, 114, 121, 95, 118, 105, 115, 105, 98, 105, 108, 105, 116, 121]]
abbrev k_redaction : Str := [109, 46, 114, 111, 111, 109, 46, 114, 101, 100, 97, 99, 116, 105, 111, 110]
abbrev l_redaction : List Str := [[114, 101, 100, 97, 99, 116, 115]]
def keptK (kind : Str) : List Str :=
  if kind = k_member then l_member else
  if kind = k_join_rules then l_join_rules else
  if kind = k_power_levels then l_power_levels else
  if kind = k_history_visibility then l_history_visibility else
  if kind = k_redaction then l_redaction else
  []
namespace JV
def putG (v : JV) (acc : List (Str × JV)) (k : Str) : List (Str × JV) := match v.get k with
  | some x => putM acc k x
  | none => acc
/-- the members of a content that stay, put one by one -/
def keep (v : JV) (K : List Str) : List (Str × JV) := K.foldl (putG v) []
def third (v : JV) : JV := (v.get kThird).getD nul
def contentM (kind : Str) (v : JV) : List (Str × JV) := match v.third.get kSigned with
  | some y => if kind = k_member then putM (v.keep (keptK kind)) kThird (obj [(kSigned, y)]) else v.keep (keptK kind)
  | none => v.keep (keptK kind)
/-- what the program's Content answers -/
def content (kind : Str) (v : JV) : JV := if kind = kCreate then v else obj (contentM kind v)
def stay0 (kind : Str) (p : Str × JV) : Option (Str × JV) := if p.1 ∈ keptK kind then some p else none
def stay (kind : Str) (p : Str × JV) : Option (Str × JV) :=
  if p.1 = kThird ∧ kind = k_member ∧ p.2.kind = 5 then match look p.2.map kSigned with
    | some y => some (p.1, obj [(kSigned, y)])
    | none => stay0 kind p
  else stay0 kind p
/-- .. and the document's -/
def contentR (kind : Str) (v : JV) : JV := if kind = kCreate then v else if v.kind ≠ 5 then obj [] else obj (v.map.filterMap (stay kind))
end JV
section
variable {β : Type}
theorem look_filterMap {f : Str × β → Option (Str × β)} (hf : ∀ p q, f p = some q → q.1 = p.1) : ∀ {m : List (Str × β)} {k : Str}, ascM m → look (m.filterMap f) k = ((look m k).bind fun x => f (k, x)).map (·.2)
  | [], k, _ => rfl
  | p :: r, k, h => by
    have ih := look_filterMap hf (m := r) (k := k) (List.Pairwise.of_cons h)
    cases hp : f p with
    | none =>
      rw [List.filterMap_cons_none hp, ih]
      by_cases hk : p.1 = k
      · subst hk
        have hn : look r p.1 = none := look_none_of fun j y hy e => by
          have := List.rel_of_pairwise_cons h (List.mem_of_getElem? hy)
          rw [e, bl_irrefl] at this
          cases this
        rw [hn, look, if_pos rfl]
        show _ = Option.map _ (f p)
        rw [hp]
        rfl
      · rw [look, if_neg hk]
    | some q =>
      rw [List.filterMap_cons_some hp, look]
      have hq := hf p q hp
      by_cases hk : p.1 = k
      · subst hk
        rw [if_pos hq, look, if_pos rfl]
        show _ = Option.map _ (f p)
        rw [hp]
        rfl
      · rw [if_neg (by rw [hq]; exact hk), ih, look, if_neg hk]
theorem ascM_filterMap {f : Str × β → Option (Str × β)} (hf : ∀ p q, f p = some q → q.1 = p.1) {m : List (Str × β)} (h : ascM m) : ascM (m.filterMap f) := by
  unfold ascM at h ⊢
  rw [List.pairwise_filterMap]
  refine h.imp ?_
  intro a b hab c hc d hd
  rw [hf a c hc, hf b d hd]
  exact hab
end
namespace JV
theorem stay0_key {kind : Str} {p q : Str × JV} (h : stay0 kind p = some q) : q.1 = p.1 := by
  unfold stay0 at h
  split at h
  · injection h with h; rw [h]
  · cases h
theorem stay_key (kind : Str) (p q : Str × JV) (h : stay kind p = some q) : q.1 = p.1 := by
  unfold stay at h
  split at h
  · split at h
    · injection h with h; rw [← h]
    · exact stay0_key h
  · exact stay0_key h
theorem putG_asc {v : JV} {a : List (Str × JV)} {k : Str} (h : ascM a) : ascM (putG v a k) := by
  unfold putG
  split
  · exact ascM_put h
  · exact h
theorem foldG_asc {v : JV} : ∀ {K : List Str} {a : List (Str × JV)}, ascM a → ascM (K.foldl (putG v) a)
  | [], a, h => h
  | k :: K, a, h => foldG_asc (K := K) (a := putG v a k) (putG_asc h)
theorem keep_asc (v : JV) (K : List Str) : ascM (v.keep K) := foldG_asc List.Pairwise.nil
theorem look_putG {v : JV} {a : List (Str × JV)} {k k' : Str} : look (putG v a k) k' = if k' = k then (v.get k).or (look a k') else look a k' := by
  unfold putG
  cases h : v.get k with
  | none => simp
  | some x =>
    simp only [look_put]
    by_cases hk : k' = k <;> simp [hk]
theorem look_foldG {v : JV} {k' : Str} : ∀ {K : List Str} {a : List (Str × JV)}, look (K.foldl (putG v) a) k' = if k' ∈ K then (v.get k').or (look a k') else look a k'
  | [], a => by simp
  | k :: K, a => by
    rw [List.foldl_cons, look_foldG, look_putG]
    by_cases hk : k' = k
    · subst hk
      by_cases h : k' ∈ K <;> simp [h]
      cases v.get k' <;> simp
    · by_cases h : k' ∈ K <;> simp [h, hk]
theorem look_keep {v : JV} {k' : Str} {K : List Str} : look (v.keep K) k' = if k' ∈ K then v.get k' else none := by
  rw [keep, look_foldG]
  simp [look]
theorem third_not (kind : Str) : kThird ∉ keptK kind := by
  unfold keptK
  repeat' split
  all_goals decide
theorem content_eq {kind : Str} {v : JV} (h : ascM v.map) : content kind v = contentR kind v := by
  unfold content contentR
  split
  · rfl
  · by_cases h5 : v.kind = 5
    · rw [if_neg (by simp [h5])]
      congr 1
      refine ascM_ext ?_ (ascM_filterMap (stay_key kind) h) fun k => ?_
      · unfold contentM
        split
        · split
          · exact ascM_put (keep_asc _ _)
          · exact keep_asc _ _
        · exact keep_asc _ _
      · rw [look_filterMap (stay_key kind) h]
        have hg : ∀ k, v.get k = look v.map k := fun k => by simp [JV.get, h5]
        have hk0 : ∀ x, (stay0 kind (k, x)).map (·.2) = if k ∈ keptK kind then some x else none := fun x => by
          unfold stay0
          split <;> simp_all
        have hkeep : look (v.keep (keptK kind)) k = (look v.map k).bind fun x => (stay0 kind (k, x)).map (·.2) := by
          rw [look_keep, hg]
          cases look v.map k with
          | none => simp
          | some x => simp only [Option.bind_some, hk0]
        by_cases hkt : k = kThird
        · subst hkt
          cases hl : look v.map kThird with
          | none =>
            have ht : v.third.get kSigned = none := by simp [third, hg, hl, JV.get, nul, JV.kind]
            simp only [contentM, ht, hkeep, hl]
            rfl
          | some x =>
            have ht : v.third = x := by simp [third, hg, hl]
            have hx : v.third.get kSigned = if x.kind = 5 then look x.map kSigned else none := by rw [ht]; rfl
            simp only [Option.bind_some]
            by_cases hx5 : x.kind = 5
            · rw [if_pos hx5] at hx
              cases hy : look x.map kSigned with
              | none =>
                rw [hy] at hx
                have hs : stay kind (kThird, x) = stay0 kind (kThird, x) := by
                  unfold stay
                  split
                  · simp [hy]
                  · rfl
                simp only [contentM, hx, hkeep, hl, hs]
                rfl
              | some y =>
                rw [hy] at hx
                by_cases hm : kind = k_member
                · have hs : stay kind (kThird, x) = some (kThird, obj [(kSigned, y)]) := by
                    unfold stay
                    rw [if_pos ⟨rfl, hm, hx5⟩]
                    simp [hy]
                  simp only [contentM, hx, if_pos hm, look_put, hs]
                  simp
                · have hs : stay kind (kThird, x) = stay0 kind (kThird, x) := by
                    unfold stay
                    rw [if_neg (fun e => hm e.2.1)]
                  simp only [contentM, hx, if_neg hm, hkeep, hl, hs]
                  rfl
            · rw [if_neg hx5] at hx
              have hs : stay kind (kThird, x) = stay0 kind (kThird, x) := by
                unfold stay
                rw [if_neg (fun e => hx5 e.2.2)]
              simp only [contentM, hx, hkeep, hl, hs]
              rfl
        · have hs : ∀ x, stay kind (k, x) = stay0 kind (k, x) := fun x => by
            unfold stay
            rw [if_neg (fun e => hkt e.1)]
          have hc : look (contentM kind v) k = look (v.keep (keptK kind)) k := by
            unfold contentM
            split
            · split
              · rw [look_put, if_neg hkt]
              · rfl
            · rfl
          rw [hc, hkeep]
          cases look v.map k with
          | none => simp
          | some x => simp only [Option.bind_some, hs]
    · rw [if_pos h5]
      have hg : ∀ k, v.get k = none := fun k => by simp [JV.get, h5]
      have ht : v.third.get kSigned = none := by
        have : v.third = nul := by simp [third, hg]
        rw [this]
        simp [JV.get, nul, JV.kind]
      have hK : ∀ K : List Str, v.keep K = [] := fun K => by
        refine ascM_ext (keep_asc v K) List.Pairwise.nil fun k => ?_
        rw [look_keep, hg]
        simp [look]
      congr 1
      simp [contentM, ht, hK]
/-- members that don't stay may be added -/
theorem content_more {kind k : Str} {v x : JV} (h5 : v.kind = 5) (hc : kind ≠ kCreate) (hk : k ∉ keptK kind) (ht : k ≠ kThird) : content kind (obj (putM v.map k x)) = content kind v := by
  have hg : ∀ k', k' ≠ k → (obj (putM v.map k x)).get k' = v.get k' := fun k' hne => by
    have h1 : (obj (putM v.map k x)).get k' = look (putM v.map k x) k' := by simp [JV.get, obj, JV.kind, JV.map]
    rw [h1, look_put, if_neg hne]
    simp [JV.get, h5]
  have hG : ∀ k' ∈ keptK kind, ∀ a, putG (obj (putM v.map k x)) a k' = putG v a k' := fun k' hk' a => by
    unfold putG
    rw [hg k' (fun e => hk (e ▸ hk'))]
  have hK : ∀ (K : List Str) (a : List (Str × JV)), (∀ k' ∈ K, k' ∈ keptK kind) → K.foldl (putG (obj (putM v.map k x))) a = K.foldl (putG v) a := fun K => by
    induction K with
    | nil => intro a _; rfl
    | cons k' K ih =>
      intro a hs
      rw [List.foldl_cons, List.foldl_cons, hG k' (hs k' (by simp)), ih _ fun q hq => hs q (by simp [hq])]
  have hkeep : (obj (putM v.map k x)).keep (keptK kind) = v.keep (keptK kind) := hK _ _ fun _ h => h
  have hth : (obj (putM v.map k x)).third = v.third := by
    unfold third
    rw [hg kThird (Ne.symm ht)]
  unfold content contentM
  rw [if_neg hc, if_neg hc, hkeep, hth]
end JV
end Go.Proofs.Ytccjjkdogljmpaa.V
