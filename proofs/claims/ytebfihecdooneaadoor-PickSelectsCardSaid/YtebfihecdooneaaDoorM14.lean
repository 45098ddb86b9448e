/-
  A part of the proof: a slice that is read, as the source of an append, in every later world alike; a member's value written in place; members put one by one; what stays of a content, as the program and as the document tell it: the same; lists of texts that are built; strings the other way round; the pairs by which an event is allowed: the program's way and the document's way are the same; the rest of a slice of the call's own is cleared. No condition of its own.
-/
import Derived.Test.YtebfihecdooneaaDoorM5
import Derived.Test.YtebfihecdooneaaDoorM12
import Derived.Test.YtebfihecdooneaaDoorM13
import Derived.Test.YtebfihecdooneaaDoorM4
set_option linter.unusedVariables false
set_option linter.unusedSimpArgs false
namespace Go.Proofs.YtebfihecdooneaaDoor.V
open Go
section
variable {P : Program} {A : List Nat} {w : World}
theorem RepRows.cells_ {sz : Nat} {ad : Addr} : ∀ (i : Nat) (rws : List (List D)), RepRows A w sz ad i rws → ∃ vs, Reps A w rws.flatten vs ∧ vs.length = rws.length * sz ∧ ∀ j u, vs[j]? = some u → w.cell? (ad.add (i * sz + j)) = some u
  | _, [], _ => ⟨[], rfl, by simp, fun j u hu => by simp at hu⟩
  | i, r :: rs, hh => by
    simp only [RepRows] at hh
    obtain ⟨hl, hrow, hrest⟩ := hh
    obtain ⟨us, hu1, hu2⟩ := hrow.cells
    obtain ⟨vs, hv1, hv2, hv3⟩ := RepRows.cells_ (i + 1) rs hrest
    refine ⟨us ++ vs, by simp only [List.flatten_cons]; exact hu1.append hv1, by simp [hu1.length, hl, hv2, Nat.add_mul]; omega, fun j u hj => ?_⟩
    rw [List.getElem?_append] at hj
    have hul : us.length = sz := by rw [hu1.length, hl]
    split at hj
    · have := hu2 j u hj
      rwa [Nat.zero_add, Addr.add_add] at this
    · rename_i hge
      have := hv3 _ u hj
      rwa [show (i + 1) * sz + (j - us.length) = i * sz + j by rw [Nat.add_mul, hul]; rw [hul] at hge; omega] at this
theorem Src.rep0 {tx e' sz : Nat} {rows : List (List D)} {v : Value} (hk : P.underlying tx = some (.slice e')) (h : Rep A w (.sl sz rows) v) : ∃ vs, Reps A w rows.flatten vs ∧ vs.length = rows.length * sz ∧ ∀ w', Mod [] w w' → Src P sz tx v rows.length vs w' := by
  cases hrows : rows with
  | nil =>
    subst hrows
    simp only [Rep] at h
    obtain ⟨ad, c, rfl, h2, h3, h4⟩ := h
    refine ⟨[], rfl, by simp, fun w' _ => ?_⟩
    cases ad with
    | none => exact Src.ofNil w' hk c
    | some ad => exact Src.ofSlice w' hk ad 0 c [] (by simp) (fun j u hu => by simp at hu) (fun u hu => by cases hu)
  | cons r0 rs =>
    rw [← hrows]
    simp only [Rep] at h
    obtain ⟨ad, c, rfl, h2, h3, h4⟩ := h
    obtain ⟨ad, rfl, hA, hb, hr⟩ := h4 (by simp [hrows])
    obtain ⟨vs, hv1, hv2, hv3⟩ := RepRows.cells_ 0 rows hr
    have hC : Cs w ad vs := fun j u hu => by have := hv3 j u hu; rwa [Nat.zero_mul, Nat.zero_add] at this
    exact ⟨vs, hv1, hv2, fun w' k => Src.ofSlice w' hk ad _ c vs hv2 (hC.mod0 k) hv1.one⟩
end
end Go.Proofs.YtebfihecdooneaaDoor.V

set_option linter.unusedVariables false
set_option linter.unusedSimpArgs false
namespace Go.Proofs.YtebfihecdooneaaDoor.V
open Go
theorem JV.rows_setv {A : List Nat} {w : World} {m : List (Str × JV)} {y : Str × JV} {x : JV} {vs us : List Value} {i : Nat} (h : Reps A w (m.map JV.Dp).flatten vs) (hy : m[i]? = some y) (hx : Reps A w x.D us) :
    Reps A w ((m.set i (y.1, x)).map JV.Dp).flatten (vs.take (i * 7 + 1) ++ us ++ vs.drop (i * 7 + 1 + 6)) := by
  have hi := (List.getElem?_eq_some_iff.1 hy).1
  have h1 := JV.rows_set (p := (y.1, x)) h hi (JV.Dp_reps (p := (y.1, x)) hx)
  have h2 := Reps.row_of_flat (JV.Dp_all m) h i (JV.Dp y) (by simp [hy])
  obtain ⟨u, us', he, h3, _⟩ := h2
  obtain rfl := h3.v_eq
  have h4 : vs[i * 7]? = some (S y.1) := by
    have := congrArg (fun l => l[0]?) he
    simpa [List.getElem?_take, List.getElem?_drop] using this
  have h5 : vs.take (i * 7 + 1) = vs.take (i * 7) ++ [S y.1] := by rw [List.take_add_one, h4]; rfl
  rw [h5, show i * 7 + 1 + 6 = (i + 1) * 7 by omega]
  simpa using h1
theorem JV.obj_repsN {A : List Nat} {w : World} {m : List (Str × JV)} {am : Option Addr} {cm n : Nat} (hn : m.length = n) (R : Rep A w (.sl 7 (m.map JV.Dp)) (.slice am n cm)) : Reps A w (JV.obj m).D [.int .i64 5, .bool false, .int .i64 0, S [], .slice none 0 0, .slice am n cm] := by
  subst hn
  exact JV.obj_reps R
end Go.Proofs.YtebfihecdooneaaDoor.V

set_option linter.unusedVariables false
set_option linter.unusedSimpArgs false
namespace Go.Proofs.YtebfihecdooneaaDoor.V
open Go
theorem JV.tbl_obj (m : List (Str × JV)) : (JV.obj m).tbl = m := by simp [JV.tbl, JV.obj, JV.kind, JV.map]
theorem putM_len {β : Type} {m : List (Str × β)} {k : Str} {x : β} (h : ascM m) : (putM m k x).length ≤ m.length + 1 := by
  have key : ∀ {r : List (Str × β)}, (r.filter fun p => bl p.1 k).length + (r.filter fun p => bl k p.1).length ≤ r.length := by
    intro r
    induction r with
    | nil => simp
    | cons p r ih =>
      by_cases h1 : bl p.1 k = true
      · have h2 := bl_asymm h1
        simp [h1, h2]
        omega
      · by_cases h2 : bl k p.1 = true
        · simp [h1, h2]
          omega
        · simp [h1, h2]
          omega
  have := key (r := m)
  simp only [putM, List.length_append, List.length_singleton]
  omega
def putAll (m : List (Str × JV)) (k : Nat) : List (Str × JV) := (m.take k).foldl (fun a p => putM a p.1 p.2) []
theorem putAll_zero (m : List (Str × JV)) : putAll m 0 = [] := by simp [putAll]
theorem putAll_succ {m : List (Str × JV)} {k : Nat} {p : Str × JV} (h : m[k]? = some p) : putAll m (k + 1) = putM (putAll m k) p.1 p.2 := by
  have hlt := (List.getElem?_eq_some_iff.1 h).1
  rw [putAll, List.take_succ_eq_append_getElem hlt, (List.getElem?_eq_some_iff.1 h).2, List.foldl_append]
  rfl
theorem putAll_asc (m : List (Str × JV)) (k : Nat) : ascM (putAll m k) := by
  unfold putAll
  generalize m.take k = l
  suffices ∀ (l a : List (Str × JV)), ascM a → ascM (l.foldl (fun a p => putM a p.1 p.2) a) from this l [] List.Pairwise.nil
  intro l
  induction l with
  | nil => intro a h; exact h
  | cons p r ih => intro a h; exact ih _ (ascM_put h)
theorem putAll_len (m : List (Str × JV)) (k : Nat) : (putAll m k).length ≤ k := by
  induction k with
  | zero => simp [putAll]
  | succ k ih =>
    rcases Nat.lt_or_ge k m.length with h | h
    · rw [putAll_succ (List.getElem?_eq_getElem h)]
      have := putM_len (k := (m[k]).1) (x := (m[k]).2) (putAll_asc m k)
      omega
    · have : putAll m (k + 1) = putAll m k := by rw [putAll, putAll, List.take_of_length_le h, List.take_of_length_le (by omega)]
      rw [this]
      omega
theorem putAll_all {m : List (Str × JV)} {k : Nat} (h : m.length ≤ k) : putAll m k = m.foldl (fun a p => putM a p.1 p.2) [] := by rw [putAll, List.take_of_length_le h]
end Go.Proofs.YtebfihecdooneaaDoor.V

set_option linter.unusedVariables false
set_option linter.unusedSimpArgs false
namespace Go.Proofs.YtebfihecdooneaaDoor.V
open Go
abbrev kCreate : Str := [109, 46, 114, 111, 111, 109, 46, 99, 114, 101, 97, 116, 101]
abbrev kThird : Str := [116, 104, 105, 114, 100, 95, 112, 97, 114, 116, 121, 95, 105, 110, 118, 105, 116, 101]
abbrev kSigned : Str := [115, 105, 103, 110, 101, 100]
abbrev k_member : Str := [109, 46, 114, 111, 111, 109, 46, 109, 101, 109, 98, 101, 114]
abbrev l_member : List Str := [[106, 111, 105, 110, 95, 97, 117, 116, 104, 111, 114, 105, 115, 101, 100, 95, 118, 105, 97, 95, 117, 115, 101, 114, 115, 95, 115, 101, 114, 118, 101, 114], [109, 101, 109, 98, 101, 114, 115, 104, 105, 112]]
abbrev k_join_rules : Str := [109, 46, 114, 111, 111, 109, 46, 106, 111, 105, 110, 95, 114, 117, 108, 101, 115]
abbrev l_join_rules : List Str := [[97, 108, 108, 111, 119], [106, 111, 105, 110, 95, 114, 117, 108, 101]]
abbrev k_power_levels : Str := [109, 46, 114, 111, 111, 109, 46, 112, 111, 119, 101, 114, 95, 108, 101, 118, 101, 108, 115]
abbrev l_power_levels : List Str := [[98, 97, 110], [101, 118, 101, 110, 116, 115], [101, 118, 101, 110, 116, 115, 95, 100, 101, 102, 97, 117, 108, 116], [105, 110, 118, 105, 116, 101], [107, 105, 99, 107], [114, 101, 100, 97, 99, 116], [115, 116, 97, 116, 101, 95, 100, 101, 102, 97, 117, 108, 116], [117, 115, 101, 114, 115], [117, 115, 101, 114, 115, 95, 100, 101, 102, 97, 117, 108, 116]]
abbrev k_history_visibility : Str := [109, 46, 114, 111, 111, 109, 46, 104, 105, 115, 116, 111, 114, 121, 95, 118, 105, 115, 105, 98, 105, 108, 105, 116, 121]
abbrev l_history_visibility : List Str := [[104, 105, 115, 116, 111, 114, 121, 95, 118, 105, 115, 105, 98, 105, 108, 105, 116, 121]]
abbrev k_redaction : Str := [109, 46, 114, 111, 111, 109, 46, 114, 101, 100, 97, 99, 116, 105, 111, 110]
abbrev l_redaction : List Str := [[114, 101, 100, 97, 99, 116, 115]]
def keptK (kind : Str) : List Str :=
  if kind = k_member then l_member else
  if kind = k_join_rules then l_join_rules else
  if kind = k_power_levels then l_power_levels else
  if kind = k_history_visibility then l_history_visibility else
  if kind = k_redaction then l_redaction else
  []
namespace JV
def putG (v : JV) (acc : List (Str × JV)) (k : Str) : List (Str × JV) := match v.get k with
  | some x => putM acc k x
  | none => acc
/-- the members of a content that stay, put one by one -/
def keep (v : JV) (K : List Str) : List (Str × JV) := K.foldl (putG v) []
def third (v : JV) : JV := (v.get kThird).getD nul
def contentM (kind : Str) (v : JV) : List (Str × JV) := match v.third.get kSigned with
  | some y => if kind = k_member then putM (v.keep (keptK kind)) kThird (obj [(kSigned, y)]) else v.keep (keptK kind)
  | none => v.keep (keptK kind)
/-- what the program's Content answers -/
def content (kind : Str) (v : JV) : JV := if kind = kCreate then v else obj (contentM kind v)
def stay0 (kind : Str) (p : Str × JV) : Option (Str × JV) := if p.1 ∈ keptK kind then some p else none
def stay (kind : Str) (p : Str × JV) : Option (Str × JV) :=
  if p.1 = kThird ∧ kind = k_member ∧ p.2.kind = 5 then match look p.2.map kSigned with
    | some y => some (p.1, obj [(kSigned, y)])
    | none => stay0 kind p
  else stay0 kind p
/-- .. and the document's -/
def contentR (kind : Str) (v : JV) : JV := if kind = kCreate then v else if v.kind ≠ 5 then obj [] else obj (v.map.filterMap (stay kind))
end JV
section
variable {β : Type}
theorem look_filterMap {f : Str × β → Option (Str × β)} (hf : ∀ p q, f p = some q → q.1 = p.1) : ∀ {m : List (Str × β)} {k : Str}, ascM m → look (m.filterMap f) k = ((look m k).bind fun x => f (k, x)).map (·.2)
  | [], k, _ => rfl
  | p :: r, k, h => by
    have ih := look_filterMap hf (m := r) (k := k) (List.Pairwise.of_cons h)
    cases hp : f p with
    | none =>
      rw [List.filterMap_cons_none hp, ih]
      by_cases hk : p.1 = k
      · subst hk
        have hn : look r p.1 = none := look_none_of fun j y hy e => by
          have := List.rel_of_pairwise_cons h (List.mem_of_getElem? hy)
          rw [e, bl_irrefl] at this
          cases this
        rw [hn, look, if_pos rfl]
        show _ = Option.map _ (f p)
        rw [hp]
        rfl
      · rw [look, if_neg hk]
    | some q =>
      rw [List.filterMap_cons_some hp, look]
      have hq := hf p q hp
      by_cases hk : p.1 = k
      · subst hk
        rw [if_pos hq, look, if_pos rfl]
        show _ = Option.map _ (f p)
        rw [hp]
        rfl
      · rw [if_neg (by rw [hq]; exact hk), ih, look, if_neg hk]
theorem ascM_filterMap {f : Str × β → Option (Str × β)} (hf : ∀ p q, f p = some q → q.1 = p.1) {m : List (Str × β)} (h : ascM m) : ascM (m.filterMap f) := by
  unfold ascM at h ⊢
  rw [List.pairwise_filterMap]
  refine h.imp ?_
  intro a b hab c hc d hd
  rw [hf a c hc, hf b d hd]
  exact hab
end
namespace JV
theorem stay0_key {kind : Str} {p q : Str × JV} (h : stay0 kind p = some q) : q.1 = p.1 := by
  unfold stay0 at h
  split at h
  · injection h with h; rw [h]
  · cases h
theorem stay_key (kind : Str) (p q : Str × JV) (h : stay kind p = some q) : q.1 = p.1 := by
  unfold stay at h
  split at h
  · split at h
    · injection h with h; rw [← h]
    · exact stay0_key h
  · exact stay0_key h
theorem putG_asc {v : JV} {a : List (Str × JV)} {k : Str} (h : ascM a) : ascM (putG v a k) := by
  unfold putG
  split
  · exact ascM_put h
  · exact h
theorem foldG_asc {v : JV} : ∀ {K : List Str} {a : List (Str × JV)}, ascM a → ascM (K.foldl (putG v) a)
  | [], a, h => h
  | k :: K, a, h => foldG_asc (K := K) (a := putG v a k) (putG_asc h)
theorem keep_asc (v : JV) (K : List Str) : ascM (v.keep K) := foldG_asc List.Pairwise.nil
theorem look_putG {v : JV} {a : List (Str × JV)} {k k' : Str} : look (putG v a k) k' = if k' = k then (v.get k).or (look a k') else look a k' := by
  unfold putG
  cases h : v.get k with
  | none => simp
  | some x =>
    simp only [look_put]
    by_cases hk : k' = k <;> simp [hk]
theorem look_foldG {v : JV} {k' : Str} : ∀ {K : List Str} {a : List (Str × JV)}, look (K.foldl (putG v) a) k' = if k' ∈ K then (v.get k').or (look a k') else look a k'
  | [], a => by simp
  | k :: K, a => by
    rw [List.foldl_cons, look_foldG, look_putG]
    by_cases hk : k' = k
    · subst hk
      by_cases h : k' ∈ K <;> simp [h]
      cases v.get k' <;> simp
    · by_cases h : k' ∈ K <;> simp [h, hk]
theorem look_keep {v : JV} {k' : Str} {K : List Str} : look (v.keep K) k' = if k' ∈ K then v.get k' else none := by
  rw [keep, look_foldG]
  simp [look]
theorem third_not (kind : Str) : kThird ∉ keptK kind := by
  unfold keptK
  repeat' split
  all_goals decide
theorem content_eq {kind : Str} {v : JV} (h : ascM v.map) : content kind v = contentR kind v := by
  unfold content contentR
  split
  · rfl
  · by_cases h5 : v.kind = 5
    · rw [if_neg (by simp [h5])]
      congr 1
      refine ascM_ext ?_ (ascM_filterMap (stay_key kind) h) fun k => ?_
      · unfold contentM
        split
        · split
          · exact ascM_put (keep_asc _ _)
          · exact keep_asc _ _
        · exact keep_asc _ _
      · rw [look_filterMap (stay_key kind) h]
        have hg : ∀ k, v.get k = look v.map k := fun k => by simp [JV.get, h5]
        have hk0 : ∀ x, (stay0 kind (k, x)).map (·.2) = if k ∈ keptK kind then some x else none := fun x => by
          unfold stay0
          split <;> simp_all
        have hkeep : look (v.keep (keptK kind)) k = (look v.map k).bind fun x => (stay0 kind (k, x)).map (·.2) := by
          rw [look_keep, hg]
          cases look v.map k with
          | none => simp
          | some x => simp only [Option.bind_some, hk0]
        by_cases hkt : k = kThird
        · subst hkt
          cases hl : look v.map kThird with
          | none =>
            have ht : v.third.get kSigned = none := by simp [third, hg, hl, JV.get, nul, JV.kind]
            simp only [contentM, ht, hkeep, hl]
            rfl
          | some x =>
            have ht : v.third = x := by simp [third, hg, hl]
            have hx : v.third.get kSigned = if x.kind = 5 then look x.map kSigned else none := by rw [ht]; rfl
            simp only [Option.bind_some]
            by_cases hx5 : x.kind = 5
            · rw [if_pos hx5] at hx
              cases hy : look x.map kSigned with
              | none =>
                rw [hy] at hx
                have hs : stay kind (kThird, x) = stay0 kind (kThird, x) := by
                  unfold stay
                  split
                  · simp [hy]
                  · rfl
                simp only [contentM, hx, hkeep, hl, hs]
                rfl
              | some y =>
                rw [hy] at hx
                by_cases hm : kind = k_member
                · have hs : stay kind (kThird, x) = some (kThird, obj [(kSigned, y)]) := by
                    unfold stay
                    rw [if_pos ⟨rfl, hm, hx5⟩]
                    simp [hy]
                  simp only [contentM, hx, if_pos hm, look_put, hs]
                  simp
                · have hs : stay kind (kThird, x) = stay0 kind (kThird, x) := by
                    unfold stay
                    rw [if_neg (fun e => hm e.2.1)]
                  simp only [contentM, hx, if_neg hm, hkeep, hl, hs]
                  rfl
            · rw [if_neg hx5] at hx
              have hs : stay kind (kThird, x) = stay0 kind (kThird, x) := by
                unfold stay
                rw [if_neg (fun e => hx5 e.2.2)]
              simp only [contentM, hx, hkeep, hl, hs]
              rfl
        · have hs : ∀ x, stay kind (k, x) = stay0 kind (k, x) := fun x => by
            unfold stay
            rw [if_neg (fun e => hkt e.1)]
          have hc : look (contentM kind v) k = look (v.keep (keptK kind)) k := by
            unfold contentM
            split
            · split
              · rw [look_put, if_neg hkt]
              · rfl
            · rfl
          rw [hc, hkeep]
          cases look v.map k with
          | none => simp
          | some x => simp only [Option.bind_some, hs]
    · rw [if_pos h5]
      have hg : ∀ k, v.get k = none := fun k => by simp [JV.get, h5]
      have ht : v.third.get kSigned = none := by
        have : v.third = nul := by simp [third, hg]
        rw [this]
        simp [JV.get, nul, JV.kind]
      have hK : ∀ K : List Str, v.keep K = [] := fun K => by
        refine ascM_ext (keep_asc v K) List.Pairwise.nil fun k => ?_
        rw [look_keep, hg]
        simp [look]
      congr 1
      simp [contentM, ht, hK]
/-- members that don't stay may be added -/
theorem content_more {kind k : Str} {v x : JV} (h5 : v.kind = 5) (hc : kind ≠ kCreate) (hk : k ∉ keptK kind) (ht : k ≠ kThird) : content kind (obj (putM v.map k x)) = content kind v := by
  have hg : ∀ k', k' ≠ k → (obj (putM v.map k x)).get k' = v.get k' := fun k' hne => by
    have h1 : (obj (putM v.map k x)).get k' = look (putM v.map k x) k' := by simp [JV.get, obj, JV.kind, JV.map]
    rw [h1, look_put, if_neg hne]
    simp [JV.get, h5]
  have hG : ∀ k' ∈ keptK kind, ∀ a, putG (obj (putM v.map k x)) a k' = putG v a k' := fun k' hk' a => by
    unfold putG
    rw [hg k' (fun e => hk (e ▸ hk'))]
  have hK : ∀ (K : List Str) (a : List (Str × JV)), (∀ k' ∈ K, k' ∈ keptK kind) → K.foldl (putG (obj (putM v.map k x))) a = K.foldl (putG v) a := fun K => by
    induction K with
    | nil => intro a _; rfl
    | cons k' K ih =>
      intro a hs
      rw [List.foldl_cons, List.foldl_cons, hG k' (hs k' (by simp)), ih _ fun q hq => hs q (by simp [hq])]
  have hkeep : (obj (putM v.map k x)).keep (keptK kind) = v.keep (keptK kind) := hK _ _ fun _ h => h
  have hth : (obj (putM v.map k x)).third = v.third := by
    unfold third
    rw [hg kThird (Ne.symm ht)]
  unfold content contentM
  rw [if_neg hc, if_neg hc, hkeep, hth]
end JV
end Go.Proofs.YtebfihecdooneaaDoor.V

set_option linter.unusedVariables false
set_option linter.unusedSimpArgs false
namespace Go.Proofs.YtebfihecdooneaaDoor.V
open Go
theorem strs_blk {A : List Nat} {w : World} {g e : Nat} {xs : List Str} (B : Blk w g e (xs.map S)) (hl : xs.length ≤ 1000) (hA : g ∉ A) : Rep A w (strD xs) (.slice (some ⟨g, 0, none⟩) xs.length xs.length) := by
  have hf : ∀ ys : List Str, (ys.map fun s => [S s]).flatten = ys.map S := fun ys => by
    induction ys with
    | nil => rfl
    | cons a r ih => simp [ih]
  have O : Own w e 1 (.slice (some ⟨g, 0, none⟩) xs.length xs.length) xs.length ((xs.map fun s => [S s]).flatten) := by
    rw [hf]
    exact Own.all B (by simp) (by omega)
  exact Own.flat O (fun _ _ => rfl) (fun x _ c hc => by simp at hc; subst hc; rfl) rfl (by simpa [ob] using hA)
theorem gt_bl (a b : Str) : (!(bl a b || a == b)) = bl b a := by
  rcases bl_total a b with h | h | h
  · rw [h, bl_asymm h]; rfl
  · subst h; simp [bl_irrefl]
  · rw [h, bl_asymm h]
    have hne : (a == b) = false := by
      cases he : a == b with
      | false => rfl
      | true => have := eq_of_beq he; subst this; rw [bl_irrefl] at h; cases h
    simp [hne]
theorem flt_len {β : Type} {k : Str} : ∀ {r : List (Str × β)}, (r.filter fun p => bl p.1 k).length + (r.filter fun p => bl k p.1).length ≤ r.length
  | [] => by simp
  | p :: r => by
    have ih := flt_len (k := k) (r := r)
    by_cases h1 : bl p.1 k = true
    · have h2 := bl_asymm h1
      simp [h1, h2]
      omega
    · by_cases h2 : bl k p.1 = true
      · simp [h1, h2]
        omega
      · simp [h1, h2]
        omega
theorem flt_take {β : Type} {q : Str × β → Bool} {m : List (Str × β)} {k : Nat} : ((m.take k).filter q).length ≤ (m.filter q).length := ((List.take_sublist k m).filter q).length_le
end Go.Proofs.YtebfihecdooneaaDoor.V

set_option linter.unusedVariables false
set_option linter.unusedSimpArgs false
namespace Go.Proofs.YtebfihecdooneaaDoor.V
open Go
def jrS : Str := [109, 46, 114, 111, 111, 109, 46, 106, 111, 105, 110, 95, 114, 117, 108, 101, 115]
def tpS : Str := [109, 46, 114, 111, 111, 109, 46, 116, 104, 105, 114, 100, 95, 112, 97, 114, 116, 121, 95, 105, 110, 118, 105, 116, 101]
def kMem : Str := [109, 101, 109, 98, 101, 114, 115, 104, 105, 112]
def joS : Str := [106, 111, 105, 110]
def inS : Str := [105, 110, 118, 105, 116, 101]
def knS : Str := [107, 110, 111, 99, 107]
def kTpi : Str := [116, 104, 105, 114, 100, 95, 112, 97, 114, 116, 121, 95, 105, 110, 118, 105, 116, 101]
def kSgn : Str := [115, 105, 103, 110, 101, 100]
def kTok : Str := [116, 111, 107, 101, 110]
def kBy : Str := [106, 111, 105, 110, 95, 97, 117, 116, 104, 111, 114, 105, 115, 101, 100, 95, 118, 105, 97, 95, 117, 115, 101, 114, 115, 95, 115, 101, 114, 118, 101, 114]
namespace JV
def sub (v : JV) (k : Str) : JV := (v.get k).getD nul
def txt (v : JV) : Str := if v.kind = 3 then v.str else []
def text (v : JV) (ks : List Str) : Str := (ks.foldl sub v).txt
theorem nul_rise : nul.Rise := by rw [Rise_eq]; simp [nul, map, list, ascM]
theorem nul_ok : nul.ok := by rw [ok_eq]; simp [nul, map, list, str]
theorem get_mem {v x : JV} {k : Str} (h : v.get k = some x) : (k, x) ∈ v.map := by
  unfold get at h
  split at h
  · exact look_some h
  · cases h
theorem sub_rise {v : JV} {k : Str} (h : v.Rise) : (v.sub k).Rise := by
  unfold sub
  cases hg : v.get k with
  | none => exact nul_rise
  | some x => exact ((Rise_eq v).1 h).2.2 _ (get_mem hg)
theorem sub_ok {v : JV} {k : Str} (h : v.ok) : (v.sub k).ok := by
  unfold sub
  cases hg : v.get k with
  | none => exact nul_ok
  | some x => exact (((ok_eq v).1 h).2.2.2.2 _ (get_mem hg)).2
theorem ok_map {v : JV} (h : v.ok) : v.map.length ≤ 1353245080310 := by have := ((ok_eq v).1 h).2.2.1; omega
theorem Rise.asc_ {v : JV} (h : v.Rise) : ascM v.map := ((Rise_eq v).1 h).1
theorem take_sub {v : JV} {ks : List Str} {i : Nat} {k : Str} (h : ks[i]? = some k) : (ks.take (i + 1)).foldl sub v = ((ks.take i).foldl sub v).sub k := by
  have hlt := (List.getElem?_eq_some_iff.1 h).1
  rw [List.take_succ_eq_append_getElem hlt, (List.getElem?_eq_some_iff.1 h).2, List.foldl_append]
  rfl
theorem fold_rise {ks : List Str} : ∀ {v : JV}, v.Rise → (ks.foldl sub v).Rise := by
  induction ks with
  | nil => exact fun h => h
  | cons k r ih => exact fun h => ih (sub_rise h)
theorem fold_ok {ks : List Str} : ∀ {v : JV}, v.ok → (ks.foldl sub v).ok := by
  induction ks with
  | nil => exact fun h => h
  | cons k r ih => exact fun h => ih (sub_ok h)
theorem text_no {v : JV} {k : Str} (h : v.kind ≠ 5) : v.text [k] = [] := by
  simp only [text, List.foldl, sub, get, if_neg h]
  rfl
theorem text_yes {v : JV} {k : Str} (h : v.kind = 5) : v.text [k] = ((look v.map k).getD nul).txt := by
  simp only [text, List.foldl, sub, get, if_pos h]
theorem sub_yes {v : JV} {k : Str} (h : v.kind = 5) : v.sub k = (look v.map k).getD nul := by simp only [sub, get, if_pos h]
theorem sub_no {v : JV} {k : Str} (h : v.kind ≠ 5) : v.sub k = nul := by simp only [sub, get, if_neg h]; rfl
theorem text_sub {v : JV} {k : Str} {ks : List Str} : v.text (k :: ks) = (v.sub k).text ks := rfl
theorem text_nul {ks : List Str} : nul.text ks = [] := by
  induction ks with
  | nil => rfl
  | cons k r ih => rw [text_sub, sub_no (by decide), ih]
end JV
namespace JV
theorem map_of {A : List Nat} {w : World} {v : JV} {k i n s ls : Value} {am : Option Addr} {cm : Nat} (R : Reps A w v.D [k, i, n, s, ls, .slice am v.map.length cm]) : Rep A w (.sl 7 (v.map.map Dp)) (.slice am v.map.length cm) := by
  obtain ⟨al', cl', am', cm', h, _, hm⟩ := cells_ R
  simp only [List.cons.injEq, Value.slice.injEq] at h
  obtain ⟨_, _, _, _, _, ⟨rfl, _, rfl⟩, _⟩ := h
  exact hm
def step (v : JV) (ks : List Str) (k : Nat) : JV := (ks.take k).foldl sub v
theorem step_zero {v : JV} {ks : List Str} : v.step ks 0 = v := rfl
theorem step_succ {v : JV} {ks : List Str} {i : Nat} {k : Str} (h : ks[i]? = some k) : v.step ks (i + 1) = ((v.step ks i).get k).getD nul := take_sub h
theorem step_all {v : JV} {ks : List Str} {k : Nat} (h : ks.length ≤ k) : v.text ks = (v.step ks k).txt := by rw [step, List.take_of_length_le h]; rfl
theorem step_rise {v : JV} {ks : List Str} {k : Nat} (h : v.Rise) : (v.step ks k).Rise := fold_rise h
theorem step_ok {v : JV} {ks : List Str} {k : Nat} (h : v.ok) : (v.step ks k).ok := fold_ok h
end JV
/-! ### pairs in order, each once -/
def ascP (l : List Pair) : Prop := l.Pairwise fun a b => plt a b = true
theorem ascP_ext : ∀ {l l' : List Pair}, ascP l → ascP l' → (∀ x, x ∈ l ↔ x ∈ l') → l = l'
  | [], [], _, _, _ => rfl
  | [], b :: r, _, _, h => by have := (h b).2 (by simp); simp at this
  | a :: r, [], _, _, h => by have := (h a).1 (by simp); simp at this
  | a :: l, b :: l', h1, h2, h => by
    have h3 : ∀ {x}, x ∈ l → plt a x = true := fun hx => List.rel_of_pairwise_cons h1 hx
    have h4 : ∀ {x}, x ∈ l' → plt b x = true := fun hx => List.rel_of_pairwise_cons h2 hx
    have hab : a = b := by
      rcases List.mem_cons.1 ((h a).1 (by simp)) with e | ha
      · exact e
      · rcases List.mem_cons.1 ((h b).2 (by simp)) with e | hb
        · exact e.symm
        · have := plt_trans (h3 hb) (h4 ha); rw [plt_irrefl] at this; cases this
    subst hab
    congr 1
    refine ascP_ext (List.Pairwise.of_cons h1) (List.Pairwise.of_cons h2) fun x => ⟨fun hx => ?_, fun hx => ?_⟩
    · rcases List.mem_cons.1 ((h x).1 (List.mem_cons_of_mem _ hx)) with e | hx'
      · have := h3 hx; rw [e, plt_irrefl] at this; cases this
      · exact hx'
    · rcases List.mem_cons.1 ((h x).2 (List.mem_cons_of_mem _ hx)) with e | hx'
      · have := h4 hx; rw [e, plt_irrefl] at this; cases this
      · exact hx'
/-- what the document's with answers -/
def withP (l : List Pair) (p : Pair) : List Pair := l.filter (fun x => plt x p) ++ [p] ++ l.filter (fun x => plt p x)
theorem withP_mem {l : List Pair} {p x : Pair} : x ∈ withP l p ↔ x ∈ l ∨ x = p := by
  unfold withP
  simp only [List.mem_append, List.mem_filter, List.mem_singleton]
  constructor
  · rintro ((h | h) | h)
    · exact .inl h.1
    · exact .inr h
    · exact .inl h.1
  · rintro (h | h)
    · rcases plt_total x p with h' | h' | h'
      · exact .inl (.inl ⟨h, h'⟩)
      · exact .inl (.inr h')
      · exact .inr ⟨h, h'⟩
    · exact .inl (.inr h)
theorem withP_asc {l : List Pair} {p : Pair} (h : ascP l) : ascP (withP l p) := by
  unfold ascP withP at *
  rw [List.pairwise_append, List.pairwise_append]
  refine ⟨⟨h.filter _, List.pairwise_singleton .., fun a ha b hb => ?_⟩, h.filter _, fun a ha b hb => ?_⟩
  · simp at ha hb
    subst hb
    exact ha.2
  · simp only [List.mem_append, List.mem_singleton, List.mem_filter] at ha hb
    rcases ha with ha | rfl
    · exact plt_trans ha.2 hb.2
    · exact hb.2
theorem withP_len {l : List Pair} {p : Pair} : (withP l p).length ≤ l.length + 1 := by
  have : (l.filter (fun x => plt x p)).length + (l.filter (fun x => plt p x)).length ≤ l.length := by
    induction l with
    | nil => simp
    | cons y S ih =>
      cases h1 : plt y p with
      | false => cases h2 : plt p y <;> simp [h1, h2] <;> omega
      | true => have h2 := plt_asymm h1; simp [h1, h2]; omega
  simp only [withP, List.length_append, List.length_singleton]
  omega
theorem foldW_asc : ∀ {m l : List Pair}, ascP l → ascP (m.foldl withP l)
  | [], _, h => h
  | p :: m, _, h => foldW_asc (m := m) (withP_asc h)
theorem foldW_snoc {m : List Pair} {p : Pair} : (m ++ [p]).foldl withP [] = withP (m.foldl withP []) p := by rw [List.foldl_append]; rfl
theorem Own.w_ {w : World} {e : Nat} {v : Value} {m m' : List Pair} {p : Pair} (h : Own w e 2 v (withP (m.foldl withP []) p).length (((withP (m.foldl withP []) p).map Pair.cells).flatten)) (hm : m ++ [p] = m') : Own w e 2 v (m'.foldl withP []).length (((m'.foldl withP []).map Pair.cells).flatten) := by
  subst hm
  rw [foldW_snoc]
  exact h
theorem Own.w1 {w : World} {e : Nat} {v : Value} {p : Pair} (h : Own w e 2 v 1 p.cells) : Rep [] w (pairsD ([p].foldl withP [])) v := Own.pairs (xs := [p]) [] h (by simp)
theorem foldW_small {m : List Pair} (h : m.length ≤ 100) : (m.foldl withP []).length ≤ 1000000 := by
  have : ∀ {m l : List Pair}, (m.foldl withP l).length ≤ l.length + m.length := fun {m} => by
    induction m with
    | nil => intro l; simp
    | cons p m ih => intro l; have h1 := ih (l := withP l p); have h2 := @withP_len l p; simp only [List.foldl_cons, List.length_cons]; omega
  have := this (m := m) (l := [])
  simp at this
  omega
theorem foldW_mem {x : Pair} : ∀ {m l : List Pair}, x ∈ m.foldl withP l ↔ x ∈ l ∨ x ∈ m
  | [], l => by simp
  | p :: m, l => by rw [List.foldl_cons, foldW_mem (m := m), withP_mem]; simp [or_assoc]
/-- doubled neighbours left out, behind p -/
def dn : Pair → List Pair → List Pair
  | _, [] => []
  | p, x :: r => if x = p then dn x r else x :: dn x r
def dd : List Pair → List Pair
  | [] => []
  | a :: r => a :: dn a r
theorem dn_snoc {x : Pair} : ∀ {l : List Pair} {p : Pair}, dn p (l ++ [x]) = dn p l ++ if x = l.getLastD p then [] else [x]
  | [], p => by simp [dn]
  | y :: l, p => by
    have e : (y :: l).getLastD p = l.getLastD y := by cases l <;> simp [List.getLastD]
    rw [e, List.cons_append, dn, dn, dn_snoc (l := l)]
    by_cases h : y = p <;> simp [h]
theorem dd_succ {S : List Pair} {j : Nat} {a b : Pair} (ha : S[j]? = some a) (hb : S[j + 1]? = some b) : dd (S.take (j + 1 + 1)) = dd (S.take (j + 1)) ++ if b = a then [] else [b] := by
  have hlt := (List.getElem?_eq_some_iff.1 hb).1
  rw [List.take_succ_eq_append_getElem hlt, (List.getElem?_eq_some_iff.1 hb).2]
  cases S with
  | nil => simp at ha
  | cons s S =>
    rw [List.take_succ_cons, List.cons_append, dd, dd, dn_snoc, List.cons_append]
    congr 3
    have e : (List.take j S).getLastD s = a := by
      cases j with
      | zero => simpa using ha
      | succ i =>
        have hi : S[i]? = some a := by simpa using ha
        have hil := (List.getElem?_eq_some_iff.1 hi).1
        rw [List.take_succ_eq_append_getElem hil, (List.getElem?_eq_some_iff.1 hi).2]
        simp
    rw [e]
theorem dd_one {S : List Pair} : dd (S.take 1) = S.take 1 := by cases S <;> simp [dd, dn]
theorem dn_mem {x : Pair} : ∀ {l : List Pair} {p : Pair}, x ∈ p :: dn p l ↔ x ∈ p :: l
  | [], p => by simp [dn]
  | y :: l, p => by
    rw [dn]
    by_cases h : y = p
    · subst h
      rw [if_pos rfl, dn_mem (l := l)]
      simp
    · rw [if_neg h, List.mem_cons, dn_mem (l := l), List.mem_cons (l := y :: l)]
theorem dd_mem {x : Pair} {l : List Pair} : x ∈ dd l ↔ x ∈ l := by
  cases l with
  | nil => simp [dd]
  | cons p l => rw [dd, dn_mem]
theorem dn_asc : ∀ {l : List Pair} {p : Pair}, (p :: l).Pairwise (fun a b => plt b a = false) → ascP (p :: dn p l)
  | [], p, _ => by simp [dn, ascP]
  | y :: l, p, h => by
    rw [dn]
    by_cases e : y = p
    · subst e
      rw [if_pos rfl]
      exact dn_asc (List.Pairwise.of_cons h)
    · rw [if_neg e]
      have h1 := dn_asc (List.Pairwise.of_cons h)
      refine List.Pairwise.cons (fun z hz => ?_) h1
      have hpy : plt p y = true := by
        have := List.rel_of_pairwise_cons h (List.mem_cons_self (a := y) (l := l))
        rcases plt_total p y with h' | h' | h'
        · exact h'
        · exact absurd h'.symm e
        · rw [this] at h'; cases h'
      rcases List.mem_cons.1 hz with rfl | hz
      · exact hpy
      · exact plt_trans hpy (List.rel_of_pairwise_cons h1 hz)
theorem dd_asc {l : List Pair} (h : srt l) : ascP (dd l) := by
  cases l with
  | nil => exact List.Pairwise.nil
  | cons p l => exact dn_asc (srt_iff.1 h)
theorem insP_mem {x y : Pair} {S : List Pair} : y ∈ insP x S ↔ y ∈ S ∨ y = x := by
  unfold insP
  simp only [List.mem_append, List.mem_filter, List.mem_singleton]
  cases plt x y <;> simp [or_comm]
theorem foldI_mem {x : Pair} : ∀ {m l : List Pair}, x ∈ m.foldl (fun S x => insP x S) l ↔ x ∈ l ∨ x ∈ m
  | [], l => by simp
  | p :: m, l => by rw [List.foldl_cons, foldI_mem (m := m), insP_mem]; simp [or_assoc]
theorem isortP_mem {x : Pair} {l : List Pair} : x ∈ isortP l l.length ↔ x ∈ l := by
  rw [isortP, List.take_length, foldI_mem]
  simp
/-- both ways -/
theorem ways {l m : List Pair} (h : ∀ x, x ∈ l ↔ x ∈ m) : dd (isortP l l.length) = m.foldl withP [] :=
  ascP_ext (dd_asc (isortP_srt _ _)) (foldW_asc List.Pairwise.nil) fun x => by rw [dd_mem, isortP_mem, foldW_mem, h x]; simp
theorem dn_len : ∀ {l : List Pair} {p : Pair}, (dn p l).length ≤ l.length
  | [], _ => by simp [dn]
  | y :: l, p => by
    have := dn_len (l := l) (p := y)
    rw [dn]
    split <;> simp <;> omega
theorem dd_len {l : List Pair} : (dd l).length ≤ l.length := by
  cases l with
  | nil => simp [dd]
  | cons p l => have := dn_len (l := l) (p := p); simp [dd]; omega
theorem take_setg {α : Type} {M : List α} {m : Nat} {x : α} (h : m < M.length) : (M.set m x).take (m + 1) = M.take m ++ [x] := by
  rw [List.take_succ_eq_append_getElem (by rw [List.length_set]; exact h), List.take_set_of_le (by omega), List.getElem_set_self]
namespace EV
def hw (e : EV) : Str := e.con.text [kMem]
def tok (e : EV) : Str := e.con.text [kTpi, kSgn, kTok]
def byw (e : EV) : Str := e.con.text [kBy]
/-- what a member event needs besides -/
def more (e : EV) : List Pair :=
  if e.hw = joS then ⟨jrS, []⟩ :: if e.byw = [] then [] else [⟨mbS, e.byw⟩]
  else if e.hw = inS then ⟨jrS, []⟩ :: if e.tok = [] then [] else [⟨tpS, e.tok⟩]
  else if e.hw = knS then [⟨jrS, []⟩]
  else []
def needs (e : EV) : List Pair := ndP e.snd ++ if e.ty = mbS then ⟨mbS, e.key⟩ :: e.more else []
def need (e : EV) : List Pair := if e.ty = crS then [] else dd (isortP e.needs e.needs.length)
def needR (e : EV) : List Pair := if e.ty = crS then [] else e.needs.foldl withP []
theorem need_eq (e : EV) : e.need = e.needR := by
  unfold need needR
  rw [ways fun x => Iff.rfl]
theorem more_len (e : EV) : e.more.length ≤ 2 := by
  unfold more
  repeat' split
  all_goals simp
theorem needs_len (e : EV) : e.needs.length ≤ 6 := by
  have := e.more_len
  unfold needs
  split <;> simp [ndP] <;> omega
theorem need_len (e : EV) : e.need.length ≤ 6 := by
  unfold need
  split
  · simp
  · have h1 := @dd_len (isortP e.needs e.needs.length)
    have h2 := @isortP_len e.needs e.needs.length (Nat.le_refl _)
    have := e.needs_len
    omega
theorem need_cr {e : EV} (h : e.ty = crS) : e.need = [] := if_pos h
theorem need_of {e : EV} {l : List Pair} (h : e.ty ≠ crS) (hl : e.needs = l) : e.need = dd (isortP l l.length) := by rw [need, if_neg h, hl]
theorem needR_of {e : EV} {l : List Pair} (h : e.ty ≠ crS) (hl : e.needs = l) : e.needR = l.foldl withP [] := by rw [needR, if_neg h, hl]
end EV
end Go.Proofs.YtebfihecdooneaaDoor.V

set_option linter.unusedVariables false
set_option linter.unusedSimpArgs false
set_option maxRecDepth 10000
namespace Go.Proofs.YtebfihecdooneaaDoor.V
open Go Go.Proofs
theorem ent34 : Ent Tryd.prog 34 := Ent.of Tryd.func34 (by kernel_rfl) (by kernel_rfl)
theorem ent24 : Ent Tryd.prog 24 := Ent.of Tryd.func24 (by kernel_rfl) (by kernel_rfl)
theorem c_text (w : World) (v : JV) (us : List Value) (R : Reps [] w v.D us) (hr : v.Rise) (hok : v.ok) (ks : List Str) (v1 : Value) (R2 : Rep [] w (strD ks) v1) : Calls Tryd.prog 18 [.agg us.toArray, v1].toArray w (Ret fun u w' => u = S (v.text ks) ∧ Mod [] w w') := by
  refine enter Tryd.func18 rfl rfl rfl (l := [(0, _), (1, _)]) ⟨rfl, rfl, trivial⟩ ?_
  have E := Mod.refl [] w
  obtain ⟨al, cl, am, cm, rfl, Rl, Rm⟩ := JV.cells_ R
  obtain ⟨ad, c, rfl, hc1, hc2⟩ := flat_len R2
  refine c_seq fun K1 hK1 => ?_
  refine c_region ?_
  refine s_box rfl rfl rfl fun g1 w1 N1 => ?_
  have Lg1_E := N1.le E
  replace E := E.then N1.mod
  have Bg1 := N1.blk
  refine sv (o_as rfl) rfl ?_
  refine l_nil ?_
  refine e_K (hK1 _ _ _ _ ?_)
  refine c_seq fun K2 hK2 => ?_
  refine c_seq fun K3 hK3 => ?_
  refine c_region ?_
  refine sv (o_mv rfl) rfl ?_
  refine sv (o_len Tryd.underlying26 rfl) rfl ?_
  refine sv (o_mv rfl) rfl ?_
  refine l_nil ?_
  refine e_K (hK3 _ _ _ _ ?_)
  refine c_block ?_
  refine c_loop (σ := Nat × Option Addr × Nat × Option Addr × Nat) (fun ⟨k, al2, cl2, am2, cm2⟩ => [(2, .pointer (some ⟨g1, 0, none⟩)), (7, .slice ad ks.length c), (8, .int .i64 ks.length), (9, .int .i64 (k : Int))]) (fun ⟨k, al2, cl2, am2, cm2⟩ w1 => k ≤ ks.length ∧ Blk w1 g1 25 [.int .i64 (v.step ks k).kind, .bool (v.step ks k).is, .int .i64 (v.step ks k).num, S (v.step ks k).str, .slice al2 (v.step ks k).list.length cl2, .slice am2 (v.step ks k).map.length cm2] ∧ w.heap.size ≤ g1 ∧ Reps [] w (v.step ks k).D [.int .i64 (v.step ks k).kind, .bool (v.step ks k).is, .int .i64 (v.step ks k).num, S (v.step ks k).str, .slice al2 (v.step ks k).list.length cl2, .slice am2 (v.step ks k).map.length cm2] ∧ Mod [] w w1) (fun ⟨k, al2, cl2, am2, cm2⟩ => ks.length - k) (⟨0, al, cl, am, cm⟩) ⟨rfl, rfl, rfl, rfl, trivial⟩ (⟨by omega, Bg1, Lg1_E, R, E⟩) ?_
  rintro ⟨k, al2, cl2, am2, cm2⟩ w2 ⟨hk, Bg1, Lg1_E, Rv, E⟩
  refine c_seq fun K4 hK4 => ?_
  refine c_region ?_
  refine sv (o_lss rfl rfl) rfl ?_
  refine l_nil ?_
  refine e_K (hK4 _ _ _ _ ?_)
  refine c_seq fun K5 hK5 => ?_
  refine c_if rfl (fun h10 => ?_) (fun h10 => ?_)
  · skip
    have hlt : k < ks.length := by omega
    obtain ⟨x, hx_x⟩ : ∃ x, ks[k]? = some x := ⟨_, List.getElem?_eq_getElem (by omega)⟩
    obtain ⟨a_x, ha_x, hcs_x, _⟩ := flat_at (R2.to0 E) hx_x
    obtain rfl := ha_x
    refine c_skip ?_
    refine e_K (hK5 _ _ _ _ ?_)
    refine c_seq fun K6 hK6 => ?_
    refine c_block ?_
    refine c_seq fun K7 hK7 => ?_
    refine c_region ?_
    refine sv (o_ix sl26 rfl rfl (by omega)) rfl ?_
    refine sv (o_ld sc9 rfl hcs_x.first) rfl ?_
    refine sv (o_as rfl) rfl ?_
    refine l_nil ?_
    refine e_K (hK7 _ _ _ _ ?_)
    refine c_region ?_
    refine sv (o_lda (vs := [_, _, _, _, _, _]) ag25 rfl rfl (Bg1.cs rfl)) rfl ?_
    refine sv (o_mv rfl) rfl ?_
    refine sc (o_call ent34 rfl) (c_jget [] w _ E (v.step ks k) _ Rv x (JV.step_rise hr).asc_ (JV.ok_map (JV.step_ok hok))) rfl fun v_ w3 h_ => ?_
    obtain ⟨us_n, rfl, R_n, E_⟩ := h_
    replace Bg1 := Bg1.mod0 E_
    replace E := E.then E_
    rw [← JV.step_succ hx_x] at R_n
    obtain ⟨al_n, cl_n, am_n, cm_n, rfl, _, _⟩ := JV.cells_ R_n
    refine sv (o_mv rfl) rfl ?_
    refine sv (o_ext rfl rfl) rfl ?_
    refine sv (o_ext rfl rfl) rfl ?_
    refine s_sta (vs := [_, _, _, _, _, _]) ag25 Bg1 rfl rfl rfl (by simp [Value.oneCell']) (by simp) fun w4 P4 => ?_
    replace E := E.own P4.mod Lg1_E
    replace Bg1 : Blk w4 g1 _ [_, _, _, _, _, _] := P4.blk
    refine l_nil ?_
    refine e_in (by simp) ?_
    refine e_K (hK6 _ _ _ _ ?_)
    refine c_region ?_
    refine sv (o_addN rfl rfl (by omega)) rfl ?_
    refine sv (o_mv rfl) rfl ?_
    refine l_nil ?_
    exact e_round (σ := Nat × Option Addr × Nat × Option Addr × Nat) (s := ⟨k, al2, cl2, am2, cm2⟩) (⟨k + 1, al_n, cl_n, am_n, cm_n⟩) ⟨rfl, rfl, rfl, rfl, trivial⟩ ⟨by omega, Bg1, Lg1_E, R_n, E⟩ (by dsimp only; omega)
  · skip
    have htx : v.text ks = (v.step ks k).txt := JV.step_all (by omega)
    refine c_exit ?_
    refine e_then (by simp) ?_
    refine e_then (by simp) ?_
    refine e_hit ?_
    refine e_K (hK2 _ _ _ _ ?_)
    refine c_seq fun K8 hK8 => ?_
    refine c_seq fun K9 hK9 => ?_
    refine c_region ?_
    refine sv (o_fa0 fd25_0 rfl) rfl ?_
    refine sv (o_ld sc3 rfl (Bg1.cell rfl)) rfl ?_
    refine sv (o_neq rfl rfl) rfl ?_
    refine l_nil ?_
    refine e_K (hK9 _ _ _ _ ?_)
    refine c_if rfl (fun h22 => ?_) (fun h22 => ?_)
    · skip
      refine c_seq fun K10 hK10 => ?_
      refine c_region ?_
      refine sv (o_as rfl) rfl ?_
      refine l_nil ?_
      refine e_K (hK10 _ _ _ _ ?_)
      refine c_ret ?_
      refine e_then (by simp) ?_
      exact ret1 rfl rfl ⟨by rw [htx, JV.txt, if_neg (by omega)], E⟩
    · skip
      refine c_skip ?_
      refine e_K (hK8 _ _ _ _ ?_)
      refine c_seq fun K11 hK11 => ?_
      refine c_region ?_
      refine sv (o_fa0 fd25_3 rfl) rfl ?_
      refine sv (o_ld sc9 rfl (Bg1.cell rfl)) rfl ?_
      refine sv (o_as rfl) rfl ?_
      refine l_nil ?_
      refine e_K (hK11 _ _ _ _ ?_)
      refine c_ret ?_
      exact ret1 rfl rfl ⟨by rw [htx, JV.txt, if_pos (by omega)], E⟩

theorem c_text15 (w : World) (v : JV) (us : List Value) (R : Reps [] w v.D us) (k : Str) : Calls Tryd.prog 23 [.agg us.toArray, S k].toArray w (Ret fun u w' => u = S (v.text [k]) ∧ Mod [] w w') := by
  refine enter Tryd.func23 rfl rfl rfl (l := [(0, _), (1, _)]) ⟨rfl, rfl, trivial⟩ ?_
  have E := Mod.refl [] w
  obtain ⟨al, cl, am, cm, rfl, Rl, Rm⟩ := JV.cells_ R
  refine c_seq fun K1 hK1 => ?_
  refine c_region ?_
  refine s_box rfl rfl rfl fun g1 w1 N1 => ?_
  have Lg1_E := N1.le E
  replace E := E.then N1.mod
  have Bg1 := N1.blk
  refine sv (o_as rfl) rfl ?_
  refine l_nil ?_
  refine e_K (hK1 _ _ _ _ ?_)
  refine c_seq fun K2 hK2 => ?_
  refine c_seq fun K3 hK3 => ?_
  refine c_region ?_
  refine sv (o_fa0 fd25_0 rfl) rfl ?_
  refine sv (o_ld sc3 rfl (Bg1.cell rfl)) rfl ?_
  refine sv (o_neq rfl rfl) rfl ?_
  refine l_nil ?_
  refine e_K (hK3 _ _ _ _ ?_)
  refine c_if rfl (fun h9 => ?_) (fun h9 => ?_)
  · skip
    refine c_seq fun K4 hK4 => ?_
    refine c_region ?_
    refine sv (o_as rfl) rfl ?_
    refine l_nil ?_
    refine e_K (hK4 _ _ _ _ ?_)
    refine c_ret ?_
    refine e_then (by simp) ?_
    exact ret1 rfl rfl ⟨by rw [JV.text_no (by omega)], E⟩
  · skip
    have hk5 : v.kind = 5 := by omega
    refine c_skip ?_
    refine e_K (hK2 _ _ _ _ ?_)
    refine c_seq fun K5 hK5 => ?_
    refine c_region ?_
    refine sv (o_fa0 fd25_5 rfl) rfl ?_
    refine sv (o_ld sc23 rfl (Bg1.cell rfl)) rfl ?_
    refine sv (o_mv rfl) rfl ?_
    refine sc (o_call ent24 rfl) (c_jfindR [] w _ E v.map _ Rm k) rfl fun v_ w2 h_ => ?_
    obtain ⟨us_n, rfl, R_n, E_⟩ := h_
    replace Bg1 := Bg1.mod0 E_
    replace E := E.then E_
    obtain ⟨x, hx⟩ : ∃ x, x = (look v.map k).getD JV.nul := ⟨_, rfl⟩
    rw [← hx] at R_n
    obtain ⟨al_n, cl_n, am_n, cm_n, rfl, _, _⟩ := JV.cells_ R_n
    refine sv (o_mv rfl) rfl ?_
    refine sv (o_ext rfl rfl) rfl ?_
    refine sv (o_ext rfl rfl) rfl ?_
    refine s_alloc zv25 rfl fun g2 w3 N2 => ?_
    have Lg2_E := N2.le E
    have Dg1_g2 := N2.ne Bg1
    replace Bg1 := Bg1.mod0 N2.mod
    replace E := E.then N2.mod
    have Bg2 := N2.blk
    refine s_sta (vs := [_, _, _, _, _, _]) ag25 Bg2 rfl rfl rfl (by simp [Value.oneCell']) (by simp) fun w4 P4 => ?_
    replace Bg1 := Bg1.ne P4.mod (Ne.symm (Ne.symm Dg1_g2))
    replace E := E.own P4.mod Lg2_E
    replace Bg2 : Blk w4 g2 _ [_, _, _, _, _, _] := P4.blk
    refine sv (o_as rfl) rfl ?_
    refine l_nil ?_
    refine e_K (hK5 _ _ _ _ ?_)
    refine c_seq fun K6 hK6 => ?_
    refine c_seq fun K7 hK7 => ?_
    refine c_region ?_
    refine sv (o_fa0 fd25_0 rfl) rfl ?_
    refine sv (o_ld sc3 rfl (Bg2.cell rfl)) rfl ?_
    refine sv (o_neq rfl rfl) rfl ?_
    refine l_nil ?_
    refine e_K (hK7 _ _ _ _ ?_)
    refine c_if rfl (fun h19 => ?_) (fun h19 => ?_)
    · skip
      refine c_seq fun K8 hK8 => ?_
      refine c_region ?_
      refine sv (o_as rfl) rfl ?_
      refine l_nil ?_
      refine e_K (hK8 _ _ _ _ ?_)
      refine c_ret ?_
      refine e_then (by simp) ?_
      exact ret1 rfl rfl ⟨by rw [JV.text_yes hk5, ← hx, JV.txt, if_neg (by omega)], E⟩
    · skip
      refine c_skip ?_
      refine e_K (hK6 _ _ _ _ ?_)
      refine c_seq fun K9 hK9 => ?_
      refine c_region ?_
      refine sv (o_fa0 fd25_3 rfl) rfl ?_
      refine sv (o_ld sc9 rfl (Bg2.cell rfl)) rfl ?_
      refine sv (o_as rfl) rfl ?_
      refine l_nil ?_
      refine e_K (hK9 _ _ _ _ ?_)
      refine c_ret ?_
      exact ret1 rfl rfl ⟨by rw [JV.text_yes hk5, ← hx, JV.txt, if_pos (by omega)], E⟩
end Go.Proofs.YtebfihecdooneaaDoor.V

set_option linter.unusedVariables false
set_option linter.unusedSimpArgs false
namespace Go.Proofs.YtebfihecdooneaaDoor.V
open Go
section
variable {P : Program} {ops : Array Oper} {Q : Exit → Act → World → Prop} {n' : Nat} {ds : List Deferred} {l : List (Nat × Value)} {w w' : World}
variable {rest : List Oper} {ty : TypeId} {pos : String} {af : Array Edge} {x y : Operand} {t : TypeId}
theorem zero_one {zs : Array Value} {n : Nat} (h : ∀ u ∈ zs, u.oneCell' = true) (hs : 0 < zs.size) : ∀ u ∈ (Builtin.zeroCells zs n).toList, u.oneCell' = true := by
  intro u hu
  unfold Builtin.zeroCells at hu
  rw [Array.toList_map] at hu
  obtain ⟨i, _, rfl⟩ := List.mem_map.1 hu
  have : i % zs.size < zs.size := Nat.mod_lt _ hs
  rw [getElem!_pos zs _ this]
  exact h _ (Array.getElem_mem this)
theorem suv {op : Op} {v : Value} (hr : Runs P l ⟨none, op, ty, pos, af, none⟩ w v w') (h : WL P ops Q rest n' ds l w') :
    WL P ops Q (⟨none, op, ty, pos, af, none⟩ :: rest) n' ds l w := by
  intro a ha
  refine wpList_plain rfl fun K hK => ?_
  have := hr a.eval (fun x u hx => ha.ev hx)
  simp only [Oper.wp, this, Oper.upon]
  exact hK _ _ (h _ (by simpa [Act.put] using ha))
theorem s_clear {e sz by_ n c k : Nat} {ad : Addr} {vs zs : List Value} (ht : slB P t e sz by_ = true) (hz : zvB P e zs) (hzl : zs.length = sz) (hsz : 0 < sz) (h1c : ∀ u ∈ zs, u.oneCell' = true) (O : Own w e sz (.slice (some ad) n c) n vs) (hk : k ≤ n)
    (hx : evO l x = some (.slice (adS (some ad) c k sz) (n - k) (c - k)))
    (h : ∀ w', Own w' e sz (.slice (some ad) k c) k (vs.take (k * sz)) → Mod [ad.block] w w' → w'.heap.size = w.heap.size → WL P ops Q rest n' ds l w') :
    WL P ops Q (⟨none, .call { callee := .builtin .clear, args := #[x], argTypes := #[t] }, ty, pos, af, none⟩ :: rest) n' ds l w := by
  obtain ⟨i, z, h1, h2, h3, h4, h5, h6⟩ := slB_spec ht
  obtain ⟨i', z', h7, h8, h9⟩ := zvB_spec hz
  rcases Nat.eq_or_lt_of_le hk with rfl | hlt
  · have hr : Runs P l ⟨none, .call { callee := .builtin .clear, args := #[x], argTypes := #[t] }, ty, pos, af, none⟩ w (.tuple #[]) w := fun ρ hρ => by
      have hv := hρ _ _ hx
      rw [Nat.sub_self] at hv
      simp only [execOp, resolve, invoke, builtin, Builtin.clear_]
      cases hc : adS (some ad) c k sz <;> rw [hc] at hv <;> simp [hv, run_underlying h1]
    exact suv hr (h w (O.take (Nat.le_refl _)) (Mod.refl _ w) rfl)
  · rcases O.2 with ⟨h0, _⟩ | ⟨g, o, cap, cs, hv, hB, hc1, hc2, hc3, hc4⟩
    · cases h0
    injection hv with e1 e2 e3
    injection e1 with e1
    subst e1; subst e3
    have hcz : (Builtin.zeroCells z'.cells (n - k)).size = (n - k) * sz := by
      simp [Builtin.zeroCells, h9, hzl]
    have hvl := O.1
    have hle : k * sz + (n - k) * sz = n * sz := by rw [← Nat.add_mul]; congr 1; omega
    have hle2 : n * sz ≤ c * sz := Nat.mul_le_mul_right _ hc1
    obtain ⟨w1, hst, hp⟩ := storeCells_put (P := P) hB (o := o + k * sz) (vs := (Builtin.zeroCells z'.cells (n - k)).toList) (by rw [Array.length_toList, hcz]; omega)
      (zero_one (by rw [h9]; simpa using h1c) (by rw [h9]; simp [hzl]; omega))
    have had : adS (some ⟨g, o, none⟩) c k sz = some ⟨g, o + k * sz, none⟩ := by
      unfold adS
      rw [if_neg (by omega)]
      simp [Addr.add_lit]
    rw [had] at hx
    have hr : Runs P l ⟨none, .call { callee := .builtin .clear, args := #[x], argTypes := #[t] }, ty, pos, af, none⟩ w (.tuple #[]) w1 := fun ρ hρ => by
      have hnk : ¬ n - k = 0 := by omega
      obtain ⟨m, hm⟩ : ∃ m, n - k = m + 1 := ⟨n - k - 1, by omega⟩
      have hv := hρ _ _ hx
      rw [hm] at hv hst
      simp [execOp, resolve, invoke, builtin, Builtin.clear_, hv, run_underlying h1, zeroValue, typeInfo, h7, h8, hst]
    refine suv hr (h w1 ⟨by rw [List.length_take, hvl]; omega, .inr ⟨g, o, c, _, rfl, hp.blk, by omega, hc2, by simp [splice, hcz]; omega, ?_⟩⟩ hp.mod hp.size)
    subst hc4
    apply List.ext_getElem?
    intro j
    simp only [splice]
    simp only [List.getElem?_take, List.getElem?_drop, List.getElem?_append, List.length_append, List.length_take, List.length_drop, Array.length_toList, hcz]
    repeat' split
    all_goals first
      | omega
      | rfl
      | (congr 1; omega)
      | skip
end
end Go.Proofs.YtebfihecdooneaaDoor.V
