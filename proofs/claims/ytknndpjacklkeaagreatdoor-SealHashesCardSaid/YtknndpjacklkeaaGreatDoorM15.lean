/-
  A part of the proof: states put together slot by slot; pairs in order; insertion; doubled neighbours left out; the pairs that every event needs; a member's value written in place; members put one by one; what stays of a content, as the program and as the document tell it: the same; lists of texts that are built; strings the other way round; the pairs by which an event is allowed: the program's way and the document's way are the same; what Select and Right answer, in plain Lean; events that can be, in plain Lean. No condition of its own.
-/
import Derived.Test.YtknndpjacklkeaaGreatDoorM3
import Derived.Test.YtknndpjacklkeaaGreatDoorM11
import Derived.Test.YtknndpjacklkeaaGreatDoorM7
import Derived.Test.YtknndpjacklkeaaGreatDoorM14
import Derived.Test.YtknndpjacklkeaaGreatDoorM4
set_option linter.unusedVariables false
set_option linter.unusedSimpArgs false
namespace Go.Proofs.YtknndpjacklkeaaGreatDoor.V
open Go
end Go.Proofs.YtknndpjacklkeaaGreatDoor.V

set_option linter.unusedVariables false
set_option linter.unusedSimpArgs false
namespace Go.Proofs.YtknndpjacklkeaaGreatDoor.V
open Go
theorem pairs_one {xs : List Pair} : ∀ x ∈ xs, ∀ c ∈ Pair.cells x, c.oneCell' = true := by
 intro x _ c hc
 simp at hc
 rcases hc with rfl | rfl <;> rfl
theorem Own.pairs {w : World} {e : Nat} {v : Value} {xs : List Pair} (A : List Nat) (h : Own w e 2 v xs.length ((xs.map Pair.cells).flatten)) (hA : ∀ x ∈ ob v, x ∉ A) : Rep A w (pairsD xs) v := Own.flat h (fun _ _ => rfl) pairs_one rfl hA
def insP (x : Pair) (S : List Pair) : List Pair := S.filter (fun y => !plt x y) ++ [x] ++ S.filter (fun y => plt x y)
def isortP (xs : List Pair) (k : Nat) : List Pair := (xs.take k).foldl (fun S x => insP x S) []
end Go.Proofs.YtknndpjacklkeaaGreatDoor.V

set_option linter.unusedVariables false
set_option linter.unusedSimpArgs false
namespace Go.Proofs.YtknndpjacklkeaaGreatDoor.V
open Go
def crS : Str := [109, 46, 114, 111, 111, 109, 46, 99, 114, 101, 97, 116, 101]
def pwS : Str := [109, 46, 114, 111, 111, 109, 46, 112, 111, 119, 101, 114, 95, 108, 101, 118, 101, 108, 115]
def mbS : Str := [109, 46, 114, 111, 111, 109, 46, 109, 101, 109, 98, 101, 114]
def ndP (snd : Str) : List Pair := [⟨crS, []⟩, ⟨pwS, []⟩, ⟨mbS, snd⟩]
end Go.Proofs.YtknndpjacklkeaaGreatDoor.V

set_option linter.unusedVariables false
set_option linter.unusedSimpArgs false
namespace Go.Proofs.YtknndpjacklkeaaGreatDoor.V
open Go
theorem JV.rows_setv {A : List Nat} {w : World} {m : List (Str × JV)} {y : Str × JV} {x : JV} {vs us : List Value} {i : Nat} (h : Reps A w (m.map JV.Dp).flatten vs) (hy : m[i]? = some y) (hx : Reps A w x.D us) :
  Reps A w ((m.set i (y.1, x)).map JV.Dp).flatten (vs.take (i * 7 + 1) ++ us ++ vs.drop (i * 7 + 1 + 6)) := by
 have hi := (List.getElem?_eq_some_iff.1 hy).1
 have h1 := JV.rows_set (p := (y.1, x)) h hi (JV.Dp_reps (p := (y.1, x)) hx)
 have h2 := Reps.row_of_flat (JV.Dp_all m) h i (JV.Dp y) (by simp [hy])
 obtain ⟨u, us', he, h3, _⟩ := h2
 obtain rfl := h3.v_eq
 have h4 : vs[i * 7]? = some (S y.1) := by
  have := congrArg (fun l => l[0]?) he
  simpa [List.getElem?_take, List.getElem?_drop] using this
 have h5 : vs.take (i * 7 + 1) = vs.take (i * 7) ++ [S y.1] := by rw [List.take_add_one, h4]; rfl
 rw [h5, show i * 7 + 1 + 6 = (i + 1) * 7 by omega]
 simpa using h1
theorem JV.obj_repsN {A : List Nat} {w : World} {m : List (Str × JV)} {am : Option Addr} {cm n : Nat} (hn : m.length = n) (R : Rep A w (.sl 7 (m.map JV.Dp)) (.slice am n cm)) : Reps A w (JV.obj m).D [.int .i64 5, .bool false, .int .i64 0, S [], .slice none 0 0, .slice am n cm] := by
 subst hn
 exact JV.obj_reps R
end Go.Proofs.YtknndpjacklkeaaGreatDoor.V

set_option linter.unusedVariables false
set_option linter.unusedSimpArgs false
namespace Go.Proofs.YtknndpjacklkeaaGreatDoor.V
open Go
theorem JV.tbl_obj (m : List (Str × JV)) : (JV.obj m).tbl = m := by simp [JV.tbl, JV.obj, JV.kind, JV.map]
theorem putM_len {β : Type} {m : List (Str × β)} {k : Str} {x : β} (h : ascM m) : (putM m k x).length ≤ m.length + 1 := by
 have key : ∀ {r : List (Str × β)}, (r.filter fun p => bl p.1 k).length + (r.filter fun p => bl k p.1).length ≤ r.length := by
  intro r
  induction r with
  | nil => simp
  | cons p r ih =>
   by_cases h1 : bl p.1 k = true
   ·have h2 := bl_asymm h1
    simp [h1, h2]
    omega
   ·by_cases h2 : bl k p.1 = true
    ·simp [h1, h2]
     omega
    ·simp [h1, h2]
     omega
 have := key (r := m)
 simp only [putM, List.length_append, List.length_singleton]
 omega
def putAll (m : List (Str × JV)) (k : Nat) : List (Str × JV) := (m.take k).foldl (fun a p => putM a p.1 p.2) []
theorem putAll_zero (m : List (Str × JV)) : putAll m 0 = [] := by simp [putAll]
theorem putAll_succ {m : List (Str × JV)} {k : Nat} {p : Str × JV} (h : m[k]? = some p) : putAll m (k + 1) = putM (putAll m k) p.1 p.2 := by
 have hlt := (List.getElem?_eq_some_iff.1 h).1
 rw [putAll, List.take_succ_eq_append_getElem hlt, (List.getElem?_eq_some_iff.1 h).2, List.foldl_append]
 rfl
theorem putAll_asc (m : List (Str × JV)) (k : Nat) : ascM (putAll m k) := by
 unfold putAll
 generalize m.take k = l
 suffices ∀ (l a : List (Str × JV)), ascM a → ascM (l.foldl (fun a p => putM a p.1 p.2) a) from this l [] List.Pairwise.nil
 intro l
 induction l with
 | nil => intro a h; exact h
 | cons p r ih => intro a h; exact ih _ (ascM_put h)
theorem putAll_len (m : List (Str × JV)) (k : Nat) : (putAll m k).length ≤ k := by
 induction k with
 | zero => simp [putAll]
 | succ k ih =>
  rcases Nat.lt_or_ge k m.length with h | h
  ·rw [putAll_succ (List.getElem?_eq_getElem h)]
   have := putM_len (k := (m[k]).1) (x := (m[k]).2) (putAll_asc m k)
   omega
  ·have : putAll m (k + 1) = putAll m k := by rw [putAll, putAll, List.take_of_length_le h, List.take_of_length_le (by omega)]
   rw [this]
   omega
end Go.Proofs.YtknndpjacklkeaaGreatDoor.V

set_option linter.unusedVariables false
set_option linter.unusedSimpArgs false
namespace Go.Proofs.YtknndpjacklkeaaGreatDoor.V
open Go
abbrev kCreate : Str := [109, 46, 114, 111, 111, 109, 46, 99, 114, 101, 97, 116, 101]
abbrev kThird : Str := [116, 104, 105, 114, 100, 95, 112, 97, 114, 116, 121, 95, 105, 110, 118, 105, 116, 101]
abbrev kSigned : Str := [115, 105, 103, 110, 101, 100]
abbrev k_member : Str := [109, 46, 114, 111, 111, 109, 46, 109, 101, 109, 98, 101, 114]
abbrev l_member : List Str := [[106, 111, 105, 110, 95, 97, 117, 116, 104, 111, 114, 105, 115, 101, 100, 95, 118, 105, 97, 95, 117, 115, 101, 114, 115, 95, 115, 101, 114, 118, 101, 114], [109, 101, 109, 98, 101, 114, 115, 104, 105, 112]]
abbrev k_join_rules : Str := [109, 46, 114, 111, 111, 109, 46, 106, 111, 105, 110, 95, 114, 117, 108, 101, 115]
abbrev l_join_rules : List Str := [[97, 108, 108, 111, 119], [106, 111, 105, 110, 95, 114, 117, 108, 101]]
abbrev k_power_levels : Str := [109, 46, 114, 111, 111, 109, 46, 112, 111, 119, 101, 114, 95, 108, 101, 118, 101, 108, 115]
abbrev l_power_levels : List Str := [[98, 97, 110], [101, 118, 101, 110, 116, 115], [101, 118, 101, 110, 116, 115, 95, 100, 101, 102, 97, 117, 108, 116], [105, 110, 118, 105, 116, 101], [107, 105, 99, 107], [114, 101, 100, 97, 99, 116], [115, 116, 97, 116, 101, 95, 100, 101, 102, 97, 117, 108, 116], [117, 115, 101, 114, 115], [117, 115, 101, 114, 115, 95, 100, 101, 102, 97, 117, 108, 116]]
abbrev k_history_visibility : Str := [109, 46, 114, 111, 111, 109, 46, 104, 105, 115, 116, 111, 114, 121, 95, 118, 105, 115, 105, 98, 105, 108, 105, 116, 121]
abbrev l_history_visibility : List Str := [[104, 105, 115, 116, 111, 114, 121, 95, 118, 105, 115, 105, 98, 105, 108, 105, 116, 121]]
abbrev k_redaction : Str := [109, 46, 114, 111, 111, 109, 46, 114, 101, 100, 97, 99, 116, 105, 111, 110]
abbrev l_redaction : List Str := [[114, 101, 100, 97, 99, 116, 115]]
def keptK (kind : Str) : List Str :=
 if kind = k_member then l_member else
 if kind = k_join_rules then l_join_rules else
 if kind = k_power_levels then l_power_levels else
 if kind = k_history_visibility then l_history_visibility else
 if kind = k_redaction then l_redaction else
 []
namespace JV
def putG (v : JV) (acc : List (Str × JV)) (k : Str) : List (Str × JV) := match v.get k with
 | some x => putM acc k x
 | none => acc
def keep (v : JV) (K : List Str) : List (Str × JV) := K.foldl (putG v) []
def third (v : JV) : JV := (v.get kThird).getD nul
def contentM (kind : Str) (v : JV) : List (Str × JV) := match v.third.get kSigned with
 | some y => if kind = k_member then putM (v.keep (keptK kind)) kThird (obj [(kSigned, y)]) else v.keep (keptK kind)
 | none => v.keep (keptK kind)
def content (kind : Str) (v : JV) : JV := if kind = kCreate then v else obj (contentM kind v)
def stay0 (kind : Str) (p : Str × JV) : Option (Str × JV) := if p.1 ∈ keptK kind then some p else none
def stay (kind : Str) (p : Str × JV) : Option (Str × JV) :=
 if p.1 = kThird ∧ kind = k_member ∧ p.2.kind = 5 then match look p.2.map kSigned with
  | some y => some (p.1, obj [(kSigned, y)])
  | none => stay0 kind p
 else stay0 kind p
def contentR (kind : Str) (v : JV) : JV := if kind = kCreate then v else if v.kind ≠ 5 then obj [] else obj (v.map.filterMap (stay kind))
end JV
section
variable {β : Type}
theorem look_filterMap {f : Str × β → Option (Str × β)} (hf : ∀ p q, f p = some q → q.1 = p.1) : ∀ {m : List (Str × β)} {k : Str}, ascM m → look (m.filterMap f) k = ((look m k).bind fun x => f (k, x)).map (·.2)
 | [], k, _ => rfl
 | p :: r, k, h => by
  have ih := look_filterMap hf (m := r) (k := k) (List.Pairwise.of_cons h)
  cases hp : f p with
  | none =>
   rw [List.filterMap_cons_none hp, ih]
   by_cases hk : p.1 = k
   ·subst hk
    have hn : look r p.1 = none := look_none_of fun j y hy e => by
     have := List.rel_of_pairwise_cons h (List.mem_of_getElem? hy)
     rw [e, bl_irrefl] at this
     cases this
    rw [hn, look, if_pos rfl]
    show _ = Option.map _ (f p)
    rw [hp]
    rfl
   ·rw [look, if_neg hk]
  | some q =>
   rw [List.filterMap_cons_some hp, look]
   have hq := hf p q hp
   by_cases hk : p.1 = k
   ·subst hk
    rw [if_pos hq, look, if_pos rfl]
    show _ = Option.map _ (f p)
    rw [hp]
    rfl
   ·rw [if_neg (by rw [hq]; exact hk), ih, look, if_neg hk]
theorem ascM_filterMap {f : Str × β → Option (Str × β)} (hf : ∀ p q, f p = some q → q.1 = p.1) {m : List (Str × β)} (h : ascM m) : ascM (m.filterMap f) := by
 unfold ascM at h ⊢
 rw [List.pairwise_filterMap]
 refine h.imp ?_
 intro a b hab c hc d hd
 rw [hf a c hc, hf b d hd]
 exact hab
end
namespace JV
theorem stay0_key {kind : Str} {p q : Str × JV} (h : stay0 kind p = some q) : q.1 = p.1 := by
 unfold stay0 at h
 split at h
 ·injection h with h; rw [h]
 ·cases h
theorem stay_key (kind : Str) (p q : Str × JV) (h : stay kind p = some q) : q.1 = p.1 := by
 unfold stay at h
 split at h
 ·split at h
  ·injection h with h; rw [← h]
  ·exact stay0_key h
 ·exact stay0_key h
theorem putG_asc {v : JV} {a : List (Str × JV)} {k : Str} (h : ascM a) : ascM (putG v a k) := by
 unfold putG
 split
 ·exact ascM_put h
 ·exact h
theorem foldG_asc {v : JV} : ∀ {K : List Str} {a : List (Str × JV)}, ascM a → ascM (K.foldl (putG v) a)
 | [], a, h => h
 | k :: K, a, h => foldG_asc (K := K) (a := putG v a k) (putG_asc h)
theorem keep_asc (v : JV) (K : List Str) : ascM (v.keep K) := foldG_asc List.Pairwise.nil
theorem look_putG {v : JV} {a : List (Str × JV)} {k k' : Str} : look (putG v a k) k' = if k' = k then (v.get k).or (look a k') else look a k' := by
 unfold putG
 cases h : v.get k with
 | none => simp
 | some x =>
  simp only [look_put]
  by_cases hk : k' = k <;> simp [hk]
theorem look_foldG {v : JV} {k' : Str} : ∀ {K : List Str} {a : List (Str × JV)}, look (K.foldl (putG v) a) k' = if k' ∈ K then (v.get k').or (look a k') else look a k'
 | [], a => by simp
 | k :: K, a => by
  rw [List.foldl_cons, look_foldG, look_putG]
  by_cases hk : k' = k
  ·subst hk
   by_cases h : k' ∈ K <;> simp [h]
   cases v.get k' <;> simp
  ·by_cases h : k' ∈ K <;> simp [h, hk]
theorem look_keep {v : JV} {k' : Str} {K : List Str} : look (v.keep K) k' = if k' ∈ K then v.get k' else none := by
 rw [keep, look_foldG]
 simp [look]
theorem content_eq {kind : Str} {v : JV} (h : ascM v.map) : content kind v = contentR kind v := by
 unfold content contentR
 split
 ·rfl
 ·by_cases h5 : v.kind = 5
  ·rw [if_neg (by simp [h5])]
   congr 1
   refine ascM_ext ?_ (ascM_filterMap (stay_key kind) h) fun k => ?_
   ·unfold contentM
    split
    ·split
     ·exact ascM_put (keep_asc _ _)
     ·exact keep_asc _ _
    ·exact keep_asc _ _
   ·rw [look_filterMap (stay_key kind) h]
    have hg : ∀ k, v.get k = look v.map k := fun k => by simp [JV.get, h5]
    have hk0 : ∀ x, (stay0 kind (k, x)).map (·.2) = if k ∈ keptK kind then some x else none := fun x => by
     unfold stay0
     split <;> simp_all
    have hkeep : look (v.keep (keptK kind)) k = (look v.map k).bind fun x => (stay0 kind (k, x)).map (·.2) := by
     rw [look_keep, hg]
     cases look v.map k with
     | none => simp
     | some x => simp only [Option.bind_some, hk0]
    by_cases hkt : k = kThird
    ·subst hkt
     cases hl : look v.map kThird with
     | none =>
      have ht : v.third.get kSigned = none := by simp [third, hg, hl, JV.get, nul, JV.kind]
      simp only [contentM, ht, hkeep, hl]
      rfl
     | some x =>
      have ht : v.third = x := by simp [third, hg, hl]
      have hx : v.third.get kSigned = if x.kind = 5 then look x.map kSigned else none := by rw [ht]; rfl
      simp only [Option.bind_some]
      by_cases hx5 : x.kind = 5
      ·rw [if_pos hx5] at hx
       cases hy : look x.map kSigned with
       | none =>
        rw [hy] at hx
        have hs : stay kind (kThird, x) = stay0 kind (kThird, x) := by
         unfold stay
         split
         ·simp [hy]
         ·rfl
        simp only [contentM, hx, hkeep, hl, hs]
        rfl
       | some y =>
        rw [hy] at hx
        by_cases hm : kind = k_member
        ·have hs : stay kind (kThird, x) = some (kThird, obj [(kSigned, y)]) := by
          unfold stay
          rw [if_pos ⟨rfl, hm, hx5⟩]
          simp [hy]
         simp only [contentM, hx, if_pos hm, look_put, hs]
         simp
        ·have hs : stay kind (kThird, x) = stay0 kind (kThird, x) := by
          unfold stay
          rw [if_neg (fun e => hm e.2.1)]
         simp only [contentM, hx, if_neg hm, hkeep, hl, hs]
         rfl
      ·rw [if_neg hx5] at hx
       have hs : stay kind (kThird, x) = stay0 kind (kThird, x) := by
        unfold stay
        rw [if_neg (fun e => hx5 e.2.2)]
       simp only [contentM, hx, hkeep, hl, hs]
       rfl
    ·have hs : ∀ x, stay kind (k, x) = stay0 kind (k, x) := fun x => by
      unfold stay
      rw [if_neg (fun e => hkt e.1)]
     have hc : look (contentM kind v) k = look (v.keep (keptK kind)) k := by
      unfold contentM
      split
      ·split
       ·rw [look_put, if_neg hkt]
       ·rfl
      ·rfl
     rw [hc, hkeep]
     cases look v.map k with
     | none => simp
     | some x => simp only [Option.bind_some, hs]
  ·rw [if_pos h5]
   have hg : ∀ k, v.get k = none := fun k => by simp [JV.get, h5]
   have ht : v.third.get kSigned = none := by
    have : v.third = nul := by simp [third, hg]
    rw [this]
    simp [JV.get, nul, JV.kind]
   have hK : ∀ K : List Str, v.keep K = [] := fun K => by
    refine ascM_ext (keep_asc v K) List.Pairwise.nil fun k => ?_
    rw [look_keep, hg]
    simp [look]
   congr 1
   simp [contentM, ht, hK]
end JV
end Go.Proofs.YtknndpjacklkeaaGreatDoor.V

set_option linter.unusedVariables false
set_option linter.unusedSimpArgs false
namespace Go.Proofs.YtknndpjacklkeaaGreatDoor.V
open Go
theorem strs_blk {A : List Nat} {w : World} {g e : Nat} {xs : List Str} (B : Blk w g e (xs.map S)) (hl : xs.length ≤ 1000) (hA : g ∉ A) : Rep A w (strD xs) (.slice (some ⟨g, 0, none⟩) xs.length xs.length) := by
 have hf : ∀ ys : List Str, (ys.map fun s => [S s]).flatten = ys.map S := fun ys => by
  induction ys with
  | nil => rfl
  | cons a r ih => simp [ih]
 have O : Own w e 1 (.slice (some ⟨g, 0, none⟩) xs.length xs.length) xs.length ((xs.map fun s => [S s]).flatten) := by
  rw [hf]
  exact Own.all B (by simp) (by omega)
 exact Own.flat O (fun _ _ => rfl) (fun x _ c hc => by simp at hc; subst hc; rfl) rfl (by simpa [ob] using hA)
theorem gt_bl (a b : Str) : (!(bl a b || a == b)) = bl b a := by
 rcases bl_total a b with h | h | h
 ·rw [h, bl_asymm h]; rfl
 ·subst h; simp [bl_irrefl]
 ·rw [h, bl_asymm h]
  have hne : (a == b) = false := by
   cases he : a == b with
   | false => rfl
   | true => have := eq_of_beq he; subst this; rw [bl_irrefl] at h; cases h
  simp [hne]
theorem flt_len {β : Type} {k : Str} : ∀ {r : List (Str × β)}, (r.filter fun p => bl p.1 k).length + (r.filter fun p => bl k p.1).length ≤ r.length
 | [] => by simp
 | p :: r => by
  have ih := flt_len (k := k) (r := r)
  by_cases h1 : bl p.1 k = true
  ·have h2 := bl_asymm h1
   simp [h1, h2]
   omega
  ·by_cases h2 : bl k p.1 = true
   ·simp [h1, h2]
    omega
   ·simp [h1, h2]
    omega
theorem flt_take {β : Type} {q : Str × β → Bool} {m : List (Str × β)} {k : Nat} : ((m.take k).filter q).length ≤ (m.filter q).length := ((List.take_sublist k m).filter q).length_le
end Go.Proofs.YtknndpjacklkeaaGreatDoor.V

set_option linter.unusedVariables false
set_option linter.unusedSimpArgs false
namespace Go.Proofs.YtknndpjacklkeaaGreatDoor.V
open Go
def jrS : Str := [109, 46, 114, 111, 111, 109, 46, 106, 111, 105, 110, 95, 114, 117, 108, 101, 115]
def tpS : Str := [109, 46, 114, 111, 111, 109, 46, 116, 104, 105, 114, 100, 95, 112, 97, 114, 116, 121, 95, 105, 110, 118, 105, 116, 101]
def kMem : Str := [109, 101, 109, 98, 101, 114, 115, 104, 105, 112]
def joS : Str := [106, 111, 105, 110]
def inS : Str := [105, 110, 118, 105, 116, 101]
def knS : Str := [107, 110, 111, 99, 107]
def kTpi : Str := [116, 104, 105, 114, 100, 95, 112, 97, 114, 116, 121, 95, 105, 110, 118, 105, 116, 101]
def kSgn : Str := [115, 105, 103, 110, 101, 100]
def kTok : Str := [116, 111, 107, 101, 110]
def kBy : Str := [106, 111, 105, 110, 95, 97, 117, 116, 104, 111, 114, 105, 115, 101, 100, 95, 118, 105, 97, 95, 117, 115, 101, 114, 115, 95, 115, 101, 114, 118, 101, 114]
namespace JV
def sub (v : JV) (k : Str) : JV := (v.get k).getD nul
def txt (v : JV) : Str := if v.kind = 3 then v.str else []
def text (v : JV) (ks : List Str) : Str := (ks.foldl sub v).txt
theorem ok_map {v : JV} (h : v.ok) : v.map.length ≤ 1353245080310 := by have := ((ok_eq v).1 h).2.2.1; omega
end JV
namespace JV
def step (v : JV) (ks : List Str) (k : Nat) : JV := (ks.take k).foldl sub v
end JV
/-! ### pairs in order, each once -/
/-- what the document's with answers -/
def withP (l : List Pair) (p : Pair) : List Pair := l.filter (fun x => plt x p) ++ [p] ++ l.filter (fun x => plt p x)
theorem foldW_snoc {m : List Pair} {p : Pair} : (m ++ [p]).foldl withP [] = withP (m.foldl withP []) p := by rw [List.foldl_append]; rfl
theorem Own.w_ {w : World} {e : Nat} {v : Value} {m m' : List Pair} {p : Pair} (h : Own w e 2 v (withP (m.foldl withP []) p).length (((withP (m.foldl withP []) p).map Pair.cells).flatten)) (hm : m ++ [p] = m') : Own w e 2 v (m'.foldl withP []).length (((m'.foldl withP []).map Pair.cells).flatten) := by
 subst hm
 rw [foldW_snoc]
 exact h
theorem Own.w1 {w : World} {e : Nat} {v : Value} {p : Pair} (h : Own w e 2 v 1 p.cells) : Rep [] w (pairsD ([p].foldl withP [])) v := Own.pairs (xs := [p]) [] h (by simp)
/-- doubled neighbours left out, behind p -/
def dn : Pair → List Pair → List Pair
 | _, [] => []
 | p, x :: r => if x = p then dn x r else x :: dn x r
def dd : List Pair → List Pair
 | [] => []
 | a :: r => a :: dn a r
namespace EV
def hw (e : EV) : Str := e.con.text [kMem]
def tok (e : EV) : Str := e.con.text [kTpi, kSgn, kTok]
def byw (e : EV) : Str := e.con.text [kBy]
/-- what a member event needs besides -/
def more (e : EV) : List Pair :=
 if e.hw = joS then ⟨jrS, []⟩ :: if e.byw = [] then [] else [⟨mbS, e.byw⟩]
 else if e.hw = inS then ⟨jrS, []⟩ :: if e.tok = [] then [] else [⟨tpS, e.tok⟩]
 else if e.hw = knS then [⟨jrS, []⟩]
 else []
def needs (e : EV) : List Pair := ndP e.snd ++ if e.ty = mbS then ⟨mbS, e.key⟩ :: e.more else []
def need (e : EV) : List Pair := if e.ty = crS then [] else dd (isortP e.needs e.needs.length)
end EV
end Go.Proofs.YtknndpjacklkeaaGreatDoor.V

set_option linter.unusedVariables false
set_option linter.unusedSimpArgs false
namespace Go.Proofs.YtknndpjacklkeaaGreatDoor.V
open Go
theorem Own.strs {w : World} {e : Nat} {v : Value} {l : List Str} (A : List Nat) (h : Own w e 1 v l.length ((l.map fun s => [S s]).flatten)) (hA : ∀ x ∈ ob v, x ∉ A) : Rep A w (strD l) v := Own.flat h (fun _ _ => rfl) (fun x _ c hc => by simp at hc; subst hc; rfl) rfl hA
namespace EV
abbrev pr (e : EV) : Pair := ⟨e.ty, e.key⟩
/-- each state, each needed, no pair twice -/
def gd (need : List Pair) (l : List EV) : Prop := (∀ x ∈ l, x.st = true ∧ x.pr ∈ need) ∧ (l.map pr).Nodup
open Classical in
/-- may an event name these? -/
noncomputable def right (e : EV) (l : List EV) : Bool := decide (gd e.need l ∧ (e.ty = crS ∨ ∃ x ∈ l, x.ty = crS))
end EV
end Go.Proofs.YtknndpjacklkeaaGreatDoor.V

set_option linter.unusedVariables false
set_option linter.unusedSimpArgs false
namespace Go.Proofs.YtknndpjacklkeaaGreatDoor.V
open Go
def shortB (s : Str) : Bool := decide ((s.length : Int) ≤ 255) && validR s
def numB (n : Int) : Bool := decide (0 ≤ n) && decide (n ≤ 9007199254740991)
def sigB (s : Sig3) : Bool := serverB s.srv && keyB s.key && bytesB s.sig 64
def sigBad (p s : Sig3) : Bool := !(bl p.srv s.srv || p.srv == s.srv) || (decide (p.srv = s.srv) && !bl p.key s.key)
def okP (p : Option Sig3) (s : Sig3) : Bool := match p with
 | none => true
 | some q => !sigBad q s
def sigsL : Option Sig3 → List Sig3 → Bool
 | _, [] => true
 | p, s :: r => sigB s && okP p s && sigsL (some s) r
def prevS (l : List Sig3) (k : Nat) : Option Sig3 := if k = 0 then none else l[k - 1]?
theorem sigsL_at {l : List Sig3} {k : Nat} {s : Sig3} (h : l[k]? = some s) : sigsL (prevS l k) (l.drop k) = (sigB s && okP (prevS l k) s && sigsL (prevS l (k + 1)) (l.drop (k + 1))) := by
 obtain ⟨hk, rfl⟩ := List.getElem?_eq_some_iff.1 h
 have h2 : prevS l (k + 1) = some l[k] := by simp [prevS, hk]
 rw [List.drop_eq_getElem_cons hk, h2, sigsL]
theorem sigsL_end {l : List Sig3} {k : Nat} (h : l.length ≤ k) (p : Option Sig3) : sigsL p (l.drop k) = true := by
 rw [List.drop_eq_nil_of_le h, sigsL]
theorem okP_0 {l : List Sig3} {k : Nat} {s : Sig3} (h : k = 0) : okP (prevS l k) s = true := by subst h; rfl
theorem okP_at {l : List Sig3} {k : Nat} {s q : Sig3} (hq : l[k - 1]? = some q) (h : 0 < k) : okP (prevS l k) s = !sigBad q s := by
 unfold prevS
 rw [if_neg (by omega), hq]
 rfl
def EV.lens (e : EV) : Prop := e.room.length < 4294967281 ∧ e.snd.length < 4294967281 ∧ ∀ s ∈ e.sigs, s.srv.length < 4294967281
namespace EV
def fine1 (e : EV) : Bool := namedB 33 qRoom e.room && namedB 64 qUser e.snd && decide (e.ty ≠ []) && shortB e.ty && shortB e.key && (e.st || decide (e.key = []))
noncomputable def fine2 (e : EV) : Bool := e.fine1 && decide (e.con.kind = 5) && decide (ern (e.con.wr 0 []) = 0) && numB e.dep && numB e.time && bytesB e.hash 32 && sigsL none e.sigs
noncomputable def fine (e : EV) : Bool := e.fine2 && (e.prev ++ e.auth).all eventB
noncomputable def chk (e : EV) : Int := if 20 < e.prev.length ∨ 10 < e.auth.length then 22 else if e.fine = true then 0 else 21
theorem chk_many {e : EV} (h : 20 < e.prev.length ∨ 10 < e.auth.length) : e.chk = 22 := if_pos h
theorem chk_no {e : EV} (h : ¬ (20 < e.prev.length ∨ 10 < e.auth.length)) (hf : e.fine = false) : e.chk = 21 := by unfold chk; rw [if_neg h, if_neg (by simp [hf])]
theorem chk_yes {e : EV} (h : ¬ (20 < e.prev.length ∨ 10 < e.auth.length)) (hf : e.fine = true) : e.chk = 0 := by unfold chk; rw [if_neg h, if_pos hf]
theorem addW_ge : ∀ (l : List Nat) (n most : Nat), n ≤ addW l n most
 | [], n, _ => Nat.le_refl n
 | x :: r, n, most => by
  unfold addW
  split
  ·exact Nat.le_trans (Nat.le_add_right n x) (addW_ge r (n + x) most)
  ·exact Nat.le_refl n
theorem addW_mem : ∀ (l : List Nat) (n most : Nat), addW l n most ≤ most → ∀ x ∈ l, x ≤ most
 | y :: r, n, most, h, x, hx => by
  unfold addW at h
  split at h
  ·have h1 := addW_ge r (n + y) most
   rcases List.mem_cons.1 hx with rfl | hx
   ·omega
   ·exact addW_mem r (n + y) most h x hx
  ·omega
def names (e : EV) : Bool := namedB 33 qRoom e.room && namedB 64 qUser e.snd && decide (e.ty ≠ []) && shortB e.ty && shortB e.key
def nums (e : EV) : Bool := numB e.dep && numB e.time
theorem fine_eq (e : EV) : e.fine = (e.names && e.nums && (e.st || decide (e.key = [])) && decide (e.con.kind = 5) && decide (ern (e.con.wr 0 []) = 0) && bytesB e.hash 32 && sigsL none e.sigs && e.prev.all eventB && e.auth.all eventB) := by
 unfold fine fine2 fine1 names nums
 rw [List.all_append]
 generalize namedB 33 qRoom e.room = a1
 generalize namedB 64 qUser e.snd = a2
 generalize decide (e.ty ≠ []) = a3
 generalize shortB e.ty = a4
 generalize shortB e.key = a5
 generalize (e.st || decide (e.key = [])) = a6
 generalize decide (e.con.kind = 5) = a7
 generalize decide (ern (e.con.wr 0 []) = 0) = a8
 generalize numB e.dep = a9
 generalize numB e.time = a10
 generalize bytesB e.hash 32 = a11
 generalize sigsL none e.sigs = a12
 generalize e.prev.all eventB = a13
 generalize e.auth.all eventB = a14
 ac_rfl
theorem fine_prev {e : EV} (h : e.prev.all eventB = false) : e.fine = false := by rw [fine_eq, h]; simp
theorem fine_auth {e : EV} (h : e.auth.all eventB = false) : e.fine = false := by rw [fine_eq, h]; simp
theorem fine_sigs {e : EV} (h : sigsL none e.sigs = false) : e.fine = false := by rw [fine_eq, h]; simp
end EV
theorem all_succ2 {α : Type} {l : List α} {k : Nat} {y : α} (f : α → Bool) (h : l[k]? = some y) : (l.take (k + 1)).all f = ((l.take k).all f && f y) := by
 have hlt := (List.getElem?_eq_some_iff.1 h).1
 rw [List.take_succ_eq_append_getElem hlt, (List.getElem?_eq_some_iff.1 h).2, List.all_append]
 simp
theorem all_bad {α : Type} {l : List α} {k : Nat} {y : α} (f : α → Bool) (h : l[k]? = some y) (hf : f y = false) : l.all f = false := by
 rw [List.all_eq_false]
 exact ⟨y, List.mem_of_getElem? h, by simp [hf]⟩
theorem Rep.mod0 {A : List Nat} {w w' : World} {d : D} {u : Value} (R : Rep A w d u) (k : Mod [] w w') : Rep A w' d u := R.to0 k
end Go.Proofs.YtknndpjacklkeaaGreatDoor.V

set_option linter.unusedVariables false
set_option linter.unusedSimpArgs false
set_option maxRecDepth 10000
namespace Go.Proofs.YtknndpjacklkeaaGreatDoor.V
open Go Go.Proofs
theorem ent167 : Ent Tryz.prog 167 := Ent.of Tryz.func167 (by kernel_rfl) (by kernel_rfl)
theorem ent125 : Ent Tryz.prog 125 := Ent.of Tryz.func125 (by kernel_rfl) (by kernel_rfl)
theorem sl46 : slB Tryz.prog 46 85 3 48 = true := by kernel_rfl
theorem ag85 : agB Tryz.prog 85 3 = true := by kernel_rfl
theorem zv85 : zvB Tryz.prog 85 ([S [], S [], S []]) := by unfold zvB; kernel_rfl
theorem fd85_0 : fdB Tryz.prog 85 0 0 1 = true := by kernel_rfl
theorem fd85_1 : fdB Tryz.prog 85 1 1 1 = true := by kernel_rfl
theorem ent168 : Ent Tryz.prog 168 := Ent.of Tryz.func168 (by kernel_rfl) (by kernel_rfl)
theorem fd85_2 : fdB Tryz.prog 85 2 2 1 = true := by kernel_rfl
theorem ent120 : Ent Tryz.prog 120 := Ent.of Tryz.func120 (by kernel_rfl) (by kernel_rfl)
theorem c_event (w : World) (s : Str) (hs : s.length ≤ 140737488351232) : Calls Tryz.prog 123 [S s].toArray w (Ret fun u w' => u = .bool (eventB s) ∧ Mod [] w w') := by
 refine enter Tryz.func123 rfl rfl rfl (l := [(0, _)]) ⟨rfl, trivial⟩ ?_
 have E := Mod.refl [] w
 refine Cq fun K1 hK1 => Cr (Za rfl (Ln (e_K (hK1 _ _ _ _ (Cq fun K2 hK2 => Cq fun K3 hK3 => Cr (Zm rfl (Sv (o_seq rfl rfl) ?_)))))))
 refine bD (fun hk0 : s = [] => ?_) (fun hk0 => ?_)
 ·refine tW 5 rfl (Ln (e_K (hK3 _ _ _ _ (c_true rfl ?_))))
  have hF : eventB s = false := by subst hk0; simp [eventB]
  exact Cq fun K4 hK4 => Cr (Za rfl (Ln (e_K (hK4 _ _ _ _ (cR (eT (by simp) (ret1 rfl rfl ⟨by rw [hF], E⟩)))))))
 ·obtain ⟨b0, r, rfl⟩ : ∃ b r, s = b :: r := List.exists_cons_of_ne_nil hk0
  refine tW 2 rfl (Sg rfl rfl (o_sidx Tryz.underlying9 rfl rfl (by omega) rfl) (Sg rfl rfl (o_neq rfl rfl) ?_))
  refine bD (fun hk1 : (b0.toNat : Int) ≠ 36 => ?_) (fun hk1 => ?_)
  ·refine Sv (oF rfl rfl rfl) (Ln (e_K (hK3 _ _ _ _ (c_true rfl ?_))))
   have hF : eventB (b0 :: r) = false := by
    have h_ : b0 ≠ 36 := fun h => hk1 (by rw [h]; rfl)
    simp [eventB, h_]
   exact Cq fun K5 hK5 => Cr (Za rfl (Ln (e_K (hK5 _ _ _ _ (cR (eT (by simp) (ret1 rfl rfl ⟨by rw [hF], E⟩)))))))
  ·refine Sv (oF rfl rfl rfl) (Ln (e_K (hK3 _ _ _ _ (c_false rfl ?_))))
   have h36 : b0 = 36 := u8_eq (Classical.not_not.1 hk1)
   have hh : decide ((b0 :: r).head? = some 36) = true := by simp [h36]
   refine cK (e_K (hK2 _ _ _ _ (Cq fun K6 hK6 => Cr (Zm rfl (Sv (o_ssfrom (n := 1) Tryz.underlying9 rfl rfl (by simp)) (sc (oC ent167 rfl) (c_decode _ ((b0 :: r).drop 1) true (by simp only [List.length_drop]; omega)) rfl fun v_ w1 h_ => ?_))))))
   obtain ⟨⟨dv, bs, o, rfl, ho, hO, hbs, _⟩, E_⟩ := h_
   replace E := E.then E_
   obtain ⟨ad1, cp1, rfl, hcp1, hcp2⟩ := hO.form
   refine tW 5 rfl (Ln (e_K (hK6 _ _ _ _ (Cq fun K7 hK7 => Cr (Zm rfl ?_)))))
   refine bB (fun hk0 : (o) = true => ?_) (fun hk0 => ?_)
   ·have e32 : decide (((b0 :: r).drop 1).length * 6 / 8 = 32) = decide ((bs.length : Int) = 32) := by
     rw [decide_eq_decide]
     rw [hk0] at ho
     rw [← ho, if_pos rfl] at hbs
     omega
    refine tW 2 rfl (Sg rfl rfl (o_len Tryz.underlying74 rfl) (Sg rfl rfl (oE rfl rfl) ?_))
    refine bD (fun hk1 : (bs.length : Int) = 32 => ?_) (fun hk1 => ?_)
    ·exact tW 2 rfl (Ln (e_K (hK7 _ _ _ _ (cR (ret1 rfl rfl ⟨congrArg Value.bool (by rw [eventB, hh, ← ho, e32]; simp only [hk0, dT hk1, Bool.true_and, Bool.and_true, Bool.false_and, Bool.and_false, Bool.true_or, Bool.or_true, Bool.false_or, Bool.or_false, Bool.not_true, Bool.not_false]), E⟩)))))
    ·exact tW 2 rfl (Ln (e_K (hK7 _ _ _ _ (cR (ret1 rfl rfl ⟨congrArg Value.bool (by rw [eventB, hh, ← ho, e32]; simp only [hk0, dF hk1, Bool.true_and, Bool.and_true, Bool.false_and, Bool.and_false, Bool.true_or, Bool.or_true, Bool.false_or, Bool.or_false, Bool.not_true, Bool.not_false]), E⟩)))))
   ·exact tW 6 rfl (Ln (e_K (hK7 _ _ _ _ (cR (ret1 rfl rfl ⟨congrArg Value.bool (by rw [eventB, hh, ← ho]; simp only [bF hk0, Bool.true_and, Bool.and_true, Bool.false_and, Bool.and_false, Bool.true_or, Bool.or_true, Bool.false_or, Bool.or_false, Bool.not_true, Bool.not_false]), E⟩)))))

theorem c_eventR (w : World) (s : Str) (hs : s.length ≤ 140737488351232) : Calls Tryz.prog 66 [S s].toArray w (Ret fun u w' => u = .bool (eventB s) ∧ Mod [] w w') := by
 refine enter Tryz.func66 rfl rfl rfl (l := [(0, _)]) ⟨rfl, trivial⟩ ?_
 have E := Mod.refl [] w
 refine Cq fun K1 hK1 => Cr (Za rfl (Ln (e_K (hK1 _ _ _ _ (Cq fun K2 hK2 => Cq fun K3 hK3 => Cr (Zm rfl (Sv (o_seq rfl rfl) ?_)))))))
 refine bD (fun hk0 : s = [] => ?_) (fun hk0 => ?_)
 ·refine tW 5 rfl (Ln (e_K (hK3 _ _ _ _ (c_true rfl ?_))))
  have hF : eventB s = false := by subst hk0; simp [eventB]
  exact Cq fun K4 hK4 => Cr (Za rfl (Ln (e_K (hK4 _ _ _ _ (cR (eT (by simp) (ret1 rfl rfl ⟨by rw [hF], E⟩)))))))
 ·obtain ⟨b0, r, rfl⟩ : ∃ b r, s = b :: r := List.exists_cons_of_ne_nil hk0
  refine tW 2 rfl (Sg rfl rfl (o_sidx Tryz.underlying9 rfl rfl (by omega) rfl) (Sg rfl rfl (o_neq rfl rfl) ?_))
  refine bD (fun hk1 : (b0.toNat : Int) ≠ 36 => ?_) (fun hk1 => ?_)
  ·refine Sv (oF rfl rfl rfl) (Ln (e_K (hK3 _ _ _ _ (c_true rfl ?_))))
   have hF : eventB (b0 :: r) = false := by
    have h_ : b0 ≠ 36 := fun h => hk1 (by rw [h]; rfl)
    simp [eventB, h_]
   exact Cq fun K5 hK5 => Cr (Za rfl (Ln (e_K (hK5 _ _ _ _ (cR (eT (by simp) (ret1 rfl rfl ⟨by rw [hF], E⟩)))))))
  ·refine Sv (oF rfl rfl rfl) (Ln (e_K (hK3 _ _ _ _ (c_false rfl ?_))))
   have h36 : b0 = 36 := u8_eq (Classical.not_not.1 hk1)
   have hh : decide ((b0 :: r).head? = some 36) = true := by simp [h36]
   refine cK (e_K (hK2 _ _ _ _ (Cq fun K6 hK6 => Cr (Zm rfl (Sv (o_ssfrom (n := 1) Tryz.underlying9 rfl rfl (by simp)) (sc (oC ent125 rfl) (c_decodeR _ ((b0 :: r).drop 1) true (by simp only [List.length_drop]; omega)) rfl fun v_ w1 h_ => ?_))))))
   obtain ⟨⟨dv, bs, o, rfl, ho, hO, hbs, _⟩, E_⟩ := h_
   replace E := E.then E_
   obtain ⟨ad1, cp1, rfl, hcp1, hcp2⟩ := hO.form
   refine tW 5 rfl (Ln (e_K (hK6 _ _ _ _ (Cq fun K7 hK7 => Cr (Zm rfl ?_)))))
   refine bB (fun hk0 : (o) = true => ?_) (fun hk0 => ?_)
   ·have e32 : decide (((b0 :: r).drop 1).length * 6 / 8 = 32) = decide ((bs.length : Int) = 32) := by
     rw [decide_eq_decide]
     rw [hk0] at ho
     rw [← ho, if_pos rfl] at hbs
     omega
    refine tW 2 rfl (Sg rfl rfl (o_len Tryz.underlying74 rfl) (Sg rfl rfl (oE rfl rfl) ?_))
    refine bD (fun hk1 : (bs.length : Int) = 32 => ?_) (fun hk1 => ?_)
    ·exact tW 2 rfl (Ln (e_K (hK7 _ _ _ _ (cR (ret1 rfl rfl ⟨congrArg Value.bool (by rw [eventB, hh, ← ho, e32]; simp only [hk0, dT hk1, Bool.true_and, Bool.and_true, Bool.false_and, Bool.and_false, Bool.true_or, Bool.or_true, Bool.false_or, Bool.or_false, Bool.not_true, Bool.not_false]), E⟩)))))
    ·exact tW 2 rfl (Ln (e_K (hK7 _ _ _ _ (cR (ret1 rfl rfl ⟨congrArg Value.bool (by rw [eventB, hh, ← ho, e32]; simp only [hk0, dF hk1, Bool.true_and, Bool.and_true, Bool.false_and, Bool.and_false, Bool.true_or, Bool.or_true, Bool.false_or, Bool.or_false, Bool.not_true, Bool.not_false]), E⟩)))))
   ·exact tW 6 rfl (Ln (e_K (hK7 _ _ _ _ (cR (ret1 rfl rfl ⟨congrArg Value.bool (by rw [eventB, hh, ← ho]; simp only [bF hk0, Bool.true_and, Bool.and_true, Bool.false_and, Bool.and_false, Bool.true_or, Bool.or_true, Bool.false_or, Bool.or_false, Bool.not_true, Bool.not_false]), E⟩)))))

theorem c_bytes (w : World) (s : Str) (n : Nat) (hs : s.length ≤ 140737488351232) : Calls Tryz.prog 120 [S s, .int .i64 (n : Int)].toArray w (Ret fun u w' => u = .bool (bytesB s n) ∧ Mod [] w w') := by
 refine enter Tryz.func120 rfl rfl rfl (l := [(0, _), (1, _)]) ⟨rfl, rfl, trivial⟩ ?_
 have E := Mod.refl [] w
 refine Cq fun K1 hK1 => Cr (Za rfl (Ln (e_K (hK1 _ _ _ _ (Cq fun K2 hK2 => Cr (Zm rfl (sc (oC ent167 rfl) (c_decode _ (s) false hs) rfl fun v_ w1 h_ => ?_)))))))
 obtain ⟨⟨dv, bs, o, rfl, ho, hO, hbs, _⟩, E_⟩ := h_
 replace E := E.then E_
 obtain ⟨ad1, cp1, rfl, hcp1, hcp2⟩ := hO.form
 refine tW 5 rfl (Ln (e_K (hK2 _ _ _ _ (Cq fun K3 hK3 => Cr (Zm rfl ?_)))))
 refine bB (fun hk0 : (o) = true => ?_) (fun hk0 => ?_)
 ·have en : decide (s.length * 6 / 8 = n) = decide ((bs.length : Int) = (n : Int)) := by
   rw [decide_eq_decide]
   rw [hk0] at ho
   rw [← ho, if_pos rfl] at hbs
   omega
  refine tW 2 rfl (Sg rfl rfl (o_len Tryz.underlying74 rfl) (tW 2 rfl ?_))
  refine bD (fun hk1 : (bs.length : Int) = (n : Int) => ?_) (fun hk1 => ?_)
  ·exact tW 2 rfl (Ln (e_K (hK3 _ _ _ _ (cR (ret1 rfl rfl ⟨congrArg Value.bool (by rw [bytesB, ← ho, en]; simp only [hk0, dT hk1, Bool.true_and, Bool.and_true, Bool.false_and, Bool.and_false, Bool.true_or, Bool.or_true, Bool.false_or, Bool.or_false, Bool.not_true, Bool.not_false]), E⟩)))))
  ·exact tW 2 rfl (Ln (e_K (hK3 _ _ _ _ (cR (ret1 rfl rfl ⟨congrArg Value.bool (by rw [bytesB, ← ho, en]; simp only [hk0, dF hk1, Bool.true_and, Bool.and_true, Bool.false_and, Bool.and_false, Bool.true_or, Bool.or_true, Bool.false_or, Bool.or_false, Bool.not_true, Bool.not_false]), E⟩)))))
 ·exact tW 7 rfl (Ln (e_K (hK3 _ _ _ _ (cR (ret1 rfl rfl ⟨congrArg Value.bool (by rw [bytesB, ← ho]; simp only [bF hk0, Bool.true_and, Bool.and_true, Bool.false_and, Bool.and_false, Bool.true_or, Bool.or_true, Bool.false_or, Bool.or_false, Bool.not_true, Bool.not_false]), E⟩)))))

theorem c_stands (w : World) (s : Str) (n : Nat) (hn : n ≤ 100) (hs : s.length ≤ 140737488351232) : Calls Tryz.prog 69 [S s, .int .i64 (n : Int)].toArray w (Ret fun u w' => u = .bool (bytesB s n) ∧ Mod [] w w') := by
 refine enter Tryz.func69 rfl rfl rfl (l := [(0, _), (1, _)]) ⟨rfl, rfl, trivial⟩ ?_
 have E := Mod.refl [] w
 refine Cq fun K1 hK1 => Cr (Za rfl (Ln (e_K (hK1 _ _ _ _ (Cq fun K2 hK2 => Cq fun K3 hK3 => Cr (Zm rfl (Sv (o_slen Tryz.underlying9 rfl) (Sv (o_gtr rfl rfl) (Ln (e_K (hK3 _ _ _ _ ?_)))))))))))
 refine c_if rfl (fun h9 => ?_) (fun h9 => ?_)
 ·exact Cq fun K4 hK4 => Cr (Za rfl (Ln (e_K (hK4 _ _ _ _ (cR (eT (by simp) (ret1 rfl rfl ⟨by rw [bytesB, show decide (s.length * 6 / 8 = n) = false from dF (by omega)]; simp, E⟩)))))))
 ·refine cK (e_K (hK2 _ _ _ _ (Cq fun K5 hK5 => Cr (Zm rfl (sc (oC ent125 rfl) (c_decodeR _ (s) false hs) rfl fun v_ w1 h_ => ?_)))))
  obtain ⟨⟨dv, bs, o, rfl, ho, hO, hbs, _⟩, E_⟩ := h_
  replace E := E.then E_
  obtain ⟨ad1, cp1, rfl, hcp1, hcp2⟩ := hO.form
  refine tW 5 rfl (Ln (e_K (hK5 _ _ _ _ (Cq fun K6 hK6 => Cr (Zm rfl ?_)))))
  refine bB (fun hk0 : (o) = true => ?_) (fun hk0 => ?_)
  ·have en : decide (s.length * 6 / 8 = n) = decide ((bs.length : Int) = (n : Int)) := by
    rw [decide_eq_decide]
    rw [hk0] at ho
    rw [← ho, if_pos rfl] at hbs
    omega
   refine tW 2 rfl (Sg rfl rfl (o_len Tryz.underlying74 rfl) (tW 2 rfl ?_))
   refine bD (fun hk1 : (bs.length : Int) = (n : Int) => ?_) (fun hk1 => ?_)
   ·exact tW 2 rfl (Ln (e_K (hK6 _ _ _ _ (cR (ret1 rfl rfl ⟨congrArg Value.bool (by rw [bytesB, ← ho, en]; simp only [hk0, dT hk1, Bool.true_and, Bool.and_true, Bool.false_and, Bool.and_false, Bool.true_or, Bool.or_true, Bool.false_or, Bool.or_false, Bool.not_true, Bool.not_false]), E⟩)))))
   ·exact tW 2 rfl (Ln (e_K (hK6 _ _ _ _ (cR (ret1 rfl rfl ⟨congrArg Value.bool (by rw [bytesB, ← ho, en]; simp only [hk0, dF hk1, Bool.true_and, Bool.and_true, Bool.false_and, Bool.and_false, Bool.true_or, Bool.or_true, Bool.false_or, Bool.or_false, Bool.not_true, Bool.not_false]), E⟩)))))
  ·exact tW 7 rfl (Ln (e_K (hK6 _ _ _ _ (cR (ret1 rfl rfl ⟨congrArg Value.bool (by rw [bytesB, ← ho]; simp only [bF hk0, Bool.true_and, Bool.and_true, Bool.false_and, Bool.and_false, Bool.true_or, Bool.or_true, Bool.false_or, Bool.or_false, Bool.not_true, Bool.not_false]), E⟩)))))

theorem c_short11 (w : World) (s : Str) : Calls Tryz.prog 118 [S s].toArray w (Ret fun u w' => u = .bool (shortB s) ∧ Mod [] w w') := by
 refine enter Tryz.func118 rfl rfl rfl (l := [(0, _)]) ⟨rfl, trivial⟩ ?_
 have E := Mod.refl [] w
 refine Cq fun K1 hK1 => Cr (Za rfl (Ln (e_K (hK1 _ _ _ _ (Cq fun K2 hK2 => Cr (Zm rfl (Sv (o_slen Tryz.underlying9 rfl) (Sv (o_leq rfl rfl) ?_))))))))
 refine bD (fun hk0 : (s.length : Int) ≤ 255 => ?_) (fun hk0 => ?_)
 ·refine tW 2 rfl (sgc rfl rfl (oC ent166 rfl) (c_qvalid _ s) rfl fun v_ w1 h_ => ?_)
  obtain ⟨rfl, E_⟩ := h_
  replace E := E.then E_
  refine bB (fun hk1 : (validR s) = true => ?_) (fun hk1 => ?_)
  ·exact tW 2 rfl (Ln (e_K (hK2 _ _ _ _ (cR (ret1 rfl rfl ⟨congrArg Value.bool (by rw [shortB]; simp only [dT hk0, hk1, Bool.true_and, Bool.and_true, Bool.false_and, Bool.and_false, Bool.true_or, Bool.or_true, Bool.false_or, Bool.or_false, Bool.not_true, Bool.not_false]), E⟩)))))
  ·exact tW 2 rfl (Ln (e_K (hK2 _ _ _ _ (cR (ret1 rfl rfl ⟨congrArg Value.bool (by rw [shortB]; simp only [dT hk0, bF hk1, Bool.true_and, Bool.and_true, Bool.false_and, Bool.and_false, Bool.true_or, Bool.or_true, Bool.false_or, Bool.or_false, Bool.not_true, Bool.not_false]), E⟩)))))
 ·exact tW 5 rfl (Ln (e_K (hK2 _ _ _ _ (cR (ret1 rfl rfl ⟨congrArg Value.bool (by rw [shortB]; simp only [dF hk0, Bool.true_and, Bool.and_true, Bool.false_and, Bool.and_false, Bool.true_or, Bool.or_true, Bool.false_or, Bool.or_false, Bool.not_true, Bool.not_false]), E⟩)))))

theorem c_few (w : World) (s : Str) : Calls Tryz.prog 72 [S s].toArray w (Ret fun u w' => u = .bool (shortB s) ∧ Mod [] w w') := by
 refine enter Tryz.func72 rfl rfl rfl (l := [(0, _)]) ⟨rfl, trivial⟩ ?_
 have E := Mod.refl [] w
 refine Cq fun K1 hK1 => Cr (Za rfl (Ln (e_K (hK1 _ _ _ _ (Cq fun K2 hK2 => Cr (Zm rfl (Sv (o_slen Tryz.underlying9 rfl) (Sv (o_leq rfl rfl) ?_))))))))
 refine bD (fun hk0 : (s.length : Int) ≤ 255 => ?_) (fun hk0 => ?_)
 ·refine tW 2 rfl (sgc rfl rfl (oC ent129 rfl) (c_valid8 _ _) rfl fun v_ w1 h_ => ?_)
  obtain ⟨rfl, E_⟩ := h_
  replace E := E.then E_
  refine bB (fun hk1 : (validR s) = true => ?_) (fun hk1 => ?_)
  ·exact tW 2 rfl (Ln (e_K (hK2 _ _ _ _ (cR (ret1 rfl rfl ⟨congrArg Value.bool (by rw [shortB]; simp only [dT hk0, hk1, Bool.true_and, Bool.and_true, Bool.false_and, Bool.and_false, Bool.true_or, Bool.or_true, Bool.false_or, Bool.or_false, Bool.not_true, Bool.not_false]), E⟩)))))
  ·exact tW 2 rfl (Ln (e_K (hK2 _ _ _ _ (cR (ret1 rfl rfl ⟨congrArg Value.bool (by rw [shortB]; simp only [dT hk0, bF hk1, Bool.true_and, Bool.and_true, Bool.false_and, Bool.and_false, Bool.true_or, Bool.or_true, Bool.false_or, Bool.or_false, Bool.not_true, Bool.not_false]), E⟩)))))
 ·exact tW 5 rfl (Ln (e_K (hK2 _ _ _ _ (cR (ret1 rfl rfl ⟨congrArg Value.bool (by rw [shortB]; simp only [dF hk0, Bool.true_and, Bool.and_true, Bool.false_and, Bool.and_false, Bool.true_or, Bool.or_true, Bool.false_or, Bool.or_false, Bool.not_true, Bool.not_false]), E⟩)))))

theorem c_number (w : World) (n : Int) : Calls Tryz.prog 119 [.int .i64 n].toArray w (Ret fun u w' => u = .bool (numB n) ∧ Mod [] w w') := by
 refine enter Tryz.func119 rfl rfl rfl (l := [(0, _)]) ⟨rfl, trivial⟩ ?_
 have E := Mod.refl [] w
 refine Cq fun K1 hK1 => Cr (Za rfl (Ln (e_K (hK1 _ _ _ _ (Cq fun K2 hK2 => Cr (Zm rfl (Sv (o_geq rfl rfl) ?_)))))))
 refine bD (fun hk0 : 0 ≤ n => ?_) (fun hk0 => ?_)
 ·refine tW 3 rfl ?_
  refine bD (fun hk1 : n ≤ 9007199254740991 => ?_) (fun hk1 => ?_)
  ·exact tW 2 rfl (Ln (e_K (hK2 _ _ _ _ (cR (ret1 rfl rfl ⟨congrArg Value.bool (by rw [numB]; simp only [dT hk0, dT hk1, Bool.true_and, Bool.and_true, Bool.false_and, Bool.and_false, Bool.true_or, Bool.or_true, Bool.false_or, Bool.or_false, Bool.not_true, Bool.not_false]), E⟩)))))
  ·exact tW 2 rfl (Ln (e_K (hK2 _ _ _ _ (cR (ret1 rfl rfl ⟨congrArg Value.bool (by rw [numB]; simp only [dT hk0, dF hk1, Bool.true_and, Bool.and_true, Bool.false_and, Bool.and_false, Bool.true_or, Bool.or_true, Bool.false_or, Bool.or_false, Bool.not_true, Bool.not_false]), E⟩)))))
 ·exact tW 5 rfl (Ln (e_K (hK2 _ _ _ _ (cR (ret1 rfl rfl ⟨congrArg Value.bool (by rw [numB]; simp only [dF hk0, Bool.true_and, Bool.and_true, Bool.false_and, Bool.and_false, Bool.true_or, Bool.or_true, Bool.false_or, Bool.or_false, Bool.not_true, Bool.not_false]), E⟩)))))

theorem c_sigs (w : World) (l : List Sig3) (ad : Option Addr) (c : Nat) (R : Rep [] w (flat 3 Sig3.cells l) (.slice ad l.length c)) (hlen : ∀ s ∈ l, s.srv.length < 4294967281 ∧ s.key.length ≤ 140737488351232 ∧ s.sig.length ≤ 140737488351232) (hll : l.length ≤ 140737488351232) (hM : MaxL w) : Calls Tryz.prog 121 [.slice ad l.length c].toArray w (Ret fun u w' => u = .bool (sigsL none l) ∧ Mod [] w w') := by
 refine enter Tryz.func121 rfl rfl rfl (l := [(0, _)]) ⟨rfl, trivial⟩ ?_
 have E := Mod.refl [] w
 obtain ⟨_, c9, hfl, hcc1, hcc2⟩ := flat_len R
 injection hfl with _ _ hfc
 subst hfc
 refine Cq fun K1 hK1 => Cr (Za rfl (Ln (e_K (hK1 _ _ _ _ (Cq fun K2 hK2 => Cq fun K3 hK3 => Cr (Zm rfl (Sv (o_len Tryz.underlying46 rfl) (Zm rfl (Ln (e_K (hK3 _ _ _ _ (cB ?_))))))))))))
 refine c_loop (σ := Nat) (fun k => [(0, .slice ad l.length c), (5, .slice ad l.length c), (6, .int .i64 (l.length : Int)), (7, .int .i64 (k : Int))]) (fun k w1 => k ≤ l.length ∧ sigsL none l = sigsL (prevS l k) (l.drop k) ∧ Mod [] w w1) (fun k => l.length - k) (0) ⟨rfl, rfl, rfl, rfl, trivial⟩ (⟨by omega, rfl, E⟩) ?_
 rintro k w1 ⟨hk, hinv, E⟩
 refine Cq fun K4 hK4 => Cr (Sv (o_lss rfl rfl) (Ln (e_K (hK4 _ _ _ _ (Cq fun K5 hK5 => ?_)))))
 refine c_if rfl (fun h8 => ?_) (fun h8 => ?_)
 ·refine cK (e_K (hK5 _ _ _ _ (Cq fun K6 hK6 => cB (Cq fun K7 hK7 => Cr (Zm rfl ?_)))))
  obtain ⟨x, hx_x⟩ : ∃ x, l[k]? = some x := ⟨_, List.getElem?_eq_getElem (by omega)⟩
  obtain ⟨a_x, ha_x, hcs_x, _⟩ := flat_at (R.to0 E) hx_x
  cases ha_x
  obtain ⟨hl1_x, hl2_x, hl3_x⟩ := hlen x (List.mem_of_getElem? hx_x)
  refine Sv (o_ix sl46 rfl rfl (by omega)) (Sv (o_lda ag85 rfl rfl hcs_x) (s_alloc zv85 rfl fun g1 w2 N1 => ?_))
  have Lg1_E := N1.le E
  replace E := E.then N1.mod
  have Bg1 := N1.blk
  refine Za rfl (s_sta (vs := [_, _, _]) ag85 Bg1 rfl rfl rfl (by simp [Value.oneCell']) (by simp) fun w3 P3 => ?_)
  replace E := E.own P3.mod Lg1_E
  replace Bg1 : Blk w3 g1 _ [_, _, _] := P3.blk
  refine Ln (e_K (hK7 _ _ _ _ (Cq fun K8 hK8 => Cq fun K9 hK9 => Cr (Sv (oA0 fd85_0 rfl) (Sv (oL sc9 rfl (Bg1.cell rfl)) (sc (oC ent158 rfl) (c_server _ x.srv hl1_x (hM.mod0 E)) rfl fun v_ w4 h_ => ?_))))))
  obtain ⟨rfl, E_⟩ := h_
  replace Bg1 := Bg1.mod0 E_
  replace E := E.then E_
  refine Sv (o_not rfl) ?_
  refine bB (fun hk0 : (!serverB x.srv) = true => ?_) (fun hk0 => ?_)
  ·refine tW 12 rfl (Ln (e_K (hK9 _ _ _ _ (c_true rfl ?_))))
   have h_ : serverB x.srv = false := by simpa using hk0
   have hF : sigsL none l = false := by rw [hinv, sigsL_at hx_x, show sigB x = false by simp [sigB, h_]]; rfl
   exact Cq fun K10 hK10 => Cr (Za rfl (Ln (e_K (hK10 _ _ _ _ (cR (eT (by simp) (eI (by simp) (eT (by simp) (eT (by simp) (eI (by simp) (eT (by simp) (ret1 rfl rfl ⟨by rw [hF], E⟩))))))))))))
  ·refine Zm rfl (Sg rfl rfl (oA0 fd85_1 rfl) (Sg rfl rfl (oL sc9 rfl (Bg1.cell rfl)) (sgc rfl rfl (oC ent168 rfl) (c_key _ x.key) rfl fun v_ w5 h_ => ?_)))
   obtain ⟨rfl, E_⟩ := h_
   replace Bg1 := Bg1.mod0 E_
   replace E := E.then E_
   refine Sg rfl rfl (o_not rfl) ?_
   refine bB (fun hk1 : (!keyB x.key) = true => ?_) (fun hk1 => ?_)
   ·refine tW 7 rfl (Ln (e_K (hK9 _ _ _ _ (c_true rfl ?_))))
    have h_ : keyB x.key = false := by simpa using hk1
    have hF : sigsL none l = false := by rw [hinv, sigsL_at hx_x, show sigB x = false by simp [sigB, h_]]; rfl
    exact Cq fun K11 hK11 => Cr (Za rfl (Ln (e_K (hK11 _ _ _ _ (cR (eT (by simp) (eI (by simp) (eT (by simp) (eT (by simp) (eI (by simp) (eT (by simp) (ret1 rfl rfl ⟨by rw [hF], E⟩))))))))))))
   ·refine tW 2 rfl (Sg rfl rfl (oA0 fd85_2 rfl) (Sg rfl rfl (oL sc9 rfl (Bg1.cell rfl)) (sgc rfl rfl (oC ent120 rfl) (c_bytes _ x.sig 64 hl3_x) rfl fun v_ w6 h_ => ?_)))
    obtain ⟨rfl, E_⟩ := h_
    replace Bg1 := Bg1.mod0 E_
    replace E := E.then E_
    refine Sg rfl rfl (o_not rfl) ?_
    refine bB (fun hk2 : (!bytesB x.sig 64) = true => ?_) (fun hk2 => ?_)
    ·refine Sv (oF rfl rfl rfl) (Ln (e_K (hK9 _ _ _ _ (c_true rfl ?_))))
     have h_ : bytesB x.sig 64 = false := by simpa using hk2
     have hF : sigsL none l = false := by rw [hinv, sigsL_at hx_x, show sigB x = false by simp [sigB, h_]]; rfl
     exact Cq fun K12 hK12 => Cr (Za rfl (Ln (e_K (hK12 _ _ _ _ (cR (eT (by simp) (eI (by simp) (eT (by simp) (eT (by simp) (eI (by simp) (eT (by simp) (ret1 rfl rfl ⟨by rw [hF], E⟩))))))))))))
    ·refine Sv (oF rfl rfl rfl) (Ln (e_K (hK9 _ _ _ _ (c_false rfl ?_))))
     have g0 : serverB x.srv = true := by simpa using hk0
     have g1_ : keyB x.key = true := by simpa using hk1
     have g2_ : bytesB x.sig 64 = true := by simpa using hk2
     have hsg : sigB x = true := by rw [sigB, g0, g1_, g2_]; rfl
     refine cK (e_K (hK8 _ _ _ _ (Cq fun K13 hK13 => ?_)))
     by_cases hk3 : (k : Int) > 0
     ·obtain ⟨q, hx_q⟩ : ∃ x, l[k - 1]? = some x := ⟨_, List.getElem?_eq_getElem (by omega)⟩
      obtain ⟨a_q, ha_q, hcs_q, _⟩ := flat_at (R.to0 E) hx_q
      cases ha_q
      obtain ⟨hl1_q, hl2_q, hl3_q⟩ := hlen q (List.mem_of_getElem? hx_q)
      by_cases hk4 : (!(bl q.srv x.srv || q.srv == x.srv)) = true
      ·refine c_draw wide (by kernel_rfl) (tU 3 rfl rfl (tvg rfl (dT hk3) (fun w_ E_ => (oM rfl)) rfl rfl (tvg rfl (dT hk3) (fun w_ E_ => (oM rfl)) rfl rfl (tvg rfl (dT hk3) (fun w_ E_ => (o_subE (r := ((k - 1 : Nat) : Int)) rfl rfl (by rw [wrap64_in _ (by omega)]; omega))) rfl rfl (tvg rfl (dT hk3) (fun w_ E_ => (o_ix sl46 rfl rfl (by omega))) rfl rfl (tvg rfl (dT hk3) (fun w_ E_ => (o_fad fd85_0 rfl)) rfl rfl (tvg rfl (dT hk3) (fun w_ E_ => (oL sc9 rfl ((hcs_q.mod0 E_) 0 _ rfl))) rfl rfl (tvg rfl (dT hk3) (fun w_ E_ => (oA0 fd85_0 rfl)) rfl rfl (tvg rfl (dT hk3) (fun w_ E_ => (oL sc9 rfl ((Bg1.mod0 E_).cell rfl))) rfl rfl (tvg rfl (dT hk3) (fun w_ E_ => (o_sgt rfl rfl)) rfl rfl (tvg rfl (dT hk3) (fun w_ E_ => (oM rfl)) rfl rfl (Tx rfl hk4 (Tx rfl hk4 ?_)))))))))))))
       refine Tx rfl hk4 (Tx rfl hk4 (Tx rfl hk4 (Tx rfl hk4 (Tx rfl hk4 (Tx rfl hk4 (Tx rfl hk4 (Tx rfl hk4 (tU 9 rfl rfl (Tx rfl hk4 (tvg rfl (dT hk3) (fun w_ E_ => (oT hk4 rfl rfl)) rfl rfl (tv (fun w_ E_ => (oT (dT hk3) rfl rfl)) rfl rfl (tw_nil rfl fun w7 E_ => ?_))))))))))))
       replace Bg1 := Bg1.mod0 E_
       replace E := E.then E_
       refine e_K (hK13 _ _ _ _ (c_true rfl ?_))
       have hb_ : sigBad q x = true := by rw [sigBad]; simp only [hk4, Bool.true_and, Bool.and_true, Bool.false_and, Bool.and_false, Bool.true_or, Bool.or_true, Bool.false_or, Bool.or_false, Bool.not_true, Bool.not_false]
       have hF : sigsL none l = false := by rw [hinv, sigsL_at hx_x, okP_at hx_q (by omega), hb_]; simp
       exact Cq fun K14 hK14 => Cr (Za rfl (Ln (e_K (hK14 _ _ _ _ (cR (eI (by simp) (eT (by simp) (eT (by simp) (eI (by simp) (eT (by simp) (ret1 rfl rfl ⟨by rw [hF], E⟩)))))))))))
      ·by_cases hk5 : q.srv = x.srv
       ·by_cases hk6 : (!bl q.key x.key) = true
        ·refine c_draw wide (by kernel_rfl) (tU 3 rfl rfl (tvg rfl (dT hk3) (fun w_ E_ => (oM rfl)) rfl rfl (tvg rfl (dT hk3) (fun w_ E_ => (oM rfl)) rfl rfl (tvg rfl (dT hk3) (fun w_ E_ => (o_subE (r := ((k - 1 : Nat) : Int)) rfl rfl (by rw [wrap64_in _ (by omega)]; omega))) rfl rfl (tvg rfl (dT hk3) (fun w_ E_ => (o_ix sl46 rfl rfl (by omega))) rfl rfl (tvg rfl (dT hk3) (fun w_ E_ => (o_fad fd85_0 rfl)) rfl rfl (tvg rfl (dT hk3) (fun w_ E_ => (oL sc9 rfl ((hcs_q.mod0 E_) 0 _ rfl))) rfl rfl (tvg rfl (dT hk3) (fun w_ E_ => (oA0 fd85_0 rfl)) rfl rfl (tvg rfl (dT hk3) (fun w_ E_ => (oL sc9 rfl ((Bg1.mod0 E_).cell rfl))) rfl rfl (tvg rfl (dT hk3) (fun w_ E_ => (o_sgt rfl rfl)) rfl rfl (tvg rfl (dT hk3) (fun w_ E_ => (oM rfl)) rfl rfl (tvg rfl (bF hk4) (fun w_ E_ => (oM rfl)) rfl rfl (tvg rfl (bF hk4) (fun w_ E_ => (oM rfl)) rfl rfl ?_)))))))))))))
         refine tvg rfl (bF hk4) (fun w_ E_ => (o_subE (r := ((k - 1 : Nat) : Int)) rfl rfl (by rw [wrap64_in _ (by omega)]; omega))) rfl rfl (tvg rfl (bF hk4) (fun w_ E_ => (o_ix sl46 rfl rfl (by omega))) rfl rfl (tvg rfl (bF hk4) (fun w_ E_ => (o_fad fd85_0 rfl)) rfl rfl (tvg rfl (bF hk4) (fun w_ E_ => (oL sc9 rfl ((hcs_q.mod0 E_) 0 _ rfl))) rfl rfl (tvg rfl (bF hk4) (fun w_ E_ => (oA0 fd85_0 rfl)) rfl rfl (tvg rfl (bF hk4) (fun w_ E_ => (oL sc9 rfl ((Bg1.mod0 E_).cell rfl))) rfl rfl (tvg rfl (bF hk4) (fun w_ E_ => (o_seq rfl rfl)) rfl rfl (tvg rfl (bF hk4) (fun w_ E_ => (oM rfl)) rfl rfl (tvg rfl (dT hk5) (fun w_ E_ => (oM rfl)) rfl rfl (tvg rfl (dT hk5) (fun w_ E_ => (oM rfl)) rfl rfl (tvg rfl (dT hk5) (fun w_ E_ => (o_subE (r := ((k - 1 : Nat) : Int)) rfl rfl (by rw [wrap64_in _ (by omega)]; omega))) rfl rfl (tvg rfl (dT hk5) (fun w_ E_ => (o_ix sl46 rfl rfl (by omega))) rfl rfl (tvg rfl (dT hk5) (fun w_ E_ => (o_fad fd85_1 rfl)) rfl rfl (tvg rfl (dT hk5) (fun w_ E_ => (oL sc9 rfl ((hcs_q.mod0 E_) 1 _ rfl))) rfl rfl ?_)))))))))))))
         refine tvg rfl (dT hk5) (fun w_ E_ => (oA0 fd85_1 rfl)) rfl rfl (tvg rfl (dT hk5) (fun w_ E_ => (oL sc9 rfl ((Bg1.mod0 E_).cell rfl))) rfl rfl (tvg rfl (dT hk5) (fun w_ E_ => (o_sge rfl rfl)) rfl rfl (tvg rfl (bF hk4) (fun w_ E_ => (oT (dT hk5) rfl rfl)) rfl rfl (tvg rfl (dT hk3) (fun w_ E_ => (oF (bF hk4) rfl rfl)) rfl rfl (tv (fun w_ E_ => (oT (dT hk3) rfl rfl)) rfl rfl (tw_nil rfl fun w8 E_ => ?_))))))
         replace Bg1 := Bg1.mod0 E_
         replace E := E.then E_
         refine e_K (hK13 _ _ _ _ ?_)
         refine c_cond rfl (fun h62 => ?_) (fun h62 => absurd (hk6.symm.trans h62) (by decide))
         have hb_ : sigBad q x = true := by rw [sigBad]; simp only [bF hk4, dT hk5, hk6, Bool.true_and, Bool.and_true, Bool.false_and, Bool.and_false, Bool.true_or, Bool.or_true, Bool.false_or, Bool.or_false, Bool.not_true, Bool.not_false]
         have hF : sigsL none l = false := by rw [hinv, sigsL_at hx_x, okP_at hx_q (by omega), hb_]; simp
         exact Cq fun K15 hK15 => Cr (Za rfl (Ln (e_K (hK15 _ _ _ _ (cR (eI (by simp) (eT (by simp) (eT (by simp) (eI (by simp) (eT (by simp) (ret1 rfl rfl ⟨by rw [hF], E⟩)))))))))))
        ·refine c_draw wide (by kernel_rfl) (tU 3 rfl rfl (tvg rfl (dT hk3) (fun w_ E_ => (oM rfl)) rfl rfl (tvg rfl (dT hk3) (fun w_ E_ => (oM rfl)) rfl rfl (tvg rfl (dT hk3) (fun w_ E_ => (o_subE (r := ((k - 1 : Nat) : Int)) rfl rfl (by rw [wrap64_in _ (by omega)]; omega))) rfl rfl (tvg rfl (dT hk3) (fun w_ E_ => (o_ix sl46 rfl rfl (by omega))) rfl rfl (tvg rfl (dT hk3) (fun w_ E_ => (o_fad fd85_0 rfl)) rfl rfl (tvg rfl (dT hk3) (fun w_ E_ => (oL sc9 rfl ((hcs_q.mod0 E_) 0 _ rfl))) rfl rfl (tvg rfl (dT hk3) (fun w_ E_ => (oA0 fd85_0 rfl)) rfl rfl (tvg rfl (dT hk3) (fun w_ E_ => (oL sc9 rfl ((Bg1.mod0 E_).cell rfl))) rfl rfl (tvg rfl (dT hk3) (fun w_ E_ => (o_sgt rfl rfl)) rfl rfl (tvg rfl (dT hk3) (fun w_ E_ => (oM rfl)) rfl rfl (tvg rfl (bF hk4) (fun w_ E_ => (oM rfl)) rfl rfl (tvg rfl (bF hk4) (fun w_ E_ => (oM rfl)) rfl rfl ?_)))))))))))))
         refine tvg rfl (bF hk4) (fun w_ E_ => (o_subE (r := ((k - 1 : Nat) : Int)) rfl rfl (by rw [wrap64_in _ (by omega)]; omega))) rfl rfl (tvg rfl (bF hk4) (fun w_ E_ => (o_ix sl46 rfl rfl (by omega))) rfl rfl (tvg rfl (bF hk4) (fun w_ E_ => (o_fad fd85_0 rfl)) rfl rfl (tvg rfl (bF hk4) (fun w_ E_ => (oL sc9 rfl ((hcs_q.mod0 E_) 0 _ rfl))) rfl rfl (tvg rfl (bF hk4) (fun w_ E_ => (oA0 fd85_0 rfl)) rfl rfl (tvg rfl (bF hk4) (fun w_ E_ => (oL sc9 rfl ((Bg1.mod0 E_).cell rfl))) rfl rfl (tvg rfl (bF hk4) (fun w_ E_ => (o_seq rfl rfl)) rfl rfl (tvg rfl (bF hk4) (fun w_ E_ => (oM rfl)) rfl rfl (tvg rfl (dT hk5) (fun w_ E_ => (oM rfl)) rfl rfl (tvg rfl (dT hk5) (fun w_ E_ => (oM rfl)) rfl rfl (tvg rfl (dT hk5) (fun w_ E_ => (o_subE (r := ((k - 1 : Nat) : Int)) rfl rfl (by rw [wrap64_in _ (by omega)]; omega))) rfl rfl (tvg rfl (dT hk5) (fun w_ E_ => (o_ix sl46 rfl rfl (by omega))) rfl rfl (tvg rfl (dT hk5) (fun w_ E_ => (o_fad fd85_1 rfl)) rfl rfl (tvg rfl (dT hk5) (fun w_ E_ => (oL sc9 rfl ((hcs_q.mod0 E_) 1 _ rfl))) rfl rfl ?_)))))))))))))
         refine tvg rfl (dT hk5) (fun w_ E_ => (oA0 fd85_1 rfl)) rfl rfl (tvg rfl (dT hk5) (fun w_ E_ => (oL sc9 rfl ((Bg1.mod0 E_).cell rfl))) rfl rfl (tvg rfl (dT hk5) (fun w_ E_ => (o_sge rfl rfl)) rfl rfl (tvg rfl (bF hk4) (fun w_ E_ => (oT (dT hk5) rfl rfl)) rfl rfl (tvg rfl (dT hk3) (fun w_ E_ => (oF (bF hk4) rfl rfl)) rfl rfl (tv (fun w_ E_ => (oT (dT hk3) rfl rfl)) rfl rfl (tw_nil rfl fun w9 E_ => ?_))))))
         replace Bg1 := Bg1.mod0 E_
         replace E := E.then E_
         refine e_K (hK13 _ _ _ _ (c_cond rfl (fun h62 => absurd ((bF hk6).symm.trans h62) (by decide)) (fun h62 => ?_)))
         have hb_ : sigBad q x = false := by rw [sigBad]; simp only [bF hk4, dT hk5, bF hk6, Bool.true_and, Bool.and_true, Bool.false_and, Bool.and_false, Bool.true_or, Bool.or_true, Bool.false_or, Bool.or_false, Bool.not_true, Bool.not_false]
         have hnx : sigsL none l = sigsL (prevS l (k + 1)) (l.drop (k + 1)) := by rw [hinv, sigsL_at hx_x, hsg, okP_at hx_q (by omega), hb_]; rfl
         exact cK (eI (by simp) (e_K (hK6 _ _ _ _ (Cr (Sv (o_addN rfl rfl (by omega)) (Zm rfl (Ln (eR (σ := Nat) (s := k) (k + 1) ⟨rfl, rfl, rfl, rfl, trivial⟩ ⟨by omega, hnx, E⟩ (by omega)))))))))
       ·refine c_draw wide (by kernel_rfl) (tU 3 rfl rfl (tvg rfl (dT hk3) (fun w_ E_ => (oM rfl)) rfl rfl (tvg rfl (dT hk3) (fun w_ E_ => (oM rfl)) rfl rfl (tvg rfl (dT hk3) (fun w_ E_ => (o_subE (r := ((k - 1 : Nat) : Int)) rfl rfl (by rw [wrap64_in _ (by omega)]; omega))) rfl rfl (tvg rfl (dT hk3) (fun w_ E_ => (o_ix sl46 rfl rfl (by omega))) rfl rfl (tvg rfl (dT hk3) (fun w_ E_ => (o_fad fd85_0 rfl)) rfl rfl (tvg rfl (dT hk3) (fun w_ E_ => (oL sc9 rfl ((hcs_q.mod0 E_) 0 _ rfl))) rfl rfl (tvg rfl (dT hk3) (fun w_ E_ => (oA0 fd85_0 rfl)) rfl rfl (tvg rfl (dT hk3) (fun w_ E_ => (oL sc9 rfl ((Bg1.mod0 E_).cell rfl))) rfl rfl (tvg rfl (dT hk3) (fun w_ E_ => (o_sgt rfl rfl)) rfl rfl (tvg rfl (dT hk3) (fun w_ E_ => (oM rfl)) rfl rfl (tvg rfl (bF hk4) (fun w_ E_ => (oM rfl)) rfl rfl (tvg rfl (bF hk4) (fun w_ E_ => (oM rfl)) rfl rfl ?_)))))))))))))
        refine tvg rfl (bF hk4) (fun w_ E_ => (o_subE (r := ((k - 1 : Nat) : Int)) rfl rfl (by rw [wrap64_in _ (by omega)]; omega))) rfl rfl (tvg rfl (bF hk4) (fun w_ E_ => (o_ix sl46 rfl rfl (by omega))) rfl rfl (tvg rfl (bF hk4) (fun w_ E_ => (o_fad fd85_0 rfl)) rfl rfl (tvg rfl (bF hk4) (fun w_ E_ => (oL sc9 rfl ((hcs_q.mod0 E_) 0 _ rfl))) rfl rfl (tvg rfl (bF hk4) (fun w_ E_ => (oA0 fd85_0 rfl)) rfl rfl (tvg rfl (bF hk4) (fun w_ E_ => (oL sc9 rfl ((Bg1.mod0 E_).cell rfl))) rfl rfl (tvg rfl (bF hk4) (fun w_ E_ => (o_seq rfl rfl)) rfl rfl (tvg rfl (bF hk4) (fun w_ E_ => (oM rfl)) rfl rfl (Tx rfl (dF hk5) (Tx rfl (dF hk5) (Tx rfl (dF hk5) (Tx rfl (dF hk5) (Tx rfl (dF hk5) (Tx rfl (dF hk5) ?_)))))))))))))
        refine Tx rfl (dF hk5) (Tx rfl (dF hk5) (Tx rfl (dF hk5) (tvg rfl (bF hk4) (fun w_ E_ => (oF (dF hk5) rfl rfl)) rfl rfl (tvg rfl (dT hk3) (fun w_ E_ => (oF (bF hk4) rfl rfl)) rfl rfl (tv (fun w_ E_ => (oT (dT hk3) rfl rfl)) rfl rfl (tw_nil rfl fun w10 E_ => ?_))))))
        replace Bg1 := Bg1.mod0 E_
        replace E := E.then E_
        refine e_K (hK13 _ _ _ _ (c_false rfl ?_))
        have hb_ : sigBad q x = false := by rw [sigBad]; simp only [bF hk4, dF hk5, Bool.true_and, Bool.and_true, Bool.false_and, Bool.and_false, Bool.true_or, Bool.or_true, Bool.false_or, Bool.or_false, Bool.not_true, Bool.not_false]
        have hnx : sigsL none l = sigsL (prevS l (k + 1)) (l.drop (k + 1)) := by rw [hinv, sigsL_at hx_x, hsg, okP_at hx_q (by omega), hb_]; rfl
        exact cK (eI (by simp) (e_K (hK6 _ _ _ _ (Cr (Sv (o_addN rfl rfl (by omega)) (Zm rfl (Ln (eR (σ := Nat) (s := k) (k + 1) ⟨rfl, rfl, rfl, rfl, trivial⟩ ⟨by omega, hnx, E⟩ (by omega)))))))))
     ·refine c_draw wide (by kernel_rfl) (tU 3 rfl rfl (Tx rfl (dF hk3) (Tx rfl (dF hk3) (Tx rfl (dF hk3) (Tx rfl (dF hk3) (Tx rfl (dF hk3) (Tx rfl (dF hk3) (Tx rfl (dF hk3) (Tx rfl (dF hk3) (Tx rfl (dF hk3) (Tx rfl (dF hk3) (tU 20 rfl rfl (Tx rfl (dF hk3) ?_)))))))))))))
      refine tv (fun w_ E_ => (oF (dF hk3) rfl rfl)) rfl rfl (tw_nil rfl fun w11 E_ => ?_)
      replace Bg1 := Bg1.mod0 E_
      replace E := E.then E_
      refine e_K (hK13 _ _ _ _ (c_false rfl ?_))
      have hnx : sigsL none l = sigsL (prevS l (k + 1)) (l.drop (k + 1)) := by rw [hinv, sigsL_at hx_x, hsg, okP_0 (by omega)]; rfl
      exact cK (eI (by simp) (e_K (hK6 _ _ _ _ (Cr (Sv (o_addN rfl rfl (by omega)) (Zm rfl (Ln (eR (σ := Nat) (s := k) (k + 1) ⟨rfl, rfl, rfl, rfl, trivial⟩ ⟨by omega, hnx, E⟩ (by omega)))))))))
 ·exact c_exit (eT (by simp) (eT (by simp) (e_hit (e_K (hK2 _ _ _ _ (Cq fun K16 hK16 => Cr (Za rfl (Ln (e_K (hK16 _ _ _ _ (cR (ret1 rfl rfl ⟨by rw [hinv, sigsL_end (by omega)], E⟩))))))))))))
end Go.Proofs.YtknndpjacklkeaaGreatDoor.V
