/-
  A part of the proof: JSON values: what they stand for in memory, and what Same, rises, Get and Find say of them, in plain Lean; members by rising keys: found, put, in plain Lean; JSON values in memory: their cells, the rows of their lists and maps; how much a JSON value weighs, whether its keys rise, whether two are the same, in plain Lean; members put into a map: rows of seven cells; runes, texts between quotes, canonical texts of JSON values, as the document tells them, in plain Lean; runes, step by step. No condition of its own.
-/
import Derived.Test.YtkhbnhdlelmbnaaGreatDoorM3
import Derived.Lib.ItoaLen
set_option linter.unusedVariables false
set_option linter.unusedSimpArgs false
namespace Go.Proofs.YtkhbnhdlelmbnaaGreatDoor.V
open Go
inductive JV where
  | mk (k : Int) (b : Bool) (n : Int) (s : List UInt8) (l : List JV) (m : List (List UInt8 × JV))
namespace JV
def kind : JV → Int | .mk k _ _ _ _ _ => k
def is : JV → Bool | .mk _ b _ _ _ _ => b
def num : JV → Int | .mk _ _ n _ _ _ => n
def str : JV → List UInt8 | .mk _ _ _ s _ _ => s
def list : JV → List JV | .mk _ _ _ _ l _ => l
def map : JV → List (List UInt8 × JV) | .mk _ _ _ _ _ m => m
theorem eta (v : JV) : v = .mk v.kind v.is v.num v.str v.list v.map := by cases v; rfl
mutual
def D : JV → List Go.Proofs.YtkhbnhdlelmbnaaGreatDoor.V.D
  | .mk k b n s l m => [.v (.int .i64 k), .v (.bool b), .v (.int .i64 n), .v (S s), .sl 6 (Dl l), .sl 7 (Dm m)]
def Dl : List JV → List (List Go.Proofs.YtkhbnhdlelmbnaaGreatDoor.V.D)
  | [] => []
  | v :: r => v.D :: Dl r
def Dm : List (List UInt8 × JV) → List (List Go.Proofs.YtkhbnhdlelmbnaaGreatDoor.V.D)
  | [] => []
  | p :: r => (.v (S p.1) :: p.2.D) :: Dm r
end
abbrev Dp (p : List UInt8 × JV) : List Go.Proofs.YtkhbnhdlelmbnaaGreatDoor.V.D := .v (S p.1) :: p.2.D
theorem Dl_eq : ∀ l : List JV, Dl l = l.map D
  | [] => rfl
  | v :: r => by simp [Dl, Dl_eq r]
theorem Dm_eq : ∀ m : List (List UInt8 × JV), Dm m = m.map Dp
  | [] => rfl
  | v :: r => by simp [Dm, Dm_eq r]
theorem D_eq (v : JV) : v.D = [.v (.int .i64 v.kind), .v (.bool v.is), .v (.int .i64 v.num), .v (S v.str), .sl 6 (v.list.map D), .sl 7 (v.map.map Dp)] := by
  cases v
  simp [D, kind, is, num, str, list, map, Dl_eq, Dm_eq]
theorem D_len (v : JV) : v.D.length = 6 := by rw [D_eq]; rfl
theorem Dp_len (p : List UInt8 × JV) : (Dp p).length = 7 := by simp [D_len]
mutual
/-- how many values stand in it -/
def sz : JV → Nat
  | .mk _ _ _ _ l m => 1 + szl l + szm m
def szl : List JV → Nat
  | [] => 0
  | v :: r => v.sz + szl r
def szm : List (List UInt8 × JV) → Nat
  | [] => 0
  | p :: r => p.2.sz + szm r
end
theorem sz_list {l : List JV} {v : JV} (h : v ∈ l) : v.sz ≤ szl l := by
  induction l with
  | nil => cases h
  | cons a r ih =>
    simp only [szl]
    rcases List.mem_cons.1 h with rfl | h
    · omega
    · have := ih h; omega
theorem sz_map {l : List (List UInt8 × JV)} {p : List UInt8 × JV} (h : p ∈ l) : p.2.sz ≤ szm l := by
  induction l with
  | nil => cases h
  | cons a r ih =>
    simp only [szm]
    rcases List.mem_cons.1 h with rfl | h
    · omega
    · have := ih h; omega
theorem sz_eq (v : JV) : v.sz = 1 + szl v.list + szm v.map := by cases v; simp [sz, list, map]
theorem sz_in_list {v x : JV} (h : x ∈ v.list) : x.sz < v.sz := by have := sz_list h; rw [sz_eq v]; omega
theorem sz_in_map {v : JV} {p : List UInt8 × JV} (h : p ∈ v.map) : p.2.sz < v.sz := by have := sz_map h; rw [sz_eq v]; omega
mutual
/-- all lists and texts in it are no longer than memory -/
def ok : JV → Prop
  | .mk k b n s l m => s.length ≤ 140737488351232 ∧ l.length ≤ 1599289640400 ∧ m.length ≤ 1353245080300 ∧ okl l ∧ okm m
def okl : List JV → Prop
  | [] => True
  | v :: r => v.ok ∧ okl r
def okm : List (List UInt8 × JV) → Prop
  | [] => True
  | p :: r => (p.1.length ≤ 140737488351232 ∧ p.2.ok) ∧ okm r
end
theorem okl_mem : ∀ {l : List JV}, okl l ↔ ∀ v ∈ l, v.ok
  | [] => by simp [okl]
  | v :: r => by simp [okl, okl_mem (l := r)]
theorem okm_mem : ∀ {l : List (List UInt8 × JV)}, okm l ↔ ∀ p ∈ l, p.1.length ≤ 140737488351232 ∧ p.2.ok
  | [] => by simp [okm]
  | v :: r => by simp [okm, okm_mem (l := r)]
theorem ok_eq (v : JV) : v.ok ↔ v.str.length ≤ 140737488351232 ∧ v.list.length ≤ 1599289640400 ∧ v.map.length ≤ 1353245080300 ∧ (∀ x ∈ v.list, x.ok) ∧ ∀ p ∈ v.map, p.1.length ≤ 140737488351232 ∧ p.2.ok := by
  cases v
  simp [ok, str, list, map, okl_mem, okm_mem]
end JV
end Go.Proofs.YtkhbnhdlelmbnaaGreatDoor.V

set_option linter.unusedVariables false
set_option linter.unusedSimpArgs false
namespace Go.Proofs.YtkhbnhdlelmbnaaGreatDoor.V
open Go
theorem cmp_scmp : ∀ a b : Str, Lib.compareBytes a b = scmp a b
  | [], [] => rfl
  | [], _ :: _ => by simp [Lib.compareBytes, scmp, bl, Op.bytesLess]
  | _ :: _, [] => by simp [Lib.compareBytes, scmp, bl, Op.bytesLess]
  | x :: a, y :: b => by
    have ih := cmp_scmp a b
    simp only [Lib.compareBytes]
    unfold scmp at ih ⊢
    by_cases h : x < y
    · simp [h, bl, Op.bytesLess]
    · by_cases h' : y < x
      · have hne : x ≠ y := fun e => by subst e; exact h h'
        simp [h, h', bl, Op.bytesLess, hne]
      · have hxy : x = y := UInt8.le_antisymm (UInt8.not_lt.1 h') (UInt8.not_lt.1 h)
        subst hxy
        simp [bl, Op.bytesLess]
        rw [ih]
section
variable {β : Type}
def ascM (m : List (Str × β)) : Prop := m.Pairwise fun a b => bl a.1 b.1 = true
def look : List (Str × β) → Str → Option β
  | [], _ => none
  | p :: r, k => if p.1 = k then some p.2 else look r k
def posM (m : List (Str × β)) (k : Str) : Nat := (m.filter fun p => bl p.1 k).length
def putM (m : List (Str × β)) (k : Str) (x : β) : List (Str × β) := m.filter (fun p => bl p.1 k) ++ [(k, x)] ++ m.filter (fun p => bl k p.1)
variable {m m' : List (Str × β)} {k : Str} {x : β}
theorem posM_le : posM m k ≤ m.length := List.length_filter_le _ _
theorem posM_eq {i : Nat} (hi : i ≤ m.length) (h : ∀ (j : Nat) (y : Str × β), j < i → m[j]? = some y → bl y.1 k = true) (h' : ∀ (j : Nat) (y : Str × β), i ≤ j → m[j]? = some y → bl y.1 k = false) : posM m k = i := by
  rw [posM, filter_take (i := i) h h', List.length_take]
  omega
theorem ascM_lt {i j : Nat} {a b : Str × β} (h : ascM m) (ha : m[i]? = some a) (hb : m[j]? = some b) (hij : i < j) : bl a.1 b.1 = true := by
  obtain ⟨h1, rfl⟩ := List.getElem?_eq_some_iff.1 ha
  obtain ⟨h2, rfl⟩ := List.getElem?_eq_some_iff.1 hb
  exact List.pairwise_iff_getElem.1 h i j h1 h2 hij
theorem ascM_of (h : ∀ (i : Nat) (a b : Str × β), m[i]? = some a → m[i + 1]? = some b → bl a.1 b.1 = true) : ascM m := by
  induction m with
  | nil => exact List.Pairwise.nil
  | cons p r ih =>
    have ih := ih fun i a b ha hb => h (i + 1) a b (by simpa using ha) (by simpa using hb)
    refine List.Pairwise.cons (fun q hq => ?_) ih
    cases r with
    | nil => cases hq
    | cons q0 r =>
      have h0 := h 0 p q0 rfl rfl
      rcases List.mem_cons.1 hq with rfl | hq
      · exact h0
      · exact bl_trans h0 (List.rel_of_pairwise_cons ih hq)
theorem look_none_of (h : ∀ (j : Nat) (y : Str × β), m[j]? = some y → y.1 ≠ k) : look m k = none := by
  induction m with
  | nil => rfl
  | cons p r ih =>
    rw [look, if_neg (h 0 p rfl)]
    exact ih fun j y hy => h (j + 1) y (by simpa using hy)
theorem look_hit {i : Nat} {y : Str × β} (h : ∀ (j : Nat) (z : Str × β), j < i → m[j]? = some z → z.1 ≠ k) (hy : m[i]? = some y) (hk : y.1 = k) : look m k = some y.2 := by
  induction m generalizing i with
  | nil => simp at hy
  | cons p r ih =>
    cases i with
    | zero => simp at hy; subst hy; rw [look, if_pos hk]
    | succ i =>
      rw [look, if_neg (h 0 p (by omega) rfl)]
      exact ih (i := i) (fun j z hj hz => h (j + 1) z (by omega) (by simpa using hz)) (by simpa using hy)
theorem asc_posM (h : ascM m) : (∀ j y, j < posM m k → m[j]? = some y → bl y.1 k = true) ∧ (∀ j y, posM m k ≤ j → m[j]? = some y → bl y.1 k = false) := by
  induction m with
  | nil => simp
  | cons p r ih =>
    obtain ⟨h1, h2⟩ := ih (List.Pairwise.of_cons h)
    by_cases hx : bl p.1 k = true
    · have hp : posM (p :: r) k = posM r k + 1 := by simp [posM, hx]
      rw [hp]
      refine ⟨fun j y hj hy => ?_, fun j y hj hy => ?_⟩
      · cases j with
        | zero => simp at hy; subst hy; exact hx
        | succ j => exact h1 j y (by omega) (by simpa using hy)
      · cases j with
        | zero => omega
        | succ j => exact h2 j y (by omega) (by simpa using hy)
    · have hall : ∀ (j : Nat) (y : Str × β), (p :: r)[j]? = some y → bl y.1 k = false := fun j y hy => by
        cases hpy : bl y.1 k with
        | false => rfl
        | true =>
          cases j with
          | zero => simp at hy; subst hy; exact absurd hpy hx
          | succ j => exact absurd (bl_trans (ascM_lt h (i := 0) rfl hy (by omega)) hpy) hx
      have hp : posM (p :: r) k = 0 := posM_eq (by omega) (fun j y hj => by omega) (fun j y _ hy => hall j y hy)
      rw [hp]
      exact ⟨fun j y hj => by omega, fun j y _ hy => hall j y hy⟩
theorem thereM {y : Str × β} (h : ascM m) (hy : m[posM m k]? = some y) (hp : y.1 = k) : look m k = some y.2 ∧ ∀ x, putM m k x = m.set (posM m k) (k, x) := by
  obtain ⟨h1, h2⟩ := asc_posM (k := k) h
  have hlt := (List.getElem?_eq_some_iff.1 hy).1
  refine ⟨look_hit (fun j z hj hz e => ?_) hy hp, fun x => ?_⟩
  · have := h1 j z hj hz
    rw [e, bl_irrefl] at this
    cases this
  · rw [putM, filter_take h1 h2, filter_drop (i := posM m k + 1), List.set_eq_take_append_cons_drop, if_pos hlt]
    · simp
    · intro j z hj hz
      rcases Nat.lt_succ_iff_lt_or_eq.1 hj with hj | hj
      · exact bl_asymm (h1 j z hj hz)
      · subst hj
        rw [hy] at hz
        injection hz with hz
        subst hz
        rw [hp, bl_irrefl]
    · intro j z hj hz
      rw [← hp]
      exact ascM_lt h hy hz (by omega)
theorem goneM (h : ascM m) (hn : ∀ y : Str × β, m[posM m k]? = some y → y.1 ≠ k) : look m k = none ∧ ∀ x, putM m k x = m.take (posM m k) ++ [(k, x)] ++ m.drop (posM m k) := by
  obtain ⟨h1, h2⟩ := asc_posM (k := k) h
  have h3 : ∀ j z, posM m k ≤ j → m[j]? = some z → bl k z.1 = true := fun j z hj hz => by
    have hlt := (List.getElem?_eq_some_iff.1 hz).1
    obtain ⟨y, hy⟩ : ∃ y, m[posM m k]? = some y := ⟨_, List.getElem?_eq_getElem (by omega)⟩
    have hpy : bl k y.1 = true := by
      rcases bl_total k y.1 with h' | h' | h'
      · exact h'
      · exact absurd h'.symm (hn y hy)
      · rw [h2 _ y (Nat.le_refl _) hy] at h'; cases h'
    rcases Nat.lt_or_ge (posM m k) j with hj' | hj'
    · exact bl_trans hpy (ascM_lt h hy hz hj')
    · have : j = posM m k := by omega
      subst this
      rw [hy] at hz
      injection hz with hz
      subst hz
      exact hpy
  refine ⟨look_none_of fun j z hz e => ?_, fun x => ?_⟩
  · rcases Nat.lt_or_ge j (posM m k) with hj | hj
    · have := h1 j z hj hz
      rw [e, bl_irrefl] at this
      cases this
    · have := h3 j z hj hz
      rw [e, bl_irrefl] at this
      cases this
  · rw [putM, filter_take h1 h2, filter_drop (fun j z hj hz => bl_asymm (h1 j z hj hz)) h3]
theorem isM {i : Nat} (h : ascM m) (hi : posM m k = i) {y : Str × β} (hy : m[i]? = some y) : (look m k).isSome = decide (scmp y.1 k = 0) := by
  subst hi
  by_cases hp : y.1 = k
  · rw [(thereM h hy hp).1, decide_eq_true (scmp_eq.2 hp)]
    rfl
  · rw [(goneM h fun z hz => by rw [hy] at hz; injection hz with hz; subst hz; exact hp).1, decide_eq_false (fun e => hp (scmp_eq.1 e))]
    rfl
theorem isM_end (h : ascM m) (hi : m.length ≤ posM m k) : (look m k).isSome = false := by
  rw [(goneM h fun z hz => by rw [List.getElem?_eq_none hi] at hz; cases hz).1]
  rfl
theorem isM_some (h : ascM m) (hs : (look m k).isSome = true) : ∃ y : Str × β, m[posM m k]? = some y ∧ y.1 = k ∧ look m k = some y.2 := by
  rcases Nat.lt_or_ge (posM m k) m.length with hlt | hge
  · obtain ⟨y, hy⟩ : ∃ y, m[posM m k]? = some y := ⟨_, List.getElem?_eq_getElem hlt⟩
    rw [isM h rfl hy] at hs
    have hp := scmp_eq.1 (of_decide_eq_true hs)
    exact ⟨y, hy, hp, (thereM h hy hp).1⟩
  · rw [isM_end h hge] at hs; cases hs
theorem isM_none (h : ascM m) (hs : (look m k).isSome = false) : ∀ y : Str × β, m[posM m k]? = some y → y.1 ≠ k := fun y hy hp => by
  rw [(thereM h hy hp).1] at hs; cases hs
theorem look_some : ∀ {m : List (Str × β)} {x : β}, look m k = some x → (k, x) ∈ m
  | p :: r, x, h => by
    rw [look] at h
    by_cases hp : p.1 = k
    · rw [if_pos hp] at h
      injection h with h
      subst hp; subst h
      exact List.mem_cons_self ..
    · rw [if_neg hp] at h
      exact List.mem_cons_of_mem _ (look_some h)
theorem look_mem : ∀ {m : List (Str × β)} {p : Str × β}, ascM m → p ∈ m → look m p.1 = some p.2
  | q :: r, p, h, hp => by
    rcases List.mem_cons.1 hp with rfl | hp
    · rw [look, if_pos rfl]
    · have := List.rel_of_pairwise_cons h hp
      rw [look, if_neg (fun e => by rw [e, bl_irrefl] at this; cases this)]
      exact look_mem (List.Pairwise.of_cons h) hp
/-- two rising lists of the same members are the same -/
theorem ascM_ext : ∀ {m m' : List (Str × β)}, ascM m → ascM m' → (∀ k, look m k = look m' k) → m = m'
  | [], [], _, _, _ => rfl
  | [], p :: r, _, h', e => by have := e p.1; rw [look_mem h' (List.mem_cons_self ..)] at this; cases this
  | p :: r, [], h, _, e => by have := e p.1; rw [look_mem h (List.mem_cons_self ..)] at this; cases this
  | p :: r, p' :: r', h, h', e => by
    have h1 := look_some ((e p.1).symm.trans (look_mem h (List.mem_cons_self ..)))
    have h2 := look_some ((e p'.1).trans (look_mem h' (List.mem_cons_self ..)))
    have hk : p.1 = p'.1 := by
      rcases List.mem_cons.1 h1 with h3 | h3
      · rw [← h3]
      · rcases List.mem_cons.1 h2 with h4 | h4
        · rw [← h4]
        · have a := List.rel_of_pairwise_cons h' h3
          have b := List.rel_of_pairwise_cons h h4
          have := bl_trans a b
          rw [bl_irrefl] at this
          cases this
    have hpe : p = p' := by
      have e0 := e p.1
      rw [look, if_pos rfl, look, if_pos hk.symm] at e0
      injection e0 with e0
      exact Prod.ext hk e0
    subst hpe
    congr 1
    refine ascM_ext (List.Pairwise.of_cons h) (List.Pairwise.of_cons h') fun k => ?_
    by_cases hkk : p.1 = k
    · subst hkk
      have n1 : ∀ {r : List (Str × β)}, ascM (p :: r) → look r p.1 = none := fun hr => look_none_of fun j y hy e => by
        have := List.rel_of_pairwise_cons hr (List.mem_of_getElem? hy)
        rw [e, bl_irrefl] at this
        cases this
      rw [n1 h, n1 h']
    · have e0 := e k
      rwa [look, if_neg hkk, look, if_neg hkk] at e0
theorem ascM_filter {q : Str × β → Bool} (h : ascM m) : ascM (m.filter q) := List.Pairwise.filter q h
theorem ascM_put (h : ascM m) : ascM (putM m k x) := by
  unfold putM ascM
  rw [List.append_assoc, List.pairwise_append]
  refine ⟨ascM_filter h, ?_, ?_⟩
  · rw [List.pairwise_append]
    refine ⟨by simp, ascM_filter h, ?_⟩
    intro a ha b hb
    simp at ha
    subst ha
    simpa using (List.mem_filter.1 hb).2
  · intro a ha b hb
    have h1 : bl a.1 k = true := by simpa using (List.mem_filter.1 ha).2
    rcases List.mem_append.1 hb with hb | hb
    · simp at hb; subst hb; exact h1
    · exact bl_trans h1 (by simpa using (List.mem_filter.1 hb).2)
theorem look_append : ∀ {a b : List (Str × β)}, look (a ++ b) k = (look a k).or (look b k)
  | [], b => by simp [look]
  | p :: r, b => by
    simp only [List.cons_append, look]
    by_cases hp : p.1 = k
    · simp [hp]
    · simp [hp, look_append (a := r) (b := b)]
theorem look_filter {q : Str × β → Bool} {b : Bool} (hq : ∀ p ∈ m, p.1 = k → q p = b) : look (m.filter q) k = if b then look m k else none := by
  induction m with
  | nil => simp [look]
  | cons p r ih =>
    have ih := ih fun p' hp' => hq p' (List.mem_cons_of_mem _ hp')
    have hp := hq p (List.mem_cons_self ..)
    by_cases hk : p.1 = k
    · have := hp hk
      cases b
      · rw [List.filter_cons_of_neg (by simp [this]), ih]; rfl
      · rw [List.filter_cons_of_pos this, look, if_pos hk, if_pos rfl, look, if_pos hk]
    · by_cases hqp : q p = true
      · rw [List.filter_cons_of_pos hqp, look, if_neg hk, ih, look, if_neg hk]
      · rw [List.filter_cons_of_neg hqp, ih, look, if_neg hk]
theorem look_put {k' : Str} : look (putM m k x) k' = if k' = k then some x else look m k' := by
  unfold putM
  rw [look_append, look_append]
  by_cases h : k' = k
  · subst h
    rw [look_filter (b := false) (fun p _ e => by rw [e, bl_irrefl])]
    simp [look]
  · rw [if_neg h]
    have h1 : look [(k, x)] k' = none := by simp [look, Ne.symm h]
    rw [h1, Option.or_none]
    rcases bl_total k' k with h2 | h2 | h2
    · rw [look_filter (b := true) (fun p _ e => by rw [e]; exact h2), look_filter (b := false) (fun p _ e => by rw [e]; exact bl_asymm h2)]
      simp
    · exact absurd h2 h
    · rw [look_filter (b := false) (fun p _ e => by rw [e]; exact bl_asymm h2), look_filter (b := true) (fun p _ e => by rw [e]; exact h2)]
      simp
end
end Go.Proofs.YtkhbnhdlelmbnaaGreatDoor.V

set_option linter.unusedVariables false
set_option linter.unusedSimpArgs false
namespace Go.Proofs.YtkhbnhdlelmbnaaGreatDoor.V
open Go
section
variable {A : List Nat} {w w' : World}
theorem Addr.add_add' (a : Addr) (i j : Nat) : (a.add i).add j = a.add (i + j) := by
  unfold Addr.add
  by_cases h : i = 0 <;> by_cases h' : j = 0 <;> simp [h, h', Nat.add_assoc]
theorem Cs.tail_ {a : Addr} {v : Value} {vs : List Value} (h : Cs w a (v :: vs)) : Cs w (a.add 1) vs := fun j u hu => by
  have := h (j + 1) u (by simpa using hu)
  rwa [Addr.add_add', Nat.add_comm 1 j]
theorem JV.cells_ {v : JV} {us : List Value} (R : Reps A w v.D us) : ∃ al cl am cm, us = [.int .i64 v.kind, .bool v.is, .int .i64 v.num, S v.str, .slice al v.list.length cl, .slice am v.map.length cm] ∧
    Rep A w (.sl 6 (v.list.map JV.D)) (.slice al v.list.length cl) ∧ Rep A w (.sl 7 (v.map.map JV.Dp)) (.slice am v.map.length cm) := by
  rw [JV.D_eq] at R
  obtain ⟨_, _, rfl, h1, R⟩ := R
  obtain ⟨_, _, rfl, h2, R⟩ := R
  obtain ⟨_, _, rfl, h3, R⟩ := R
  obtain ⟨_, _, rfl, h4, R⟩ := R
  obtain ⟨_, _, rfl, h5, R⟩ := R
  obtain ⟨_, _, rfl, h6, R⟩ := R
  obtain rfl := R
  obtain rfl := h1.v_eq
  obtain rfl := h2.v_eq
  obtain rfl := h3.v_eq
  obtain rfl := h4.v_eq
  obtain ⟨al, cl, rfl, _⟩ := h5.sl_
  obtain ⟨am, cm, rfl, _⟩ := h6.sl_
  rw [List.length_map] at h5 h6 ⊢
  rw [List.length_map]
  exact ⟨al, cl, am, cm, rfl, h5, h6⟩
theorem JV.reps_ {v : JV} {al am : Option Addr} {cl cm : Nat} (Rl : Rep A w (.sl 6 (v.list.map JV.D)) (.slice al v.list.length cl)) (Rm : Rep A w (.sl 7 (v.map.map JV.Dp)) (.slice am v.map.length cm)) :
    Reps A w v.D [.int .i64 v.kind, .bool v.is, .int .i64 v.num, S v.str, .slice al v.list.length cl, .slice am v.map.length cm] := by
  rw [JV.D_eq]
  exact Reps.cons_ (Rep.v_ rfl) (Reps.cons_ (Rep.v_ rfl) (Reps.cons_ (Rep.v_ rfl) (Reps.cons_ (Rep.v_ rfl) (Reps.cons_ Rl (Reps.cons_ Rm Reps.nil_)))))
theorem JV.cap_l {l : List JV} {ad : Option Addr} {n c : Nat} (R : Rep A w (.sl 6 (l.map JV.D)) (.slice ad n c)) : l.length = n ∧ n ≤ c ∧ c ≤ 9223372036854775807 := by
  obtain ⟨ad', c', h1, h2, h3⟩ := R.sl_
  injection h1 with h4 h5 h6
  rw [List.length_map] at h5 h2
  omega
theorem JV.cap_m {m : List (Str × JV)} {ad : Option Addr} {n c : Nat} (R : Rep A w (.sl 7 (m.map JV.Dp)) (.slice ad n c)) : m.length = n ∧ n ≤ c ∧ c ≤ 9223372036854775807 := by
  obtain ⟨ad', c', h1, h2, h3⟩ := R.sl_
  injection h1 with h4 h5 h6
  rw [List.length_map] at h5 h2
  omega
theorem JV.at_l {l : List JV} {x : JV} {ad : Option Addr} {n c i : Nat} (R : Rep A w (.sl 6 (l.map JV.D)) (.slice ad n c)) (h : l[i]? = some x) : ∃ a us, ad = some a ∧ Reps A w x.D us ∧ Cs w (a.add (i * 6)) us := by
  obtain ⟨a, us, h1, h2, _, h3, _⟩ := Rep.at_ (i := i) (r := x.D) R (by simp [h])
  exact ⟨a, us, h1, h2, h3⟩
theorem JV.at_m {m : List (Str × JV)} {p : Str × JV} {ad : Option Addr} {n c i : Nat} (R : Rep A w (.sl 7 (m.map JV.Dp)) (.slice ad n c)) (h : m[i]? = some p) : ∃ a us, ad = some a ∧ Reps A w p.2.D us ∧ Cs w (a.add (i * 7)) (S p.1 :: us) := by
  obtain ⟨a, us, h1, h2, _, h3, _⟩ := Rep.at_ (i := i) (r := JV.Dp p) R (by simp [h])
  obtain ⟨u, us', rfl, h4, h5⟩ := h2
  obtain rfl := h4.v_eq
  exact ⟨a, us', h1, h5, h3⟩
/-- what is empty -/
def JV.nul : JV := .mk 0 false 0 [] [] []
theorem JV.nul_reps : Reps A w JV.nul.D [.int .i64 0, .bool false, .int .i64 0, S [], .slice none 0 0, .slice none 0 0] := by
  have := JV.reps_ (A := A) (w := w) (v := JV.nul) (al := none) (am := none) (cl := 0) (cm := 0) Rep.sl_nil Rep.sl_nil
  exact this
theorem JV.Dp_all (m : List (Str × JV)) : ∀ r ∈ m.map JV.Dp, r.length = 7 := by
  intro r hr
  obtain ⟨p, _, rfl⟩ := List.mem_map.1 hr
  exact JV.Dp_len p
theorem JV.Dp_reps {p : Str × JV} {us : List Value} (R : Reps A w p.2.D us) : Reps A w (JV.Dp p) (S p.1 :: us) := Reps.cons_ (Rep.v_ rfl) R
theorem rows_flat_len {sz : Nat} : ∀ {rows : List (List D)}, (∀ r ∈ rows, r.length = sz) → rows.flatten.length = rows.length * sz
  | [], _ => by simp
  | r :: rs, h => by
    rw [List.flatten_cons, List.length_append, h r (by simp), rows_flat_len fun r' hr' => h r' (by simp [hr']), List.length_cons, Nat.add_mul]
    omega
theorem Reps.rows_at {sz i : Nat} {rows : List (List D)} {vs : List Value} (hl : ∀ r ∈ rows, r.length = sz) (hi : i ≤ rows.length) (h : Reps A w rows.flatten vs) :
    Reps A w (rows.take i).flatten (vs.take (i * sz)) ∧ Reps A w (rows.drop i).flatten (vs.drop (i * sz)) := by
  have e : rows.flatten = (rows.take i).flatten ++ (rows.drop i).flatten := by rw [← List.flatten_append, List.take_append_drop]
  rw [e] at h
  have := h.cut
  rwa [rows_flat_len fun r hr => hl r (List.mem_of_mem_take hr), List.length_take, Nat.min_eq_left hi] at this
theorem JV.rows_ins {m : List (Str × JV)} {p : Str × JV} {vs us : List Value} {i : Nat} (h : Reps A w (m.map JV.Dp).flatten vs) (hi : i ≤ m.length) (hp : Reps A w (JV.Dp p) us) :
    Reps A w ((m.take i ++ [p] ++ m.drop i).map JV.Dp).flatten (vs.take (i * 7) ++ us ++ vs.drop (i * 7)) := by
  obtain ⟨h1, h2⟩ := Reps.rows_at (i := i) (JV.Dp_all m) (by simpa using hi) h
  rw [List.map_append, List.map_append, List.flatten_append, List.flatten_append, List.map_take, List.map_drop]
  refine (h1.append ?_).append h2
  simpa using hp
theorem JV.rows_set {m : List (Str × JV)} {p : Str × JV} {vs us : List Value} {i : Nat} (h : Reps A w (m.map JV.Dp).flatten vs) (hi : i < m.length) (hp : Reps A w (JV.Dp p) us) :
    Reps A w ((m.set i p).map JV.Dp).flatten (vs.take (i * 7) ++ us ++ vs.drop ((i + 1) * 7)) := by
  obtain ⟨h1, _⟩ := Reps.rows_at (i := i) (JV.Dp_all m) (by simpa using Nat.le_of_lt hi) h
  obtain ⟨_, h2⟩ := Reps.rows_at (i := i + 1) (JV.Dp_all m) (by rw [List.length_map]; omega) h
  rw [List.set_eq_take_append_cons_drop, if_pos hi, List.map_append, List.map_cons, List.flatten_append, List.flatten_cons, List.map_take, List.map_drop, List.append_assoc]
  exact h1.append (hp.append h2)
theorem JV.rows_snoc {m : List (Str × JV)} {p : Str × JV} {vs us : List Value} (h : Reps A w (m.map JV.Dp).flatten vs) (hp : Reps A w (JV.Dp p) us) : Reps A w ((m ++ [p]).map JV.Dp).flatten (vs ++ us) := by
  rw [List.map_append, List.flatten_append]
  refine h.append ?_
  simpa using hp
/-- a slice of the call's own, as members -/
theorem Own.mem_ {e : Nat} {v : Value} {m : List (Str × JV)} {n : Nat} {vs : List Value} (O : Own w e 7 v n vs) (h : Reps A w (m.map JV.Dp).flatten vs) (hn : m.length = n) (hA : ∀ x ∈ ob v, x ∉ A) : Rep A w (.sl 7 (m.map JV.Dp)) v :=
  O.rep h (JV.Dp_all m) (by simpa using hn) hA
variable {P : Program} {ops : Array Oper} {Q : Exit → Act → World → Prop} {n : Nat} {ds : List Deferred} {l : List (Nat × Value)}
variable {rest : List Oper} {ty : TypeId} {pos : String} {af : Array Edge} {x y : Operand}
/-- some cells of an element of a slice of the call's own are written -/
theorem s_stownp {e sz N c p k : Nat} {ad : Addr} {vs us : List Value} {T : TypeId} (ht : agB P T k = true) (O : Own w e sz (.slice (some ad) N c) N vs) (hx : evO l x = some (.pointer (some (ad.add p)))) (hy : evO l y = some (.agg us.toArray)) (hl : us.length = k) (h1c : ∀ u ∈ us, u.oneCell' = true) (hi : p + k ≤ N * sz)
    (h : ∀ w', Own w' e sz (.slice (some ad) N c) N (vs.take p ++ us ++ vs.drop (p + k)) → Mod [ad.block] w w' → w'.heap.size = w.heap.size → WL P ops Q rest n ds l w') :
    WL P ops Q (⟨none, .store T x y, ty, pos, af, none⟩ :: rest) n ds l w := by
  rcases O.2 with ⟨h0, _⟩ | ⟨g, o, cap, cs, hv, hB, hc1, hc2, hc3, hc4⟩
  · cases h0
  injection hv with e1 e2 e3
  injection e1 with e1
  subst e1; subst e3
  have hle2 : N * sz ≤ c * sz := Nat.mul_le_mul_right _ hc1
  have hvl := O.1
  rw [Addr.add_lit] at hx
  refine s_sta (vs := us) ht hB hx hy hl h1c (by omega) fun w' hp => ?_
  refine h w' ⟨?_, .inr ⟨g, o, c, _, rfl, hp.blk, hc1, hc2, by simp [splice]; omega, ?_⟩⟩ hp.mod hp.size
  · simp only [List.length_append, List.length_take, List.length_drop, hl, hvl]
    omega
  · subst hc4
    apply List.ext_getElem?
    intro j
    simp only [splice, hl]
    simp only [List.getElem?_take, List.getElem?_drop, List.getElem?_append, List.length_append, List.length_take, List.length_drop, hl]
    repeat' split
    all_goals first
      | omega
      | rfl
      | (congr 1; omega)
      | skip
end
end Go.Proofs.YtkhbnhdlelmbnaaGreatDoor.V

set_option linter.unusedVariables false
set_option linter.unusedSimpArgs false
namespace Go.Proofs.YtkhbnhdlelmbnaaGreatDoor.V
open Go
abbrev w64 (z : Int) : Int := IntKind.i64.wrap z
namespace JV
mutual
def weigh : JV → Int → Int → Int
  | .mk _ _ _ s l m, left, deep => if deep = 0 then -1 else weighm m (weighl l (w64 (w64 (left - 1) - s.length)) (w64 (deep - 1))) (w64 (deep - 1))
def weighl : List JV → Int → Int → Int
  | [], left, _ => left
  | v :: r, left, d => if left < 0 then left else weighl r (v.weigh left d) d
def weighm : List (List UInt8 × JV) → Int → Int → Int
  | [], left, _ => left
  | p :: r, left, d => if left < 0 then left else weighm r (p.2.weigh (w64 (left - p.1.length)) d) d
end
theorem weigh_eq (v : JV) (left deep : Int) : v.weigh left deep = if deep = 0 then -1 else weighm v.map (weighl v.list (w64 (w64 (left - 1) - v.str.length)) (w64 (deep - 1))) (w64 (deep - 1)) := by
  cases v
  simp only [weigh, map, list, str]
theorem weighl_neg {l : List JV} {z d : Int} (h : z < 0) : weighl l z d = z := by
  cases l <;> simp [weighl, h]
theorem weighm_neg {l : List (List UInt8 × JV)} {z d : Int} (h : z < 0) : weighm l z d = z := by
  cases l <;> simp [weighm, h]
theorem weighl_at {l : List JV} {k : Nat} {x : JV} {z d : Int} (hx : l[k]? = some x) (h : ¬ z < 0) : weighl (l.drop k) z d = weighl (l.drop (k + 1)) (x.weigh z d) d := by
  obtain ⟨hk, rfl⟩ := List.getElem?_eq_some_iff.1 hx
  rw [List.drop_eq_getElem_cons hk, weighl, if_neg h]
theorem weighm_at {l : List (List UInt8 × JV)} {k : Nat} {x : List UInt8 × JV} {z d : Int} (hx : l[k]? = some x) (h : ¬ z < 0) : weighm (l.drop k) z d = weighm (l.drop (k + 1)) (x.2.weigh (w64 (z - x.1.length)) d) d := by
  obtain ⟨hk, rfl⟩ := List.getElem?_eq_some_iff.1 hx
  rw [List.drop_eq_getElem_cons hk, weighm, if_neg h]
theorem weighl_end {l : List JV} {k : Nat} {z d : Int} (h : l.length ≤ k) : weighl (l.drop k) z d = z := by
  rw [List.drop_eq_nil_of_le h, weighl]
theorem weighm_end {l : List (List UInt8 × JV)} {k : Nat} {z d : Int} (h : l.length ≤ k) : weighm (l.drop k) z d = z := by
  rw [List.drop_eq_nil_of_le h, weighm]
mutual
/-- do the keys rise, in all maps? -/
def Rise : JV → Prop
  | .mk _ _ _ _ l m => ascM m ∧ Risel l ∧ Risem m
def Risel : List JV → Prop
  | [] => True
  | v :: r => v.Rise ∧ Risel r
def Risem : List (List UInt8 × JV) → Prop
  | [] => True
  | p :: r => p.2.Rise ∧ Risem r
end
theorem Risel_mem : ∀ {l : List JV}, Risel l ↔ ∀ v ∈ l, v.Rise
  | [] => by simp [Risel]
  | v :: r => by simp [Risel, Risel_mem (l := r)]
theorem Risem_mem : ∀ {l : List (List UInt8 × JV)}, Risem l ↔ ∀ p ∈ l, p.2.Rise
  | [] => by simp [Risem]
  | v :: r => by simp [Risem, Risem_mem (l := r)]
theorem Rise_eq (v : JV) : v.Rise ↔ ascM v.map ∧ (∀ x ∈ v.list, x.Rise) ∧ ∀ p ∈ v.map, p.2.Rise := by
  cases v
  simp only [Rise, map, list, Risel_mem, Risem_mem]
open Classical in
noncomputable def rises (v : JV) : Bool := decide v.Rise
theorem rises_iff {v : JV} : v.rises = true ↔ v.Rise := by simp [rises]
theorem rises_false {v : JV} (h : ¬ v.Rise) : v.rises = false := by simp [rises, h]
theorem rises_true {v : JV} (h : v.Rise) : v.rises = true := by simp [rises, h]
theorem not_Rise_val {v : JV} {k : Nat} {p : List UInt8 × JV} (hp : v.map[k]? = some p) (h : p.2.rises = false) : v.rises = false := rises_false fun hr => by
  have := rises_true (((Rise_eq v).1 hr).2.2 p (List.mem_of_getElem? hp))
  rw [this] at h; cases h
theorem not_Rise_list {v x : JV} {k : Nat} (hp : v.list[k]? = some x) (h : x.rises = false) : v.rises = false := rises_false fun hr => by
  have := rises_true (((Rise_eq v).1 hr).2.1 x (List.mem_of_getElem? hp))
  rw [this] at h; cases h
theorem not_Rise_asc {v : JV} {i k : Nat} {p q : List UInt8 × JV} (hq : v.map[i]? = some q) (hp : v.map[k]? = some p) (hik : i < k) (h : bl q.1 p.1 = false) : v.rises = false := rises_false fun hr => by
  have := ascM_lt ((Rise_eq v).1 hr).1 hq hp hik
  rw [this] at h; cases h
theorem Rise_of {v : JV} (h1 : ∀ (i : Nat) (a b : List UInt8 × JV), v.map[i]? = some a → v.map[i + 1]? = some b → bl a.1 b.1 = true) (h2 : ∀ (i : Nat) (p : List UInt8 × JV), v.map[i]? = some p → p.2.rises = true) (h3 : ∀ (i : Nat) (x : JV), v.list[i]? = some x → x.rises = true) : v.rises = true := by
  refine rises_true ((Rise_eq v).2 ⟨ascM_of h1, fun x hx => ?_, fun p hp => ?_⟩)
  · obtain ⟨i, hi⟩ := List.getElem?_of_mem hx
    exact rises_iff.1 (h3 i x hi)
  · obtain ⟨i, hi⟩ := List.getElem?_of_mem hp
    exact rises_iff.1 (h2 i p hi)
open Classical in
/-- are two values the same? -/
noncomputable def eqJ (a b : JV) : Bool := decide (a = b)
theorem eqJ_iff {a b : JV} : eqJ a b = true ↔ a = b := by simp [eqJ]
theorem eqJ_self (a : JV) : eqJ a a = true := by simp [eqJ]
theorem eqJ_ne {a b : JV} (h : a ≠ b) : eqJ a b = false := by simp [eqJ, h]
theorem ext_ {a b : JV} (h1 : a.kind = b.kind) (h2 : a.is = b.is) (h3 : a.num = b.num) (h4 : a.str = b.str) (h5 : a.list = b.list) (h6 : a.map = b.map) : a = b := by
  rw [eta a, eta b, h1, h2, h3, h4, h5, h6]
theorem list_ext_ {α : Type} {a b : List α} (hl : a.length = b.length) (h : ∀ (i : Nat) (x y : α), i < a.length → a[i]? = some x → b[i]? = some y → x = y) : a = b := by
  apply List.ext_getElem hl
  intro i h1 h2
  exact h i _ _ h1 (List.getElem?_eq_getElem h1) (List.getElem?_eq_getElem h2)
end JV
end Go.Proofs.YtkhbnhdlelmbnaaGreatDoor.V

set_option linter.unusedVariables false
set_option linter.unusedSimpArgs false
namespace Go.Proofs.YtkhbnhdlelmbnaaGreatDoor.V
open Go
theorem ins_grow7 {n i : Nat} {vs news sc : List Value} (hv : vs.length = n * 7) (hn : news.length = (n + 1 - i) * 7) (hs : sc.length = 7) (hi : i ≤ n) :
    ((vs.take (i * 7) ++ news).take (i * 7) ++ sc ++ (vs.take (i * 7) ++ news).drop ((i + 1) * 7)).take ((i + 1) * 7) ++ (vs.drop (i * 7)).take ((n - i) * 7) ++ ((vs.take (i * 7) ++ news).take (i * 7) ++ sc ++ (vs.take (i * 7) ++ news).drop ((i + 1) * 7)).drop ((i + 1 + (n - i)) * 7) = vs.take (i * 7) ++ sc ++ vs.drop (i * 7) := by
  have h1 : (vs.take (i * 7)).length = i * 7 := by rw [List.length_take]; omega
  have h2 : (vs.take (i * 7) ++ news).take (i * 7) = vs.take (i * 7) := List.take_left' h1
  have h3 : (vs.take (i * 7) ++ sc).length = (i + 1) * 7 := by rw [List.length_append, h1, hs]; omega
  rw [h2]
  have h4 : ((vs.take (i * 7) ++ sc) ++ (vs.take (i * 7) ++ news).drop ((i + 1) * 7)).take ((i + 1) * 7) = vs.take (i * 7) ++ sc := by rw [← h3]; exact List.take_left
  have h5 : ((vs.take (i * 7) ++ sc) ++ (vs.take (i * 7) ++ news).drop ((i + 1) * 7)).drop ((i + 1 + (n - i)) * 7) = [] := List.drop_eq_nil_of_le (by rw [List.length_append, h3, List.length_drop, List.length_append, h1, hn]; omega)
  have h6 : (vs.drop (i * 7)).take ((n - i) * 7) = vs.drop (i * 7) := List.take_of_length_le (by rw [List.length_drop]; omega)
  rw [h4, h5, h6, List.append_nil]
/-- .. in place -/
theorem ins_room7 {n i : Nat} {vs vs' sc : List Value} (hv : vs.length = n * 7) (hv' : vs'.length = (n + 1) * 7) (ht : vs'.take (n * 7) = vs) (hs : sc.length = 7) (hi : i ≤ n) :
    (vs'.take ((i + 1) * 7) ++ (vs'.drop (i * 7)).take ((n - i) * 7) ++ vs'.drop ((i + 1 + (n - i)) * 7)).take (i * 7) ++ sc ++ (vs'.take ((i + 1) * 7) ++ (vs'.drop (i * 7)).take ((n - i) * 7) ++ vs'.drop ((i + 1 + (n - i)) * 7)).drop ((i + 1) * 7) = vs.take (i * 7) ++ sc ++ vs.drop (i * 7) := by
  have h1 : (vs'.take ((i + 1) * 7)).length = (i + 1) * 7 := by rw [List.length_take]; omega
  have h2 : vs'.drop ((i + 1 + (n - i)) * 7) = [] := List.drop_eq_nil_of_le (by omega)
  rw [h2, List.append_nil]
  congr 1
  · congr 1
    rw [List.take_append_of_le_length (by omega), List.take_take, ← ht, List.take_take]
    congr 1
    omega
  · rw [List.drop_left' h1, ← ht, List.drop_take]
    congr 1
    omega

theorem JV.none_m {A : List Nat} {w : World} {m : List (Str × JV)} {n c : Nat} (R : Rep A w (.sl 7 (m.map JV.Dp)) (.slice none n c)) : m = [] := by
  cases m with
  | nil => rfl
  | cons p r =>
    obtain ⟨a, us, h, _⟩ := JV.at_m (i := 0) (p := p) R rfl
    cases h
namespace JV
/-- what Get answers -/
def get (v : JV) (k : Str) : Option JV := if v.kind = 5 then look v.map k else none
/-- a map's members -/
def tbl (v : JV) : List (Str × JV) := if v.kind = 5 then v.map else []
/-- a map -/
def obj (m : List (Str × JV)) : JV := .mk 5 false 0 [] [] m
theorem obj_reps {A : List Nat} {w : World} {m : List (Str × JV)} {am : Option Addr} {cm : Nat} (R : Rep A w (.sl 7 (m.map Dp)) (.slice am m.length cm)) : Reps A w (obj m).D [.int .i64 5, .bool false, .int .i64 0, S [], .slice none 0 0, .slice am m.length cm] :=
  reps_ (v := obj m) (al := none) (cl := 0) Rep.sl_nil R
end JV
theorem posM_put {m : List (Str × JV)} {k : Str} {x : JV} (h : ascM m) : (look m k).isSome = true → putM m k x = m.set (posM m k) (k, x) := fun hs => by
  obtain ⟨y, hy, hk, _⟩ := isM_some h hs
  exact (thereM h hy hk).2 x
theorem posM_ins {m : List (Str × JV)} {k : Str} {x : JV} (h : ascM m) : (look m k).isSome = false → putM m k x = m.take (posM m k) ++ [(k, x)] ++ m.drop (posM m k) := fun hs => (goneM h (isM_none h hs)).2 x
end Go.Proofs.YtkhbnhdlelmbnaaGreatDoor.V

set_option linter.unusedVariables false
set_option linter.unusedSimpArgs false
namespace Go.Proofs.YtkhbnhdlelmbnaaGreatDoor.V
open Go
/-- the bytes behind a rune's first -/
def runeC : List UInt8 → Nat → Option Nat
  | [], c => some c
  | b :: r, c => if b.toNat < 128 ∨ 192 ≤ b.toNat then none else runeC r (c * 64 + b.toNat % 64)
def runeH (c : Nat) : Nat × Nat × Nat :=
  if 192 ≤ c ∧ c < 224 then (2, 128, c % 32) else if 224 ≤ c ∧ c < 240 then (3, 2048, c % 16) else if 240 ≤ c ∧ c < 248 then (4, 65536, c % 8) else (0, 0, c)
/-- the rune that bytes begin with, and how many it has -/
def runeR (s : Str) : Nat × Nat := match s with
  | [] => (0, 0)
  | b :: r => if b.toNat < 128 then (b.toNat, 1) else
    if (runeH b.toNat).1 = 0 ∨ s.length < (runeH b.toNat).1 then (0, 0) else
      match runeC (r.take ((runeH b.toNat).1 - 1)) (runeH b.toNat).2.2 with
      | none => (0, 0)
      | some c => if c < (runeH b.toNat).2.1 ∨ 1114111 < c ∨ (55296 ≤ c ∧ c ≤ 57343) then (0, 0) else (c, (runeH b.toNat).1)
theorem runeR_le (s : Str) : (runeR s).2 ≤ s.length := by
  unfold runeR
  split
  · simp
  · rename_i b r
    split
    · simp
    · split
      · simp
      · rename_i h
        split
        · simp
        · split
          · simp
          · simp only
            omega
/-- is it a text? -/
def validR (s : Str) : Bool :=
  if h : s = [] then true else if h0 : (runeR s).2 = 0 then false else validR (s.drop (runeR s).2)
termination_by s.length
decreasing_by
  have := runeR_le s
  rw [List.length_drop]
  have : s.length ≠ 0 := fun e => h (List.eq_nil_of_length_eq_zero e)
  omega
theorem validR_nil : validR [] = true := by rw [validR]; simp
theorem validR_no {s : Str} (h : s ≠ []) (h0 : (runeR s).2 = 0) : validR s = false := by rw [validR]; simp [h, h0]
theorem validR_go {s : Str} (h : s ≠ []) (h0 : (runeR s).2 ≠ 0) : validR s = validR (s.drop (runeR s).2) := by
  rw [validR]
  simp [h, h0]
abbrev hexD : Str := [48, 49, 50, 51, 52, 53, 54, 55, 56, 57, 97, 98, 99, 100, 101, 102]
/-- a byte of a text between quotes -/
def escQ (c : UInt8) : Str :=
  if c = 34 ∨ c = 92 then [92, c] else if c = 8 then [92, 98] else if c = 9 then [92, 116] else if c = 10 then [92, 110] else if c = 12 then [92, 102] else if c = 13 then [92, 114]
  else if c.toNat < 32 then [92, 117, 48, 48, hexD.getD (c.toNat / 16) 0, hexD.getD (c.toNat % 16) 0] else [c]
def escs (s : Str) : Str := (s.map escQ).flatten
def putQ (s : Str) : Str := 34 :: escs s ++ [34]
theorem escQ_len (c : UInt8) : (escQ c).length ≤ 6 := by
  unfold escQ
  repeat' split
  all_goals simp
theorem escs_len : ∀ s : Str, (escs s).length ≤ 6 * s.length
  | [] => by simp [escs]
  | c :: s => by
    have h1 := escs_len s
    have h2 := escQ_len c
    simp only [escs, List.map_cons, List.flatten_cons, List.length_append, List.length_cons] at h1 ⊢
    omega
theorem escs_succ {s : Str} {k : Nat} {c : UInt8} (h : s[k]? = some c) : escs (s.take (k + 1)) = escs (s.take k) ++ escQ c := by
  have hlt := (List.getElem?_eq_some_iff.1 h).1
  rw [List.take_succ_eq_append_getElem hlt, (List.getElem?_eq_some_iff.1 h).2]
  simp [escs]
/-- no longer than may be -/
def lng (b : Str) : Except Int Str := if 65536 < b.length then .error 3 else .ok b
def txtW (b s : Str) : Except Int Str := if 65536 < s.length then .error 3 else if validR s then lng (b ++ putQ s) else .error 1
theorem lng_ok {b b' : Str} (h : lng b = .ok b') : b' = b ∧ b.length ≤ 65536 := by
  unfold lng at h
  split at h
  · cases h
  · injection h with h; exact ⟨h.symm, by omega⟩
namespace JV
/-- has a value nothing but what its kind has? -/
def bare (v : JV) : Bool := decide (0 ≤ v.kind ∧ v.kind ≤ 5) && (decide (v.kind = 1) || !v.is) && (decide (v.kind = 2) || decide (v.num = 0)) && (decide (v.kind = 3) || decide (v.str = [])) && (decide (v.kind = 4) || decide (v.list.length = 0)) && (decide (v.kind = 5) || decide (v.map.length = 0)) && (!decide (v.kind = 2) || decide (-9007199254740991 ≤ v.num ∧ v.num ≤ 9007199254740991))
abbrev tNull : Str := [110, 117, 108, 108]
abbrev tTrue : Str := [116, 114, 117, 101]
abbrev tFalse : Str := [102, 97, 108, 115, 101]
mutual
/-- a value's text behind bytes; an error's number -/
def wr : JV → Nat → Str → Except Int Str
  | .mk k is n s l m, deep, b =>
    if bare (.mk k is n s l m) = false then .error 1 else
    if k = 0 then lng (b ++ tNull) else
    if k = 1 then lng (b ++ if is then tTrue else tFalse) else
    if k = 2 then lng (b ++ Lib.itoa n) else
    if k = 3 then txtW b s else
    if deep = 32 then .error 5 else
    if k = 4 then (lng (b ++ [91])).bind fun b => (wrl l deep true b).bind fun b => lng (b ++ [93])
    else (lng (b ++ [123])).bind fun b => (wrm m deep none b).bind fun b => lng (b ++ [125])
def wrl : List JV → Nat → Bool → Str → Except Int Str
  | [], _, _, b => .ok b
  | v :: r, deep, fst, b => (if fst then Except.ok b else lng (b ++ [44])).bind fun b => (wr v (deep + 1) b).bind fun b => wrl r deep false b
def wrm : List (List UInt8 × JV) → Nat → Option Str → Str → Except Int Str
  | [], _, _, b => .ok b
  | p :: r, deep, prev, b => (match prev with
      | none => Except.ok b
      | some q => (lng (b ++ [44])).bind fun b => if bl q p.1 then .ok b else .error 1).bind fun b =>
    (txtW b p.1).bind fun b => (lng (b ++ [58])).bind fun b => (wr p.2 (deep + 1) b).bind fun b => wrm r deep (some p.1) b
end
theorem wr_eq (v : JV) (deep : Nat) (b : Str) : wr v deep b = 
    if bare v = false then .error 1 else
    if v.kind = 0 then lng (b ++ tNull) else
    if v.kind = 1 then lng (b ++ if v.is then tTrue else tFalse) else
    if v.kind = 2 then lng (b ++ Lib.itoa v.num) else
    if v.kind = 3 then txtW b v.str else
    if deep = 32 then .error 5 else
    if v.kind = 4 then (lng (b ++ [91])).bind fun b => (wrl v.list deep true b).bind fun b => lng (b ++ [93])
    else (lng (b ++ [123])).bind fun b => (wrm v.map deep none b).bind fun b => lng (b ++ [125]) := by
  cases v
  rw [wr]
  rfl
end JV
end Go.Proofs.YtkhbnhdlelmbnaaGreatDoor.V

set_option linter.unusedVariables false
set_option linter.unusedSimpArgs false
namespace Go.Proofs.YtkhbnhdlelmbnaaGreatDoor.V
open Go
section
variable {P : Program} {l : List (Nat × Value)} {w : World} {ty : TypeId} {pos : String} {af : Array Edge} {dd : Option Nat} {gg : Option (Nat × Bool)} {x y lo : Operand} {t : TypeId}
theorem o_ssfrom {u : List UInt8} {n : Nat} (ht : P.underlying t = some .string) (hx : evO l x = some (S u)) (hl : evO l lo = some (.int .i64 (n : Int))) (hb : n ≤ u.length) : Runs P l ⟨dd, .slice t x (some lo) none none, ty, pos, af, gg⟩ w (S (u.drop n)) w :=
  (o_ssl (pl := some (.i64, (n : Int))) (ph := none) ht hx (by simp [evS, hl]) rfl (by simp only [loV, hiV]; omega)).to (by
    simp only [loV, hiV, Int.toNat_natCast]
    rw [List.take_of_length_le (by simp)])
end
theorem runeC_no {l : List UInt8} {j d : Nat} {b : UInt8} (h : l[j]? = some b) (hb : b.toNat < 128 ∨ 192 ≤ b.toNat) : runeC (l.drop j) d = none := by
  obtain ⟨hj, rfl⟩ := List.getElem?_eq_some_iff.1 h
  rw [List.drop_eq_getElem_cons hj, runeC, if_pos hb]
theorem runeC_go {l : List UInt8} {j d : Nat} {b : UInt8} (h : l[j]? = some b) (hb : ¬ (b.toNat < 128 ∨ 192 ≤ b.toNat)) : runeC (l.drop j) d = runeC (l.drop (j + 1)) (d * 64 + b.toNat % 64) := by
  obtain ⟨hj, rfl⟩ := List.getElem?_eq_some_iff.1 h
  rw [List.drop_eq_getElem_cons hj, runeC, if_neg hb]
theorem runeR_small {b0 : UInt8} {r : Str} (h : b0.toNat < 128) : runeR (b0 :: r) = (b0.toNat, 1) := by simp [runeR, h]
theorem runeR_short {b0 : UInt8} {r : Str} {n l c : Nat} (hge : ¬ b0.toNat < 128) (hH : runeH b0.toNat = (n, l, c)) (h : n = 0 ∨ (b0 :: r).length < n) : runeR (b0 :: r) = (0, 0) := by
  unfold runeR
  simp only [if_neg hge, hH]
  rw [if_pos h]
theorem runeR_at {b0 : UInt8} {r : Str} {n l c : Nat} (hge : ¬ b0.toNat < 128) (hH : runeH b0.toNat = (n, l, c)) (h : ¬ (n = 0 ∨ (b0 :: r).length < n)) :
    runeR (b0 :: r) = match runeC (r.take (n - 1)) c with | none => (0, 0) | some c => if c < l ∨ 1114111 < c ∨ (55296 ≤ c ∧ c ≤ 57343) then (0, 0) else (c, n) := by
  show (if b0.toNat < 128 then (b0.toNat, 1) else if (runeH b0.toNat).1 = 0 ∨ (b0 :: r).length < (runeH b0.toNat).1 then (0, 0) else _) = _
  rw [if_neg hge, hH, if_neg h] <;> rfl
theorem runeR_none {b0 : UInt8} {r : Str} {n l c : Nat} (hge : ¬ b0.toNat < 128) (hH : runeH b0.toNat = (n, l, c)) (h : ¬ (n = 0 ∨ (b0 :: r).length < n)) (hc : runeC (r.take (n - 1)) c = none) : runeR (b0 :: r) = (0, 0) := by rw [runeR_at hge hH h, hc]
theorem runeR_bad {b0 : UInt8} {r : Str} {n l c d : Nat} (hge : ¬ b0.toNat < 128) (hH : runeH b0.toNat = (n, l, c)) (h : ¬ (n = 0 ∨ (b0 :: r).length < n)) (hc : runeC (r.take (n - 1)) c = some d) (hb : d < l ∨ 1114111 < d ∨ (55296 ≤ d ∧ d ≤ 57343)) : runeR (b0 :: r) = (0, 0) := by
  rw [runeR_at hge hH h, hc]
  exact if_pos hb
theorem runeR_good {b0 : UInt8} {r : Str} {n l c d : Nat} (hge : ¬ b0.toNat < 128) (hH : runeH b0.toNat = (n, l, c)) (h : ¬ (n = 0 ∨ (b0 :: r).length < n)) (hc : runeC (r.take (n - 1)) c = some d) (hb : ¬ (d < l ∨ 1114111 < d ∨ (55296 ≤ d ∧ d ≤ 57343))) : runeR (b0 :: r) = (d, n) := by
  rw [runeR_at hge hH h, hc]
  exact if_neg hb
end Go.Proofs.YtkhbnhdlelmbnaaGreatDoor.V
