/-
  A part of the proof: the document's Order: lists of pasts in memory; each step in plain Lean. No condition of its own.
-/
import Derived.Test.YthmohmpalbnjoaaM12
set_option linter.unusedVariables false
set_option linter.unusedSimpArgs false
namespace Go.Proofs.Ythmohmpalbnjoaa.V
open Go
theorem strD_take {A : List Nat} {w : World} {l : List Str} {ad : Option Addr} {c k : Nat} (R : Rep A w (strD l) (.slice ad l.length c)) (hk : k ≤ l.length) : Rep A w (strD (l.take k)) (.slice ad k c) := by
  have := Rep.cut (lo := 0) (hi := k) R (Nat.zero_le _) hk
  rw [adS_zero] at this
  simp only [Nat.sub_zero, List.drop_zero] at this
  unfold strD flat
  rw [List.map_take]
  exact this
theorem slS_at {A : List Nat} {w : World} {f : Str → List Str} {ids : List Str} {ad : Option Addr} {n c i : Nat} {x : Str} (R : Rep A w (.sl 1 (ids.map fun x => [strD (f x)])) (.slice ad n c)) (hi : ids[i]? = some x) :
    ∃ a u, ad = some a ∧ w.cell? (a.add (i * 1)) = some u ∧ Rep A w (strD (f x)) u := by
  obtain ⟨a, us, h1, h2, h3, h4, _⟩ := R.at_ (i := i) (r := [strD (f x)]) (by simp [hi])
  obtain ⟨u, us', rfl, r1, h5⟩ := h2
  exact ⟨a, u, h1, h4.c0, r1⟩
def bI : Option Nat → Int
  | none => -1
  | some b => b
theorem bI_neg {o : Option Nat} (h : bI o < 0) : o = none := by
  cases o with
  | none => rfl
  | some b => simp [bI] at h; omega
theorem bI_pos {o : Option Nat} (h : ¬ bI o < 0) : ∃ b, o = some b ∧ bI o = (b : Int) := by
  cases o with
  | none => exact absurd (by simp [bI]) h
  | some b => exact ⟨b, rfl, rfl⟩
theorem and_snocT {α : Type} {f : α → Bool} {m : List α} {j : Nat} {b c : Bool} {y : α} (hb : b = (c && (m.take j).all f)) (ht : b = true) (hy : m[j]? = some y) (v : Bool) (hv : f y = v) : v = (c && (m.take (j + 1)).all f) := by
  rw [take_succ_snoc hy, List.all_append, ← Bool.and_assoc, ← hb, ht, ← hv]
  simp
theorem and_snocF {α : Type} {f : α → Bool} {m : List α} {j : Nat} {b c : Bool} {y : α} (hb : b = (c && (m.take j).all f)) (ht : b = false) (hy : m[j]? = some y) : false = (c && (m.take (j + 1)).all f) := by
  rw [take_succ_snoc hy, List.all_append, ← Bool.and_assoc, ← hb, ht]
  rfl
abbrev okY (m : Gm) (out : List Str) (x y : Str) : Bool := decide (y = x) || decide (y ∈ out) || !decide (y ∈ past m [x])
theorem okI_iff {m : Gm} {ids : List Str} {O : List Nat} {k : Nat} {x : Str} (hn : ids.Nodup) (hO : ∀ i ∈ O, i < ids.length) (hx : ids[k]? = some x) :
    (!decide (x ∈ O.map (nm ids)) && ids.all (okY m (O.map (nm ids)) x)) = decide (okI (prG m ids) ids.length O k) := by
  have hk := (List.getElem?_eq_some_iff.1 hx).1
  have hmem : ∀ {i : Nat} {y : Str}, ids[i]? = some y → (y ∈ O.map (nm ids) ↔ i ∈ O) := fun {i y} hy => by
    constructor
    · intro h
      obtain ⟨i', hi', e⟩ := List.mem_map.1 h
      have := nm_inj hn (hO i' hi') (List.getElem?_eq_some_iff.1 hy).1 (by rw [e, nm_at hy])
      rwa [← this]
    · intro h
      exact List.mem_map.2 ⟨i, h, nm_at hy⟩
  have hiff : (!decide (x ∈ O.map (nm ids)) && ids.all (okY m (O.map (nm ids)) x)) = true ↔ okI (prG m ids) ids.length O k := by
    rw [Bool.and_eq_true, List.all_eq_true]
    unfold okI
    constructor
    · rintro ⟨h1, h2⟩
      refine ⟨fun h => ?_, fun i hi => ?_⟩
      · rw [decide_eq_true ((hmem hx).2 h)] at h1
        cases h1
      · have hy : ids[i]? = some ids[i] := List.getElem?_eq_getElem hi
        have := h2 ids[i] (List.getElem_mem hi)
        simp only [okY, Bool.or_eq_true, decide_eq_true_eq, Bool.not_eq_true', decide_eq_false_iff_not] at this
        rcases this with (h3 | h3) | h3
        · exact .inl (nodup_at hn hy (by rw [h3]; exact hx))
        · exact .inr (.inl ((hmem hy).1 h3))
        · refine .inr (.inr ?_)
          unfold prG
          rw [nm_at hy, nm_at hx]
          exact decide_eq_false h3
    · rintro ⟨h1, h2⟩
      refine ⟨?_, fun y hy => ?_⟩
      · rw [decide_eq_false (fun h => h1 ((hmem hx).1 h))]
        rfl
      · obtain ⟨i, hi, e⟩ := List.mem_iff_getElem.1 hy
        have hyi : ids[i]? = some y := by rw [List.getElem?_eq_getElem hi, e]
        simp only [okY, Bool.or_eq_true, decide_eq_true_eq, Bool.not_eq_true', decide_eq_false_iff_not]
        rcases h2 i hi with h3 | h3 | h3
        · subst h3
          rw [hyi] at hx
          injection hx with hx
          exact .inl (.inl hx)
        · exact .inl (.inr ((hmem hyi).2 h3))
        · unfold prG at h3
          rw [nm_at hyi, nm_at hx] at h3
          exact .inr (of_decide_eq_false h3)
  cases hb : (!decide (x ∈ O.map (nm ids)) && ids.all (okY m (O.map (nm ids)) x)) with
  | true => rw [decide_eq_true (hiff.1 hb)]
  | false => rw [decide_eq_false (fun h => by rw [hiff.2 h] at hb; cases hb)]
section
variable {lt : Nat → Nat → Bool} {pr : Nat → Nat → Bool} {n k : Nat} {O : List Nat}
theorem best_no (h : ¬ okI pr n O k) : bestI lt pr n O (k + 1) = bestI lt pr n O k := by rw [bestI, if_neg (fun hh => h hh.1)]
theorem best_first (h : okI pr n O k) (hb : bestI lt pr n O k = none) : bestI lt pr n O (k + 1) = some k := by rw [bestI, if_pos ⟨h, by rw [hb]; rfl⟩]
theorem best_less (h : okI pr n O k) {b : Nat} (hb : bestI lt pr n O k = some b) (hl : lt k b = true) : bestI lt pr n O (k + 1) = some k := by rw [bestI, if_pos ⟨h, by rw [hb]; exact hl⟩]
theorem best_more {b : Nat} (hb : bestI lt pr n O k = some b) (hl : lt k b = false) : bestI lt pr n O (k + 1) = bestI lt pr n O k := by
  rw [bestI, if_neg]
  rintro ⟨_, h⟩
  rw [hb] at h
  have h' : lt k b = true := h
  rw [hl] at h'
  cases h'
end
theorem nodup_take_succ {l : List Str} {k : Nat} {x : Str} (h : (l.take k).Nodup) (hx : l[k]? = some x) (hn : x ∉ l.take k) : (l.take (k + 1)).Nodup := by
  rw [take_succ_snoc hx, List.nodup_append]
  refine ⟨h, by simp, fun a ha b hb => ?_⟩
  simp only [List.mem_singleton] at hb
  subst hb
  intro e
  subst e
  exact hn ha
theorem dup_take {l : List Str} {k : Nat} {x : Str} (hx : l[k]? = some x) (hm : x ∈ l.take k) : ¬ l.Nodup := fun hn => by
  obtain ⟨i, hi, e⟩ := List.mem_iff_getElem.1 hm
  rw [List.length_take] at hi
  rw [List.getElem_take] at e
  have := nodup_at hn (x := x) (by rw [← e]; exact List.getElem?_eq_getElem (by omega)) hx
  omega
section
variable {m : Gm} {ids : List Str} {rks : List Rk}
theorem ordG_arg (h : ids.length ≠ rks.length) : ordG m ids rks = ([], 1) := by rw [ordG, if_pos h]
theorem ordG_twice (h : ids.length = rks.length) (h2 : ¬ ids.Nodup) : ordG m ids rks = ([], 6) := by rw [ordG, if_neg (fun hh => hh h), if_pos h2]
theorem ordG_none (h : ids.length = rks.length) (h2 : ids.Nodup) {x : Str} (hx : x ∈ ids) (hk : x ∉ m.keys) : ordG m ids rks = ([], 40) := by rw [ordG, if_neg (fun hh => hh h), if_neg (fun hh => hh h2), if_pos ⟨x, hx, hk⟩]
theorem ordG_ok (h : ids.length = rks.length) (h2 : ids.Nodup) (hk : ∀ x ∈ ids, (look m x).isSome = true) : ordG m ids rks = ((ordI (ltG ids rks) (prG m ids) ids.length ids.length).map (nm ids), 0) := by
  rw [ordG, if_neg (fun hh => hh h), if_neg (fun hh => hh h2), if_neg]
  rintro ⟨x, hx, hn⟩
  exact hn (look_keys.1 (hk x hx))
end
end Go.Proofs.Ythmohmpalbnjoaa.V

set_option linter.unusedVariables false
set_option linter.unusedSimpArgs false
set_option maxRecDepth 10000
namespace Go.Proofs.Ythmohmpalbnjoaa.V
open Go Go.Proofs
theorem sl73 : slB Try.prog 73 23 1 24 = true := by kernel_rfl
theorem sl24 : slB Try.prog 24 44 3 32 = true := by kernel_rfl
theorem ent17 : Ent Try.prog 17 := Ent.of Try.func17 (by kernel_rfl) (by kernel_rfl)
theorem zv23 : zvB Try.prog 23 ([.slice none 0 0]) := by unfold zvB; kernel_rfl
theorem ag44 : agB Try.prog 44 3 = true := by kernel_rfl
theorem ent33 : Ent Try.prog 33 := Ent.of Try.func33 (by kernel_rfl) (by kernel_rfl)
theorem c_orderR (w : World) (m : Gm) (v0 : Value) (R : Rep [] w (ndD m) v0) (ids : List Str) (v1 : Value) (R1 : Rep [] w (strD ids) v1) (rks : List Rk) (v2 : Value) (R2 : Rep [] w (rksD rks) v2) (wf : GWf m) (hm : m.length ≤ 512) (hn : ids.length ≤ 100000) : Calls Try.prog 14 [v0, v1, v2].toArray w (Ret fun u w' => ∃ v', u = .tuple #[v', .int .i64 (ordG m ids rks).2] ∧ Rep [] w' (strD (ordG m ids rks).1) v' ∧ Mod [] w w') := by
  refine enter Try.func14 rfl rfl rfl (l := [(0, _), (1, _), (2, _)]) ⟨rfl, rfl, rfl, trivial⟩ ?_
  have E := Mod.refl [] w
  obtain ⟨ad0, c0, rfl, h01, h02⟩ := ndD_len R
  obtain ⟨ad1, c1, rfl, h11, h12⟩ := flat_len R1
  obtain ⟨ad2, c2, rfl, h21, h22⟩ := flat_len R2
  refine c_seq fun K1 hK1 => ?_
  refine c_region ?_
  refine sv (o_as rfl) rfl ?_
  refine sv (o_as rfl) rfl ?_
  refine l_nil ?_
  refine e_K (hK1 _ _ _ _ ?_)
  refine c_seq fun K2 hK2 => ?_
  refine c_seq fun K3 hK3 => ?_
  refine c_region ?_
  refine sv (o_mv rfl) rfl ?_
  refine sv (o_len Try.underlying23 rfl) rfl ?_
  refine sv (o_mv rfl) rfl ?_
  refine sv (o_len Try.underlying24 rfl) rfl ?_
  refine sv (o_neq rfl rfl) rfl ?_
  refine l_nil ?_
  refine e_K (hK3 _ _ _ _ ?_)
  refine c_if rfl (fun h25 => ?_) (fun h25 => ?_)
  · skip
    refine c_seq fun K4 hK4 => ?_
    refine c_region ?_
    refine sv (o_as rfl) rfl ?_
    refine sv (o_as rfl) rfl ?_
    refine l_nil ?_
    refine e_K (hK4 _ _ _ _ ?_)
    refine c_ret ?_
    refine e_then (by simp) ?_
    exact ret2 rfl rfl rfl ⟨_, by rw [ordG_arg (by omega)], by rw [ordG_arg (by omega)]; exact Rep.nilf _ _, E⟩
  · skip
    have hlr : ids.length = rks.length := by omega
    refine c_skip ?_
    refine e_K (hK2 _ _ _ _ ?_)
    refine c_seq fun K5 hK5 => ?_
    refine c_seq fun K6 hK6 => ?_
    refine c_region ?_
    refine sv (o_mv rfl) rfl ?_
    refine sv (o_len Try.underlying23 rfl) rfl ?_
    refine sv (o_mv rfl) rfl ?_
    refine l_nil ?_
    refine e_K (hK6 _ _ _ _ ?_)
    refine c_block ?_
    refine c_loop (σ := Nat) (fun k => [(0, .slice ad0 m.length c0), (1, .slice ad1 ids.length c1), (2, .slice ad2 rks.length c2), (26, .slice ad1 ids.length c1), (27, .int .i64 ids.length), (28, .int .i64 (k : Int))]) (fun k w1 => k ≤ ids.length ∧ (ids.take k).Nodup ∧ Mod [] w w1) (fun k => ids.length - k) (0) ⟨rfl, rfl, rfl, rfl, rfl, rfl, trivial⟩ (⟨by omega, by simp, E⟩) ?_
    rintro k w1 ⟨hk, hnd, E⟩
    refine c_seq fun K7 hK7 => ?_
    refine c_region ?_
    refine sv (o_lss rfl rfl) rfl ?_
    refine l_nil ?_
    refine e_K (hK7 _ _ _ _ ?_)
    refine c_seq fun K8 hK8 => ?_
    refine c_if rfl (fun h29 => ?_) (fun h29 => ?_)
    · skip
      have hlt : k < ids.length := by omega
      obtain ⟨x, hx_x⟩ : ∃ x, (ids)[k]? = some x := ⟨_, List.getElem?_eq_getElem (by omega)⟩
      obtain ⟨a_x, ha_x, hcs_x, _⟩ := flat_at (R1.to0 E) hx_x
      obtain rfl := ha_x
      refine c_skip ?_
      refine e_K (hK8 _ _ _ _ ?_)
      refine c_seq fun K9 hK9 => ?_
      refine c_block ?_
      refine c_seq fun K10 hK10 => ?_
      refine c_region ?_
      refine sv (o_mv rfl) rfl ?_
      refine sv (o_as rfl) rfl ?_
      refine l_nil ?_
      refine e_K (hK10 _ _ _ _ ?_)
      refine c_seq fun K11 hK11 => ?_
      refine c_draw wide (by kernel_rfl) ?_
      refine tv (fun w_ E_ => (o_mv rfl)) rfl rfl ?_
      refine tv (fun w_ E_ => (o_mv rfl)) rfl rfl ?_
      refine tv (fun w_ E_ => (o_slto sl23 rfl rfl (by omega) (by omega))) rfl rfl ?_
      refine tv (fun w_ E_ => (o_mv rfl)) rfl rfl ?_
      refine tv (fun w_ E_ => (o_mv rfl)) rfl rfl ?_
      refine tv (fun w_ E_ => (o_ix sl23 rfl rfl (by omega))) rfl rfl ?_
      refine tv (fun w_ E_ => (o_ld sc9 rfl (hcs_x.mod0 E_).c0)) rfl rfl ?_
      refine tc (fun w_ E_ => o_call ent18 rfl) (fun w_ E_ => g_in _ (ids.take k) _ (strD_take (R1.to0 (E.then E_)) (by omega)) x) rfl rfl ?_
      refine tw_nil rfl fun w2 E_ => ?_
      replace E := E.then E_
      refine e_K (hK11 _ _ _ _ ?_)
      refine c_if rfl (fun h38 => ?_) (fun h38 => ?_)
      · skip
        refine c_seq fun K12 hK12 => ?_
        refine c_region ?_
        refine sv (o_as rfl) rfl ?_
        refine sv (o_as rfl) rfl ?_
        refine l_nil ?_
        refine e_K (hK12 _ _ _ _ ?_)
        refine c_ret ?_
        refine e_in (by simp) ?_
        refine e_then (by simp) ?_
        refine e_then (by simp) ?_
        refine e_in (by simp) ?_
        refine e_then (by simp) ?_
        exact ret2 rfl rfl rfl ⟨_, by rw [ordG_twice hlr (dup_take hx_x h38)], by rw [ordG_twice hlr (dup_take hx_x h38)]; exact Rep.nilf _ _, E⟩
      · skip
        refine c_skip ?_
        refine e_in (by simp) ?_
        refine e_K (hK9 _ _ _ _ ?_)
        refine c_region ?_
        refine sv (o_addN rfl rfl (by omega)) rfl ?_
        refine sv (o_mv rfl) rfl ?_
        refine l_nil ?_
        exact e_round (σ := Nat) (s := k) (k + 1) ⟨rfl, rfl, rfl, rfl, rfl, rfl, trivial⟩ ⟨by omega, nodup_take_succ hnd hx_x h38, E⟩ (by omega)
    · skip
      have hnds : ids.Nodup := by rwa [List.take_of_length_le (by omega)] at hnd
      refine c_exit ?_
      refine e_then (by simp) ?_
      refine e_then (by simp) ?_
      refine e_hit ?_
      refine e_K (hK5 _ _ _ _ ?_)
      refine c_seq fun K13 hK13 => ?_
      refine c_region ?_
      refine sv (o_as rfl) rfl ?_
      refine l_nil ?_
      refine e_K (hK13 _ _ _ _ ?_)
      refine c_seq fun K14 hK14 => ?_
      refine c_seq fun K15 hK15 => ?_
      refine c_region ?_
      refine sv (o_mv rfl) rfl ?_
      refine sv (o_len Try.underlying23 rfl) rfl ?_
      refine sv (o_mv rfl) rfl ?_
      refine l_nil ?_
      refine e_K (hK15 _ _ _ _ ?_)
      refine c_block ?_
      refine c_loop (σ := Nat × Value × List Value) (fun ⟨k, v, vs⟩ => [(0, .slice ad0 m.length c0), (1, .slice ad1 ids.length c1), (2, .slice ad2 rks.length c2), (9, v), (40, .slice ad1 ids.length c1), (41, .int .i64 ids.length), (42, .int .i64 (k : Int))]) (fun ⟨k, v, vs⟩ w1 => k ≤ ids.length ∧ (∀ x ∈ ids.take k, (look m x).isSome = true) ∧ GL [] w w1 23 1 v k ((ids.take k).map fun x => [strD (past m [x])]) vs ∧ Mod [] w w1) (fun ⟨k, v, vs⟩ => ids.length - k) (⟨0, .slice none 0 0, []⟩) ⟨rfl, rfl, rfl, rfl, rfl, rfl, rfl, trivial⟩ (⟨by omega, by simp, GL.nil (by simp), E⟩) ?_
      rintro ⟨k, v, vs⟩ w3 ⟨hk, hin, GL0, E⟩
      refine c_seq fun K16 hK16 => ?_
      refine c_region ?_
      refine sv (o_lss rfl rfl) rfl ?_
      refine l_nil ?_
      refine e_K (hK16 _ _ _ _ ?_)
      refine c_seq fun K17 hK17 => ?_
      refine c_if rfl (fun h43 => ?_) (fun h43 => ?_)
      · skip
        have hlt : k < ids.length := by omega
        obtain ⟨x, hx_x⟩ : ∃ x, (ids)[k]? = some x := ⟨_, List.getElem?_eq_getElem (by omega)⟩
        obtain ⟨a_x, ha_x, hcs_x, _⟩ := flat_at (R1.to0 E) hx_x
        obtain rfl := ha_x
        have EkG := Mod.refl [] w3
        refine c_skip ?_
        refine e_K (hK17 _ _ _ _ ?_)
        refine c_seq fun K18 hK18 => ?_
        refine c_block ?_
        refine c_seq fun K19 hK19 => ?_
        refine c_region ?_
        refine sv (o_ix sl23 rfl rfl (by omega)) rfl ?_
        refine sv (o_ld sc9 rfl hcs_x.c0) rfl ?_
        refine sv (o_as rfl) rfl ?_
        refine l_nil ?_
        refine e_K (hK19 _ _ _ _ ?_)
        refine c_seq fun K20 hK20 => ?_
        refine c_region ?_
        refine sv (o_mv rfl) rfl ?_
        refine sv (o_mv rfl) rfl ?_
        refine sc (o_call ent19 rfl) (g_get [] _ m _ (R.to0 E) x) rfl fun v_ w4 h_ => ?_
        obtain ⟨lv, rfl, RL, E_⟩ := h_
        replace E := E.then E_
        replace EkG := EkG.then E_
        have one_l := RL.one
        refine sv (o_mv rfl) rfl ?_
        refine sv (o_ext rfl rfl) rfl ?_
        refine sv (o_ext rfl rfl) rfl ?_
        refine s_alloc zv42 rfl fun g1 w5 N1 => ?_
        have Lg1_E := N1.le E
        have Lg1_EkG := N1.le EkG
        replace E := E.then N1.mod
        replace EkG := EkG.then N1.mod
        have Bg1 := N1.blk
        refine s_sta (vs := [_, _]) ag42 Bg1 rfl rfl rfl (by intro u hu; simp at hu; rcases hu with rfl | rfl <;> first | rfl | assumption) (by simp) fun w6 P6 => ?_
        replace E := E.own P6.mod Lg1_E
        replace EkG := EkG.own P6.mod Lg1_EkG
        replace Bg1 : Blk w6 g1 _ [_, _] := P6.blk
        refine sv (o_as rfl) rfl ?_
        refine l_nil ?_
        refine e_K (hK20 _ _ _ _ ?_)
        refine c_seq fun K21 hK21 => ?_
        refine c_seq fun K22 hK22 => ?_
        refine c_region ?_
        refine sv (o_mv rfl) rfl ?_
        refine sv (o_not rfl) rfl ?_
        refine l_nil ?_
        refine e_K (hK22 _ _ _ _ ?_)
        refine c_cond rfl (fun h53 => ?_) (fun h53 => ?_)
        · skip
          refine c_seq fun K23 hK23 => ?_
          refine c_region ?_
          refine sv (o_as rfl) rfl ?_
          refine sv (o_as rfl) rfl ?_
          refine l_nil ?_
          refine e_K (hK23 _ _ _ _ ?_)
          refine c_ret ?_
          refine e_then (by simp) ?_
          refine e_in (by simp) ?_
          refine e_then (by simp) ?_
          refine e_then (by simp) ?_
          refine e_in (by simp) ?_
          refine e_then (by simp) ?_
          exact ret2 rfl rfl rfl ⟨_, by rw [ordG_none hlr hnds (List.mem_of_getElem? hx_x) (not_keys (by simpa using h53))], by rw [ordG_none hlr hnds (List.mem_of_getElem? hx_x) (not_keys (by simpa using h53))]; exact Rep.nilf _ _, E⟩
        · skip
          refine c_skip ?_
          refine e_K (hK21 _ _ _ _ ?_)
          refine c_region ?_
          refine sv (o_mv rfl) rfl ?_
          refine sv (o_mv rfl) rfl ?_
          refine sv (o_mv rfl) rfl ?_
          refine s_bslice (cs := [_]) sl23 zv9 rfl rfl rfl (by decide) rfl fun g2 w7 N2 => ?_
          have Lg2_E := N2.le E
          have Lg2_EkG := N2.le EkG
          have Dg1_g2 := N2.ne Bg1
          replace Bg1 := Bg1.mod0 N2.mod
          replace E := E.then N2.mod
          replace EkG := EkG.then N2.mod
          have Bg2 := N2.blk
          refine sc (o_call ent17 rfl) (g_pastR (ob v) _ m _ (R.to0 E) [x] _ (OwnS.rep [] (OwnS.to (Own.all (cs := [_]) Bg2 rfl (by omega)) rfl rfl) (by simp)) hm (fun y hy => (GL0.mod0 EkG).lt y (by simpa using hy))) rfl fun v_ w8 h_ => ?_
          obtain ⟨RP, E_⟩ := h_
          replace Bg1 := Bg1.mod0 E_
          replace Bg2 := Bg2.mod0 E_
          replace E := E.then E_
          replace EkG := EkG.then E_
          obtain ⟨adp, cp, rfl, hcp1, hcp2⟩ := flat_len RP
          have EkP := Mod.refl [] w8
          refine s_bslice (cs := [_]) sl73 zv23 rfl rfl rfl (by decide) rfl fun g3 w9 N3 => ?_
          have Lg3_E := N3.le E
          have Lg3_EkG := N3.le EkG
          have Lg3_EkP := N3.le EkP
          have Dg1_g3 := N3.ne Bg1
          have Dg2_g3 := N3.ne Bg2
          replace Bg1 := Bg1.mod0 N3.mod
          replace Bg2 := Bg2.mod0 N3.mod
          replace E := E.then N3.mod
          replace EkG := EkG.then N3.mod
          replace EkP := EkP.then N3.mod
          have Bg3 := N3.blk
          have one_u := RP.one
          have GN := GL0.mod0 EkG
          refine s_append sl73 rfl rfl GN.own (Src.own Try.underlying73 (Own.all (cs := [_]) Bg3 rfl (by omega)) (by intro u hu; simp at hu; subst hu; exact one_u)) (by decide) (by omega) (by omega) rfl fun v2 w10 A2 => ?_
          have GL2 := GN.app E A2 rfl (row := [strD (past m [x])]) (Reps.cons_ (RP.to0 (EkP)) Reps.nil_)
          replace E := E.trans' A2.mod (fun y hy => .inr (GN.fr y hy))
          refine sv (o_as rfl) rfl ?_
          refine l_nil ?_
          refine e_in (by simp) ?_
          refine e_K (hK18 _ _ _ _ ?_)
          refine c_region ?_
          refine sv (o_addN rfl rfl (by omega)) rfl ?_
          refine sv (o_mv rfl) rfl ?_
          refine l_nil ?_
          exact e_round (σ := Nat × Value × List Value) (s := ⟨k, v, vs⟩) (⟨k + 1, v2, vs ++ _⟩) ⟨rfl, rfl, rfl, rfl, rfl, rfl, rfl, trivial⟩ ⟨by omega, take_all_succ hx_x hin (by simpa using h53), GL2.same rfl (take_map_succ _ hx_x).symm, E⟩ (by dsimp only; omega)
      · skip
        have hkn : k = ids.length := by omega
        rw [List.take_of_length_le (by omega)] at hin
        have hkn2 : ids.take k = ids := List.take_of_length_le (by omega)
        rw [hkn2] at GL0
        have RPS := GL0.rep (by intro r hr; obtain ⟨_, _, rfl⟩ := List.mem_map.1 hr; rfl) (by simp [hkn])
        obtain ⟨adP, cP, rfl, hcP1, hcP2⟩ := GL0.own.form
        subst hkn
        have hA := prG_acyc wf hnds
        have hS := ltG_so (rks := rks) hnds
        obtain ⟨wP, hwP⟩ : ∃ w_, w_ = w3 := ⟨_, rfl⟩
        subst hwP
        have EP := E
        refine c_exit ?_
        refine e_then (by simp) ?_
        refine e_then (by simp) ?_
        refine e_hit ?_
        refine e_K (hK14 _ _ _ _ ?_)
        refine c_seq fun K24 hK24 => ?_
        refine c_region ?_
        refine sv (o_as rfl) rfl ?_
        refine l_nil ?_
        refine e_K (hK24 _ _ _ _ ?_)
        refine c_seq fun K25 hK25 => ?_
        refine c_block ?_
        refine c_loop (σ := Nat × Value) (fun ⟨j, vo⟩ => [(0, .slice ad0 m.length c0), (1, .slice ad1 ids.length c1), (2, .slice ad2 rks.length c2), (9, .slice adP ids.length cP), (14, vo)]) (fun ⟨j, vo⟩ w1 => j ≤ ids.length ∧ OwnS w1 9 vo ((ordI (ltG ids rks) (prG m ids) ids.length j).map (nm ids)) ∧ (∀ y ∈ ob vo, wP.heap.size ≤ y) ∧ Mod [] wP w1) (fun ⟨j, vo⟩ => ids.length - j) (⟨0, .slice none 0 0⟩) ⟨rfl, rfl, rfl, rfl, rfl, trivial⟩ (⟨by omega, OwnS.nil _ _, by simp [ob], Mod.refl _ _⟩) ?_
        rintro ⟨j, vo⟩ w11 ⟨hj, OO, LO, Ep⟩
        have E := EP.trans Ep
        have LOE : ∀ y ∈ ob vo, w.heap.size ≤ y := fun y hy => Nat.le_trans EP.size (LO y hy)
        refine c_seq fun K26 hK26 => ?_
        refine c_seq fun K27 hK27 => ?_
        refine c_region ?_
        obtain ⟨adO, cO, rfl, hcO1, hcO2⟩ := OO.form
        have hlenO : ((ordI (ltG ids rks) (prG m ids) ids.length j).map (nm ids)).length = j := by rw [List.length_map]; exact ordI_len hA j hj
        refine sv (o_mv rfl) rfl ?_
        refine sv (o_len Try.underlying23 rfl) rfl ?_
        refine sv (o_mv rfl) rfl ?_
        refine sv (o_len Try.underlying23 rfl) rfl ?_
        refine sv (o_lss rfl rfl) rfl ?_
        refine l_nil ?_
        refine e_K (hK27 _ _ _ _ ?_)
        refine c_if rfl (fun h66 => ?_) (fun h66 => ?_)
        · skip
          have hpos : 0 < ids.length := by omega
          obtain ⟨a1, ha1, _, _⟩ := flat_at R1 (List.getElem?_eq_getElem hpos)
          obtain rfl := ha1
          obtain ⟨a2, ha2, _, _⟩ := flat_at R2 (List.getElem?_eq_getElem (show 0 < rks.length by omega))
          obtain rfl := ha2
          obtain ⟨aP, _, haP, _, _⟩ := slS_at RPS (List.getElem?_eq_getElem hpos)
          obtain rfl := haP
          obtain ⟨wR, hwR⟩ : ∃ w_, w_ = w11 := ⟨_, rfl⟩
          subst hwR
          have E3 := E
          have Ep3 := Ep
          have OO3 := OO
          have Ek := Mod.refl [] wR
          refine c_skip ?_
          refine e_K (hK26 _ _ _ _ ?_)
          refine c_block ?_
          refine c_seq fun K28 hK28 => ?_
          refine c_region ?_
          refine sv (o_as rfl) rfl ?_
          refine l_nil ?_
          refine e_K (hK28 _ _ _ _ ?_)
          refine c_seq fun K29 hK29 => ?_
          refine c_seq fun K30 hK30 => ?_
          refine c_region ?_
          refine sv (o_mv rfl) rfl ?_
          refine sv (o_len Try.underlying23 rfl) rfl ?_
          refine sv (o_mv rfl) rfl ?_
          refine l_nil ?_
          refine e_K (hK30 _ _ _ _ ?_)
          refine c_block ?_
          refine c_loop (σ := Nat) (fun k => [(0, .slice ad0 m.length c0), (1, .slice (some a1) ids.length c1), (2, .slice (some a2) rks.length c2), (9, .slice (some aP) ids.length cP), (14, .slice adO ((ordI (ltG ids rks) (prG m ids) ids.length j).map (nm ids)).length cO), (15, .int .i64 (bI (bestI (ltG ids rks) (prG m ids) ids.length (ordI (ltG ids rks) (prG m ids) ids.length j) k))), (67, .slice (some a1) ids.length c1), (68, .int .i64 ids.length), (69, .int .i64 (k : Int))]) (fun k w1 => k ≤ ids.length ∧ Mod [] wR w1) (fun k => ids.length - k) (0) ⟨rfl, rfl, rfl, rfl, rfl, rfl, rfl, rfl, rfl, trivial⟩ (⟨by omega, Ek⟩) ?_
          rintro k w12 ⟨hk, Ek⟩
          refine c_seq fun K31 hK31 => ?_
          refine c_region ?_
          refine sv (o_lss rfl rfl) rfl ?_
          refine l_nil ?_
          refine e_K (hK31 _ _ _ _ ?_)
          refine c_seq fun K32 hK32 => ?_
          refine c_if rfl (fun h70 => ?_) (fun h70 => ?_)
          · skip
            have hlt : k < ids.length := by omega
            obtain ⟨x, hx_x⟩ : ∃ x, (ids)[k]? = some x := ⟨_, List.getElem?_eq_getElem (by omega)⟩
            obtain ⟨a_x, ha_x, hcs_x, _⟩ := flat_at (R1.to0 (E3.trans Ek)) hx_x
            injection ha_x with ha_x
            subst ha_x
            obtain ⟨r, hr_r⟩ : ∃ r, rks[k]? = some r := ⟨_, List.getElem?_eq_getElem (by omega)⟩
            obtain ⟨a_r, ha_r, cs0_r, _⟩ := flat_at R2 hr_r
            injection ha_r with ha_r
            subst ha_r
            obtain ⟨a_p, u_p, ha_p, hc_p, R_p⟩ := slS_at RPS hx_x
            injection ha_p with ha_p
            subst ha_p
            refine c_skip ?_
            refine e_K (hK32 _ _ _ _ ?_)
            refine c_seq fun K33 hK33 => ?_
            refine c_block ?_
            refine c_seq fun K34 hK34 => ?_
            refine c_region ?_
            refine sv (o_mv rfl) rfl ?_
            refine sv (o_ix sl23 rfl rfl (by omega)) rfl ?_
            refine sv (o_ld sc9 rfl hcs_x.c0) rfl ?_
            refine sv (o_as rfl) rfl ?_
            refine sv (o_as rfl) rfl ?_
            refine l_nil ?_
            refine e_K (hK34 _ _ _ _ ?_)
            refine c_seq fun K35 hK35 => ?_
            refine c_region ?_
            refine sv (o_mv rfl) rfl ?_
            refine sv (o_mv rfl) rfl ?_
            refine sc (o_call ent18 rfl) (g_in _ ((ordI (ltG ids rks) (prG m ids) ids.length j).map (nm ids)) _ (OwnS.rep [] (OO3.mod0 Ek) (by simp)) x) rfl fun v_ w13 h_ => ?_
            obtain ⟨rfl, E_⟩ := h_
            replace Ek := Ek.then E_
            refine sv (o_not rfl) rfl ?_
            refine sv (o_as rfl) rfl ?_
            refine l_nil ?_
            refine e_K (hK35 _ _ _ _ ?_)
            refine c_seq fun K36 hK36 => ?_
            refine c_seq fun K37 hK37 => ?_
            refine c_region ?_
            refine sv (o_mv rfl) rfl ?_
            refine sv (o_len Try.underlying23 rfl) rfl ?_
            refine sv (o_mv rfl) rfl ?_
            refine l_nil ?_
            refine e_K (hK37 _ _ _ _ ?_)
            refine c_block ?_
            refine c_loop (σ := Nat × Bool) (fun ⟨d, b⟩ => [(0, .slice ad0 m.length c0), (1, .slice (some a1) ids.length c1), (2, .slice (some a2) rks.length c2), (9, .slice (some aP) ids.length cP), (14, .slice adO ((ordI (ltG ids rks) (prG m ids) ids.length j).map (nm ids)).length cO), (15, .int .i64 (bI (bestI (ltG ids rks) (prG m ids) ids.length (ordI (ltG ids rks) (prG m ids) ids.length j) k))), (16, .int .i64 (k : Int)), (17, S x), (18, .bool b), (67, .slice (some a1) ids.length c1), (68, .int .i64 ids.length), (69, .int .i64 (k : Int)), (78, .slice (some a1) ids.length c1), (79, .int .i64 ids.length), (80, .int .i64 (d : Int))]) (fun ⟨d, b⟩ w1 => d ≤ ids.length ∧ b = (!decide (x ∈ ((ordI (ltG ids rks) (prG m ids) ids.length j).map (nm ids))) && (ids.take d).all (okY m ((ordI (ltG ids rks) (prG m ids) ids.length j).map (nm ids)) x)) ∧ Mod [] wR w1) (fun ⟨d, b⟩ => ids.length - d) (⟨0, !decide (x ∈ ((ordI (ltG ids rks) (prG m ids) ids.length j).map (nm ids)))⟩) ⟨rfl, rfl, rfl, rfl, rfl, rfl, rfl, rfl, rfl, rfl, rfl, rfl, rfl, rfl, rfl, trivial⟩ (⟨by omega, by simp, Ek⟩) ?_
            rintro ⟨d, b⟩ w14 ⟨hd, hb, Ek⟩
            refine c_seq fun K38 hK38 => ?_
            refine c_region ?_
            refine sv (o_lss rfl rfl) rfl ?_
            refine l_nil ?_
            refine e_K (hK38 _ _ _ _ ?_)
            refine c_seq fun K39 hK39 => ?_
            refine c_if rfl (fun h81 => ?_) (fun h81 => ?_)
            · skip
              have hlt2 : d < ids.length := by omega
              obtain ⟨y, hx_y⟩ : ∃ x, (ids)[d]? = some x := ⟨_, List.getElem?_eq_getElem (by omega)⟩
              obtain ⟨a_y, ha_y, hcs_y, _⟩ := flat_at (R1.to0 (E3.trans Ek)) hx_y
              injection ha_y with ha_y
              subst ha_y
              refine c_skip ?_
              refine e_K (hK39 _ _ _ _ ?_)
              refine c_seq fun K40 hK40 => ?_
              refine c_block ?_
              refine c_seq fun K41 hK41 => ?_
              refine c_region ?_
              refine sv (o_ix sl23 rfl rfl (by omega)) rfl ?_
              refine sv (o_ld sc9 rfl hcs_y.c0) rfl ?_
              refine sv (o_as rfl) rfl ?_
              refine l_nil ?_
              refine e_K (hK41 _ _ _ _ ?_)
              by_cases hb18 : b = true
              · skip
                by_cases hk88 : y = x
                · skip
                  refine c_region ?_
                  refine sv (o_mv rfl) rfl ?_
                  refine sv (o_mv rfl) rfl ?_
                  refine sg rfl (hb18) (o_mv rfl) rfl ?_
                  refine sg rfl (hb18) (o_mv rfl) rfl ?_
                  refine sg rfl (hb18) (o_seq rfl rfl) rfl ?_
                  refine sg rfl (hb18) (o_mv rfl) rfl ?_
                  refine sn rfl (fun e_ => absurd ((decide_eq_true hk88).symm.trans e_) (by decide)) rfl ?_
                  refine sn rfl (fun e_ => absurd ((decide_eq_true hk88).symm.trans e_) (by decide)) rfl ?_
                  refine sn rfl (fun e_ => absurd ((decide_eq_true hk88).symm.trans e_) (by decide)) rfl ?_
                  refine sg rfl (hb18) (o_pickT (decide_eq_true hk88) rfl rfl) rfl ?_
                  refine sg rfl (hb18) (o_mv rfl) rfl ?_
                  refine sn rfl (fun e_ => absurd ((rfl).symm.trans e_) (by decide)) rfl ?_
                  refine sn rfl (fun e_ => absurd ((rfl).symm.trans e_) (by decide)) rfl ?_
                  refine sn rfl (fun e_ => absurd ((rfl).symm.trans e_) (by decide)) rfl ?_
                  refine sn rfl (fun e_ => absurd ((rfl).symm.trans e_) (by decide)) rfl ?_
                  refine sn rfl (fun e_ => absurd ((rfl).symm.trans e_) (by decide)) rfl ?_
                  refine sn rfl (fun e_ => absurd ((rfl).symm.trans e_) (by decide)) rfl ?_
                  refine sn rfl (fun e_ => absurd ((rfl).symm.trans e_) (by decide)) rfl ?_
                  refine sg rfl (hb18) (o_pickT (rfl) rfl rfl) rfl ?_
                  refine sv (o_pickT (hb18) rfl rfl) rfl ?_
                  refine sv (o_as rfl) rfl ?_
                  refine l_nil ?_
                  refine e_in (by simp) ?_
                  refine e_K (hK40 _ _ _ _ ?_)
                  refine c_region ?_
                  refine sv (o_addN rfl rfl (by omega)) rfl ?_
                  refine sv (o_mv rfl) rfl ?_
                  refine l_nil ?_
                  exact e_round (σ := Nat × Bool) (s := ⟨d, b⟩) (⟨d + 1, true⟩) ⟨rfl, rfl, rfl, rfl, rfl, rfl, rfl, rfl, rfl, rfl, rfl, rfl, rfl, rfl, rfl, trivial⟩ ⟨by omega, and_snocT hb hb18 hx_y _ (by simp [okY, hk88]), Ek⟩ (by dsimp only; omega)
                · skip
                  by_cases hk92 : y ∈ ((ordI (ltG ids rks) (prG m ids) ids.length j).map (nm ids))
                  · skip
                    refine c_region ?_
                    refine sv (o_mv rfl) rfl ?_
                    refine sv (o_mv rfl) rfl ?_
                    refine sg rfl (hb18) (o_mv rfl) rfl ?_
                    refine sg rfl (hb18) (o_mv rfl) rfl ?_
                    refine sg rfl (hb18) (o_seq rfl rfl) rfl ?_
                    refine sg rfl (hb18) (o_mv rfl) rfl ?_
                    refine sg rfl (decide_eq_false hk88) (o_mv rfl) rfl ?_
                    refine sg rfl (decide_eq_false hk88) (o_mv rfl) rfl ?_
                    refine sgc rfl (decide_eq_false hk88) (o_call ent18 rfl) (g_in _ ((ordI (ltG ids rks) (prG m ids) ids.length j).map (nm ids)) _ (OwnS.rep [] (OO3.mod0 Ek) (by simp)) y) rfl fun v_ w15 h_ => ?_
                    obtain ⟨rfl, E_⟩ := h_
                    replace Ek := Ek.then E_
                    refine sg rfl (hb18) (o_pickF (decide_eq_false hk88) rfl rfl) rfl ?_
                    refine sg rfl (hb18) (o_mv rfl) rfl ?_
                    refine sn rfl (fun e_ => absurd ((decide_eq_true hk92).symm.trans e_) (by decide)) rfl ?_
                    refine sn rfl (fun e_ => absurd ((decide_eq_true hk92).symm.trans e_) (by decide)) rfl ?_
                    refine sn rfl (fun e_ => absurd ((decide_eq_true hk92).symm.trans e_) (by decide)) rfl ?_
                    refine sn rfl (fun e_ => absurd ((decide_eq_true hk92).symm.trans e_) (by decide)) rfl ?_
                    refine sn rfl (fun e_ => absurd ((decide_eq_true hk92).symm.trans e_) (by decide)) rfl ?_
                    refine sn rfl (fun e_ => absurd ((decide_eq_true hk92).symm.trans e_) (by decide)) rfl ?_
                    refine sn rfl (fun e_ => absurd ((decide_eq_true hk92).symm.trans e_) (by decide)) rfl ?_
                    refine sg rfl (hb18) (o_pickT (decide_eq_true hk92) rfl rfl) rfl ?_
                    refine sv (o_pickT (hb18) rfl rfl) rfl ?_
                    refine sv (o_as rfl) rfl ?_
                    refine l_nil ?_
                    refine e_in (by simp) ?_
                    refine e_K (hK40 _ _ _ _ ?_)
                    refine c_region ?_
                    refine sv (o_addN rfl rfl (by omega)) rfl ?_
                    refine sv (o_mv rfl) rfl ?_
                    refine l_nil ?_
                    exact e_round (σ := Nat × Bool) (s := ⟨d, b⟩) (⟨d + 1, true⟩) ⟨rfl, rfl, rfl, rfl, rfl, rfl, rfl, rfl, rfl, rfl, rfl, rfl, rfl, rfl, rfl, trivial⟩ ⟨by omega, and_snocT hb hb18 hx_y _ (by rw [okY, decide_eq_true hk92]; simp), Ek⟩ (by dsimp only; omega)
                  · skip
                    by_cases hk100 : y ∈ past m [x]
                    · skip
                      refine c_region ?_
                      refine sv (o_mv rfl) rfl ?_
                      refine sv (o_mv rfl) rfl ?_
                      refine sg rfl (hb18) (o_mv rfl) rfl ?_
                      refine sg rfl (hb18) (o_mv rfl) rfl ?_
                      refine sg rfl (hb18) (o_seq rfl rfl) rfl ?_
                      refine sg rfl (hb18) (o_mv rfl) rfl ?_
                      refine sg rfl (decide_eq_false hk88) (o_mv rfl) rfl ?_
                      refine sg rfl (decide_eq_false hk88) (o_mv rfl) rfl ?_
                      refine sgc rfl (decide_eq_false hk88) (o_call ent18 rfl) (g_in _ ((ordI (ltG ids rks) (prG m ids) ids.length j).map (nm ids)) _ (OwnS.rep [] (OO3.mod0 Ek) (by simp)) y) rfl fun v_ w16 h_ => ?_
                      obtain ⟨rfl, E_⟩ := h_
                      replace Ek := Ek.then E_
                      refine sg rfl (hb18) (o_pickF (decide_eq_false hk88) rfl rfl) rfl ?_
                      refine sg rfl (hb18) (o_mv rfl) rfl ?_
                      refine sg rfl (decide_eq_false hk92) (o_mv rfl) rfl ?_
                      refine sg rfl (decide_eq_false hk92) (o_mv rfl) rfl ?_
                      refine sg rfl (decide_eq_false hk92) ((o_ix sl73 rfl rfl (by omega)).to (v' := .pointer (some (aP.add (k * 1)))) rfl) rfl ?_
                      refine sg rfl (decide_eq_false hk92) (o_ld sc23 rfl (cell_mod0 hc_p (Ep3.trans Ek))) rfl ?_
                      refine sg rfl (decide_eq_false hk92) (o_mv rfl) rfl ?_
                      refine sgc rfl (decide_eq_false hk92) (o_call ent18 rfl) (g_in _ (past m [x]) _ (R_p.to0 (Ep3.trans Ek)) y) rfl fun v_ w17 h_ => ?_
                      obtain ⟨rfl, E_⟩ := h_
                      replace Ek := Ek.then E_
                      refine sg rfl (decide_eq_false hk92) (o_not rfl) rfl ?_
                      refine sg rfl (hb18) (o_pickF (decide_eq_false hk92) rfl rfl) rfl ?_
                      refine sv (o_pickT (hb18) rfl rfl) rfl ?_
                      refine sv (o_as rfl) rfl ?_
                      refine l_nil ?_
                      refine e_in (by simp) ?_
                      refine e_K (hK40 _ _ _ _ ?_)
                      refine c_region ?_
                      refine sv (o_addN rfl rfl (by omega)) rfl ?_
                      refine sv (o_mv rfl) rfl ?_
                      refine l_nil ?_
                      exact e_round (σ := Nat × Bool) (s := ⟨d, b⟩) (⟨d + 1, !decide (y ∈ past m [x])⟩) ⟨rfl, rfl, rfl, rfl, rfl, rfl, rfl, rfl, rfl, rfl, rfl, rfl, rfl, rfl, rfl, trivial⟩ ⟨by omega, and_snocT hb hb18 hx_y _ (by rw [okY, decide_eq_false hk92, decide_eq_false hk88]; rfl), Ek⟩ (by dsimp only; omega)
                    · skip
                      refine c_region ?_
                      refine sv (o_mv rfl) rfl ?_
                      refine sv (o_mv rfl) rfl ?_
                      refine sg rfl (hb18) (o_mv rfl) rfl ?_
                      refine sg rfl (hb18) (o_mv rfl) rfl ?_
                      refine sg rfl (hb18) (o_seq rfl rfl) rfl ?_
                      refine sg rfl (hb18) (o_mv rfl) rfl ?_
                      refine sg rfl (decide_eq_false hk88) (o_mv rfl) rfl ?_
                      refine sg rfl (decide_eq_false hk88) (o_mv rfl) rfl ?_
                      refine sgc rfl (decide_eq_false hk88) (o_call ent18 rfl) (g_in _ ((ordI (ltG ids rks) (prG m ids) ids.length j).map (nm ids)) _ (OwnS.rep [] (OO3.mod0 Ek) (by simp)) y) rfl fun v_ w18 h_ => ?_
                      obtain ⟨rfl, E_⟩ := h_
                      replace Ek := Ek.then E_
                      refine sg rfl (hb18) (o_pickF (decide_eq_false hk88) rfl rfl) rfl ?_
                      refine sg rfl (hb18) (o_mv rfl) rfl ?_
                      refine sg rfl (decide_eq_false hk92) (o_mv rfl) rfl ?_
                      refine sg rfl (decide_eq_false hk92) (o_mv rfl) rfl ?_
                      refine sg rfl (decide_eq_false hk92) ((o_ix sl73 rfl rfl (by omega)).to (v' := .pointer (some (aP.add (k * 1)))) rfl) rfl ?_
                      refine sg rfl (decide_eq_false hk92) (o_ld sc23 rfl (cell_mod0 hc_p (Ep3.trans Ek))) rfl ?_
                      refine sg rfl (decide_eq_false hk92) (o_mv rfl) rfl ?_
                      refine sgc rfl (decide_eq_false hk92) (o_call ent18 rfl) (g_in _ (past m [x]) _ (R_p.to0 (Ep3.trans Ek)) y) rfl fun v_ w19 h_ => ?_
                      obtain ⟨rfl, E_⟩ := h_
                      replace Ek := Ek.then E_
                      refine sg rfl (decide_eq_false hk92) (o_not rfl) rfl ?_
                      refine sg rfl (hb18) (o_pickF (decide_eq_false hk92) rfl rfl) rfl ?_
                      refine sv (o_pickT (hb18) rfl rfl) rfl ?_
                      refine sv (o_as rfl) rfl ?_
                      refine l_nil ?_
                      refine e_in (by simp) ?_
                      refine e_K (hK40 _ _ _ _ ?_)
                      refine c_region ?_
                      refine sv (o_addN rfl rfl (by omega)) rfl ?_
                      refine sv (o_mv rfl) rfl ?_
                      refine l_nil ?_
                      exact e_round (σ := Nat × Bool) (s := ⟨d, b⟩) (⟨d + 1, !decide (y ∈ past m [x])⟩) ⟨rfl, rfl, rfl, rfl, rfl, rfl, rfl, rfl, rfl, rfl, rfl, rfl, rfl, rfl, rfl, trivial⟩ ⟨by omega, and_snocT hb hb18 hx_y _ (by rw [okY, decide_eq_false hk92, decide_eq_false hk88]; rfl), Ek⟩ (by dsimp only; omega)
              · skip
                refine c_region ?_
                refine sv (o_mv rfl) rfl ?_
                refine sv (o_mv rfl) rfl ?_
                refine sn rfl (fun e_ => absurd (((Bool.eq_false_iff.2 hb18)).symm.trans e_) (by decide)) rfl ?_
                refine sn rfl (fun e_ => absurd (((Bool.eq_false_iff.2 hb18)).symm.trans e_) (by decide)) rfl ?_
                refine sn rfl (fun e_ => absurd (((Bool.eq_false_iff.2 hb18)).symm.trans e_) (by decide)) rfl ?_
                refine sn rfl (fun e_ => absurd (((Bool.eq_false_iff.2 hb18)).symm.trans e_) (by decide)) rfl ?_
                refine snu rfl rfl rfl ?_
                refine snu rfl rfl rfl ?_
                refine snu rfl rfl rfl ?_
                refine sn rfl (fun e_ => absurd (((Bool.eq_false_iff.2 hb18)).symm.trans e_) (by decide)) rfl ?_
                refine sn rfl (fun e_ => absurd (((Bool.eq_false_iff.2 hb18)).symm.trans e_) (by decide)) rfl ?_
                refine snu rfl rfl rfl ?_
                refine snu rfl rfl rfl ?_
                refine snu rfl rfl rfl ?_
                refine snu rfl rfl rfl ?_
                refine snu rfl rfl rfl ?_
                refine snu rfl rfl rfl ?_
                refine snu rfl rfl rfl ?_
                refine sn rfl (fun e_ => absurd (((Bool.eq_false_iff.2 hb18)).symm.trans e_) (by decide)) rfl ?_
                refine sv (o_pickF ((Bool.eq_false_iff.2 hb18)) rfl rfl) rfl ?_
                refine sv (o_as rfl) rfl ?_
                refine l_nil ?_
                refine e_in (by simp) ?_
                refine e_K (hK40 _ _ _ _ ?_)
                refine c_region ?_
                refine sv (o_addN rfl rfl (by omega)) rfl ?_
                refine sv (o_mv rfl) rfl ?_
                refine l_nil ?_
                exact e_round (σ := Nat × Bool) (s := ⟨d, b⟩) (⟨d + 1, false⟩) ⟨rfl, rfl, rfl, rfl, rfl, rfl, rfl, rfl, rfl, rfl, rfl, rfl, rfl, rfl, rfl, trivial⟩ ⟨by omega, and_snocF hb (Bool.eq_false_iff.2 hb18) hx_y, Ek⟩ (by dsimp only; omega)
            · skip
              have hbf : b = decide (okI (prG m ids) ids.length (ordI (ltG ids rks) (prG m ids) ids.length j) k) := by
                rw [List.take_of_length_le (by omega)] at hb
                rw [hb]
                exact okI_iff hnds (fun i hi => (ordI_came _ j).lt i hi) hx_x
              refine c_exit ?_
              refine e_then (by simp) ?_
              refine e_then (by simp) ?_
              refine e_hit ?_
              refine e_K (hK36 _ _ _ _ ?_)
              refine c_seq fun K42 hK42 => ?_
              by_cases hb18 : b = true
              · skip
                by_cases hk108 : bI (bestI (ltG ids rks) (prG m ids) ids.length (ordI (ltG ids rks) (prG m ids) ids.length j) k) < 0
                · skip
                  refine c_draw wide (by kernel_rfl) ?_
                  refine tv (fun w_ E_ => (o_mv rfl)) rfl rfl ?_
                  refine tv (fun w_ E_ => (o_mv rfl)) rfl rfl ?_
                  refine tvg rfl (hb18) (fun w_ E_ => (o_mv rfl)) rfl rfl ?_
                  refine tvg rfl (hb18) (fun w_ E_ => (o_lss rfl rfl)) rfl rfl ?_
                  refine tvg rfl (hb18) (fun w_ E_ => (o_mv rfl)) rfl rfl ?_
                  refine tn rfl (fun e_ => absurd ((decide_eq_true hk108).symm.trans e_) (by decide)) rfl ?_
                  refine tn rfl (fun e_ => absurd ((decide_eq_true hk108).symm.trans e_) (by decide)) rfl ?_
                  refine tn rfl (fun e_ => absurd ((decide_eq_true hk108).symm.trans e_) (by decide)) rfl ?_
                  refine tn rfl (fun e_ => absurd ((decide_eq_true hk108).symm.trans e_) (by decide)) rfl ?_
                  refine tn rfl (fun e_ => absurd ((decide_eq_true hk108).symm.trans e_) (by decide)) rfl ?_
                  refine tn rfl (fun e_ => absurd ((decide_eq_true hk108).symm.trans e_) (by decide)) rfl ?_
                  refine tn rfl (fun e_ => absurd ((decide_eq_true hk108).symm.trans e_) (by decide)) rfl ?_
                  refine tn rfl (fun e_ => absurd ((decide_eq_true hk108).symm.trans e_) (by decide)) rfl ?_
                  refine tn rfl (fun e_ => absurd ((decide_eq_true hk108).symm.trans e_) (by decide)) rfl ?_
                  refine tn rfl (fun e_ => absurd ((decide_eq_true hk108).symm.trans e_) (by decide)) rfl ?_
                  refine tn rfl (fun e_ => absurd ((decide_eq_true hk108).symm.trans e_) (by decide)) rfl ?_
                  refine tn rfl (fun e_ => absurd ((decide_eq_true hk108).symm.trans e_) (by decide)) rfl ?_
                  refine tn rfl (fun e_ => absurd ((decide_eq_true hk108).symm.trans e_) (by decide)) rfl ?_
                  refine tn rfl (fun e_ => absurd ((decide_eq_true hk108).symm.trans e_) (by decide)) rfl ?_
                  refine tvg rfl (hb18) (fun w_ E_ => (o_pickT (decide_eq_true hk108) rfl rfl)) rfl rfl ?_
                  refine tv (fun w_ E_ => (o_pickT (hb18) rfl rfl)) rfl rfl ?_
                  refine tw_nil rfl fun w20 E_ => ?_
                  replace Ek := Ek.then E_
                  refine e_K (hK42 _ _ _ _ ?_)
                  refine c_true rfl ?_
                  have hokk : okI (prG m ids) ids.length (ordI (ltG ids rks) (prG m ids) ids.length j) k := of_decide_eq_true (hbf.symm.trans hb18)
                  have hbn := best_first hokk (bI_neg hk108)
                  refine c_region ?_
                  refine sv ((o_mv rfl).to (v' := .int .i64 (bI (bestI (ltG ids rks) (prG m ids) ids.length (ordI (ltG ids rks) (prG m ids) ids.length j) (k + 1)))) (by rw [hbn]; rfl)) rfl ?_
                  refine sv (o_as rfl) rfl ?_
                  refine l_nil ?_
                  refine e_in (by simp) ?_
                  refine e_K (hK33 _ _ _ _ ?_)
                  refine c_region ?_
                  refine sv (o_addN rfl rfl (by omega)) rfl ?_
                  refine sv (o_mv rfl) rfl ?_
                  refine l_nil ?_
                  
                  exact e_round (σ := Nat) (s := k) (k + 1) ⟨rfl, rfl, rfl, rfl, rfl, rfl, rfl, rfl, rfl, trivial⟩ ⟨by omega, Ek⟩ (by omega)
                · skip
                  obtain ⟨bb, hbb, hbI⟩ := bI_pos hk108
                  have hbl := (bestI_lt hbb).1
                  obtain ⟨rb, hr_b⟩ : ∃ r, rks[bb]? = some r := ⟨_, List.getElem?_eq_getElem (by omega)⟩
                  obtain ⟨a_b, ha_b, cs0_b, _⟩ := flat_at R2 hr_b
                  injection ha_b with ha_b
                  subst ha_b
                  obtain ⟨z, hx_z⟩ : ∃ x, ids[bb]? = some x := ⟨_, List.getElem?_eq_getElem (by omega)⟩
                  obtain ⟨a_z, ha_z, cs0_z, _⟩ := flat_at R1 hx_z
                  injection ha_z with ha_z
                  subst ha_z
                  have hlb : ltG ids rks k bb = rlt r x rb z := by simp [ltG, rnk, hr_r, hr_b, nm, hx_x, hx_z]
                  by_cases hb123 : rlt r x rb z = true
                  · skip
                    refine c_draw wide (by kernel_rfl) ?_
                    refine tv (fun w_ E_ => (o_mv rfl)) rfl rfl ?_
                    refine tv (fun w_ E_ => (o_mv rfl)) rfl rfl ?_
                    refine tvg rfl (hb18) (fun w_ E_ => (o_mv rfl)) rfl rfl ?_
                    refine tvg rfl (hb18) (fun w_ E_ => (o_lss rfl rfl)) rfl rfl ?_
                    refine tvg rfl (hb18) (fun w_ E_ => (o_mv rfl)) rfl rfl ?_
                    refine tvg rfl (decide_eq_false hk108) (fun w_ E_ => (o_mv rfl)) rfl rfl ?_
                    refine tvg rfl (decide_eq_false hk108) (fun w_ E_ => (o_mv rfl)) rfl rfl ?_
                    refine tvg rfl (decide_eq_false hk108) (fun w_ E_ => (o_ix sl24 rfl rfl (by omega))) rfl rfl ?_
                    refine tvg rfl (decide_eq_false hk108) (fun w_ E_ => (o_lda ag44 rfl rfl (cs0_r.mod0 ((E3.trans Ek).then E_)))) rfl rfl ?_
                    refine tvg rfl (decide_eq_false hk108) (fun w_ E_ => (o_mv rfl)) rfl rfl ?_
                    refine tvg rfl (decide_eq_false hk108) (fun w_ E_ => (o_mv rfl)) rfl rfl ?_
                    refine tvg rfl (decide_eq_false hk108) (fun w_ E_ => (o_mv rfl)) rfl rfl ?_
                    refine tvg rfl (decide_eq_false hk108) (fun w_ E_ => ((o_ix sl24 rfl rfl (by rw [hbI]; constructor <;> omega)).to (v' := .pointer (some (a2.add (bb * 3)))) (by rw [hbI]; rfl))) rfl rfl ?_
                    refine tvg rfl (decide_eq_false hk108) (fun w_ E_ => (o_lda ag44 rfl rfl (cs0_b.mod0 ((E3.trans Ek).then E_)))) rfl rfl ?_
                    refine tvg rfl (decide_eq_false hk108) (fun w_ E_ => (o_mv rfl)) rfl rfl ?_
                    refine tvg rfl (decide_eq_false hk108) (fun w_ E_ => (o_mv rfl)) rfl rfl ?_
                    refine tvg rfl (decide_eq_false hk108) (fun w_ E_ => ((o_ix sl23 rfl rfl (by rw [hbI]; constructor <;> omega)).to (v' := .pointer (some (a1.add (bb * 1)))) (by rw [hbI]; rfl))) rfl rfl ?_
                    refine tvg rfl (decide_eq_false hk108) (fun w_ E_ => (o_ld sc9 rfl ((cs0_z.mod0 ((E3.trans Ek).then E_)).c0))) rfl rfl ?_
                    refine tcg rfl (decide_eq_false hk108) (fun w_ E_ => o_call ent33 rfl) (fun w_ E_ => g_less _ r rb x z) rfl rfl ?_
                    refine tvg rfl (hb18) (fun w_ E_ => (o_pickF (decide_eq_false hk108) rfl rfl)) rfl rfl ?_
                    refine tv (fun w_ E_ => (o_pickT (hb18) rfl rfl)) rfl rfl ?_
                    refine tw_nil rfl fun w21 E_ => ?_
                    replace Ek := Ek.then E_
                    refine e_K (hK42 _ _ _ _ ?_)
                    refine c_cond rfl (fun h125 => ?_) (fun h125 => absurd ((hb123).symm.trans h125) (by decide))
                    have hokk : okI (prG m ids) ids.length (ordI (ltG ids rks) (prG m ids) ids.length j) k := of_decide_eq_true (hbf.symm.trans hb18)
                    have hbn := best_less hokk hbb (hlb.trans hb123)
                    refine c_region ?_
                    refine sv ((o_mv rfl).to (v' := .int .i64 (bI (bestI (ltG ids rks) (prG m ids) ids.length (ordI (ltG ids rks) (prG m ids) ids.length j) (k + 1)))) (by rw [hbn]; rfl)) rfl ?_
                    refine sv (o_as rfl) rfl ?_
                    refine l_nil ?_
                    refine e_in (by simp) ?_
                    refine e_K (hK33 _ _ _ _ ?_)
                    refine c_region ?_
                    refine sv (o_addN rfl rfl (by omega)) rfl ?_
                    refine sv (o_mv rfl) rfl ?_
                    refine l_nil ?_
                    
                    exact e_round (σ := Nat) (s := k) (k + 1) ⟨rfl, rfl, rfl, rfl, rfl, rfl, rfl, rfl, rfl, trivial⟩ ⟨by omega, Ek⟩ (by omega)
                  · skip
                    refine c_draw wide (by kernel_rfl) ?_
                    refine tv (fun w_ E_ => (o_mv rfl)) rfl rfl ?_
                    refine tv (fun w_ E_ => (o_mv rfl)) rfl rfl ?_
                    refine tvg rfl (hb18) (fun w_ E_ => (o_mv rfl)) rfl rfl ?_
                    refine tvg rfl (hb18) (fun w_ E_ => (o_lss rfl rfl)) rfl rfl ?_
                    refine tvg rfl (hb18) (fun w_ E_ => (o_mv rfl)) rfl rfl ?_
                    refine tvg rfl (decide_eq_false hk108) (fun w_ E_ => (o_mv rfl)) rfl rfl ?_
                    refine tvg rfl (decide_eq_false hk108) (fun w_ E_ => (o_mv rfl)) rfl rfl ?_
                    refine tvg rfl (decide_eq_false hk108) (fun w_ E_ => (o_ix sl24 rfl rfl (by omega))) rfl rfl ?_
                    refine tvg rfl (decide_eq_false hk108) (fun w_ E_ => (o_lda ag44 rfl rfl (cs0_r.mod0 ((E3.trans Ek).then E_)))) rfl rfl ?_
                    refine tvg rfl (decide_eq_false hk108) (fun w_ E_ => (o_mv rfl)) rfl rfl ?_
                    refine tvg rfl (decide_eq_false hk108) (fun w_ E_ => (o_mv rfl)) rfl rfl ?_
                    refine tvg rfl (decide_eq_false hk108) (fun w_ E_ => (o_mv rfl)) rfl rfl ?_
                    refine tvg rfl (decide_eq_false hk108) (fun w_ E_ => ((o_ix sl24 rfl rfl (by rw [hbI]; constructor <;> omega)).to (v' := .pointer (some (a2.add (bb * 3)))) (by rw [hbI]; rfl))) rfl rfl ?_
                    refine tvg rfl (decide_eq_false hk108) (fun w_ E_ => (o_lda ag44 rfl rfl (cs0_b.mod0 ((E3.trans Ek).then E_)))) rfl rfl ?_
                    refine tvg rfl (decide_eq_false hk108) (fun w_ E_ => (o_mv rfl)) rfl rfl ?_
                    refine tvg rfl (decide_eq_false hk108) (fun w_ E_ => (o_mv rfl)) rfl rfl ?_
                    refine tvg rfl (decide_eq_false hk108) (fun w_ E_ => ((o_ix sl23 rfl rfl (by rw [hbI]; constructor <;> omega)).to (v' := .pointer (some (a1.add (bb * 1)))) (by rw [hbI]; rfl))) rfl rfl ?_
                    refine tvg rfl (decide_eq_false hk108) (fun w_ E_ => (o_ld sc9 rfl ((cs0_z.mod0 ((E3.trans Ek).then E_)).c0))) rfl rfl ?_
                    refine tcg rfl (decide_eq_false hk108) (fun w_ E_ => o_call ent33 rfl) (fun w_ E_ => g_less _ r rb x z) rfl rfl ?_
                    refine tvg rfl (hb18) (fun w_ E_ => (o_pickF (decide_eq_false hk108) rfl rfl)) rfl rfl ?_
                    refine tv (fun w_ E_ => (o_pickT (hb18) rfl rfl)) rfl rfl ?_
                    refine tw_nil rfl fun w22 E_ => ?_
                    replace Ek := Ek.then E_
                    refine e_K (hK42 _ _ _ _ ?_)
                    refine c_cond rfl (fun h125 => absurd (((Bool.eq_false_iff.2 hb123)).symm.trans h125) (by decide)) (fun h125 => ?_)
                    have hokk : okI (prG m ids) ids.length (ordI (ltG ids rks) (prG m ids) ids.length j) k := of_decide_eq_true (hbf.symm.trans hb18)
                    have hbn := best_more hbb (hlb.trans (Bool.eq_false_iff.2 hb123))
                    refine c_skip ?_
                    refine e_in (by simp) ?_
                    refine e_K (hK33 _ _ _ _ ?_)
                    refine c_region ?_
                    refine sv (o_addN rfl rfl (by omega)) rfl ?_
                    refine sv (o_mv rfl) rfl ?_
                    refine l_nil ?_
                    rw [← hbn]
                    exact e_round (σ := Nat) (s := k) (k + 1) ⟨rfl, rfl, rfl, rfl, rfl, rfl, rfl, rfl, rfl, trivial⟩ ⟨by omega, Ek⟩ (by omega)
              · skip
                refine c_draw wide (by kernel_rfl) ?_
                refine tv (fun w_ E_ => (o_mv rfl)) rfl rfl ?_
                refine tv (fun w_ E_ => (o_mv rfl)) rfl rfl ?_
                refine tn rfl (fun e_ => absurd (((Bool.eq_false_iff.2 hb18)).symm.trans e_) (by decide)) rfl ?_
                refine tn rfl (fun e_ => absurd (((Bool.eq_false_iff.2 hb18)).symm.trans e_) (by decide)) rfl ?_
                refine tn rfl (fun e_ => absurd (((Bool.eq_false_iff.2 hb18)).symm.trans e_) (by decide)) rfl ?_
                refine tnu rfl rfl rfl ?_
                refine tnu rfl rfl rfl ?_
                refine tnu rfl rfl rfl ?_
                refine tnu rfl rfl rfl ?_
                refine tnu rfl rfl rfl ?_
                refine tnu rfl rfl rfl ?_
                refine tnu rfl rfl rfl ?_
                refine tnu rfl rfl rfl ?_
                refine tnu rfl rfl rfl ?_
                refine tnu rfl rfl rfl ?_
                refine tnu rfl rfl rfl ?_
                refine tnu rfl rfl rfl ?_
                refine tnu rfl rfl rfl ?_
                refine tnu rfl rfl rfl ?_
                refine tn rfl (fun e_ => absurd (((Bool.eq_false_iff.2 hb18)).symm.trans e_) (by decide)) rfl ?_
                refine tv (fun w_ E_ => (o_pickF ((Bool.eq_false_iff.2 hb18)) rfl rfl)) rfl rfl ?_
                refine tw_nil rfl fun w23 E_ => ?_
                replace Ek := Ek.then E_
                refine e_K (hK42 _ _ _ _ ?_)
                refine c_false rfl ?_
                have hokk : ¬ okI (prG m ids) ids.length (ordI (ltG ids rks) (prG m ids) ids.length j) k := fun h => hb18 (hbf.trans (decide_eq_true h))
                have hbn := best_no (lt := ltG ids rks) hokk
                refine c_skip ?_
                refine e_in (by simp) ?_
                refine e_K (hK33 _ _ _ _ ?_)
                refine c_region ?_
                refine sv (o_addN rfl rfl (by omega)) rfl ?_
                refine sv (o_mv rfl) rfl ?_
                refine l_nil ?_
                rw [← hbn]
                exact e_round (σ := Nat) (s := k) (k + 1) ⟨rfl, rfl, rfl, rfl, rfl, rfl, rfl, rfl, rfl, trivial⟩ ⟨by omega, Ek⟩ (by omega)
          · skip
            have hkn : k = ids.length := by omega
            subst hkn
            obtain ⟨bb, hbb, hbl, hbok⟩ := ordI_step (lt := ltG ids rks) hA (ordI_len hA j hj) (by omega)
            have hbI : bI (bestI (ltG ids rks) (prG m ids) ids.length (ordI (ltG ids rks) (prG m ids) ids.length j) ids.length) = (bb : Int) := by rw [hbb]; rfl
            have hnext : ordI (ltG ids rks) (prG m ids) ids.length (j + 1) = (ordI (ltG ids rks) (prG m ids) ids.length j) ++ [bb] := by rw [ordI, hbb]
            obtain ⟨z, hx_z⟩ : ∃ x, ids[bb]? = some x := ⟨_, List.getElem?_eq_getElem (by omega)⟩
            obtain ⟨a_z, ha_z, cs0_z, _⟩ := flat_at R1 hx_z
            injection ha_z with ha_z
            subst ha_z
            have Ep := Ep3.trans Ek
            have E := E3.trans Ek
            have OO := OO3.mod0 Ek
            refine c_exit ?_
            refine e_then (by simp) ?_
            refine e_then (by simp) ?_
            refine e_hit ?_
            refine e_K (hK29 _ _ _ _ ?_)
            refine c_region ?_
            refine sv (o_mv rfl) rfl ?_
            refine sv (o_mv rfl) rfl ?_
            refine sv (o_mv rfl) rfl ?_
            refine sv ((o_ix sl23 rfl rfl (by rw [hbI]; constructor <;> omega)).to (v' := .pointer (some (a1.add (bb * 1)))) (by rw [hbI]; rfl)) rfl ?_
            refine sv (o_ld sc9 rfl ((cs0_z.mod0 E).c0)) rfl ?_
            refine s_bslice (cs := [_]) sl23 zv9 rfl rfl rfl (by decide) rfl fun g4 w24 N4 => ?_
            have Lg4_Ep := N4.le Ep
            have Lg4_E := N4.le E
            have Da0_g4 := N4.own_ne OO
            replace Ep := Ep.then N4.mod
            replace E := E.then N4.mod
            replace OO := OO.mod0 N4.mod
            have Bg4 := N4.blk
            refine s_append sl23 rfl rfl OO (Src.own Try.underlying23 (Own.all (cs := [_]) Bg4 rfl (by omega)) (by simp [Value.oneCell'])) (by decide) (by omega) (by omega) rfl fun v1 w25 A1 => ?_
            have Dv1_g4 := A1.ne Da0_g4 Bg4
            have Lv1_Ep := A1.ge LO Ep
            have Lv1_E := A1.ge LOE E
            replace Bg4 := Bg4.mod A1.mod (fun hx => Da0_g4 _ hx rfl)
            replace Ep := Ep.trans' A1.mod (fun x hx => .inr (LO x hx))
            replace E := E.trans' A1.mod (fun x hx => .inr (LOE x hx))
            replace OO := A1.own
            refine sv (o_as rfl) rfl ?_
            refine l_nil ?_
            refine e_in (by simp) ?_
            exact e_round (σ := Nat × Value) (s := ⟨j, .slice adO ((ordI (ltG ids rks) (prG m ids) ids.length j).map (nm ids)).length cO⟩) (⟨j + 1, v1⟩) ⟨rfl, rfl, rfl, rfl, rfl, trivial⟩ ⟨by omega, OwnS.to OO (by rw [hnext]; simp) (by rw [hnext]; simp [nm_at hx_z]), Lv1_Ep, Ep⟩ (by dsimp only; omega)
        · skip
          have hjn : j = ids.length := by omega
          subst hjn
          refine c_exit ?_
          refine e_then (by simp) ?_
          refine e_then (by simp) ?_
          refine e_hit ?_
          refine e_K (hK25 _ _ _ _ ?_)
          refine c_seq fun K43 hK43 => ?_
          refine c_region ?_
          refine sv (o_mv rfl) rfl ?_
          refine sv (o_as rfl) rfl ?_
          refine sv (o_as rfl) rfl ?_
          refine l_nil ?_
          refine e_K (hK43 _ _ _ _ ?_)
          refine c_ret ?_
          exact ret2 rfl rfl rfl ⟨_, by rw [ordG_ok hlr hnds hin], by rw [ordG_ok hlr hnds hin]; exact OwnS.rep [] OO (by simp), E⟩
end Go.Proofs.Ythmohmpalbnjoaa.V
