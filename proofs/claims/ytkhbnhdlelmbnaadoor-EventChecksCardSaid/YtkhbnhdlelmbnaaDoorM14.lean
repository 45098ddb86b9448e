/-
  A part of the proof: names with a sign; keys; kinds of bytes, as the document tells them; the document's names: its answers in the words of the walk. No condition of its own.
-/
import Derived.Test.YtkhbnhdlelmbnaaDoorM12
import Derived.Test.YtkhbnhdlelmbnaaDoorM13
set_option linter.unusedVariables false
set_option linter.unusedSimpArgs false
namespace Go.Proofs.YtkhbnhdlelmbnaaDoor.V
open Go
theorem cut_colon' (s : Str) : Lib.cut s [58] = (s.take (colonAt s), s.drop (colonAt s + 1), decide (colonAt s < s.length)) := by
  rw [cut_colon]
  have := colon_le s
  by_cases h : colonAt s < s.length
  · rw [if_pos h, decide_eq_true h]
  · rw [if_neg h, decide_eq_false h, List.take_of_length_le (by omega), List.drop_eq_nil_of_le (by omega)]
theorem server_e1 (s : Str) : decide (colonAt s = s.length) = !decide (colonAt s < s.length) := by
  have := colon_le s
  by_cases h : colonAt s < s.length
  · rw [decide_eq_true h, decide_eq_false (by omega)]; rfl
  · rw [decide_eq_false h, decide_eq_true (by omega)]; rfl
theorem server_e2 (s : Str) : decide (s.length - colonAt s ≤ 6) = decide (((s.drop (colonAt s + 1)).length : Int) ≤ 5) := by
  rw [List.length_drop, decide_eq_decide]
  omega
theorem len_e3 (s : Str) : decide (s.length ≤ 255) = decide ((s.length : Int) ≤ 255) := by
  rw [decide_eq_decide]
  omega
/-- has a text a sign ahead, and isn't it too long? -/
def partG (sign : UInt8) (s : Str) : Bool := decide (s.head? = some sign) && decide ((s.length : Int) ≤ 255)
theorem namedB_eq {sign : UInt8} (h58 : sign ≠ 58) (q : Nat → Bool) (s : Str) :
    namedB sign q s = (partG sign s && decide (colonAt (s.drop 1) < (s.drop 1).length) && serverB ((s.drop 1).drop (colonAt (s.drop 1) + 1)) && allB q ((s.drop 1).take (colonAt (s.drop 1)))) := by
  cases s with
  | nil => simp [namedB, partG]
  | cons b r =>
    by_cases hb : b = sign
    · subst hb
      have hc : colonAt (b :: r) = colonAt r + 1 := by
        have : (b == 58) = false := by simpa using h58
        simp [colonAt, List.findIdx_cons, this]
      simp only [namedB, partG, hc, List.drop_succ_cons, List.drop_zero, List.length_cons, List.head?_cons, List.take_succ_cons, decide_true]
      rw [show decide (r.length + 1 ≤ 255) = decide (((r.length + 1 : Nat) : Int) ≤ 255) by rw [decide_eq_decide]; omega, show decide (colonAt r + 1 < r.length + 1) = decide (colonAt r < r.length) by rw [decide_eq_decide]; omega]
      generalize decide (((r.length + 1 : Nat) : Int) ≤ 255) = a1
      generalize decide (colonAt r < r.length) = a2
      generalize allB q (r.take (colonAt r)) = a3
      generalize serverB (r.drop (colonAt r + 1)) = a4
      cases a1 <;> cases a2 <;> cases a3 <;> cases a4 <;> rfl
    · have : decide ((b :: r).head? = some sign) = false := by simp [hb]
      rw [namedB, partG, this]
      simp
theorem named_pos {sign : UInt8} {s : Str} (h58 : sign ≠ 58) (hh : s.head? = some sign) : 0 < colonAt s := by
  cases s with
  | nil => cases hh
  | cons b r =>
    obtain rfl : b = sign := by simpa using hh
    have : (b == 58) = false := by simpa using h58
    simp [colonAt, List.findIdx_cons, this]
theorem hasP_take (s p : Str) : Lib.hasPrefix s p = decide (s.take p.length = p) := by
  unfold Lib.hasPrefix
  rw [Bool.eq_iff_iff]
  simp only [decide_eq_true_eq, List.isPrefixOf_iff_prefix]
  rw [List.prefix_iff_eq_take]
  exact eq_comm
theorem keyB_eq (s : Str) : keyB s = (Lib.hasPrefix s edS && decide ((s.length : Int) ≤ 255) && allB qKey (Lib.trimPrefix s edS)) := by
  have h8 : edS.length = 8 := rfl
  unfold keyB Lib.trimPrefix
  rw [hasP_take, h8, len_e3]
  by_cases h : s.take 8 = edS
  · rw [decide_eq_true h, if_pos rfl]
    generalize decide ((s.length : Int) ≤ 255) = a1
    generalize allB qKey (s.drop 8) = a2
    cases a1 <;> cases a2 <;> rfl
  · rw [decide_eq_false h]
    simp
/-! ### the document's kinds -/
def okK1 (c : Nat) (k : UInt8) : Bool := (decide ((k.toNat : Int) = 97) && decide ((c : Int) ≥ 97) && decide ((c : Int) ≤ 122)) || (decide ((k.toNat : Int) = 65) && decide ((c : Int) ≥ 65) && decide ((c : Int) ≤ 90)) || (decide ((k.toNat : Int) = 48) && decide ((c : Int) ≥ 48) && decide ((c : Int) ≤ 57))
def okQ (kinds signs : Str) (c : Nat) : Bool := kinds.any (okK1 c) || signs.any (fun g => decide ((g.toNat : Int) = (c : Int)))
theorem any_succ' {α : Type} {l : List α} {j : Nat} {x : α} (f : α → Bool) (h : l[j]? = some x) : (l.take (j + 1)).any f = ((l.take j).any f || f x) := by
  have hlt := (List.getElem?_eq_some_iff.1 h).1
  rw [List.take_succ_eq_append_getElem hlt, (List.getElem?_eq_some_iff.1 h).2, List.any_append]
  simp
theorem u8_all {q r : Nat → Bool} (h : ∀ i : Fin 256, q i.val = r i.val) (b : UInt8) : q b.toNat = r b.toNat := h ⟨b.toNat, b.toNat_lt⟩
theorem q_server (b : UInt8) : qServer b.toNat = okQ [97, 48] [46, 45] b.toNat := u8_all (by decide +kernel) b
theorem q_user (b : UInt8) : qUser b.toNat = okQ [97, 48] userS b.toNat := u8_all (by decide +kernel) b
theorem q_room (b : UInt8) : qRoom b.toNat = okQ [97, 65, 48] [95, 45] b.toNat := u8_all (by decide +kernel) b
theorem q_key (b : UInt8) : qKey b.toNat = okQ [97, 65, 48] [95] b.toNat := u8_all (by decide +kernel) b
theorem q_digit (b : UInt8) : kD b.toNat = okQ [48] [] b.toNat := u8_all (by decide +kernel) b
theorem colon_at {s : Str} {i : Nat} {b : UInt8} (h : s[i]? = some b) (ha : ∀ j b, j < i → s[j]? = some b → b ≠ 58) (hb : b = 58) : colonAt s = i := by
  have hlt := (List.getElem?_eq_some_iff.1 h).1
  unfold colonAt
  rw [List.findIdx_eq hlt]
  refine ⟨by rw [(List.getElem?_eq_some_iff.1 h).2]; simpa using hb, fun j hj => ?_⟩
  have := ha j _ hj (List.getElem?_eq_getElem (by omega))
  simpa using this
theorem colon_none {s : Str} (ha : ∀ j b, j < s.length → s[j]? = some b → b ≠ 58) : colonAt s = s.length := by
  have := colon_le s
  rcases Nat.lt_or_ge (colonAt s) s.length with h | h
  · exfalso
    have h1 : (s[colonAt s] == 58) = true := List.findIdx_getElem (p := fun b => b == 58) (w := h)
    exact ha _ _ h (List.getElem?_eq_getElem h) (by simpa using h1)
  · omega
end Go.Proofs.YtkhbnhdlelmbnaaDoor.V

set_option linter.unusedVariables false
set_option linter.unusedSimpArgs false
set_option maxRecDepth 10000
namespace Go.Proofs.YtkhbnhdlelmbnaaDoor.V
open Go Go.Proofs
theorem ent78 : Ent Tryd.prog 78 := Ent.of Tryd.func78 (by kernel_rfl) (by kernel_rfl)
theorem ent77 : Ent Tryd.prog 77 := Ent.of Tryd.func77 (by kernel_rfl) (by kernel_rfl)
theorem ent54 : Ent Tryd.prog 54 := Ent.of Tryd.func54 (by kernel_rfl) (by kernel_rfl)
theorem ent59 : Ent Tryd.prog 59 := Ent.of Tryd.func59 (by kernel_rfl) (by kernel_rfl)
theorem ent52 : Ent Tryd.prog 52 := Ent.of Tryd.func52 (by kernel_rfl) (by kernel_rfl)
theorem ent53 : Ent Tryd.prog 53 := Ent.of Tryd.func53 (by kernel_rfl) (by kernel_rfl)
theorem ent55 : Ent Tryd.prog 55 := Ent.of Tryd.func55 (by kernel_rfl) (by kernel_rfl)
theorem ent83 : Ent Tryd.prog 83 := Ent.of Tryd.func83 (by kernel_rfl) (by kernel_rfl)
theorem ent82 : Ent Tryd.prog 82 := Ent.of Tryd.func82 (by kernel_rfl) (by kernel_rfl)
theorem c_cut' (w : World) (s : Str) (hs : s.length < 4294967281) (hM : MaxL w) : Calls Tryd.prog 77 [S s, S [58]].toArray w (Ret fun u w' => u = .tuple #[S (s.take (colonAt s)), S (s.drop (colonAt s + 1)), .bool (decide (colonAt s < s.length))] ∧ Mod [] w w') := by
  have := c_cut w s hs hM
  rw [cut_colon'] at this
  exact this

theorem c_server (w : World) (s : Str) (hs : s.length < 4294967281) (hM : MaxL w) : Calls Tryd.prog 53 [S s].toArray w (Ret fun u w' => u = .bool (serverB s) ∧ Mod [] w w') := by
  refine enter Tryd.func53 rfl rfl rfl (l := [(0, _)]) ⟨rfl, trivial⟩ ?_
  have E := Mod.refl [] w
  refine c_seq fun K1 hK1 => ?_
  refine c_region ?_
  refine sv (o_as rfl) rfl ?_
  refine l_nil ?_
  refine e_K (hK1 _ _ _ _ ?_)
  refine c_seq fun K2 hK2 => ?_
  refine c_region ?_
  refine sv (o_mv rfl) rfl ?_
  refine sc (o_call ent77 rfl) (c_cut' _ s hs (hM.mod0 E)) rfl fun v_ w1 h_ => ?_
  obtain ⟨rfl, E_⟩ := h_
  replace E := E.then E_
  refine sv (o_mv rfl) rfl ?_
  refine sv (o_ext rfl rfl) rfl ?_
  refine sv (o_ext rfl rfl) rfl ?_
  refine sv (o_ext rfl rfl) rfl ?_
  refine sv (o_as rfl) rfl ?_
  refine sv (o_as rfl) rfl ?_
  refine sv (o_as rfl) rfl ?_
  refine l_nil ?_
  refine e_K (hK2 _ _ _ _ ?_)
  refine c_seq fun K3 hK3 => ?_
  refine c_region ?_
  refine sv (o_mv rfl) rfl ?_
  refine sc (o_call ent54 rfl) (c_all _ (s.take (colonAt s)) 78 qServer ent78 (fun w c h1 h2 => c_kServer w c h1 h2) qServer_lt) rfl fun v_ w2 h_ => ?_
  obtain ⟨rfl, E_⟩ := h_
  replace E := E.then E_
  refine sv (o_as rfl) rfl ?_
  refine l_nil ?_
  refine e_K (hK3 _ _ _ _ ?_)
  refine c_seq fun K4 hK4 => ?_
  by_cases hk0 : (allB qServer (s.take (colonAt s))) = true
  · skip
    by_cases hk1 : (s.length : Int) ≤ 255
    · skip
      by_cases hk2 : (!decide (colonAt s < s.length)) = true
      · skip
        refine c_region ?_
        refine sv (o_mv rfl) rfl ?_
        refine sv (o_mv rfl) rfl ?_
        refine sg rfl (hk0) (o_mv rfl) rfl ?_
        refine sg rfl (hk0) (o_slen Tryd.underlying9 rfl) rfl ?_
        refine sg rfl (hk0) (o_leq rfl rfl) rfl ?_
        refine sv (o_pickT (hk0) rfl rfl) rfl ?_
        refine sv (o_mv rfl) rfl ?_
        refine sg rfl (decide_eq_true hk1) (o_mv rfl) rfl ?_
        refine sg rfl (decide_eq_true hk1) (o_not rfl) rfl ?_
        refine sg rfl (decide_eq_true hk1) (o_mv rfl) rfl ?_
        refine sn rfl (fun e_ => absurd ((hk2).symm.trans e_) (by decide)) rfl ?_
        refine sn rfl (fun e_ => absurd ((hk2).symm.trans e_) (by decide)) rfl ?_
        refine sn rfl (fun e_ => absurd ((hk2).symm.trans e_) (by decide)) rfl ?_
        refine sn rfl (fun e_ => absurd ((hk2).symm.trans e_) (by decide)) rfl ?_
        refine snu rfl rfl rfl ?_
        refine snu rfl rfl rfl ?_
        refine sn rfl (fun e_ => absurd ((hk2).symm.trans e_) (by decide)) rfl ?_
        refine sg rfl (decide_eq_true hk1) (o_pickT (hk2) rfl rfl) rfl ?_
        refine sv (o_pickT (decide_eq_true hk1) rfl rfl) rfl ?_
        refine sv (o_as rfl) rfl ?_
        refine l_nil ?_
        refine e_K (hK4 _ _ _ _ ?_)
        refine c_ret ?_
        exact ret1 rfl rfl ⟨congrArg Value.bool (by rw [serverB, server_e1, server_e2, len_e3]; simp only [hk0, decide_eq_true hk1, hk2, Bool.true_and, Bool.and_true, Bool.false_and, Bool.and_false, Bool.true_or, Bool.or_true, Bool.false_or, Bool.or_false, Bool.not_true, Bool.not_false]), E⟩
      · skip
        by_cases hk3 : ((s.drop (colonAt s + 1)).length : Int) ≤ 5
        · skip
          by_cases hk4 : (allB kD (s.drop (colonAt s + 1))) = true
          · skip
            refine c_region ?_
            refine sv (o_mv rfl) rfl ?_
            refine sv (o_mv rfl) rfl ?_
            refine sg rfl (hk0) (o_mv rfl) rfl ?_
            refine sg rfl (hk0) (o_slen Tryd.underlying9 rfl) rfl ?_
            refine sg rfl (hk0) (o_leq rfl rfl) rfl ?_
            refine sv (o_pickT (hk0) rfl rfl) rfl ?_
            refine sv (o_mv rfl) rfl ?_
            refine sg rfl (decide_eq_true hk1) (o_mv rfl) rfl ?_
            refine sg rfl (decide_eq_true hk1) (o_not rfl) rfl ?_
            refine sg rfl (decide_eq_true hk1) (o_mv rfl) rfl ?_
            refine sg rfl (Bool.eq_false_iff.2 hk2) (o_mv rfl) rfl ?_
            refine sg rfl (Bool.eq_false_iff.2 hk2) (o_slen Tryd.underlying9 rfl) rfl ?_
            refine sg rfl (Bool.eq_false_iff.2 hk2) (o_leq rfl rfl) rfl ?_
            refine sg rfl (Bool.eq_false_iff.2 hk2) (o_mv rfl) rfl ?_
            refine sg rfl (decide_eq_true hk3) (o_mv rfl) rfl ?_
            refine sgc rfl (decide_eq_true hk3) (o_call ent54 rfl) (c_all _ (s.drop (colonAt s + 1)) 58 kD ent58 (fun w c h1 h2 => c_digit w c) kD_lt) rfl fun v_ w3 h_ => ?_
            obtain ⟨rfl, E_⟩ := h_
            replace E := E.then E_
            refine sg rfl (Bool.eq_false_iff.2 hk2) (o_pickT (decide_eq_true hk3) rfl rfl) rfl ?_
            refine sg rfl (decide_eq_true hk1) (o_pickF (Bool.eq_false_iff.2 hk2) rfl rfl) rfl ?_
            refine sv (o_pickT (decide_eq_true hk1) rfl rfl) rfl ?_
            refine sv (o_as rfl) rfl ?_
            refine l_nil ?_
            refine e_K (hK4 _ _ _ _ ?_)
            refine c_ret ?_
            exact ret1 rfl rfl ⟨congrArg Value.bool (by rw [serverB, server_e1, server_e2, len_e3]; simp only [hk0, decide_eq_true hk1, Bool.eq_false_iff.2 hk2, decide_eq_true hk3, hk4, Bool.true_and, Bool.and_true, Bool.false_and, Bool.and_false, Bool.true_or, Bool.or_true, Bool.false_or, Bool.or_false, Bool.not_true, Bool.not_false]), E⟩
          · skip
            refine c_region ?_
            refine sv (o_mv rfl) rfl ?_
            refine sv (o_mv rfl) rfl ?_
            refine sg rfl (hk0) (o_mv rfl) rfl ?_
            refine sg rfl (hk0) (o_slen Tryd.underlying9 rfl) rfl ?_
            refine sg rfl (hk0) (o_leq rfl rfl) rfl ?_
            refine sv (o_pickT (hk0) rfl rfl) rfl ?_
            refine sv (o_mv rfl) rfl ?_
            refine sg rfl (decide_eq_true hk1) (o_mv rfl) rfl ?_
            refine sg rfl (decide_eq_true hk1) (o_not rfl) rfl ?_
            refine sg rfl (decide_eq_true hk1) (o_mv rfl) rfl ?_
            refine sg rfl (Bool.eq_false_iff.2 hk2) (o_mv rfl) rfl ?_
            refine sg rfl (Bool.eq_false_iff.2 hk2) (o_slen Tryd.underlying9 rfl) rfl ?_
            refine sg rfl (Bool.eq_false_iff.2 hk2) (o_leq rfl rfl) rfl ?_
            refine sg rfl (Bool.eq_false_iff.2 hk2) (o_mv rfl) rfl ?_
            refine sg rfl (decide_eq_true hk3) (o_mv rfl) rfl ?_
            refine sgc rfl (decide_eq_true hk3) (o_call ent54 rfl) (c_all _ (s.drop (colonAt s + 1)) 58 kD ent58 (fun w c h1 h2 => c_digit w c) kD_lt) rfl fun v_ w4 h_ => ?_
            obtain ⟨rfl, E_⟩ := h_
            replace E := E.then E_
            refine sg rfl (Bool.eq_false_iff.2 hk2) (o_pickT (decide_eq_true hk3) rfl rfl) rfl ?_
            refine sg rfl (decide_eq_true hk1) (o_pickF (Bool.eq_false_iff.2 hk2) rfl rfl) rfl ?_
            refine sv (o_pickT (decide_eq_true hk1) rfl rfl) rfl ?_
            refine sv (o_as rfl) rfl ?_
            refine l_nil ?_
            refine e_K (hK4 _ _ _ _ ?_)
            refine c_ret ?_
            exact ret1 rfl rfl ⟨congrArg Value.bool (by rw [serverB, server_e1, server_e2, len_e3]; simp only [hk0, decide_eq_true hk1, Bool.eq_false_iff.2 hk2, decide_eq_true hk3, Bool.eq_false_iff.2 hk4, Bool.true_and, Bool.and_true, Bool.false_and, Bool.and_false, Bool.true_or, Bool.or_true, Bool.false_or, Bool.or_false, Bool.not_true, Bool.not_false]), E⟩
        · skip
          refine c_region ?_
          refine sv (o_mv rfl) rfl ?_
          refine sv (o_mv rfl) rfl ?_
          refine sg rfl (hk0) (o_mv rfl) rfl ?_
          refine sg rfl (hk0) (o_slen Tryd.underlying9 rfl) rfl ?_
          refine sg rfl (hk0) (o_leq rfl rfl) rfl ?_
          refine sv (o_pickT (hk0) rfl rfl) rfl ?_
          refine sv (o_mv rfl) rfl ?_
          refine sg rfl (decide_eq_true hk1) (o_mv rfl) rfl ?_
          refine sg rfl (decide_eq_true hk1) (o_not rfl) rfl ?_
          refine sg rfl (decide_eq_true hk1) (o_mv rfl) rfl ?_
          refine sg rfl (Bool.eq_false_iff.2 hk2) (o_mv rfl) rfl ?_
          refine sg rfl (Bool.eq_false_iff.2 hk2) (o_slen Tryd.underlying9 rfl) rfl ?_
          refine sg rfl (Bool.eq_false_iff.2 hk2) (o_leq rfl rfl) rfl ?_
          refine sg rfl (Bool.eq_false_iff.2 hk2) (o_mv rfl) rfl ?_
          refine sn rfl (fun e_ => absurd ((decide_eq_false hk3).symm.trans e_) (by decide)) rfl ?_
          refine sn rfl (fun e_ => absurd ((decide_eq_false hk3).symm.trans e_) (by decide)) rfl ?_
          refine sg rfl (Bool.eq_false_iff.2 hk2) (o_pickF (decide_eq_false hk3) rfl rfl) rfl ?_
          refine sg rfl (decide_eq_true hk1) (o_pickF (Bool.eq_false_iff.2 hk2) rfl rfl) rfl ?_
          refine sv (o_pickT (decide_eq_true hk1) rfl rfl) rfl ?_
          refine sv (o_as rfl) rfl ?_
          refine l_nil ?_
          refine e_K (hK4 _ _ _ _ ?_)
          refine c_ret ?_
          exact ret1 rfl rfl ⟨congrArg Value.bool (by rw [serverB, server_e1, server_e2, len_e3]; simp only [hk0, decide_eq_true hk1, Bool.eq_false_iff.2 hk2, decide_eq_false hk3, Bool.true_and, Bool.and_true, Bool.false_and, Bool.and_false, Bool.true_or, Bool.or_true, Bool.false_or, Bool.or_false, Bool.not_true, Bool.not_false]), E⟩
    · skip
      refine c_region ?_
      refine sv (o_mv rfl) rfl ?_
      refine sv (o_mv rfl) rfl ?_
      refine sg rfl (hk0) (o_mv rfl) rfl ?_
      refine sg rfl (hk0) (o_slen Tryd.underlying9 rfl) rfl ?_
      refine sg rfl (hk0) (o_leq rfl rfl) rfl ?_
      refine sv (o_pickT (hk0) rfl rfl) rfl ?_
      refine sv (o_mv rfl) rfl ?_
      refine sn rfl (fun e_ => absurd ((decide_eq_false hk1).symm.trans e_) (by decide)) rfl ?_
      refine sn rfl (fun e_ => absurd ((decide_eq_false hk1).symm.trans e_) (by decide)) rfl ?_
      refine sn rfl (fun e_ => absurd ((decide_eq_false hk1).symm.trans e_) (by decide)) rfl ?_
      refine snu rfl rfl rfl ?_
      refine snu rfl rfl rfl ?_
      refine snu rfl rfl rfl ?_
      refine snu rfl rfl rfl ?_
      refine snu rfl rfl rfl ?_
      refine snu rfl rfl rfl ?_
      refine snu rfl rfl rfl ?_
      refine sn rfl (fun e_ => absurd ((decide_eq_false hk1).symm.trans e_) (by decide)) rfl ?_
      refine sv (o_pickF (decide_eq_false hk1) rfl rfl) rfl ?_
      refine sv (o_as rfl) rfl ?_
      refine l_nil ?_
      refine e_K (hK4 _ _ _ _ ?_)
      refine c_ret ?_
      exact ret1 rfl rfl ⟨congrArg Value.bool (by rw [serverB, server_e1, server_e2, len_e3]; simp only [hk0, decide_eq_false hk1, Bool.true_and, Bool.and_true, Bool.false_and, Bool.and_false, Bool.true_or, Bool.or_true, Bool.false_or, Bool.or_false, Bool.not_true, Bool.not_false]), E⟩
  · skip
    refine c_region ?_
    refine sv (o_mv rfl) rfl ?_
    refine sv (o_mv rfl) rfl ?_
    refine sn rfl (fun e_ => absurd ((Bool.eq_false_iff.2 hk0).symm.trans e_) (by decide)) rfl ?_
    refine sn rfl (fun e_ => absurd ((Bool.eq_false_iff.2 hk0).symm.trans e_) (by decide)) rfl ?_
    refine sn rfl (fun e_ => absurd ((Bool.eq_false_iff.2 hk0).symm.trans e_) (by decide)) rfl ?_
    refine sv (o_pickF (Bool.eq_false_iff.2 hk0) rfl rfl) rfl ?_
    refine sv (o_mv rfl) rfl ?_
    refine sn rfl (fun e_ => absurd ((rfl).symm.trans e_) (by decide)) rfl ?_
    refine sn rfl (fun e_ => absurd ((rfl).symm.trans e_) (by decide)) rfl ?_
    refine sn rfl (fun e_ => absurd ((rfl).symm.trans e_) (by decide)) rfl ?_
    refine snu rfl rfl rfl ?_
    refine snu rfl rfl rfl ?_
    refine snu rfl rfl rfl ?_
    refine snu rfl rfl rfl ?_
    refine snu rfl rfl rfl ?_
    refine snu rfl rfl rfl ?_
    refine snu rfl rfl rfl ?_
    refine sn rfl (fun e_ => absurd ((rfl).symm.trans e_) (by decide)) rfl ?_
    refine sv (o_pickF (rfl) rfl rfl) rfl ?_
    refine sv (o_as rfl) rfl ?_
    refine l_nil ?_
    refine e_K (hK4 _ _ _ _ ?_)
    refine c_ret ?_
    exact ret1 rfl rfl ⟨congrArg Value.bool (by rw [serverB, server_e1, server_e2, len_e3]; simp only [Bool.eq_false_iff.2 hk0, Bool.true_and, Bool.and_true, Bool.false_and, Bool.and_false, Bool.true_or, Bool.or_true, Bool.false_or, Bool.or_false, Bool.not_true, Bool.not_false]), E⟩

theorem c_parts (w : World) (s : Str) (sign : UInt8) (hs : s.length < 4294967281) (hM : MaxL w) : Calls Tryd.prog 52 [S s, .int .u8 (sign.toNat : Int)].toArray w (Ret fun u w' => (∃ a b o, u = .tuple #[S a, S b, .bool o] ∧ o = (partG sign s && decide (colonAt (s.drop 1) < (s.drop 1).length)) ∧ (o = true → a = (s.drop 1).take (colonAt (s.drop 1)) ∧ b = (s.drop 1).drop (colonAt (s.drop 1) + 1))) ∧ Mod [] w w') := by
  refine enter Tryd.func52 rfl rfl rfl (l := [(0, _), (1, _)]) ⟨rfl, rfl, trivial⟩ ?_
  have E := Mod.refl [] w
  refine c_seq fun K1 hK1 => ?_
  refine c_region ?_
  refine sv (o_as rfl) rfl ?_
  refine sv (o_as rfl) rfl ?_
  refine sv (o_as rfl) rfl ?_
  refine l_nil ?_
  refine e_K (hK1 _ _ _ _ ?_)
  refine c_seq fun K2 hK2 => ?_
  refine c_seq fun K3 hK3 => ?_
  by_cases hk0 : s = []
  · skip
    refine c_region ?_
    refine sv (o_mv rfl) rfl ?_
    refine sv (o_seq rfl rfl) rfl ?_
    refine sv (o_mv rfl) rfl ?_
    refine sn rfl (fun e_ => absurd ((decide_eq_true hk0).symm.trans e_) (by decide)) rfl ?_
    refine sn rfl (fun e_ => absurd ((decide_eq_true hk0).symm.trans e_) (by decide)) rfl ?_
    refine sn rfl (fun e_ => absurd ((decide_eq_true hk0).symm.trans e_) (by decide)) rfl ?_
    refine sn rfl (fun e_ => absurd ((decide_eq_true hk0).symm.trans e_) (by decide)) rfl ?_
    refine sv (o_pickT (decide_eq_true hk0) rfl rfl) rfl ?_
    refine sv (o_mv rfl) rfl ?_
    refine sn rfl (fun e_ => absurd ((rfl).symm.trans e_) (by decide)) rfl ?_
    refine sn rfl (fun e_ => absurd ((rfl).symm.trans e_) (by decide)) rfl ?_
    refine sn rfl (fun e_ => absurd ((rfl).symm.trans e_) (by decide)) rfl ?_
    refine sv (o_pickT (rfl) rfl rfl) rfl ?_
    refine l_nil ?_
    refine e_K (hK3 _ _ _ _ ?_)
    refine c_true rfl ?_
    have hg : partG sign s = false := by subst hk0; rfl
    refine c_seq fun K4 hK4 => ?_
    refine c_region ?_
    refine sv (o_as rfl) rfl ?_
    refine sv (o_as rfl) rfl ?_
    refine sv (o_as rfl) rfl ?_
    refine l_nil ?_
    refine e_K (hK4 _ _ _ _ ?_)
    refine c_ret ?_
    refine e_then (by simp) ?_
    exact ret3 rfl rfl rfl rfl ⟨⟨[], [], false, rfl, by rw [hg]; rfl, fun h => by cases h⟩, E⟩
  · skip
    obtain ⟨b0, r, rfl⟩ : ∃ b r, s = b :: r := List.exists_cons_of_ne_nil hk0
    by_cases hk1 : (b0.toNat : Int) ≠ (sign.toNat : Int)
    · skip
      refine c_region ?_
      refine sv (o_mv rfl) rfl ?_
      refine sv (o_seq rfl rfl) rfl ?_
      refine sv (o_mv rfl) rfl ?_
      refine sg rfl (decide_eq_false hk0) (o_mv rfl) rfl ?_
      refine sg rfl (decide_eq_false hk0) (o_sidx Tryd.underlying9 rfl rfl (by omega) rfl) rfl ?_
      refine sg rfl (decide_eq_false hk0) (o_mv rfl) rfl ?_
      refine sg rfl (decide_eq_false hk0) (o_neq rfl rfl) rfl ?_
      refine sv (o_pickF (decide_eq_false hk0) rfl rfl) rfl ?_
      refine sv (o_mv rfl) rfl ?_
      refine sn rfl (fun e_ => absurd ((decide_eq_true hk1).symm.trans e_) (by decide)) rfl ?_
      refine sn rfl (fun e_ => absurd ((decide_eq_true hk1).symm.trans e_) (by decide)) rfl ?_
      refine sn rfl (fun e_ => absurd ((decide_eq_true hk1).symm.trans e_) (by decide)) rfl ?_
      refine sv (o_pickT (decide_eq_true hk1) rfl rfl) rfl ?_
      refine l_nil ?_
      refine e_K (hK3 _ _ _ _ ?_)
      refine c_true rfl ?_
      have hbs : b0 ≠ sign := fun h => hk1 (by rw [h])
      have hg : partG sign (b0 :: r) = false := by simp [partG, hbs]
      refine c_seq fun K5 hK5 => ?_
      refine c_region ?_
      refine sv (o_as rfl) rfl ?_
      refine sv (o_as rfl) rfl ?_
      refine sv (o_as rfl) rfl ?_
      refine l_nil ?_
      refine e_K (hK5 _ _ _ _ ?_)
      refine c_ret ?_
      refine e_then (by simp) ?_
      exact ret3 rfl rfl rfl rfl ⟨⟨[], [], false, rfl, by rw [hg]; rfl, fun h => by cases h⟩, E⟩
    · skip
      by_cases hk2 : ((b0 :: r).length : Int) > 255
      · skip
        refine c_region ?_
        refine sv (o_mv rfl) rfl ?_
        refine sv (o_seq rfl rfl) rfl ?_
        refine sv (o_mv rfl) rfl ?_
        refine sg rfl (decide_eq_false hk0) (o_mv rfl) rfl ?_
        refine sg rfl (decide_eq_false hk0) (o_sidx Tryd.underlying9 rfl rfl (by omega) rfl) rfl ?_
        refine sg rfl (decide_eq_false hk0) (o_mv rfl) rfl ?_
        refine sg rfl (decide_eq_false hk0) (o_neq rfl rfl) rfl ?_
        refine sv (o_pickF (decide_eq_false hk0) rfl rfl) rfl ?_
        refine sv (o_mv rfl) rfl ?_
        refine sg rfl (decide_eq_false hk1) (o_mv rfl) rfl ?_
        refine sg rfl (decide_eq_false hk1) (o_slen Tryd.underlying9 rfl) rfl ?_
        refine sg rfl (decide_eq_false hk1) (o_gtr rfl rfl) rfl ?_
        refine sv (o_pickF (decide_eq_false hk1) rfl rfl) rfl ?_
        refine l_nil ?_
        refine e_K (hK3 _ _ _ _ ?_)
        refine c_if rfl (fun h19 => ?_) (fun h19 => absurd hk2 h19)
        have hg : partG sign (b0 :: r) = false := by
          simp only [List.length_cons] at hk2
          simp [partG]
          omega
        refine c_seq fun K6 hK6 => ?_
        refine c_region ?_
        refine sv (o_as rfl) rfl ?_
        refine sv (o_as rfl) rfl ?_
        refine sv (o_as rfl) rfl ?_
        refine l_nil ?_
        refine e_K (hK6 _ _ _ _ ?_)
        refine c_ret ?_
        refine e_then (by simp) ?_
        exact ret3 rfl rfl rfl rfl ⟨⟨[], [], false, rfl, by rw [hg]; rfl, fun h => by cases h⟩, E⟩
      · skip
        refine c_region ?_
        refine sv (o_mv rfl) rfl ?_
        refine sv (o_seq rfl rfl) rfl ?_
        refine sv (o_mv rfl) rfl ?_
        refine sg rfl (decide_eq_false hk0) (o_mv rfl) rfl ?_
        refine sg rfl (decide_eq_false hk0) (o_sidx Tryd.underlying9 rfl rfl (by omega) rfl) rfl ?_
        refine sg rfl (decide_eq_false hk0) (o_mv rfl) rfl ?_
        refine sg rfl (decide_eq_false hk0) (o_neq rfl rfl) rfl ?_
        refine sv (o_pickF (decide_eq_false hk0) rfl rfl) rfl ?_
        refine sv (o_mv rfl) rfl ?_
        refine sg rfl (decide_eq_false hk1) (o_mv rfl) rfl ?_
        refine sg rfl (decide_eq_false hk1) (o_slen Tryd.underlying9 rfl) rfl ?_
        refine sg rfl (decide_eq_false hk1) (o_gtr rfl rfl) rfl ?_
        refine sv (o_pickF (decide_eq_false hk1) rfl rfl) rfl ?_
        refine l_nil ?_
        refine e_K (hK3 _ _ _ _ ?_)
        refine c_if rfl (fun h19 => absurd h19 hk2) (fun h19 => ?_)
        have hbs : b0 = sign := u8_eq (Classical.not_not.1 hk1)
        have hg : partG sign (b0 :: r) = true := by
          simp only [List.length_cons] at hk2
          simp [partG, hbs]
          omega
        refine c_skip ?_
        refine e_K (hK2 _ _ _ _ ?_)
        refine c_seq fun K7 hK7 => ?_
        refine c_region ?_
        refine sv (o_mv rfl) rfl ?_
        refine sv (o_ssfrom (n := 1) Tryd.underlying9 rfl rfl (by simp)) rfl ?_
        refine sc (o_call ent77 rfl) (c_cut' _ ((b0 :: r).drop 1) (by simp at hs ⊢; omega) (hM.mod0 E)) rfl fun v_ w1 h_ => ?_
        obtain ⟨rfl, E_⟩ := h_
        replace E := E.then E_
        refine sv (o_ext rfl rfl) rfl ?_
        refine sv (o_ext rfl rfl) rfl ?_
        refine sv (o_ext rfl rfl) rfl ?_
        refine sv (o_as rfl) rfl ?_
        refine sv (o_as rfl) rfl ?_
        refine sv (o_as rfl) rfl ?_
        refine l_nil ?_
        refine e_K (hK7 _ _ _ _ ?_)
        refine c_ret ?_
        exact ret3 rfl rfl rfl rfl ⟨⟨_, _, _, rfl, by rw [hg, Bool.true_and], fun _ => ⟨rfl, rfl⟩⟩, E⟩

theorem c_user (w : World) (s : Str) (hs : s.length < 4294967281) (hM : MaxL w) : Calls Tryd.prog 24 [S s].toArray w (Ret fun u w' => u = .bool (namedB 64 qUser s) ∧ Mod [] w w') := by
  refine enter Tryd.func24 rfl rfl rfl (l := [(0, _)]) ⟨rfl, trivial⟩ ?_
  have E := Mod.refl [] w
  refine c_seq fun K1 hK1 => ?_
  refine c_region ?_
  refine sv (o_as rfl) rfl ?_
  refine l_nil ?_
  refine e_K (hK1 _ _ _ _ ?_)
  refine c_seq fun K2 hK2 => ?_
  refine c_region ?_
  refine sv (o_mv rfl) rfl ?_
  refine sc (o_call ent52 rfl) (c_parts _ s 64 hs (hM.mod0 E)) rfl fun v_ w1 h_ => ?_
  obtain ⟨⟨a, b, o, rfl, ho, hab⟩, E_⟩ := h_
  replace E := E.then E_
  refine sv (o_mv rfl) rfl ?_
  refine sv (o_ext rfl rfl) rfl ?_
  refine sv (o_ext rfl rfl) rfl ?_
  refine sv (o_ext rfl rfl) rfl ?_
  refine sv (o_as rfl) rfl ?_
  refine sv (o_as rfl) rfl ?_
  refine sv (o_as rfl) rfl ?_
  refine l_nil ?_
  refine e_K (hK2 _ _ _ _ ?_)
  refine c_seq fun K3 hK3 => ?_
  by_cases hk0 : (o) = true
  · skip
    obtain ⟨ha_, hb_⟩ := hab hk0
    subst ha_
    subst hb_
    by_cases hk1 : (serverB ((s.drop 1).drop (colonAt (s.drop 1) + 1))) = true
    · skip
      by_cases hk2 : (allB qUser ((s.drop 1).take (colonAt (s.drop 1)))) = true
      · skip
        refine c_region ?_
        refine sv (o_mv rfl) rfl ?_
        refine sv (o_mv rfl) rfl ?_
        refine sg rfl (hk0) (o_mv rfl) rfl ?_
        refine sgc rfl (hk0) (o_call ent53 rfl) (c_server _ ((s.drop 1).drop (colonAt (s.drop 1) + 1)) (by simp only [List.length_drop]; omega) (hM.mod0 E)) rfl fun v_ w2 h_ => ?_
        obtain ⟨rfl, E_⟩ := h_
        replace E := E.then E_
        refine sv (o_pickT (hk0) rfl rfl) rfl ?_
        refine sv (o_mv rfl) rfl ?_
        refine sg rfl (hk1) (o_mv rfl) rfl ?_
        refine sgc rfl (hk1) (o_call ent54 rfl) (c_all _ ((s.drop 1).take (colonAt (s.drop 1))) 59 qUser ent59 (fun w c h1 h2 => c_kUser w c h1 h2) qUser_lt) rfl fun v_ w3 h_ => ?_
        obtain ⟨rfl, E_⟩ := h_
        replace E := E.then E_
        refine sv (o_pickT (hk1) rfl rfl) rfl ?_
        refine sv (o_as rfl) rfl ?_
        refine l_nil ?_
        refine e_K (hK3 _ _ _ _ ?_)
        refine c_ret ?_
        exact ret1 rfl rfl ⟨congrArg Value.bool (by rw [namedB_eq (by decide), ← ho]; simp only [hk0, hk1, hk2, Bool.true_and, Bool.and_true, Bool.false_and, Bool.and_false, Bool.true_or, Bool.or_true, Bool.false_or, Bool.or_false, Bool.not_true, Bool.not_false]), E⟩
      · skip
        refine c_region ?_
        refine sv (o_mv rfl) rfl ?_
        refine sv (o_mv rfl) rfl ?_
        refine sg rfl (hk0) (o_mv rfl) rfl ?_
        refine sgc rfl (hk0) (o_call ent53 rfl) (c_server _ ((s.drop 1).drop (colonAt (s.drop 1) + 1)) (by simp only [List.length_drop]; omega) (hM.mod0 E)) rfl fun v_ w4 h_ => ?_
        obtain ⟨rfl, E_⟩ := h_
        replace E := E.then E_
        refine sv (o_pickT (hk0) rfl rfl) rfl ?_
        refine sv (o_mv rfl) rfl ?_
        refine sg rfl (hk1) (o_mv rfl) rfl ?_
        refine sgc rfl (hk1) (o_call ent54 rfl) (c_all _ ((s.drop 1).take (colonAt (s.drop 1))) 59 qUser ent59 (fun w c h1 h2 => c_kUser w c h1 h2) qUser_lt) rfl fun v_ w5 h_ => ?_
        obtain ⟨rfl, E_⟩ := h_
        replace E := E.then E_
        refine sv (o_pickT (hk1) rfl rfl) rfl ?_
        refine sv (o_as rfl) rfl ?_
        refine l_nil ?_
        refine e_K (hK3 _ _ _ _ ?_)
        refine c_ret ?_
        exact ret1 rfl rfl ⟨congrArg Value.bool (by rw [namedB_eq (by decide), ← ho]; simp only [hk0, hk1, Bool.eq_false_iff.2 hk2, Bool.true_and, Bool.and_true, Bool.false_and, Bool.and_false, Bool.true_or, Bool.or_true, Bool.false_or, Bool.or_false, Bool.not_true, Bool.not_false]), E⟩
    · skip
      refine c_region ?_
      refine sv (o_mv rfl) rfl ?_
      refine sv (o_mv rfl) rfl ?_
      refine sg rfl (hk0) (o_mv rfl) rfl ?_
      refine sgc rfl (hk0) (o_call ent53 rfl) (c_server _ ((s.drop 1).drop (colonAt (s.drop 1) + 1)) (by simp only [List.length_drop]; omega) (hM.mod0 E)) rfl fun v_ w6 h_ => ?_
      obtain ⟨rfl, E_⟩ := h_
      replace E := E.then E_
      refine sv (o_pickT (hk0) rfl rfl) rfl ?_
      refine sv (o_mv rfl) rfl ?_
      refine sn rfl (fun e_ => absurd ((Bool.eq_false_iff.2 hk1).symm.trans e_) (by decide)) rfl ?_
      refine sn rfl (fun e_ => absurd ((Bool.eq_false_iff.2 hk1).symm.trans e_) (by decide)) rfl ?_
      refine sv (o_pickF (Bool.eq_false_iff.2 hk1) rfl rfl) rfl ?_
      refine sv (o_as rfl) rfl ?_
      refine l_nil ?_
      refine e_K (hK3 _ _ _ _ ?_)
      refine c_ret ?_
      exact ret1 rfl rfl ⟨congrArg Value.bool (by rw [namedB_eq (by decide), ← ho]; simp only [hk0, Bool.eq_false_iff.2 hk1, Bool.true_and, Bool.and_true, Bool.false_and, Bool.and_false, Bool.true_or, Bool.or_true, Bool.false_or, Bool.or_false, Bool.not_true, Bool.not_false]), E⟩
  · skip
    refine c_region ?_
    refine sv (o_mv rfl) rfl ?_
    refine sv (o_mv rfl) rfl ?_
    refine sn rfl (fun e_ => absurd ((Bool.eq_false_iff.2 hk0).symm.trans e_) (by decide)) rfl ?_
    refine sn rfl (fun e_ => absurd ((Bool.eq_false_iff.2 hk0).symm.trans e_) (by decide)) rfl ?_
    refine sv (o_pickF (Bool.eq_false_iff.2 hk0) rfl rfl) rfl ?_
    refine sv (o_mv rfl) rfl ?_
    refine sn rfl (fun e_ => absurd ((rfl).symm.trans e_) (by decide)) rfl ?_
    refine sn rfl (fun e_ => absurd ((rfl).symm.trans e_) (by decide)) rfl ?_
    refine sv (o_pickF (rfl) rfl rfl) rfl ?_
    refine sv (o_as rfl) rfl ?_
    refine l_nil ?_
    refine e_K (hK3 _ _ _ _ ?_)
    refine c_ret ?_
    exact ret1 rfl rfl ⟨congrArg Value.bool (by rw [namedB_eq (by decide), ← ho]; simp only [Bool.eq_false_iff.2 hk0, Bool.true_and, Bool.and_true, Bool.false_and, Bool.and_false, Bool.true_or, Bool.or_true, Bool.false_or, Bool.or_false, Bool.not_true, Bool.not_false]), E⟩

theorem c_room (w : World) (s : Str) (hs : s.length < 4294967281) (hM : MaxL w) : Calls Tryd.prog 23 [S s].toArray w (Ret fun u w' => u = .bool (namedB 33 qRoom s) ∧ Mod [] w w') := by
  refine enter Tryd.func23 rfl rfl rfl (l := [(0, _)]) ⟨rfl, trivial⟩ ?_
  have E := Mod.refl [] w
  refine c_seq fun K1 hK1 => ?_
  refine c_region ?_
  refine sv (o_as rfl) rfl ?_
  refine l_nil ?_
  refine e_K (hK1 _ _ _ _ ?_)
  refine c_seq fun K2 hK2 => ?_
  refine c_region ?_
  refine sv (o_mv rfl) rfl ?_
  refine sc (o_call ent52 rfl) (c_parts _ s 33 hs (hM.mod0 E)) rfl fun v_ w1 h_ => ?_
  obtain ⟨⟨a, b, o, rfl, ho, hab⟩, E_⟩ := h_
  replace E := E.then E_
  refine sv (o_mv rfl) rfl ?_
  refine sv (o_ext rfl rfl) rfl ?_
  refine sv (o_ext rfl rfl) rfl ?_
  refine sv (o_ext rfl rfl) rfl ?_
  refine sv (o_as rfl) rfl ?_
  refine sv (o_as rfl) rfl ?_
  refine sv (o_as rfl) rfl ?_
  refine l_nil ?_
  refine e_K (hK2 _ _ _ _ ?_)
  refine c_seq fun K3 hK3 => ?_
  by_cases hk0 : (o) = true
  · skip
    obtain ⟨ha_, hb_⟩ := hab hk0
    subst ha_
    subst hb_
    by_cases hk1 : (serverB ((s.drop 1).drop (colonAt (s.drop 1) + 1))) = true
    · skip
      by_cases hk2 : (allB qRoom ((s.drop 1).take (colonAt (s.drop 1)))) = true
      · skip
        refine c_region ?_
        refine sv (o_mv rfl) rfl ?_
        refine sv (o_mv rfl) rfl ?_
        refine sg rfl (hk0) (o_mv rfl) rfl ?_
        refine sgc rfl (hk0) (o_call ent53 rfl) (c_server _ ((s.drop 1).drop (colonAt (s.drop 1) + 1)) (by simp only [List.length_drop]; omega) (hM.mod0 E)) rfl fun v_ w2 h_ => ?_
        obtain ⟨rfl, E_⟩ := h_
        replace E := E.then E_
        refine sv (o_pickT (hk0) rfl rfl) rfl ?_
        refine sv (o_mv rfl) rfl ?_
        refine sg rfl (hk1) (o_mv rfl) rfl ?_
        refine sgc rfl (hk1) (o_call ent54 rfl) (c_all _ ((s.drop 1).take (colonAt (s.drop 1))) 55 qRoom ent55 (fun w c h1 h2 => c_kRoom w c h1 h2) qRoom_lt) rfl fun v_ w3 h_ => ?_
        obtain ⟨rfl, E_⟩ := h_
        replace E := E.then E_
        refine sv (o_pickT (hk1) rfl rfl) rfl ?_
        refine sv (o_as rfl) rfl ?_
        refine l_nil ?_
        refine e_K (hK3 _ _ _ _ ?_)
        refine c_ret ?_
        exact ret1 rfl rfl ⟨congrArg Value.bool (by rw [namedB_eq (by decide), ← ho]; simp only [hk0, hk1, hk2, Bool.true_and, Bool.and_true, Bool.false_and, Bool.and_false, Bool.true_or, Bool.or_true, Bool.false_or, Bool.or_false, Bool.not_true, Bool.not_false]), E⟩
      · skip
        refine c_region ?_
        refine sv (o_mv rfl) rfl ?_
        refine sv (o_mv rfl) rfl ?_
        refine sg rfl (hk0) (o_mv rfl) rfl ?_
        refine sgc rfl (hk0) (o_call ent53 rfl) (c_server _ ((s.drop 1).drop (colonAt (s.drop 1) + 1)) (by simp only [List.length_drop]; omega) (hM.mod0 E)) rfl fun v_ w4 h_ => ?_
        obtain ⟨rfl, E_⟩ := h_
        replace E := E.then E_
        refine sv (o_pickT (hk0) rfl rfl) rfl ?_
        refine sv (o_mv rfl) rfl ?_
        refine sg rfl (hk1) (o_mv rfl) rfl ?_
        refine sgc rfl (hk1) (o_call ent54 rfl) (c_all _ ((s.drop 1).take (colonAt (s.drop 1))) 55 qRoom ent55 (fun w c h1 h2 => c_kRoom w c h1 h2) qRoom_lt) rfl fun v_ w5 h_ => ?_
        obtain ⟨rfl, E_⟩ := h_
        replace E := E.then E_
        refine sv (o_pickT (hk1) rfl rfl) rfl ?_
        refine sv (o_as rfl) rfl ?_
        refine l_nil ?_
        refine e_K (hK3 _ _ _ _ ?_)
        refine c_ret ?_
        exact ret1 rfl rfl ⟨congrArg Value.bool (by rw [namedB_eq (by decide), ← ho]; simp only [hk0, hk1, Bool.eq_false_iff.2 hk2, Bool.true_and, Bool.and_true, Bool.false_and, Bool.and_false, Bool.true_or, Bool.or_true, Bool.false_or, Bool.or_false, Bool.not_true, Bool.not_false]), E⟩
    · skip
      refine c_region ?_
      refine sv (o_mv rfl) rfl ?_
      refine sv (o_mv rfl) rfl ?_
      refine sg rfl (hk0) (o_mv rfl) rfl ?_
      refine sgc rfl (hk0) (o_call ent53 rfl) (c_server _ ((s.drop 1).drop (colonAt (s.drop 1) + 1)) (by simp only [List.length_drop]; omega) (hM.mod0 E)) rfl fun v_ w6 h_ => ?_
      obtain ⟨rfl, E_⟩ := h_
      replace E := E.then E_
      refine sv (o_pickT (hk0) rfl rfl) rfl ?_
      refine sv (o_mv rfl) rfl ?_
      refine sn rfl (fun e_ => absurd ((Bool.eq_false_iff.2 hk1).symm.trans e_) (by decide)) rfl ?_
      refine sn rfl (fun e_ => absurd ((Bool.eq_false_iff.2 hk1).symm.trans e_) (by decide)) rfl ?_
      refine sv (o_pickF (Bool.eq_false_iff.2 hk1) rfl rfl) rfl ?_
      refine sv (o_as rfl) rfl ?_
      refine l_nil ?_
      refine e_K (hK3 _ _ _ _ ?_)
      refine c_ret ?_
      exact ret1 rfl rfl ⟨congrArg Value.bool (by rw [namedB_eq (by decide), ← ho]; simp only [hk0, Bool.eq_false_iff.2 hk1, Bool.true_and, Bool.and_true, Bool.false_and, Bool.and_false, Bool.true_or, Bool.or_true, Bool.false_or, Bool.or_false, Bool.not_true, Bool.not_false]), E⟩
  · skip
    refine c_region ?_
    refine sv (o_mv rfl) rfl ?_
    refine sv (o_mv rfl) rfl ?_
    refine sn rfl (fun e_ => absurd ((Bool.eq_false_iff.2 hk0).symm.trans e_) (by decide)) rfl ?_
    refine sn rfl (fun e_ => absurd ((Bool.eq_false_iff.2 hk0).symm.trans e_) (by decide)) rfl ?_
    refine sv (o_pickF (Bool.eq_false_iff.2 hk0) rfl rfl) rfl ?_
    refine sv (o_mv rfl) rfl ?_
    refine sn rfl (fun e_ => absurd ((rfl).symm.trans e_) (by decide)) rfl ?_
    refine sn rfl (fun e_ => absurd ((rfl).symm.trans e_) (by decide)) rfl ?_
    refine sv (o_pickF (rfl) rfl rfl) rfl ?_
    refine sv (o_as rfl) rfl ?_
    refine l_nil ?_
    refine e_K (hK3 _ _ _ _ ?_)
    refine c_ret ?_
    exact ret1 rfl rfl ⟨congrArg Value.bool (by rw [namedB_eq (by decide), ← ho]; simp only [Bool.eq_false_iff.2 hk0, Bool.true_and, Bool.and_true, Bool.false_and, Bool.and_false, Bool.true_or, Bool.or_true, Bool.false_or, Bool.or_false, Bool.not_true, Bool.not_false]), E⟩

theorem c_key (w : World) (s : Str) : Calls Tryd.prog 63 [S s].toArray w (Ret fun u w' => u = .bool (keyB s) ∧ Mod [] w w') := by
  refine enter Tryd.func63 rfl rfl rfl (l := [(0, _)]) ⟨rfl, trivial⟩ ?_
  have E := Mod.refl [] w
  refine c_seq fun K1 hK1 => ?_
  refine c_region ?_
  refine sv (o_as rfl) rfl ?_
  refine l_nil ?_
  refine e_K (hK1 _ _ _ _ ?_)
  refine c_seq fun K2 hK2 => ?_
  refine c_region ?_
  refine sv (o_mv rfl) rfl ?_
  refine sc (o_call ent82 rfl) (c_cutp _ s edS) rfl fun v_ w1 h_ => ?_
  obtain ⟨rfl, E_⟩ := h_
  replace E := E.then E_
  refine sv (o_mv rfl) rfl ?_
  refine sv (o_ext rfl rfl) rfl ?_
  refine sv (o_ext rfl rfl) rfl ?_
  refine sv (o_as rfl) rfl ?_
  refine sv (o_as rfl) rfl ?_
  refine l_nil ?_
  refine e_K (hK2 _ _ _ _ ?_)
  refine c_seq fun K3 hK3 => ?_
  by_cases hk0 : (Lib.hasPrefix s edS) = true
  · skip
    by_cases hk1 : (s.length : Int) ≤ 255
    · skip
      by_cases hk2 : (allB qKey (Lib.trimPrefix s edS)) = true
      · skip
        refine c_region ?_
        refine sv (o_mv rfl) rfl ?_
        refine sv (o_mv rfl) rfl ?_
        refine sg rfl (hk0) (o_mv rfl) rfl ?_
        refine sg rfl (hk0) (o_slen Tryd.underlying9 rfl) rfl ?_
        refine sg rfl (hk0) (o_leq rfl rfl) rfl ?_
        refine sv (o_pickT (hk0) rfl rfl) rfl ?_
        refine sv (o_mv rfl) rfl ?_
        refine sg rfl (decide_eq_true hk1) (o_mv rfl) rfl ?_
        refine sgc rfl (decide_eq_true hk1) (o_call ent54 rfl) (c_all _ (Lib.trimPrefix s edS) 83 qKey ent83 (fun w c h1 h2 => c_kKey w c h1 h2) qKey_lt) rfl fun v_ w2 h_ => ?_
        obtain ⟨rfl, E_⟩ := h_
        replace E := E.then E_
        refine sv (o_pickT (decide_eq_true hk1) rfl rfl) rfl ?_
        refine sv (o_as rfl) rfl ?_
        refine l_nil ?_
        refine e_K (hK3 _ _ _ _ ?_)
        refine c_ret ?_
        exact ret1 rfl rfl ⟨congrArg Value.bool (by rw [keyB_eq]; simp only [hk0, decide_eq_true hk1, hk2, Bool.true_and, Bool.and_true, Bool.false_and, Bool.and_false, Bool.true_or, Bool.or_true, Bool.false_or, Bool.or_false, Bool.not_true, Bool.not_false]), E⟩
      · skip
        refine c_region ?_
        refine sv (o_mv rfl) rfl ?_
        refine sv (o_mv rfl) rfl ?_
        refine sg rfl (hk0) (o_mv rfl) rfl ?_
        refine sg rfl (hk0) (o_slen Tryd.underlying9 rfl) rfl ?_
        refine sg rfl (hk0) (o_leq rfl rfl) rfl ?_
        refine sv (o_pickT (hk0) rfl rfl) rfl ?_
        refine sv (o_mv rfl) rfl ?_
        refine sg rfl (decide_eq_true hk1) (o_mv rfl) rfl ?_
        refine sgc rfl (decide_eq_true hk1) (o_call ent54 rfl) (c_all _ (Lib.trimPrefix s edS) 83 qKey ent83 (fun w c h1 h2 => c_kKey w c h1 h2) qKey_lt) rfl fun v_ w3 h_ => ?_
        obtain ⟨rfl, E_⟩ := h_
        replace E := E.then E_
        refine sv (o_pickT (decide_eq_true hk1) rfl rfl) rfl ?_
        refine sv (o_as rfl) rfl ?_
        refine l_nil ?_
        refine e_K (hK3 _ _ _ _ ?_)
        refine c_ret ?_
        exact ret1 rfl rfl ⟨congrArg Value.bool (by rw [keyB_eq]; simp only [hk0, decide_eq_true hk1, Bool.eq_false_iff.2 hk2, Bool.true_and, Bool.and_true, Bool.false_and, Bool.and_false, Bool.true_or, Bool.or_true, Bool.false_or, Bool.or_false, Bool.not_true, Bool.not_false]), E⟩
    · skip
      refine c_region ?_
      refine sv (o_mv rfl) rfl ?_
      refine sv (o_mv rfl) rfl ?_
      refine sg rfl (hk0) (o_mv rfl) rfl ?_
      refine sg rfl (hk0) (o_slen Tryd.underlying9 rfl) rfl ?_
      refine sg rfl (hk0) (o_leq rfl rfl) rfl ?_
      refine sv (o_pickT (hk0) rfl rfl) rfl ?_
      refine sv (o_mv rfl) rfl ?_
      refine sn rfl (fun e_ => absurd ((decide_eq_false hk1).symm.trans e_) (by decide)) rfl ?_
      refine sn rfl (fun e_ => absurd ((decide_eq_false hk1).symm.trans e_) (by decide)) rfl ?_
      refine sv (o_pickF (decide_eq_false hk1) rfl rfl) rfl ?_
      refine sv (o_as rfl) rfl ?_
      refine l_nil ?_
      refine e_K (hK3 _ _ _ _ ?_)
      refine c_ret ?_
      exact ret1 rfl rfl ⟨congrArg Value.bool (by rw [keyB_eq]; simp only [hk0, decide_eq_false hk1, Bool.true_and, Bool.and_true, Bool.false_and, Bool.and_false, Bool.true_or, Bool.or_true, Bool.false_or, Bool.or_false, Bool.not_true, Bool.not_false]), E⟩
  · skip
    refine c_region ?_
    refine sv (o_mv rfl) rfl ?_
    refine sv (o_mv rfl) rfl ?_
    refine sn rfl (fun e_ => absurd ((Bool.eq_false_iff.2 hk0).symm.trans e_) (by decide)) rfl ?_
    refine sn rfl (fun e_ => absurd ((Bool.eq_false_iff.2 hk0).symm.trans e_) (by decide)) rfl ?_
    refine sn rfl (fun e_ => absurd ((Bool.eq_false_iff.2 hk0).symm.trans e_) (by decide)) rfl ?_
    refine sv (o_pickF (Bool.eq_false_iff.2 hk0) rfl rfl) rfl ?_
    refine sv (o_mv rfl) rfl ?_
    refine sn rfl (fun e_ => absurd ((rfl).symm.trans e_) (by decide)) rfl ?_
    refine sn rfl (fun e_ => absurd ((rfl).symm.trans e_) (by decide)) rfl ?_
    refine sv (o_pickF (rfl) rfl rfl) rfl ?_
    refine sv (o_as rfl) rfl ?_
    refine l_nil ?_
    refine e_K (hK3 _ _ _ _ ?_)
    refine c_ret ?_
    exact ret1 rfl rfl ⟨congrArg Value.bool (by rw [keyB_eq]; simp only [Bool.eq_false_iff.2 hk0, Bool.true_and, Bool.and_true, Bool.false_and, Bool.and_false, Bool.true_or, Bool.or_true, Bool.false_or, Bool.or_false, Bool.not_true, Bool.not_false]), E⟩
end Go.Proofs.YtkhbnhdlelmbnaaDoor.V

set_option linter.unusedVariables false
set_option linter.unusedSimpArgs false
namespace Go.Proofs.YtkhbnhdlelmbnaaDoor.V
open Go
section
variable {P : Program} {l : List (Nat × Value)} {w : World} {ty : TypeId} {pos : String} {af : Array Edge} {dd : Option Nat} {gg : Option (Nat × Bool)} {x y z hi : Operand} {t : TypeId}
theorem o_ssmid {u : List UInt8} {m n : Nat} (ht : P.underlying t = some .string) (hx : evO l x = some (S u)) (hl : evO l y = some (.int .i64 (m : Int))) (hh : evO l hi = some (.int .i64 (n : Int))) (hb : m ≤ n ∧ n ≤ u.length) : Runs P l ⟨dd, .slice t x (some y) (some hi) none, ty, pos, af, gg⟩ w (S ((u.take n).drop m)) w :=
  (o_ssl (pl := some (.i64, (m : Int))) (ph := some (.i64, (n : Int))) ht hx (by simp [evS, hl]) (by simp [evS, hh]) (by simp only [loV, hiV]; omega)).to (by
    simp only [loV, hiV, Int.toNat_natCast]
    rw [List.drop_take])
end
theorem server_i1 (s : Str) : decide (colonAt s = s.length) = decide ((colonAt s : Int) = (s.length : Int)) := by rw [decide_eq_decide]; omega
theorem server_i2 (s : Str) : decide (s.length - colonAt s ≤ 6) = decide (((s.length - colonAt s : Nat) : Int) ≤ 6) := by rw [decide_eq_decide]; omega
theorem named_form (sign : UInt8) (q : Nat → Bool) (s : Str) : namedB sign q s = (decide ((s.length : Int) ≤ 255) && decide ((colonAt s : Int) < (s.length : Int)) && decide (s.head? = some sign) && allB q ((s.take (colonAt s)).drop 1) && serverB (s.drop (colonAt s + 1))) := by
  rw [namedB, len_e3, show decide (colonAt s < s.length) = decide ((colonAt s : Int) < (s.length : Int)) by rw [decide_eq_decide]; omega]
theorem head_dec {s : Str} {b0 sign : UInt8} (h : s[0]? = some b0) : decide (s.head? = some sign) = decide ((b0.toNat : Int) = (sign.toNat : Int)) := by
  rw [List.head?_eq_getElem?, h, decide_eq_decide]
  constructor
  · intro e; injection e with e; rw [e]
  · intro e; rw [u8_eq e]
theorem head_no {s : Str} {sign : UInt8} (h58 : sign ≠ 58) (h : ¬ (colonAt s : Int) > 0) : decide (s.head? = some sign) = false := by
  refine decide_eq_false fun e => ?_
  have := named_pos h58 e
  omega
end Go.Proofs.YtkhbnhdlelmbnaaDoor.V
