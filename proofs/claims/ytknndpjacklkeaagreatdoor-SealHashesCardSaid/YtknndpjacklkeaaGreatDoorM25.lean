/-
  A part of the proof: an append in the place of an own slice's rest; a slice with three bounds; a map without one of its keys; an event's value without some of its members; an event's text without some of its members is one, if the event has a text; so has the stripped event; an event that can be, its text; what has a text has keys that rise. No condition of its own.
-/
import Derived.Test.YtknndpjacklkeaaGreatDoorM24
import Derived.Test.YtknndpjacklkeaaGreatDoorM4
import Derived.Test.YtknndpjacklkeaaGreatDoorM3
import Derived.Test.YtknndpjacklkeaaGreatDoorM8
import Derived.Test.YtknndpjacklkeaaGreatDoorM13
import Derived.Test.YtknndpjacklkeaaGreatDoorM15
import Derived.Test.YtknndpjacklkeaaGreatDoorM18
import Derived.Test.YtknndpjacklkeaaGreatDoorM20
import Derived.Test.YtknndpjacklkeaaGreatDoorM22
set_option linter.unusedVariables false
set_option linter.unusedSimpArgs false
set_option maxRecDepth 10000
namespace Go.Proofs.YtknndpjacklkeaaGreatDoor.V
open Go Go.Proofs
theorem ent134 : Ent Tryz.prog 134 := Ent.of Tryz.func134 (by kernel_rfl) (by kernel_rfl)
theorem c_alpha (w : World) (url : Bool) : Calls Tryz.prog 133 [.bool url].toArray w (Ret fun u w' => u = S (alphaL url) ∧ Mod [] w w') := by
 refine enter Tryz.func133 rfl rfl rfl (l := [(0, _)]) ⟨rfl, trivial⟩ ?_
 have E := Mod.refl [] w
 refine Cq fun K1 hK1 => Cr (Za rfl (Ln (e_K (hK1 _ _ _ _ (Cq fun K2 hK2 => Cq fun K3 hK3 => Cr (Zm rfl (Ln (e_K (hK3 _ _ _ _ ?_)))))))))
 refine c_cond rfl (fun h3 => ?_) (fun h3 => ?_)
 ·exact Cq fun K4 hK4 => Cr (Za rfl (Ln (e_K (hK4 _ _ _ _ (cR (eT (by simp) (ret1 rfl rfl ⟨by rw [show url = true from by simpa using h3]; rfl, E⟩)))))))
 ·exact cK (e_K (hK2 _ _ _ _ (Cq fun K5 hK5 => Cr (Za rfl (Ln (e_K (hK5 _ _ _ _ (cR (ret1 rfl rfl ⟨by rw [show url = false from by simpa using h3]; rfl, E⟩)))))))))

theorem c_bitR (A : List Nat) (w : World) (b : List UInt8) (v : Value) (R : Rep A w (byD b) v) (i : Nat) (hi : i ≤ 1000000000) : Calls Tryz.prog 134 [v, .int .i64 (i : Int)].toArray w (Ret fun u w' => u = .int .i64 (bitL b i : Int) ∧ Mod [] w w') := by
 refine enter Tryz.func134 rfl rfl rfl (l := [(0, _), (1, _)]) ⟨rfl, rfl, trivial⟩ ?_
 have E := Mod.refl [] w
 obtain ⟨ad, c, rfl, hc1, hc2⟩ := flat_len R
 refine Cq fun K1 hK1 => Cr (Za rfl (Ln (e_K (hK1 _ _ _ _ (Cq fun K2 hK2 => Cq fun K3 hK3 => Cr (Zm rfl (Sv ((o_quoN rfl rfl (by omega)).to (v' := .int .i64 ((i / 8 : Nat) : Int)) (by simp)) (Zm rfl (Sv (o_len Tryz.underlying74 rfl) (Sv (o_geq rfl rfl) (Ln ?_)))))))))))
 refine e_K (hK3 _ _ _ _ ?_)
 refine c_if rfl (fun h9 => ?_) (fun h9 => ?_)
 ·exact Cq fun K4 hK4 => Cr (Za rfl (Ln (e_K (hK4 _ _ _ _ (cR (eT (by simp) (ret1 rfl rfl ⟨by unfold bitL; rw [if_neg (by omega)]; rfl, E⟩)))))))
 ·have hlt : i / 8 < b.length := by omega
  obtain ⟨x, hx_x⟩ : ∃ x, b[(i / 8)]? = some x := ⟨_, List.getElem?_eq_getElem (by omega)⟩
  obtain ⟨a_x, ha_x, hcs_x, _⟩ := flat_at (R.to0 E) hx_x
  obtain rfl := ha_x
  refine cK (e_K (hK2 _ _ _ _ (Cq fun K5 hK5 => Cr (tW 2 rfl (Sv ((o_quoN rfl rfl (by omega)).to (v' := .int .i64 ((i / 8 : Nat) : Int)) (by simp)) (Sv (o_ix sl74 rfl rfl (by omega)) (Sv (oL sc5 rfl hcs_x.c0) (Zm rfl (Sv ((o_remN rfl rfl (by omega)).to (v' := .int .i64 ((i % 8 : Nat) : Int)) (by simp)) (Sv (o_subE (r := ((7 - i % 8 : Nat) : Int)) rfl rfl (by rw [wrap64_in _ (by omega)]; omega)) (Sv (o_convE (r := ((7 - i % 8 : Nat) : Int)) Tryz.underlying3 Tryz.underlying144 rfl (wrapu64_in _ (by omega))) (Sv (o_shrE (r := ((x.toNat / 2 ^ (7 - i % 8) : Nat) : Int)) rfl rfl (by omega) (shr_byte (by omega))) (Sv (o_convE (r := ((x.toNat / 2 ^ (7 - i % 8) : Nat) : Int)) Tryz.underlying5 Tryz.underlying3 rfl (wrap64_in _ (by have h8 := shr_lt x (7 - i % 8); generalize x.toNat / 2 ^ (7 - i % 8) = z at *; omega))) ?_)))))))))))))
  exact Sv (o_andE (r := ((x.toNat / 2 ^ (7 - i % 8) % 2 : Nat) : Int)) rfl rfl (and1G (shr_lt _ _))) (Za rfl (Ln (e_K (hK5 _ _ _ _ (cR (ret1 rfl rfl ⟨by unfold bitL; rw [if_pos hlt, hx_x]; rfl, E⟩))))))

theorem c_letR (w : World) (n : Nat) (url : Bool) (hn : n < 64) : Calls Tryz.prog 135 [.int .i64 (n : Int), .bool url].toArray w (Ret fun u w' => u = B8 (letL n url) ∧ Mod [] w w') := by
 refine enter Tryz.func135 rfl rfl rfl (l := [(0, _), (1, _)]) ⟨rfl, rfl, trivial⟩ ?_
 have E := Mod.refl [] w
 refine Cq fun K1 hK1 => Cr (Za rfl (Ln (e_K (hK1 _ _ _ _ (Cq fun K2 hK2 => Cq fun K3 hK3 => Cr (tW 2 rfl (Ln (e_K (hK3 _ _ _ _ ?_)))))))))
 refine c_if rfl (fun h6 => ?_) (fun h6 => ?_)
 ·exact Cq fun K4 hK4 => Cr (Zm rfl (Sv (o_convE (r := ((n : Nat) : Int)) Tryz.underlying3 Tryz.underlying5 rfl (by show IntKind.u8.wrap _ = _; rw [wrapu8_in _ (by omega)])) (Sv (o_addE (r := ((65 + n : Nat) : Int)) rfl rfl (by show IntKind.u8.wrap _ = _; rw [wrapu8_in _ (by omega)]; omega)) (Za rfl (Ln (e_K (hK4 _ _ _ _ (cR (eT (by simp) (ret1 rfl rfl ⟨let_a (by omega), E⟩))))))))))
 ·refine cK (e_K (hK2 _ _ _ _ (Cq fun K5 hK5 => Cq fun K6 hK6 => Cr (tW 2 rfl (Ln (e_K (hK6 _ _ _ _ ?_)))))))
  refine c_if rfl (fun h11 => ?_) (fun h11 => ?_)
  ·exact Cq fun K7 hK7 => Cr (Zm rfl (Sv (o_subE (r := ((n - 26 : Nat) : Int)) rfl rfl (by rw [wrap64_in _ (by omega)]; omega)) (Sv (o_convE (r := ((n - 26 : Nat) : Int)) Tryz.underlying3 Tryz.underlying5 rfl (by show IntKind.u8.wrap _ = _; rw [wrapu8_in _ (by omega)])) (Sv (o_addE (r := ((97 + (n - 26) : Nat) : Int)) rfl rfl (by show IntKind.u8.wrap _ = _; rw [wrapu8_in _ (by omega)]; omega)) (Za rfl (Ln (e_K (hK7 _ _ _ _ (cR (eT (by simp) (ret1 rfl rfl ⟨let_b (by omega) (by omega), E⟩)))))))))))
  ·refine cK (e_K (hK5 _ _ _ _ (Cq fun K8 hK8 => Cq fun K9 hK9 => Cr (tW 2 rfl (Ln (e_K (hK9 _ _ _ _ ?_)))))))
   refine c_if rfl (fun h17 => ?_) (fun h17 => ?_)
   ·exact Cq fun K10 hK10 => Cr (Zm rfl (Sv (o_subE (r := ((n - 52 : Nat) : Int)) rfl rfl (by rw [wrap64_in _ (by omega)]; omega)) (Sv (o_convE (r := ((n - 52 : Nat) : Int)) Tryz.underlying3 Tryz.underlying5 rfl (by show IntKind.u8.wrap _ = _; rw [wrapu8_in _ (by omega)])) (Sv (o_addE (r := ((48 + (n - 52) : Nat) : Int)) rfl rfl (by show IntKind.u8.wrap _ = _; rw [wrapu8_in _ (by omega)]; omega)) (Za rfl (Ln (e_K (hK10 _ _ _ _ (cR (eT (by simp) (ret1 rfl rfl ⟨let_c (by omega) (by omega), E⟩)))))))))))
   ·refine cK (e_K (hK8 _ _ _ _ (Cq fun K11 hK11 => Cq fun K12 hK12 => Cr (Zm rfl (Ln (e_K (hK12 _ _ _ _ ?_)))))))
    refine c_cond rfl (fun h22 => ?_) (fun h22 => ?_)
    ·exact Cq fun K13 hK13 => Cr (Zm rfl (Sv (o_subE (r := ((n - 62 : Nat) : Int)) rfl rfl (by rw [wrap64_in _ (by omega)]; omega)) (Sv ((o_sidx (u := [45, 95]) (c := letL n url) Tryz.underlying9 rfl rfl (by omega) (by exact let_url hn (by omega) (by simpa using h22)))) (Za rfl (Ln (e_K (hK13 _ _ _ _ (cR (eT (by simp) (ret1 rfl rfl ⟨rfl, E⟩))))))))))
    ·exact cK (e_K (hK11 _ _ _ _ (Cq fun K14 hK14 => Cr (Zm rfl (Sv (o_subE (r := ((n - 62 : Nat) : Int)) rfl rfl (by rw [wrap64_in _ (by omega)]; omega)) (Sv ((o_sidx (u := [43, 47]) (c := letL n url) Tryz.underlying9 rfl rfl (by omega) (by exact let_std hn (by omega) (by simpa using h22)))) (Za rfl (Ln (e_K (hK14 _ _ _ _ (cR (ret1 rfl rfl ⟨rfl, E⟩))))))))))))

theorem c_encR (A : List Nat) (w : World) (b : List UInt8) (v : Value) (R : Rep A w (byD b) v) (hb : b.length ≤ 1000000) (url : Bool) : Calls Tryz.prog 90 [v, .bool url].toArray w (Ret fun u w' => u = S (ltrL b url) ∧ Mod [] w w') := by
 refine enter Tryz.func90 rfl rfl rfl (l := [(0, _), (1, _)]) ⟨rfl, rfl, trivial⟩ ?_
 have E := Mod.refl [] w
 obtain ⟨ad, c, rfl, hc1, hc2⟩ := flat_len R
 refine Cq fun K1 hK1 => Cr (Za rfl (Ln (e_K (hK1 _ _ _ _ (Cq fun K2 hK2 => Cr (Za rfl (Ln (e_K (hK2 _ _ _ _ (Cq fun K3 hK3 => Cq fun K4 hK4 => Cr (Za rfl ?_)))))))))))
 refine Ln (e_K (hK4 _ _ _ _ (cB (c_loop (σ := Nat × Value) (fun ⟨j, vo⟩ => [(0, .slice ad b.length c), (1, .bool url), (5, vo), (6, .int .i64 ((6 * j : Nat) : Int))]) (fun ⟨j, vo⟩ w1 => 6 * j < (8 * b.length) + 6 ∧ Own w1 5 1 vo (ltrT b url j).length (((ltrT b url j).map bcells).flatten) ∧ (∀ y ∈ ob vo, w.heap.size ≤ y) ∧ Mod [] w w1) (fun ⟨j, vo⟩ => (8 * b.length) + 6 - 6 * j) (⟨0, .slice none 0 0⟩) ⟨rfl, rfl, rfl, rfl, trivial⟩ (⟨by omega, Own.nil _ _ _, by simp [ob], E⟩) ?_))))
 rintro ⟨j, vo⟩ w1 ⟨hj, OL, LO, E⟩
 refine Cq fun K5 hK5 => Cq fun K6 hK6 => Cr (tW 2 rfl (Sv (o_len Tryz.underlying74 rfl) (Sv (o_mulE (r := ((8 * b.length : Nat) : Int)) rfl rfl (by rw [wrap64_in _ (by omega)]; omega)) (Sv (o_lss rfl rfl) (Ln (e_K (hK6 _ _ _ _ ?_)))))))
 refine c_if rfl (fun h13 => ?_) (fun h13 => ?_)
 ·refine cK (e_K (hK5 _ _ _ _ (Cq fun K7 hK7 => cB (Cq fun K8 hK8 => Cr (Za rfl (Ln (e_K (hK8 _ _ _ _ (Cq fun K9 hK9 => Cq fun K10 hK10 => Cr (Za rfl (Ln ?_)))))))))))
  refine e_K (hK10 _ _ _ _ (cB (c_loop (σ := Nat) (fun k => [(0, .slice ad b.length c), (1, .bool url), (5, vo), (6, .int .i64 ((6 * j : Nat) : Int)), (7, .int .i64 ((sixP b (6 * j) k : Nat) : Int)), (8, .int .i64 (k : Int))]) (fun k w1 => k ≤ 6 ∧ Own w1 5 1 vo (ltrT b url j).length (((ltrT b url j).map bcells).flatten) ∧ Mod [] w w1) (fun k => 6 - k) (0) ⟨rfl, rfl, rfl, rfl, rfl, rfl, trivial⟩ (⟨by omega, OL, E⟩) ?_)))
  rintro k w2 ⟨hk, OL, E⟩
  refine Cq fun K11 hK11 => Cq fun K12 hK12 => Cr (tW 2 rfl (Ln (e_K (hK12 _ _ _ _ ?_))))
  refine c_if rfl (fun h17 => ?_) (fun h17 => ?_)
  ·refine cK (e_K (hK11 _ _ _ _ (Cq fun K13 hK13 => cB (Cr (Zm rfl (Sv (o_mulE (r := ((2 * sixP b (6 * j) k : Nat) : Int)) rfl rfl (by have := sixP_lt b (6 * j) k hk; rw [wrap64_in _ (by omega)]; omega)) (tW 3 rfl (Sv (o_addE (r := ((6 * j + k : Nat) : Int)) rfl rfl (by rw [wrap64_in _ (by omega)]; omega)) (sc (oC ent134 rfl) (c_bitR A _ b _ (R.to0 E) (6 * j + k) (by omega)) rfl fun v_ w3 h_ => ?_)))))))))
   obtain ⟨rfl, E_⟩ := h_
   replace OL := OL.mod0 E_
   replace E := E.then E_
   exact Sv (o_addE (r := ((sixP b (6 * j) (k + 1) : Nat) : Int)) rfl rfl (by have := sixP_lt b (6 * j) k hk; have := bitL_two b (6 * j + k); rw [wrap64_in _ (by omega)]; show _ = ((2 * sixP b (6 * j) k + bitL b (6 * j + k) : Nat) : Int); omega)) (Za rfl (Ln (eI (by simp) (e_K (hK13 _ _ _ _ (Cr (Zm rfl (Sv (o_addE (r := ((k + 1 : Nat) : Int)) rfl rfl (by rw [wrap64_in _ (by omega)]; omega)) (Za rfl (Ln (eR (σ := Nat) (s := k) (k + 1) ⟨rfl, rfl, rfl, rfl, rfl, rfl, trivial⟩ ⟨by omega, OL, E⟩ (by first | omega | (dsimp only; omega)))))))))))))
  ·have hk6 : k = 6 := by omega
   subst hk6
   rw [sixP_six]
   refine c_exit (eT (by simp) (eT (by simp) (e_hit (e_K (hK9 _ _ _ _ (Cr (tW 3 rfl (sc (oC ent135 rfl) (c_letR _ (sixL b (6 * j)) url (sixL_lt _ _)) rfl fun v_ w4 h_ => ?_))))))))
   obtain ⟨rfl, E_⟩ := h_
   replace OL := OL.mod0 E_
   replace E := E.then E_
   refine s_bslice (cs := [_]) sl74 zv5 rfl rfl rfl (by decide) rfl fun g1 w5 N1 => ?_
   have Lg1_E := N1.le E
   replace OL := OL.mod0 N1.mod
   replace E := E.then N1.mod
   have Bg1 := N1.blk
   refine s_append sl74 rfl rfl OL (Src.own Tryz.underlying74 (Own.all (sz := 1) (c := 1) (cs := [_]) Bg1 rfl (by omega)) (fun u hu => by simp at hu; subst hu; rfl)) (by decide) (by have := ltrT_len b url j; omega) (by have := ltrT_len b url j; omega) rfl fun vn w6 AL => ?_
   have O2 : Own w6 5 1 vn (ltrT b url (j + 1)).length (((ltrT b url (j + 1)).map bcells).flatten) := AL.own.same (by rw [ltrT_succ]; simp) (by rw [ltrT_succ]; simp <;> rfl)
   have L2 : ∀ y ∈ ob vn, w.heap.size ≤ y := fun y hy => (AL.ob_ y hy).elim (LO y) (fun h => Nat.le_trans E.size h)
   replace E := E.trans' AL.mod (fun y hy => .inr (LO y hy))
   exact Za rfl (Ln (eI (by simp) (e_K (hK7 _ _ _ _ (Cr (Zm rfl (Sv (o_addE (r := ((6 * (j + 1) : Nat) : Int)) rfl rfl (by rw [wrap64_in _ (by omega)]; omega)) (Za rfl (Ln (eR (σ := Nat × Value) (s := ⟨j, vo⟩) (⟨j + 1, vn⟩) ⟨rfl, rfl, rfl, rfl, trivial⟩ ⟨by omega, O2, L2, E⟩ (by dsimp only; omega)))))))))))
 ·have hje : j = (8 * b.length + 5) / 6 := by omega
  subst hje
  exact c_exit (eT (by simp) (eT (by simp) (e_hit (e_K (hK3 _ _ _ _ (Cq fun K14 hK14 => Cr (Zm rfl (Sv (o_b2s_own (u := ltrL b url) Tryz.underlying74 Tryz.underlying5 Tryz.underlying9 rfl (OL.as rfl (by exact ltr_B8 _))) (Za rfl (Ln (e_K (hK14 _ _ _ _ (cR (ret1 rfl rfl ⟨rfl, E⟩))))))))))))))
end Go.Proofs.YtknndpjacklkeaaGreatDoor.V

set_option linter.unusedVariables false
set_option linter.unusedSimpArgs false
set_option maxRecDepth 10000
namespace Go.Proofs.YtknndpjacklkeaaGreatDoor.V
open Go Go.Proofs
theorem ent133 : Ent Tryz.prog 133 := Ent.of Tryz.func133 (by kernel_rfl) (by kernel_rfl)
theorem c_encL (A : List Nat) (w : World) (b : List UInt8) (v : Value) (R : Rep A w (byD b) v) (hb : b.length ≤ 1000000) (url : Bool) : Calls Tryz.prog 88 [v, .bool url].toArray w (Ret fun u w' => u = S (ltrL b url) ∧ Mod [] w w') := by
 refine enter Tryz.func88 rfl rfl rfl (l := [(0, _), (1, _)]) ⟨rfl, rfl, trivial⟩ ?_
 have E := Mod.refl [] w
 obtain ⟨ad, c, rfl, hc1, hc2⟩ := flat_len R
 refine Cq fun K1 hK1 => Cr (Za rfl (Ln (e_K (hK1 _ _ _ _ (Cq fun K2 hK2 => Cr (Zm rfl (sc (oC ent133 rfl) (c_alpha _ url) rfl fun v_ w1 h_ => ?_)))))))
 obtain ⟨rfl, E_⟩ := h_
 replace E := E.then E_
 refine Za rfl (Ln (e_K (hK2 _ _ _ _ (Cq fun K3 hK3 => Cr (Za rfl (Ln (e_K (hK3 _ _ _ _ (Cq fun K4 hK4 => Cr (tW 2 rfl (Ln (e_K (hK4 _ _ _ _ (Cq fun K5 hK5 => ?_))))))))))))))
 refine Cq fun K6 hK6 => Cr (Zm rfl (Sv (o_len Tryz.underlying74 rfl) (Zm rfl (Ln (e_K (hK6 _ _ _ _ (cB (c_loop (σ := Nat × Value) (fun ⟨k, vo⟩ => [(5, S (alphaL url)), (6, vo), (7, .int .u64 (accL b k : Int)), (8, .int .i64 ((8 * k - 6 * (8 * k / 6) : Nat) : Int)), (13, .slice ad b.length c), (14, .int .i64 b.length), (15, .int .i64 (k : Int))]) (fun ⟨k, vo⟩ w1 => k ≤ b.length ∧ Own w1 5 1 vo (ltrT b url (8 * k / 6)).length (((ltrT b url (8 * k / 6)).map bcells).flatten) ∧ (∀ y ∈ ob vo, w.heap.size ≤ y) ∧ Mod [] w w1) (fun ⟨k, vo⟩ => b.length - k) (⟨0, .slice none 0 0⟩) ⟨rfl, rfl, rfl, rfl, rfl, rfl, rfl, trivial⟩ (⟨by omega, Own.nil _ _ _, by simp [ob], E⟩) ?_))))))))
 rintro ⟨k, vo⟩ w2 ⟨hk, OL, LO, E⟩
 refine Cq fun K7 hK7 => Cr (Sv (o_lss rfl rfl) (Ln (e_K (hK7 _ _ _ _ (Cq fun K8 hK8 => ?_)))))
 refine c_if rfl (fun h16 => ?_) (fun h16 => ?_)
 ·have hlt : k < b.length := by omega
  obtain ⟨x, hx_x⟩ : ∃ x, b[k]? = some x := ⟨_, List.getElem?_eq_getElem (by omega)⟩
  obtain ⟨a_x, ha_x, hcs_x, _⟩ := flat_at (R.to0 E) hx_x
  obtain rfl := ha_x
  have hx8 : x.toNat < 256 := UInt8.toNat_lt _
  refine cK (e_K (hK8 _ _ _ _ (Cq fun K9 hK9 => cB (Cq fun K10 hK10 => Cr (Sv (o_ix sl74 rfl rfl (by omega)) (Sv (oL sc5 rfl hcs_x.c0) (Za rfl (Ln (e_K (hK10 _ _ _ _ (Cq fun K11 hK11 => Cr (Zm rfl ?_))))))))))))
  refine Sv (o_shlE (r := ((accL b k % 72057594037927936 * 256 : Nat) : Int)) rfl rfl (by omega) (shl_eight _)) (Zm rfl (Sv (o_convE (r := (x.toNat : Int)) Tryz.underlying5 Tryz.underlying144 rfl (wrapu64_in _ (by omega))) (Sv (o_orE (r := (accL b (k + 1) : Int)) rfl rfl (by rw [accL_succ hx_x]; exact or256 (by omega) hx8)) (Zm rfl (Sv (o_addE (r := ((8 * (k + 1) - 6 * (8 * k / 6) : Nat) : Int)) rfl rfl (by rw [wrap64_in _ (by omega)]; omega)) (tW 2 rfl (Ln (e_K (hK11 _ _ _ _ (cB (c_loop (σ := Nat × Value) (fun ⟨j, vo⟩ => [(5, S (alphaL url)), (6, vo), (7, .int .u64 (accL b (k + 1) : Int)), (8, .int .i64 ((8 * (k + 1) - 6 * j : Nat) : Int)), (13, .slice (some a_x) b.length c), (14, .int .i64 b.length), (15, .int .i64 (k : Int))]) (fun ⟨j, vo⟩ w1 => 6 * j ≤ 8 * (k + 1) ∧ 8 * k < 6 * j + 6 ∧ Own w1 5 1 vo (ltrT b url j).length (((ltrT b url j).map bcells).flatten) ∧ (∀ y ∈ ob vo, w.heap.size ≤ y) ∧ Mod [] w w1) (fun ⟨j, vo⟩ => 8 * (k + 1) - 6 * j) (⟨8 * k / 6, vo⟩) ⟨rfl, rfl, rfl, rfl, rfl, rfl, rfl, trivial⟩ (⟨by omega, by omega, OL, LO, E⟩) ?_)))))))))))
  rintro ⟨j, vo⟩ w3 ⟨hj1, hj2, OL, LO, E⟩
  refine Cq fun K12 hK12 => Cq fun K13 hK13 => Cr (Zm rfl (Sv (o_geq rfl rfl) (Ln (e_K (hK13 _ _ _ _ ?_)))))
  refine c_if rfl (fun h27 => ?_) (fun h27 => ?_)
  ·refine cK (e_K (hK12 _ _ _ _ (cB (Cq fun K14 hK14 => Cr (Zm rfl (Sv (o_subE (r := ((8 * (k + 1) - 6 * (j + 1) : Nat) : Int)) rfl rfl (by rw [wrap64_in _ (by omega)]; omega)) (Za rfl (Ln (e_K (hK14 _ _ _ _ (Cr (tW 4 rfl (Sv (o_shrE (r := ((accL b (k + 1) / 2 ^ (8 * (k + 1) - 6 * (j + 1)) : Nat) : Int)) rfl rfl (by omega) (shr_acc (by omega))) (Sv (o_andE (r := (sixL b (6 * j) : Int)) rfl rfl (by rw [← accL_six b (k := k + 1) (i := 6 * j) (r := 8 * (k + 1) - 6 * (j + 1)) (by omega) (by omega) (by omega)]; exact and63G (accL_div _ _ _))) ?_))))))))))))))
   refine Sv (o_sidx (u := alphaL url) (c := letL (sixL b (6 * j)) url) Tryz.underlying9 rfl rfl (by omega) (alpha_at url (sixL_lt _ _))) (s_bslice (cs := [_]) sl74 zv5 rfl rfl rfl (by decide) rfl fun g1 w4 N1 => ?_)
   have Lg1_E := N1.le E
   replace OL := OL.mod0 N1.mod
   replace E := E.then N1.mod
   have Bg1 := N1.blk
   refine s_append sl74 rfl rfl OL (Src.own Tryz.underlying74 (Own.all (sz := 1) (c := 1) (cs := [_]) Bg1 rfl (by omega)) (fun u hu => by simp at hu; subst hu; rfl)) (by decide) (by have := ltrT_len b url j; omega) (by have := ltrT_len b url j; omega) rfl fun vn w5 AL => ?_
   have O2 : Own w5 5 1 vn (ltrT b url (j + 1)).length (((ltrT b url (j + 1)).map bcells).flatten) := AL.own.same (by rw [ltrT_succ]; simp) (by rw [ltrT_succ]; simp <;> rfl)
   have L2 : ∀ y ∈ ob vn, w.heap.size ≤ y := fun y hy => (AL.ob_ y hy).elim (LO y) (fun h => Nat.le_trans E.size h)
   replace E := E.trans' AL.mod (fun y hy => .inr (LO y hy))
   exact Za rfl (Ln (eI (by simp) (eR (σ := Nat × Value) (s := ⟨j, vo⟩) (⟨j + 1, vn⟩) ⟨rfl, rfl, rfl, rfl, rfl, rfl, rfl, trivial⟩ ⟨by omega, by omega, O2, L2, E⟩ (by dsimp only; omega))))
  ·have hj6 : j = 8 * (k + 1) / 6 := by omega
   subst hj6
   exact c_exit (eT (by simp) (eT (by simp) (e_hit (eI (by simp) (e_K (hK9 _ _ _ _ (Cr (Sv (o_addN rfl rfl (by omega)) (Zm rfl (Ln (eR (σ := Nat × Value) (s := ⟨k, vo⟩) (⟨k + 1, vo⟩) ⟨rfl, rfl, rfl, rfl, rfl, rfl, rfl, trivial⟩ ⟨by omega, OL, LO, E⟩ (by dsimp only; omega))))))))))))
 ·have hkk : k = b.length := by omega
  subst hkk
  refine c_exit (eT (by simp) (eT (by simp) (e_hit (e_K (hK5 _ _ _ _ (Cq fun K15 hK15 => Cq fun K16 hK16 => Cr (tW 2 rfl (Ln (e_K (hK16 _ _ _ _ ?_))))))))))
  refine c_if rfl (fun h41 => ?_) (fun h41 => ?_)
  ·have hq : (8 * b.length + 5) / 6 = 8 * b.length / 6 + 1 := by omega
   refine Cr (tW 4 rfl (Sv (o_subE (r := ((6 - (8 * b.length - 6 * (8 * b.length / 6)) : Nat) : Int)) rfl rfl (by rw [wrap64_in _ (by omega)]; omega)) (Sv (o_shlE (r := ((accL b b.length * 2 ^ (6 - (8 * b.length - 6 * (8 * b.length / 6))) % 18446744073709551616 : Nat) : Int)) rfl rfl (by omega) (shl_acc (by omega))) (Sv (o_andE (r := (sixL b (6 * (8 * b.length / 6)) : Int)) rfl rfl (by rw [← end_six b rfl (by omega)]; exact and63G (Nat.mod_lt _ (by decide)))) (Sv (o_sidx (u := alphaL url) (c := letL (sixL b (6 * (8 * b.length / 6))) url) Tryz.underlying9 rfl rfl (by omega) (alpha_at url (sixL_lt _ _))) (s_bslice (cs := [_]) sl74 zv5 rfl rfl rfl (by decide) rfl fun g2 w6 N2 => ?_))))))
   have Lg2_E := N2.le E
   replace OL := OL.mod0 N2.mod
   replace E := E.then N2.mod
   have Bg2 := N2.blk
   refine s_append sl74 rfl rfl OL (Src.own Tryz.underlying74 (Own.all (sz := 1) (c := 1) (cs := [_]) Bg2 rfl (by omega)) (fun u hu => by simp at hu; subst hu; rfl)) (by decide) (by have := ltrT_len b url (8 * b.length / 6); omega) (by have := ltrT_len b url (8 * b.length / 6); omega) rfl fun vn w7 AL => ?_
   have O2 : Own w7 5 1 vn (ltrT b url ((8 * b.length / 6) + 1)).length (((ltrT b url ((8 * b.length / 6) + 1)).map bcells).flatten) := AL.own.same (by rw [ltrT_succ]; simp) (by rw [ltrT_succ]; simp <;> rfl)
   have L2 : ∀ y ∈ ob vn, w.heap.size ≤ y := fun y hy => (AL.ob_ y hy).elim (LO y) (fun h => Nat.le_trans E.size h)
   replace E := E.trans' AL.mod (fun y hy => .inr (LO y hy))
   exact Za rfl (Ln (e_K (hK15 _ _ _ _ (Cq fun K17 hK17 => Cr (Zm rfl (Sv (o_b2s_own (u := ltrL b url) Tryz.underlying74 Tryz.underlying5 Tryz.underlying9 rfl (by rw [ltr_end hq]; exact O2.as rfl (ltr_B8 _))) (Za rfl (Ln (e_K (hK17 _ _ _ _ (cR (ret1 rfl rfl ⟨rfl, E⟩))))))))))))
  ·have hq : (8 * b.length + 5) / 6 = 8 * b.length / 6 := by omega
   exact cK (e_K (hK15 _ _ _ _ (Cq fun K18 hK18 => Cr (Zm rfl (Sv (o_b2s_own (u := ltrL b url) Tryz.underlying74 Tryz.underlying5 Tryz.underlying9 rfl (by rw [ltr_end hq]; exact OL.as rfl (ltr_B8 _))) (Za rfl (Ln (e_K (hK18 _ _ _ _ (cR (ret1 rfl rfl ⟨rfl, E⟩)))))))))))
end Go.Proofs.YtknndpjacklkeaaGreatDoor.V

set_option linter.unusedVariables false
set_option linter.unusedSimpArgs false
namespace Go.Proofs.YtknndpjacklkeaaGreatDoor.V
open Go
section
variable {P : Program} {ops : Array Oper} {Q : Exit → Act → World → Prop} {n : Nat} {ds : List Deferred} {l : List (Nat × Value)} {w w' : World} {a : Act}
variable {rest : List Oper} {d : Nat} {op : Op} {ty : TypeId} {pos : String} {af : Array Edge}
variable {dd : Option Nat} {gg : Option (Nat × Bool)} {x y z : Operand} {t t' : TypeId}
theorem s_appin {tx e sz by_ N c k c' : Nat} {ad : Addr} {u : Value} {vs news : List Value} (ht : slB P t e sz by_ = true) (O : Own w e sz (.slice (some ad) N c) N vs) (hx : evO l x = some (.slice (some ad) k c)) (hy : evO l y = some u)
  (hs : Src P sz tx u c' news w) (hk : k + c' ≤ N) (hd : Nat.blt d n = true)
  (h : ∀ w', Own w' e sz (.slice (some ad) N c) N (vs.take (k * sz) ++ news ++ vs.drop ((k + c') * sz)) → Mod [ad.block] w w' → w'.heap.size = w.heap.size → WL P ops Q rest n ds ((d, .slice (some ad) (k + c') c) :: l) w') :
  WL P ops Q (⟨some d, .call { callee := .builtin .append, args := #[x, y], argTypes := #[t, tx] }, ty, pos, af, none⟩ :: rest) n ds l w := by
 obtain ⟨i, z, h1, h2, h3, h4, h5, h6⟩ := slB_spec ht
 subst h3
 rcases O.2 with ⟨h0, _⟩ | ⟨g, o, cap, cs, hv, hB, hc1, hc2, hc3, hc4⟩
 ·cases h0
 injection hv with e1 e2 e3
 injection e1 with e1
 subst e1; subst e3
 have hnl := hs.newsLen
 have hle : (k + c') * i.size ≤ N * i.size := Nat.mul_le_mul_right _ hk
 have hle2 : N * i.size ≤ c * i.size := Nat.mul_le_mul_right _ hc1
 have hvl := O.1
 have hadd : (k + c') * i.size = k * i.size + c' * i.size := Nat.add_mul _ _ _
 have hroom : k + c' ≤ c := by omega
 obtain ⟨w1, hst, hp⟩ := storeCells_put (P := P) hB (o := o + k * i.size) (vs := news) (by rw [hnl]; omega) hs.one
 have hr : (Builtin.append_ #[t, tx] ty #[.slice (some ⟨g, o, none⟩) k c, u]).run P w = .ok (.slice (some ⟨g, o, none⟩) (k + c') c) w1 := by
  rcases hs.kind with ⟨e', hk⟩ | hk <;> simp [Builtin.append_, run_underlying h1, run_underlying hk, sizeOf, typeInfo, h2, hs.len, hroom, hs.cells, Addr.add_lit, hst]
 refine sv (v := .slice (some ⟨g, o, none⟩) (k + c') c) (w' := w1) (fun ρ hρ => ?_) hd (h w1 ⟨?_, .inr ⟨g, o, c, _, rfl, hp.blk, hc1, hc2, by simp [splice]; omega, ?_⟩⟩ hp.mod hp.size)
 ·simp [execOp, resolve, invoke, builtin, hρ _ _ hx, hρ _ _ hy, hr]
 ·simp only [List.length_append, List.length_take, List.length_drop, hnl, hvl]
  omega
 ·subst hc4
  apply List.ext_getElem?
  intro j
  simp only [splice, hnl]
  simp only [List.getElem?_take, List.getElem?_drop, List.getElem?_append, List.length_append, List.length_take, List.length_drop, hnl]
  repeat' split
  all_goals first
   | omega
   | rfl
   | (congr 1; omega)
theorem o_sl3g {ad : Option Addr} {c c' e sz by_ lo hi mx : Nat} {h h' h'' : Operand} (ht : slB P t e sz by_ = true) (hx : evO l x = some (.slice ad c c')) (hl : evO l h = some (.int .i64 (lo : Int))) (hh : evO l h' = some (.int .i64 (hi : Int))) (hm : evO l h'' = some (.int .i64 (mx : Int))) (hb : lo ≤ hi ∧ hi ≤ mx ∧ mx ≤ c') :
  Runs P l ⟨dd, .slice t x (some h) (some h') (some h''), ty, pos, af, gg⟩ w (.slice (adS ad mx lo sz) (hi - lo) (mx - lo)) w := fun ρ hρ => by
 obtain ⟨i, z, h1, h2, h3, h4, h5, h6⟩ := slB_spec ht
 subst h3
 have s1 := run_sliceBound (P := P) (w := w) .i64 (mx : Int) c' .slice3Acap (by omega) (by omega)
 have s2 := run_sliceBound (P := P) (w := w) .i64 (hi : Int) mx .slice3B (by omega) (by omega)
 have s3 := run_sliceBound (P := P) (w := w) .i64 (lo : Int) hi .slice3C (by omega) (by omega)
 simp [execOp, Instr.sliceAt, Instr.slice, hρ _ _ hx, hρ _ _ hl, hρ _ _ hh, hρ _ _ hm, run_underlying h1, run_sizeOf_of h2, Instr.sliceBounds, s1, s2, s3, adS]
end
theorem del_cells {vs : List Value} {n i sz : Nat} (hl : vs.length = n * sz) (hi : i < n) :
  (vs.take (i * sz) ++ (vs.drop ((i + 1) * sz)).take ((n - (i + 1)) * sz) ++ vs.drop ((i + (n - (i + 1))) * sz)).take ((i + (n - (i + 1))) * sz) = vs.take (i * sz) ++ vs.drop ((i + 1) * sz) := by
 have h1 : (i + 1) * sz + (n - (i + 1)) * sz = n * sz := by rw [← Nat.add_mul]; congr 1; omega
 have h2 : (i + (n - (i + 1))) * sz = i * sz + (n - (i + 1)) * sz := Nat.add_mul _ _ _
 have h3 : i * sz ≤ n * sz := Nat.mul_le_mul_right _ (by omega)
 have h4 : (vs.drop ((i + 1) * sz)).take ((n - (i + 1)) * sz) = vs.drop ((i + 1) * sz) := List.take_of_length_le (by rw [List.length_drop]; omega)
 rw [h4]
 refine List.take_left' ?_
 rw [List.length_append, List.length_take, List.length_drop]
 omega
end Go.Proofs.YtknndpjacklkeaaGreatDoor.V

set_option linter.unusedVariables false
set_option linter.unusedSimpArgs false
set_option maxRecDepth 10000
namespace Go.Proofs.YtknndpjacklkeaaGreatDoor.V
open Go Go.Proofs

theorem c_delM (w : World) (n i c : Nat) (ad : Addr) (vs : List Value) (O : Own w 44 7 (.slice (some ad) n c) n vs) (h1 : ∀ u ∈ vs, u.oneCell' = true) (hi : i < n) (hn : n ≤ 1353245080310) : Calls Tryz.prog 62 [.slice (some ad) n c, .int .i64 (i : Int), .int .i64 ((i + 1 : Nat) : Int)].toArray w (Ret fun u w' => u = .slice (some ad) (i + (n - (i + 1))) c ∧ Own w' 44 7 u (n - 1) (vs.take (i * 7) ++ vs.drop ((i + 1) * 7)) ∧ Mod [ad.block] w w') := by
 refine enter Tryz.func62 rfl rfl rfl (l := [(0, _), (1, _), (2, _)]) ⟨rfl, rfl, rfl, trivial⟩ ?_
 have E := Mod.refl [] w
 obtain ⟨ad1, c1, hf, hnc, hcm⟩ := O.form
 injection hf with e1 e2 e3
 subst e1; subst e3
 refine Cq fun K1 hK1 => Cr (Za rfl (Ln (e_K (hK1 _ _ _ _ (Cq fun K2 hK2 => Cr (tW 4 rfl (Sv (o_len Tryz.underlying23 rfl) (Sv (o_sl3g (lo := i) (hi := i + 1) (mx := n) sl23 rfl rfl rfl rfl (by omega)) (Ln (e_K (hK2 _ _ _ _ (Cq fun K3 hK3 => Cq fun K4 hK4 => ?_))))))))))))
 refine Cr (tW 2 rfl (Sv ((oE rfl rfl).to (v' := .bool false) (congrArg Value.bool (dF (by omega)))) (Ln (e_K (hK4 _ _ _ _ (c_false rfl (cK (e_K (hK3 _ _ _ _ (Cq fun K5 hK5 => Cr (Zm rfl (Sv (o_len Tryz.underlying23 rfl) (Za rfl (Ln ?_))))))))))))))
 refine e_K (hK5 _ _ _ _ (Cq fun K6 hK6 => c_drawp [] [0, 1, 2, 3, 4, 5] 6 [7] wide (by kernel_rfl) (fun _ _ _ h => h.2) (pw_nil (tU 2 rfl rfl (tv (fun w_ E_ => (o_slto sl23 rfl rfl (by omega) hnc)) rfl rfl (tU 2 rfl rfl (tv (fun w_ E_ => (o_slfrom (lo := i + 1) sl23 rfl rfl (by omega) hnc)) rfl rfl (tw_tail rfl fun w1 E_ => ?_))))))))
 replace E := E.then E_
 have O1 := O.mod0 E
 have OC1 := O1.cut (lo := i + 1) (hi := n) (by omega) (Nat.le_refl n)
 refine s_appin sl23 O1 rfl rfl (Src.own Tryz.underlying23 OC1 (fun u hu => h1 u (List.mem_of_mem_drop (List.mem_of_mem_take hu)))) (by omega) rfl fun w2 O2 EX hzX => ?_
 have EO : Mod [ad.block] w w2 := (E.mono (by simp)).trans EX
 clear E
 refine Za rfl (Ln (e_K (hK6 _ _ _ _ (Cq fun K7 hK7 => Cr (tW 2 rfl (Sv (o_len Tryz.underlying23 rfl) (Zm rfl (Sv (o_slft (lo := (i + (n - (i + 1)))) (hi := n) sl23 rfl rfl rfl (by omega) (by omega)) (s_clear sl23 zv44 rfl (by decide) (by simp [Value.oneCell']) O2 (k := (i + (n - (i + 1)))) (by omega) rfl fun w3 O3 EC hzC => ?_)))))))))
 have EO2 := EO.trans EC
 exact Ln (e_K (hK7 _ _ _ _ (Cq fun K8 hK8 => Cr (tW 2 rfl (Ln (e_K (hK8 _ _ _ _ (cR (ret1 rfl rfl ⟨rfl, O3.same (by omega) (del_cells O.1 hi), EO2⟩)))))))))
end Go.Proofs.YtknndpjacklkeaaGreatDoor.V

set_option linter.unusedVariables false
set_option linter.unusedSimpArgs false
namespace Go.Proofs.YtknndpjacklkeaaGreatDoor.V
open Go
def delM (m : List (Str × JV)) (k : Str) : List (Str × JV) := m.filter fun q => decide (q.1 ≠ k)
theorem del_at : ∀ {m : List (Str × JV)} {p : Nat} {y : Str × JV}, ascM m → m[p]? = some y → delM m y.1 = m.take p ++ m.drop (p + 1)
 | [], _, _, _, h => by simp at h
 | a :: r, 0, y, ha, h => by
  injection h with h
  subst h
  have hr := (List.pairwise_cons.1 ha).1
  unfold delM
  rw [List.filter_cons, if_neg (by simp)]
  simp only [List.take_zero, List.nil_append, List.drop_succ_cons, List.drop_zero]
  exact List.filter_eq_self.2 fun b hb => decide_eq_true fun e => by
   have := hr b hb
   rw [e, bl_irrefl] at this
   cases this
 | a :: r, p + 1, y, ha, h => by
  have h' : r[p]? = some y := by simpa using h
  have ih := del_at (List.pairwise_cons.1 ha).2 h'
  have hne : a.1 ≠ y.1 := fun e => by
   have := (List.pairwise_cons.1 ha).1 y (List.mem_of_getElem? h')
   rw [e, bl_irrefl] at this
   cases this
  unfold delM at ih ⊢
  rw [List.filter_cons, if_pos (decide_eq_true hne), ih]
  simp
theorem del_none {m : List (Str × JV)} {k : Str} (h : look m k = none) : delM m k = m :=
 List.filter_eq_self.2 fun q hq => decide_eq_true (look_none h q hq)
theorem del_asc {m : List (Str × JV)} {k : Str} (h : ascM m) : ascM (delM m k) := List.Pairwise.filter _ h
theorem JV.rows_del {A : List Nat} {w : World} {m : List (Str × JV)} {vs : List Value} {i : Nat} (h : Reps A w (m.map JV.Dp).flatten vs) (hi : i < m.length) :
  Reps A w ((m.take i ++ m.drop (i + 1)).map JV.Dp).flatten (vs.take (i * 7) ++ vs.drop ((i + 1) * 7)) := by
 obtain ⟨h1, _⟩ := Reps.rows_at (i := i) (JV.Dp_all m) (by simpa using Nat.le_of_lt hi) h
 obtain ⟨_, h2⟩ := Reps.rows_at (i := i + 1) (JV.Dp_all m) (by rw [List.length_map]; omega) h
 rw [List.map_append, List.flatten_append, List.map_take, List.map_drop]
 exact h1.append h2
end Go.Proofs.YtknndpjacklkeaaGreatDoor.V

set_option linter.unusedVariables false
set_option linter.unusedSimpArgs false
set_option maxRecDepth 10000
namespace Go.Proofs.YtknndpjacklkeaaGreatDoor.V
open Go Go.Proofs
theorem ent62 : Ent Tryz.prog 62 := Ent.of Tryz.func62 (by kernel_rfl) (by kernel_rfl)
theorem c_jdrop (A : List Nat) (w : World) (hA : ∀ a ∈ A, a < w.heap.size) (v : JV) (us : List Value) (R : Reps A w v.D us) (k : Str) (ha : ascM v.tbl) (hn : v.tbl.length ≤ 1353245080310) : Calls Tryz.prog 26 [.agg us.toArray, S k].toArray w (Ret fun u w' => ∃ us', u = .agg us'.toArray ∧ Reps A w' (JV.obj (delM v.tbl k)).D us' ∧ Mod [] w w') := by
 refine enter Tryz.func26 rfl rfl rfl (l := [(0, _), (1, _)]) ⟨rfl, rfl, trivial⟩ ?_
 have E := Mod.refl [] w
 obtain ⟨al, cl, am, cm, rfl, Rl, Rm⟩ := JV.cells_ R
 have R := JV.reps_ Rl Rm
 refine Cq fun K1 hK1 => Cr (s_box rfl rfl rfl fun g1 w1 N1 => ?_)
 have Lg1_E := N1.le E
 replace E := E.then N1.mod
 have Bg1 := N1.blk
 refine s_alloc zv25 rfl fun g2 w2 N2 => ?_
 have Lg2_E := N2.le E
 have Dg1_g2 := N2.ne Bg1
 replace Bg1 := Bg1.mod0 N2.mod
 replace E := E.then N2.mod
 have Bg2 := N2.blk
 refine Ln (e_K (hK1 _ _ _ _ (Cq fun K2 hK2 => Cr (Sv (o_lda (vs := [_, _, _, _, _, _]) ag25 rfl rfl (Bg1.cs rfl)) (sc (oC ent59 rfl) (c_jtable A w _ v _ R) rfl fun v_ w3 h_ => ?_)))))
 obtain ⟨Rt, E_⟩ := h_
 replace Bg1 := Bg1.mod0 E_
 replace Bg2 := Bg2.mod0 E_
 replace E := E.then E_
 have hlt1 := Bg1.lt
 have hlt2 := Bg2.lt
 have hsz1 := E.size
 refine sc (oC ent58 rfl) (c_cloneM A w _ v.tbl _ Rt E hn) rfl fun v_ w4 h_ => ?_
 obtain ⟨vs, Oc, hvs, Lc, E_⟩ := h_
 replace Bg1 := Bg1.mod0 E_
 replace Bg2 := Bg2.mod0 E_
 replace E := E.then E_
 have D1 : ∀ x ∈ ob v_, x ≠ g1 := fun x hx e => by have := Lc x hx; omega
 have D2 : ∀ x ∈ ob v_, x ≠ g2 := fun x hx e => by have := Lc x hx; omega
 have L1 : ∀ x ∈ ob v_, w.heap.size ≤ x := fun x hx => by have := Lc x hx; omega
 obtain ⟨ad3, c3, rfl, hd1, hd2⟩ := Oc.form
 refine Sv (o_build (cs := [_, _, _, _, _, _]) pl25 zv25 rfl rfl) (s_alloc zv25 rfl fun g3 w5 N3 => ?_)
 have Lg3_E := N3.le E
 have Dg1_g3 := N3.ne Bg1
 have Dg2_g3 := N3.ne Bg2
 have Doc_g3 := N3.own_ne Oc
 replace Bg1 := Bg1.mod0 N3.mod
 replace Bg2 := Bg2.mod0 N3.mod
 replace E := E.then N3.mod
 replace Oc := Oc.mod0 N3.mod
 have Bg3 := N3.blk
 refine s_sta (vs := [_, _, _, _, _, _]) ag25 Bg3 rfl rfl rfl (by simp [Value.oneCell']) (by simp) fun w6 P6 => ?_
 replace Bg1 := Bg1.ne P6.mod (Ne.symm (Ne.symm Dg1_g3))
 replace Bg2 := Bg2.ne P6.mod (Ne.symm (Ne.symm Dg2_g3))
 replace E := E.own P6.mod Lg3_E
 replace Oc := Oc.put P6.mod Doc_g3
 replace Bg3 : Blk w6 g3 _ [_, _, _, _, _, _] := P6.blk
 refine Ln (e_K (hK2 _ _ _ _ (Cq fun K3 hK3 => Cq fun K4 hK4 => Cr (Sv (oA0 fd25_5 rfl) (Sv (oL sc23 rfl (Bg3.cell rfl)) (Zm rfl ?_))))))
 have RO := Own.mem_ (A := []) Oc ((hvs.anti (by simp)).to0 E) rfl (by simp)
 refine sc (oC ent60 rfl) (c_jfind _ v.tbl _ RO k ha hn) rfl fun v_ w7 h_ => ?_
 obtain ⟨rfl, E_⟩ := h_
 replace Bg1 := Bg1.mod0 E_
 replace Bg2 := Bg2.mod0 E_
 replace Bg3 := Bg3.mod0 E_
 replace E := E.then E_
 replace Oc := Oc.mod0 E_
 refine tW 5 rfl (Ln (e_K (hK4 _ _ _ _ (Cq fun K5 hK5 => Cr (Zm rfl (Ln (e_K (hK5 _ _ _ _ ?_))))))))
 refine c_cond rfl (fun h19 => ?_) (fun h19 => ?_)
 ·obtain ⟨y, hy, hyk, _⟩ := isM_some ha h19
  have hpl := (List.getElem?_eq_some_iff.1 hy).1
  obtain ⟨ad3, rfl⟩ : ∃ a, ad3 = some a := by
   cases ad3 with
   | some a => exact ⟨a, rfl⟩
   | none => have := JV.none_m RO; rw [this] at hpl; simp at hpl
  refine Cr (Sv (oA0 fd25_5 rfl) (Sv (oL sc23 rfl (Bg3.cell rfl)) (tW 2 rfl (Sv (o_addE (r := ((posM v.tbl k + 1 : Nat) : Int)) rfl rfl (by rw [wrap64_in _ (by omega)]; omega)) (sc (oC ent62 rfl) (c_delM _ v.tbl.length (posM v.tbl k) c3 ad3 vs Oc hvs.one hpl hn) rfl fun v_ w8 h_ => ?_)))))
  obtain ⟨rfl, Oz, E_⟩ := h_
  have hK : posM v.tbl k + (v.tbl.length - (posM v.tbl k + 1)) = v.tbl.length - 1 := by omega
  rw [hK] at Oz ⊢
  have Lz : ∀ x ∈ ob (.slice (some ad3) (v.tbl.length - 1) c3), w.heap.size ≤ x := fun x hx => L1 x (by simpa [ob] using hx)
  have Dz2 : ∀ x ∈ ob (.slice (some ad3) (v.tbl.length - 1) c3), x ≠ g2 := fun x hx => D2 x (by simpa [ob] using hx)
  have Dz3 : ∀ x ∈ ob (.slice (some ad3) (v.tbl.length - 1) c3), x ≠ g3 := fun x hx => Doc_g3 x (by simpa [ob] using hx)
  replace E := E.trans' E_ (fun x hx => .inr (L1 x (by simpa [ob] using hx)))
  replace Bg2 := Bg2.mod E_ (fun h => D2 ad3.block (by simp [ob]) (List.mem_singleton.1 h).symm)
  replace Bg3 := Bg3.mod E_ (fun h => Doc_g3 ad3.block (by simp [ob]) (List.mem_singleton.1 h).symm)
  have hzs := JV.rows_del hvs hpl
  have hde : delM v.tbl k = v.tbl.take (posM v.tbl k) ++ v.tbl.drop (posM v.tbl k + 1) := by have h8 := del_at ha hy; rw [hyk] at h8; exact h8
  rw [← hde] at hzs
  have hzl : (delM v.tbl k).length = v.tbl.length - 1 := by rw [hde, List.length_append, List.length_take, List.length_drop]; omega
  refine Sv (oA0 fd25_5 rfl) (s_st sc23 Bg3 rfl rfl rfl (by simp) fun w9 P9 => ?_)
  replace Bg2 := Bg2.ne P9.mod (Ne.symm (Ne.symm Dg2_g3))
  replace E := E.own P9.mod Lg3_E
  replace Oz := Oz.put P9.mod Dz3
  replace Bg3 : Blk w9 g3 _ [_, _, _, _, _, _] := P9.blk
  refine Ln (e_K (hK3 _ _ _ _ (Cq fun K6 hK6 => Cr (Sv (o_lda (vs := [_, _, _, _, _, _]) ag25 rfl rfl (Bg3.cs rfl)) (s_sta (vs := [_, _, _, _, _, _]) ag25 Bg2 rfl rfl rfl (by simp [Value.oneCell']) (by simp) fun w10 P10 => ?_)))))
  replace Bg3 := Bg3.ne P10.mod (Ne.symm Dg2_g3)
  replace E := E.own P10.mod Lg2_E
  replace Oz := Oz.put P10.mod Dz2
  replace Bg2 : Blk w10 g2 _ [_, _, _, _, _, _] := P10.blk
  exact Ln (e_K (hK6 _ _ _ _ (cR (retc (vs := [_, _, _, _, _, _]) rfl ag25 rfl rfl (Bg2.cs rfl) ⟨_, rfl, JV.obj_repsN hzl (Own.mem_ Oz (hzs.to0 E) hzl (fun x hx h => by have := Lz x hx; have := hA x h; omega)), E⟩))))
 ·have hdn : delM v.tbl k = v.tbl := del_none (by cases hl : look v.tbl k with | none => rfl | some z => rw [hl] at h19; simp at h19)
  have hzs := hvs
  have hzl : (delM v.tbl k).length = v.tbl.length := by rw [hdn]
  rw [← hdn] at hzs
  have Lz := L1
  refine cK (e_K (hK3 _ _ _ _ (Cq fun K7 hK7 => Cr (Sv (o_lda (vs := [_, _, _, _, _, _]) ag25 rfl rfl (Bg3.cs rfl)) (s_sta (vs := [_, _, _, _, _, _]) ag25 Bg2 rfl rfl rfl (by simp [Value.oneCell']) (by simp) fun w11 P11 => ?_)))))
  replace Bg1 := Bg1.ne P11.mod (Ne.symm (Ne.symm Dg1_g2))
  replace Bg3 := Bg3.ne P11.mod (Ne.symm Dg2_g3)
  replace E := E.own P11.mod Lg2_E
  replace Oc := Oc.put P11.mod D2
  replace Bg2 : Blk w11 g2 _ [_, _, _, _, _, _] := P11.blk
  exact Ln (e_K (hK7 _ _ _ _ (cR (retc (vs := [_, _, _, _, _, _]) rfl ag25 rfl rfl (Bg2.cs rfl) ⟨_, rfl, JV.obj_repsN hzl (Own.mem_ Oc (hzs.to0 E) hzl (fun x hx h => by have := Lz x hx; have := hA x h; omega)), E⟩))))
end Go.Proofs.YtknndpjacklkeaaGreatDoor.V

set_option linter.unusedVariables false
set_option linter.unusedSimpArgs false
namespace Go.Proofs.YtknndpjacklkeaaGreatDoor.V
open Go
def dropJ (v : JV) (k : Str) : JV := JV.obj (delM v.tbl k)
noncomputable def EV.wo (e : EV) (ks : List Str) : Str := if e.ern ≠ 0 then [] else bts ((ks.foldl dropJ e.val).wr 0 [])
theorem drops_asc {v : JV} (ha : ascM v.tbl) (hl : v.tbl.length ≤ 1000000) : ∀ ks : List Str, ascM (ks.foldl dropJ v).tbl ∧ (ks.foldl dropJ v).tbl.length ≤ 1353245080310 := fun ks => by
 have : ∀ (ks : List Str) (v : JV), ascM v.tbl → v.tbl.length ≤ 1000000 → ascM (ks.foldl dropJ v).tbl ∧ (ks.foldl dropJ v).tbl.length ≤ 1000000 := by
  intro ks
  induction ks with
  | nil => intro v h1 h2; exact ⟨h1, h2⟩
  | cons k ks ih =>
   intro v h1 h2
   exact ih (dropJ v k) (del_asc h1) (Nat.le_trans (List.length_filter_le _ _) h2)
 have h := this ks v ha hl
 exact ⟨h.1, by omega⟩
theorem drops_succ {ks : List Str} {k : Nat} {x : Str} {v : JV} (h : ks[k]? = some x) : (ks.take (k + 1)).foldl dropJ v = dropJ ((ks.take k).foldl dropJ v) x := by
 rw [List.take_add_one, h, Option.toList_some, List.foldl_append]
 rfl
end Go.Proofs.YtknndpjacklkeaaGreatDoor.V

set_option linter.unusedVariables false
set_option linter.unusedSimpArgs false
set_option maxRecDepth 10000
namespace Go.Proofs.YtknndpjacklkeaaGreatDoor.V
open Go Go.Proofs
theorem ent26 : Ent Tryz.prog 26 := Ent.of Tryz.func26 (by kernel_rfl) (by kernel_rfl)
theorem c_without (w : World) (e : EV) (us : List Value) (R : Reps [] w e.D us) (ho : e.ok) (hsm : e.lens) (hf : e.few) (hT : Tab w) (hM : MaxL w) (ks : List Str) (v1 : Value) (Rk : Rep [] w (strD ks) v1) (hva : ascM e.val.tbl) (hvl : e.val.tbl.length ≤ 1000000) : Calls Tryz.prog 86 [.agg us.toArray, v1].toArray w (Ret fun u w' => u = S (e.wo ks) ∧ Mod [] w w') := by
 refine enter Tryz.func86 rfl rfl rfl (l := [(0, _), (1, _)]) ⟨rfl, rfl, trivial⟩ ?_
 have E := Mod.refl [] w
 obtain ⟨al, cl, am, cm, ap, cp, aa, ca, aS, cS, rfl, Rc, Rp, Ra, Rs⟩ := EV.cells17 R
 have R := EV.reps_ (e := e) Rc Rp Ra Rs
 obtain ⟨ak, ck, rfl, hk1, hk2⟩ := flat_len Rk
 refine Cq fun K1 hK1 => Cr (s_box rfl rfl rfl fun g1 w1 N1 => ?_)
 have Lg1_E := N1.le E
 replace E := E.then N1.mod
 have Bg1 := N1.blk
 refine Za rfl (Ln (e_K (hK1 _ _ _ _ (Cq fun K2 hK2 => Cq fun K3 hK3 => Cr (Sv (o_lda (vs := [_, _, _, _, _, _, _, _, _, _, _, _, _, _, _, _, _]) ag48 rfl rfl (Bg1.cs rfl)) (sc (oC ent29 rfl) (c_encode _ e _ (R.to0 E) ho hsm hf (hT.mod E (by simp)) (hM.mod0 E)) rfl fun v_ w2 h_ => ?_))))))
 obtain ⟨rfl, E_⟩ := h_
 replace Bg1 := Bg1.mod0 E_
 replace E := E.then E_
 refine tW 5 rfl (Ln (e_K (hK3 _ _ _ _ (Cq fun K4 hK4 => Cr (tW 2 rfl (Ln (e_K (hK4 _ _ _ _ ?_))))))))
 refine c_if rfl (fun h18 => ?_) (fun h18 => ?_)
 ·exact Cq fun K5 hK5 => Cr (Za rfl (Ln (e_K (hK5 _ _ _ _ (cR (eT (by simp) (ret1 rfl rfl ⟨by rw [EV.wo, if_pos h18], E⟩)))))))
 ·refine cK (e_K (hK2 _ _ _ _ (Cq fun K6 hK6 => Cr (Sv (o_lda (vs := [_, _, _, _, _, _, _, _, _, _, _, _, _, _, _, _, _]) ag48 rfl rfl (Bg1.cs rfl)) (sc (oC ent32 rfl) (c_evalue [] _ (by simp) e _ (R.to0 E) hf.1 hf.2.1 hf.2.2) rfl fun v_ w3 h_ => ?_)))))
  obtain ⟨us9, rfl, Rv, E_⟩ := h_
  replace Bg1 := Bg1.mod0 E_
  replace E := E.then E_
  obtain ⟨al9, cl9, am9, cm9, rfl, Rl9, Rm9⟩ := JV.cells_ Rv
  replace Rv := JV.reps_ Rl9 Rm9
  have Rv1 := Rv
  refine s_alloc zv25 rfl fun g2 w4 N2 => ?_
  have Lg2_E := N2.le E
  have Dg1_g2 := N2.ne Bg1
  replace Bg1 := Bg1.mod0 N2.mod
  replace E := E.then N2.mod
  have Bg2 := N2.blk
  have Rv1 := (Rv.more (A' := [g2]) (fun x hx => .inr (by simp at hx; subst hx; exact N2.le (Mod.refl [] _)))).to0 N2.mod
  refine s_sta (vs := [_, _, _, _, _, _]) ag25 Bg2 rfl rfl rfl (by simp [Value.oneCell']) (by simp) fun w5 P5 => ?_
  replace Bg1 := Bg1.ne P5.mod (Ne.symm (Ne.symm Dg1_g2))
  replace E := E.own P5.mod Lg2_E
  replace Bg2 : Blk w5 g2 _ [_, _, _, _, _, _] := P5.blk
  have Rv2 := Rv1.toM P5.mod (by simp)
  refine Ln (e_K (hK6 _ _ _ _ (Cq fun K7 hK7 => Cq fun K8 hK8 => Cr (Zm rfl (Sv (o_len Tryz.underlying45 rfl) (Zm rfl (Ln (e_K (hK8 _ _ _ _ (cB (c_loop (σ := Nat × List Value) (fun ⟨k, us9⟩ => [(7, .pointer (some ⟨g2, 0, none⟩)), (21, .slice ak ks.length ck), (22, .int .i64 ks.length), (23, .int .i64 (k : Int))]) (fun ⟨k, us9⟩ w1 => k ≤ ks.length ∧ Blk w1 g2 25 us9 ∧ Reps [g2] w1 ((ks.take k).foldl dropJ e.val).D us9 ∧ Mod [] w w1) (fun ⟨k, us9⟩ => ks.length - k) (⟨0, _⟩) ⟨rfl, rfl, rfl, rfl, trivial⟩ (⟨by omega, Bg2, Rv2, E⟩) ?_)))))))))))
  rintro ⟨k, us9⟩ w6 ⟨hk, Bg2, Rv, E⟩
  obtain ⟨al9, cl9, am9, cm9, rfl, Rl9, Rm9⟩ := JV.cells_ Rv
  replace Rv := JV.reps_ Rl9 Rm9
  refine Cq fun K9 hK9 => Cr (Sv (o_lss rfl rfl) (Ln (e_K (hK9 _ _ _ _ (Cq fun K10 hK10 => ?_)))))
  refine c_if rfl (fun h24 => ?_) (fun h24 => ?_)
  ·have hlt : k < ks.length := by omega
   obtain ⟨x, hx_x⟩ : ∃ x, ks[k]? = some x := ⟨_, List.getElem?_eq_getElem (by omega)⟩
   obtain ⟨a_x, ha_x, hcs_x, _⟩ := flat_at (Rk.to0 E) hx_x
   obtain rfl := ha_x
   obtain ⟨hda, hdl⟩ := drops_asc hva hvl (ks.take k)
   refine cK (e_K (hK10 _ _ _ _ (Cq fun K11 hK11 => cB (Cq fun K12 hK12 => Cr (Sv (o_ix sl45 rfl rfl (by omega)) (Sv (oL sc9 rfl hcs_x.c0) (Za rfl (Ln (e_K (hK12 _ _ _ _ (Cr (Sv (o_lda (vs := [_, _, _, _, _, _]) ag25 rfl rfl (Bg2.cs rfl)) (Zm rfl ?_)))))))))))))
   refine sc (oC ent26 rfl) (c_jdrop [g2] _ (by have := Bg2.lt; simpa using this) ((ks.take k).foldl dropJ e.val) _ Rv x hda hdl) rfl fun v_ w7 h_ => ?_
   obtain ⟨us8, rfl, Rw, E_⟩ := h_
   replace Bg2 := Bg2.mod0 E_
   replace E := E.then E_
   obtain ⟨al8, cl8, am8, cm8, rfl, Rl8, Rm8⟩ := JV.cells_ Rw
   replace Rw := JV.reps_ Rl8 Rm8
   refine s_sta (vs := [_, _, _, _, _, _]) ag25 Bg2 rfl rfl rfl (by simp [Value.oneCell']) (by simp) fun w8 P8 => ?_
   replace E := E.own P8.mod Lg2_E
   replace Bg2 : Blk w8 g2 _ [_, _, _, _, _, _] := P8.blk
   have Rw2 := Rw.toM P8.mod (by simp)
   exact Ln (eI (by simp) (e_K (hK11 _ _ _ _ (Cr (Sv (o_addN rfl rfl (by omega)) (Zm rfl (Ln (eR (σ := Nat × List Value) (s := ⟨k, [.int .i64 ((ks.take k).foldl dropJ e.val).kind, .bool ((ks.take k).foldl dropJ e.val).is, .int .i64 ((ks.take k).foldl dropJ e.val).num, S ((ks.take k).foldl dropJ e.val).str, .slice al9 ((ks.take k).foldl dropJ e.val).list.length cl9, .slice am9 ((ks.take k).foldl dropJ e.val).map.length cm9]⟩) (⟨k + 1, _⟩) ⟨rfl, rfl, rfl, rfl, trivial⟩ ⟨by omega, Bg2, by rw [drops_succ hx_x]; exact Rw2, E⟩ (by dsimp only; omega)))))))))
  ·have hkk : ks.take k = ks := List.take_of_length_le (by omega)
   refine c_exit (eT (by simp) (eT (by simp) (e_hit (e_K (hK7 _ _ _ _ (Cq fun K13 hK13 => Cr (Sv (o_lda (vs := [_, _, _, _, _, _]) ag25 rfl rfl (Bg2.cs rfl)) (sc (oC ent19 rfl) (c_canon _ ((ks.take k).foldl dropJ e.val) _ (Rv.anti (A' := []) (by simp)) (hT.mod E (by simp))) rfl fun v_ w9 h_ => ?_))))))))
   obtain ⟨rfl, E_⟩ := h_
   replace Bg2 := Bg2.mod0 E_
   replace E := E.then E_
   exact tW 5 rfl (Ln (e_K (hK13 _ _ _ _ (Cq fun K14 hK14 => Cr (tW 2 rfl (Ln (e_K (hK14 _ _ _ _ (cR (ret1 rfl rfl ⟨by rw [EV.wo, if_neg h18, hkk]; try rfl, E⟩))))))))))
end Go.Proofs.YtknndpjacklkeaaGreatDoor.V

set_option linter.unusedVariables false
set_option linter.unusedSimpArgs false
namespace Go.Proofs.YtknndpjacklkeaaGreatDoor.V
open Go
namespace JV
theorem less_ok {m : List (Str × JV)} {T : Str} (p : Str × JV → Bool) (h : wr (obj m) 0 [] = .ok T) : ∃ t, wr (obj (m.filter p)) 0 [] = .ok ([123] ++ t ++ [125]) := by
 obtain ⟨_, b2, h2, hT2, hl⟩ := map_ok rfl h
 have ha := (wrm_asc _ _ _ _ _ h2).1
 obtain ⟨t', h5, h6⟩ := filt (f := fun x => if p x then some x else none) (deep := 0)
  (fun x q e => by
   split at e
   ·injection e with e; rw [e]
   ·cases e)
  (fun x q b b' e hw => by
   split at e
   ·injection e with e
    subst e
    obtain ⟨t, rfl, _, hf⟩ := fit hw
    exact ⟨t, by simp, hf⟩
   ·cases e) m none none _ _ h2 (fun _ => rfl) (fun q' e => by cases e) ha
 have hfm : m.filterMap (fun x => if p x then some x else none) = m.filter p := by
  clear h6 h5 ha h2 h
  induction m with
  | nil => rfl
  | cons a r ih =>
   cases hp : p a with
   | true => rw [List.filterMap_cons_some (b := a) (by simp [hp]), List.filter_cons, if_pos hp, ih]
   | false => rw [List.filterMap_cons_none (by simp [hp]), List.filter_cons, if_neg (by simp [hp]), ih]
 rw [hfm] at h6
 refine ⟨t', ?_⟩
 have := fit_obj h6 (by decide) [] (by
  subst hT2
  simp only [List.length_append, List.length_nil, List.length_singleton] at h5 hl ⊢
  omega)
 rw [this]
 simp
end JV
namespace EV
open JV
theorem ern_of {e : EV} (hc : e.chk = 0) {T : Str} (h : e.val.wr 0 [] = .ok T) : e.ern = 0 := by
 unfold EV.ern
 rw [if_neg (by simp [hc]), h]
 rfl
theorem chk_k5 {e : EV} (hc : e.chk = 0) : e.con.kind = 5 := by
 have hf : e.fine = true := by
  unfold EV.chk at hc
  split at hc
  ·cases hc
  ·split at hc
   ·assumption
   ·cases hc
 rw [EV.fine_eq] at hf
 simp only [Bool.and_eq_true, decide_eq_true_eq] at hf
 obtain ⟨⟨⟨⟨⟨⟨⟨⟨_, _⟩, _⟩, h4⟩, _⟩, _⟩, _⟩, _⟩, _⟩ := hf
 exact h4
theorem strip_ern {e : EV} (ha : ascM e.con.map) (h : e.ern = 0) : e.strip.ern = 0 := by
 obtain ⟨hc, h1, _⟩ := ern_zero h
 obtain ⟨T, hT⟩ := ern_ok h1
 obtain ⟨_, b2, h2, hT2, hl⟩ := map_ok rfl hT
 rw [show e.val.map = e.memV from rfl, memV_eq] at h2
 obtain ⟨hq1, b3, h3, h4, ht1, _⟩ := mem_ok h2
 obtain ⟨hq2, b4, h5, h6, ht2, _⟩ := mem_ok h4
 obtain ⟨t1, e1, _, hf1⟩ := fit h3
 obtain ⟨t2, h7, hf2, _⟩ := contentS (kind := e.ty) (chk_k5 hc) h5
 obtain ⟨t3, e3, hf3⟩ := fitM e.rest (some kCont) _ _ h6
 have hcon : e.strip.con = contentR e.ty e.con := JV.content_eq ha
 have hm2 := mem_fit (p := (kCont, e.strip.con)) (r := e.rest) (deep := 0) hq2 ht2 (by rw [hcon]; exact hf2) hf3
 have hm1 := mem_fit (p := (kAuth, lst (e.auth.map txtV))) (deep := 0) hq1 ht1 hf1 hm2
 have hv : e.strip.memV = (kAuth, lst (e.auth.map txtV)) :: (kCont, e.strip.con) :: e.rest := memV_eq e.strip
 rw [← hv] at hm1
 have := fit_obj hm1 (by decide) [] (by
  have e1' := congrArg List.length e1
  have e3' := congrArg List.length e3
  rw [hT2] at hl
  simp only [List.length_append, List.length_nil, List.length_singleton, comma] at e1' e3' h7 hl ⊢
  omega)
 exact ern_of (strip_chk ha hc) this
noncomputable def lessT (e : EV) (h : Bool) : Str := bts ((obj (e.memV.filter fun m => decide (m.1 ≠ kSigs) && (decide (m.1 ≠ kHashes) || !h))).wr 0 [])
theorem wo_two {e : EV} (h : e.ern = 0) : e.wo [kHashes, kSigs] = e.lessT true := by
 rw [EV.wo, if_neg (by simp [h]), lessT]
 show bts ((obj (delM (delM e.memV kHashes) kSigs)).wr 0 []) = _
 rw [delM, delM, List.filter_filter]
 simp
theorem wo_one {e : EV} (h : e.ern = 0) : e.wo [kSigs] = e.lessT false := by
 rw [EV.wo, if_neg (by simp [h]), lessT]
 show bts ((obj (delM e.memV kSigs)).wr 0 []) = _
 rw [delM]
 simp
theorem less_ne {e : EV} (h : e.ern = 0) (b : Bool) : ∃ t, (obj (e.memV.filter fun m => decide (m.1 ≠ kSigs) && (decide (m.1 ≠ kHashes) || !b))).wr 0 [] = .ok ([123] ++ t ++ [125]) := by
 obtain ⟨_, h1, _⟩ := ern_zero h
 obtain ⟨T, hT⟩ := ern_ok h1
 exact less_ok _ hT
theorem lessT_ne {e : EV} (h : e.ern = 0) (b : Bool) : e.lessT b ≠ [] := by
 obtain ⟨t, ht⟩ := less_ne h b
 rw [lessT, ht]
 simp [bts]
theorem lessT_len (e : EV) (b : Bool) : (e.lessT b).length ≤ 65536 := by
 unfold lessT
 cases h : (obj (e.memV.filter fun m => decide (m.1 ≠ kSigs) && (decide (m.1 ≠ kHashes) || !b))).wr 0 [] with
 | error e => simp [bts]
 | ok T => exact (fit h).elim fun t ht => ht.2.1
noncomputable def hashT (e : EV) : Str := if e.ern ≠ 0 then [] else ltrL (sha (e.lessT true)) false
noncomputable def bytesT (e : EV) : Str := if e.ern ≠ 0 then [] else e.strip.lessT false
noncomputable def nameT (e : EV) : Str := if e.ern ≠ 0 then [] else 36 :: ltrL (sha (e.strip.lessT false)) true
end EV
end Go.Proofs.YtknndpjacklkeaaGreatDoor.V

set_option linter.unusedVariables false
set_option linter.unusedSimpArgs false
namespace Go.Proofs.YtknndpjacklkeaaGreatDoor.V
open Go
theorem valid_asc : ∀ s : Str, (∀ c ∈ s, c.toNat < 128) → validR s = true
 | [], _ => validR_nil
 | c :: r, h => by
  have h1 : runeR (c :: r) = (c.toNat, 1) := runeR_small (h c (by simp))
  rw [validR_go (by simp) (by rw [h1]; simp), h1]
  exact valid_asc r fun x hx => h x (by simp [hx])
theorem sha_len (b : List UInt8) : (sha b).length = 32 := outB_len _ _
namespace JV
theorem txt_ok {s : Str} (hv : validR s = true) (hl : s.length ≤ 65536) : ∀ c : Str, (c ++ putQ s).length ≤ 65536 → txtW c s = .ok (c ++ putQ s) := fun c hc => by
 rw [txtW, if_neg (by omega), if_pos hv, lng_fit hc]
theorem fit_txt {s : Str} {deep : Nat} (hv : validR s = true) (hl : s.length ≤ 65536) : Fit (txtV s) deep (putQ s) := fun c hc => by
 have hb : ¬ bare (txtV s) = false := by simp [bare, txtV, kind, is, num, str, list, map]
 have k3 : (txtV s).kind = 3 := rfl
 rw [wr_eq, if_neg hb, if_neg (by rw [k3]; decide), if_neg (by rw [k3]; decide), if_neg (by rw [k3]; decide), if_pos k3]
 exact txt_ok hv hl c hc
theorem fit_num {n : Int} {deep : Nat} (h0 : -9007199254740991 ≤ n) (h1 : n ≤ 9007199254740991) : Fit (numV n) deep (Lib.itoa n) := fun c hc => by
 have hb : ¬ bare (numV n) = false := by
  have : bare (numV n) = true := by unfold bare numV; simp [kind, is, num, str, list, map, h0, h1]
  rw [this]; simp
 have k2 : (numV n).kind = 2 := rfl
 rw [wr_eq, if_neg hb, if_neg (by rw [k2]; decide), if_neg (by rw [k2]; decide), if_pos k2]
 exact lng_fit hc
theorem fit_lst0 {deep : Nat} (hd : deep ≠ 32) : Fit (lst []) deep [91, 93] := fun c hc => by
 have hb : ¬ bare (lst []) = false := by simp [bare, lst, kind, is, num, str, list, map]
 have k4 : (lst []).kind = 4 := rfl
 rw [wr_eq, if_neg hb, if_neg (by rw [k4]; decide), if_neg (by rw [k4]; decide), if_neg (by rw [k4]; decide), if_neg (by rw [k4]; decide), if_neg hd, if_pos k4, lng_fit (by simp only [List.length_append, List.length_cons, List.length_nil] at hc ⊢; omega)]
 show (wrl [] deep true (c ++ [91])).bind _ = _
 rw [wrl]
 show lng (c ++ [91] ++ [93]) = _
 rw [lng_fit (by simp only [List.length_append, List.length_cons, List.length_nil] at hc ⊢; omega)]
 simp
theorem fit_nil {deep : Nat} {prev : Option Str} : FitM [] deep prev [] := fun b _ => by rw [wrm]; simp
theorem fit_mem {k : Str} {v : JV} {r : List (Str × JV)} {deep : Nat} {prev : Option Str} {t1 t2 : Str} (hv : ∀ c ∈ k, c.toNat < 128) (hl : k.length ≤ 1000) (hq : ∀ q, prev = some q → bl q k = true) (h1 : Fit v (deep + 1) t1) (h2 : FitM r deep (some k) t2) :
  FitM ((k, v) :: r) deep prev (comma prev ++ putQ k ++ [58] ++ t1 ++ t2) := mem_fit (p := (k, v)) hq (txt_ok (valid_asc k hv) (by simp only; omega)) h1 h2
theorem wrl_mem {deep : Nat} : ∀ (l : List JV) (fst : Bool) (b b' : Str), wrl l deep fst b = .ok b' → ∀ x ∈ l, ∃ c c', wr x (deep + 1) c = .ok c'
 | [], _, _, _, _, x, hx => by cases hx
 | y :: l, fst, b, b', h, x, hx => by
  rw [wrl_step'] at h
  obtain ⟨b1, h1, h⟩ := bind_ok h
  obtain ⟨b2, h2, h⟩ := bind_ok h
  rcases List.mem_cons.1 hx with rfl | hx
  ·exact ⟨_, _, h2⟩
  ·exact wrl_mem l _ _ _ h x hx
theorem wrm_mem {deep : Nat} : ∀ (m : List (Str × JV)) (prev : Option Str) (b b' : Str), wrm m deep prev b = .ok b' → ∀ p ∈ m, ∃ c c', wr p.2 (deep + 1) c = .ok c'
 | [], _, _, _, _, x, hx => by cases hx
 | y :: m, prev, b, b', h, x, hx => by
  obtain ⟨_, b2, h2, h3, _, _⟩ := mem_ok h
  rcases List.mem_cons.1 hx with rfl | hx
  ·exact ⟨_, _, h2⟩
  ·exact wrm_mem m _ _ _ h3 x hx
theorem wr_rise_all : ∀ (N : Nat) (v : JV) (deep : Nat) (b b' : Str), v.sz ≤ N → wr v deep b = .ok b' → v.Rise
 | 0, v, _, _, _, h, _ => absurd (sz_eq v) (by omega)
 | N + 1, v, deep, b, b', hN, h => by
  have ih := wr_rise_all N
  rw [Rise_eq]
  have h0 := h
  rw [wr_eq] at h
  split at h
  ·cases h
  rename_i hb
  have hb : v.bare = true := by simpa using hb
  have hk := @bare_kind v hb
  have p4 : v.kind = 4 ∨ v.list = [] := by
   unfold bare at hb
   simp only [Bool.and_eq_true, Bool.or_eq_true, decide_eq_true_eq] at hb
   exact hb.1.1.2.imp id List.eq_nil_of_length_eq_zero
  have p5 : v.kind = 5 ∨ v.map = [] := by
   unfold bare at hb
   simp only [Bool.and_eq_true, Bool.or_eq_true, decide_eq_true_eq] at hb
   exact hb.1.2.imp id List.eq_nil_of_length_eq_zero
  by_cases k4 : v.kind = 4
  ·have hm : v.map = [] := p5.resolve_left (by omega)
   rw [if_neg (by omega), if_neg (by omega), if_neg (by omega), if_neg (by omega)] at h
   split at h
   ·cases h
   obtain ⟨b1, h1, h3⟩ := bind_ok h
   obtain ⟨b2, h2, h4⟩ := bind_ok h3
   rw [hm]
   refine ⟨List.Pairwise.nil, fun x hx => ?_, by simp⟩
   obtain ⟨c, c', hc⟩ := wrl_mem _ _ _ _ h2 x hx
   exact ih x _ _ _ (by have := sz_in_list hx; omega) hc
  ·have hl : v.list = [] := p4.resolve_left k4
   by_cases k5 : v.kind = 5
   ·obtain ⟨_, b2, h2, _, _⟩ := map_ok k5 h0
    rw [hl]
    refine ⟨(wrm_asc _ _ _ _ _ h2).1, by simp, fun p hp => ?_⟩
    obtain ⟨c, c', hc⟩ := wrm_mem _ _ _ _ h2 p hp
    exact ih p.2 _ _ _ (by have := sz_in_map hp; omega) hc
   ·rw [hl, p5.resolve_left k5]
    exact ⟨List.Pairwise.nil, by simp, by simp⟩
theorem wr_rise {v : JV} {deep : Nat} {b b' : Str} (h : wr v deep b = .ok b') : v.Rise := wr_rise_all v.sz v deep b b' (Nat.le_refl _) h
end JV
namespace EV
open JV
theorem rise_of {e : EV} (h : e.ern = 0) : e.con.Rise := by
 obtain ⟨_, h1, _⟩ := ern_zero h
 obtain ⟨b3, b4, b2, _, h3, _⟩ := val_wr h1
 exact wr_rise h3
theorem memV_asc (e : EV) : ascM e.memV := by rw [← putR]; exact putAll_asc _ _
theorem memV_len (e : EV) : e.memV.length ≤ 1000000 := by
 rw [memV_eq]
 unfold rest
 split
 ·have : (putM (e.mem10.drop 2) kState (txtV e.key)).length ≤ (e.mem10.drop 2).length + (e.mem10.drop 2).length + 1 := by
   simp only [putM, List.length_append, List.length_singleton]
   have h1 := List.length_filter_le (fun p : Str × JV => bl p.1 kState) (e.mem10.drop 2)
   have h2 := List.length_filter_le (fun p : Str × JV => bl kState p.1) (e.mem10.drop 2)
   omega
  simp only [List.length_cons]
  have h8 : (e.mem10.drop 2).length = 8 := rfl
  omega
 ·show (_ :: _ :: e.mem10.drop 2).length ≤ _
  have h8 : (e.mem10.drop 2).length = 8 := rfl
  simp only [List.length_cons]
  omega
def plainS : EV := { plain with prev := [] }
theorem plainS_chk : plainS.chk = 0 := by
 have h := plain_chk
 unfold EV.chk at h ⊢
 rw [if_neg (by decide)] at h ⊢
 split at h
 ·rename_i hf
  rw [if_pos]
  rw [EV.fine_eq] at hf ⊢
  simp only [Bool.and_eq_true, decide_eq_true_eq] at hf ⊢
  obtain ⟨⟨⟨⟨⟨⟨⟨⟨h1, h2⟩, h3⟩, h4⟩, h5⟩, h6⟩, h7⟩, h8⟩, h9⟩ := hf
  exact ⟨⟨⟨⟨⟨⟨⟨⟨h1, h2⟩, h3⟩, h4⟩, h5⟩, h6⟩, rfl⟩, h8⟩, h9⟩
 ·cases h
theorem plainS_ok : plainS.ok := by
 refine ⟨by decide, by decide, by decide, by decide, ?_, by simp [plainS], by decide, by simp [plainS, plain], by decide, by decide, by simp [plainS, plain], by decide⟩
 show JV.five.ok
 rw [JV.ok_eq]
 simp [JV.five, JV.list, JV.map, JV.str]
theorem plainS_lens : plainS.lens := ⟨by decide, by decide, by simp [plainS, plain]⟩
theorem plainS_few : plainS.few := ⟨by decide, by decide, by decide⟩
theorem plainS_ern : plainS.ern = 0 := by
 have d : ∀ {m k v r deep t1 t2} {q : Str}, (∀ c ∈ k, c.toNat < 128) → k.length ≤ 1000 → bl q k = true → Fit v (deep + 1) t1 → FitM r deep (some k) t2 → m = (k, v) :: r → FitM m deep (some q) ([44] ++ putQ k ++ [58] ++ t1 ++ t2) := fun {m k v r deep t1 t2 q} hv hl hq h1 h2 e => by
  subst e
  exact fit_mem hv hl (fun q' e => by injection e with e; subst e; exact hq) h1 h2
 have n0 : Fit (numV 0) 1 (Lib.itoa 0) := fit_num (by decide) (by decide)
 have f5 : ∀ deep, deep ≠ 32 → Fit (obj []) deep ([123] ++ [] ++ [125]) := fun deep hd => fit_obj fit_nil hd
 have T : ∀ s : Str, (∀ c ∈ s, c.toNat < 128) → s.length ≤ 1000 → Fit (txtV s) 1 (putQ s) := fun s h1 h2 => fit_txt (valid_asc s h1) (by omega)
 have m0 : FitM [] 0 (some kType) [] := fit_nil
 have m1 := d (k := kType) (v := txtV plainS.ty) (q := kSigs) (by decide) (by decide) (by decide) (T _ (by decide) (by decide)) m0 rfl
 have m2 := d (k := kSigs) (v := obj []) (q := kSender) (by decide) (by decide) (by decide) (f5 1 (by decide)) m1 rfl
 have m3 := d (k := kSender) (v := txtV plainS.snd) (q := kRoom) (by decide) (by decide) (by decide) (T _ (by decide) (by decide)) m2 rfl
 have m4 := d (k := kRoom) (v := txtV plainS.room) (q := kPrev) (by decide) (by decide) (by decide) (T _ (by decide) (by decide)) m3 rfl
 have m5 := d (k := kPrev) (v := lst []) (q := kOts) (by decide) (by decide) (by decide) (fit_lst0 (by decide)) m4 rfl
 have m6 := d (k := kOts) (v := numV 0) (q := kHashes) (by decide) (by decide) (by decide) n0 m5 rfl
 have hs : Fit (obj [(kSha, txtV plainS.hash)]) 1 _ := fit_obj (fit_mem (k := kSha) (v := txtV plainS.hash) (by decide) (by decide) (fun q e => by cases e) (fit_txt (valid_asc _ (by decide)) (by decide)) fit_nil) (by decide)
 have m7 := d (k := kHashes) (q := kDepth) (by decide) (by decide) (by decide) hs m6 rfl
 have m8 := d (k := kDepth) (v := numV 0) (q := kCont) (by decide) (by decide) (by decide) n0 m7 rfl
 have m9 := d (k := kCont) (v := obj []) (q := kAuth) (by decide) (by decide) (by decide) (f5 1 (by decide)) m8 rfl
 have m10 := fit_mem (k := kAuth) (v := lst []) (prev := none) (by decide) (by decide) (fun q e => by cases e) (fit_lst0 (by decide)) m9
 have hl : (Lib.itoa 0).length ≤ 21 := Lib.itoa_length_le 0 (by decide) (by decide)
 have := fit_obj m10 (by decide) [] (by
  have p1 : (putQ kType).length = 6 := by decide
  have p2 : (putQ kSigs).length = 12 := by decide
  have p3 : (putQ kSender).length = 8 := by decide
  have p4 : (putQ kRoom).length = 9 := by decide
  have p5 : (putQ kPrev).length = 13 := by decide
  have p6 : (putQ kOts).length = 18 := by decide
  have p7 : (putQ kHashes).length = 8 := by decide
  have p8 : (putQ kDepth).length = 7 := by decide
  have p9 : (putQ kCont).length = 9 := by decide
  have pA : (putQ kAuth).length = 13 := by decide
  have pB : (putQ plainS.ty).length = 3 := by decide
  have pC : (putQ plainS.snd).length = 6 := by decide
  have pD : (putQ plainS.room).length = 6 := by decide
  have pE : (putQ plainS.hash).length = 45 := by decide
  have pF : (putQ kSha).length = 8 := by decide
  simp only [List.length_append, List.length_cons, List.length_nil, comma, p1, p2, p3, p4, p5, p6, p7, p8, p9, pA, pB, pC, pD, pE, pF]
  generalize (Lib.itoa 0).length = z at hl ⊢
  omega)
 exact ern_of plainS_chk (show plainS.val.wr 0 [] = .ok _ from this)
theorem hash_len {e : EV} (h : e.ern = 0) : e.hashT.length = 43 := by
 unfold hashT
 rw [if_neg (by simp [h]), ltrL_len, sha_len]
theorem name_len {e : EV} (h : e.ern = 0) : e.nameT.length = 44 := by
 unfold nameT
 rw [if_neg (by simp [h]), List.length_cons, ltrL_len, sha_len]
theorem lens_of4 {e : EV} (h : e.great 4096 = false) : e.lens := by
 unfold great at h
 simp only [Bool.or_eq_false_iff, decide_eq_false_iff_not] at h
 have h3 : e.n3 4096 ≤ 4096 := by omega
 have h2 : e.n2 4096 ≤ e.n3 4096 := addW_ge _ _ _
 have h1 : e.n1 4096 ≤ e.n2 4096 := addW_ge _ _ _
 have h0 : e.n0 ≤ e.n1 4096 := addW_ge _ _ _
 have hr : e.room.length + e.snd.length ≤ e.n0 := by unfold n0; omega
 refine ⟨by omega, by omega, fun s hs => ?_⟩
 have := addW_mem _ _ _ h3 _ (List.mem_map_of_mem hs)
 omega
noncomputable def g13 (e : EV) : Bool := (!ascB e.con.map) || e.great 4096
theorem g13_no {e : EV} (h : ¬ ascM e.con.map) : e.g13 = true := by unfold g13 JV.ascB; simp [h]
theorem g13_yes {e : EV} (h : ascM e.con.map) : e.g13 = e.great 4096 := by unfold g13 JV.ascB; simp [h]
end EV
end Go.Proofs.YtknndpjacklkeaaGreatDoor.V
