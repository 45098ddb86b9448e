/-
  A part of the proof: walks of functions. No condition of its own.
-/
import Derived.Test.YtknndpjacklkeaaGreatDoorM5
import Derived.Test.YtknndpjacklkeaaGreatDoorM6
import Derived.Test.YtknndpjacklkeaaGreatDoorM9
import Derived.Test.YtknndpjacklkeaaGreatDoorM4
set_option linter.unusedVariables false
set_option linter.unusedSimpArgs false
set_option maxRecDepth 10000
namespace Go.Proofs.YtknndpjacklkeaaGreatDoor.V
open Go Go.Proofs
theorem ent233 : Ent Tryz.prog 233 := Ent.of Tryz.func233 (by kernel_rfl) (by kernel_rfl)
theorem ent202 : Ent Tryz.prog 202 := Ent.of Tryz.func202 (by kernel_rfl) (by kernel_rfl)
theorem ent203 : Ent Tryz.prog 203 := Ent.of Tryz.func203 (by kernel_rfl) (by kernel_rfl)
theorem c_four (w : World) (s : Str) : Calls Tryz.prog 233 [S s].toArray w (Ret fun u w' => u = .tuple #[.int .i32 (((hexF 4 s 0).getD 0 : Nat) : Int), .bool (hexF 4 s 0).isSome] ∧ Mod [] w w') := by
 refine enter Tryz.func233 rfl rfl rfl (l := [(0, _)]) ⟨rfl, trivial⟩ ?_
 have E := Mod.refl [] w
 refine Cq fun K1 hK1 => Cr (tW 2 rfl (Ln (e_K (hK1 _ _ _ _ (Cq fun K2 hK2 => Cq fun K3 hK3 => Cr (Zm rfl (Sv (o_slen Tryz.underlying9 rfl) (Sv (o_lss rfl rfl) (Ln (e_K (hK3 _ _ _ _ ?_)))))))))))
 refine c_if rfl (fun h10 => ?_) (fun h10 => ?_)
 ·have hW := hexF_short 4 s 0 (by omega)
  exact Cq fun K4 hK4 => Cr (tW 2 rfl (Ln (e_K (hK4 _ _ _ _ (cR (eT (by simp) (ret2 rfl rfl rfl ⟨by rw [hW]; rfl, E⟩)))))))
 ·refine cK (e_K (hK2 _ _ _ _ (Cq fun K5 hK5 => Cr (Za rfl (Ln (e_K (hK5 _ _ _ _ (Cq fun K6 hK6 => Cq fun K7 hK7 => Cr (Zm rfl (Sv (o_ssto (n := 4) Tryz.underlying9 rfl rfl (by omega)) (s_range Tryz.underlying9 rfl rfl fun gi w1 IT hgi EI => ?_)))))))))))
  have Lgi : w.heap.size ≤ gi := by have := E.size; omega
  replace E := E.then EI
  refine Ln (e_K (hK7 _ _ _ _ (cB (c_loop (σ := Nat × Nat) (fun ⟨p, n⟩ => [(4, .int .i32 (n : Int)), (13, .pointer (some ⟨gi, 0, none⟩))]) (fun ⟨p, n⟩ w1 => p ≤ 4 ∧ n < 16 ^ p ∧ hexF (4 - p) ((s.take 4).drop p) n = hexF 4 s 0 ∧ It w1 gi (s.take 4) p ∧ w.heap.size ≤ gi ∧ Mod [] w w1) (fun ⟨p, n⟩ => 4 - p) (⟨0, 0⟩) ⟨rfl, rfl, trivial⟩ (⟨by omega, by decide, hexF_take 4 s 0, IT, Lgi, E⟩) ?_))))
  rintro ⟨p, n⟩ w2 ⟨hp, hn16, hinv, IT, Lgi, E⟩
  have hlen4 : (s.take 4).length = 4 := by rw [List.length_take]; omega
  refine Cq fun K8 hK8 => ?_
  by_cases hplt : p < 4
  ·obtain ⟨b, hb⟩ : ∃ b, (s.take 4)[p]? = some b := ⟨_, List.getElem?_eq_getElem (by omega)⟩
   have hpl : p < (s.take 4).length := by omega
   by_cases hbs : b.toNat < 128
   ·skip
    refine Cr (s_next rfl IT hpl (dec_lt hb hbs) rfl fun w3 IT2 EN hzN => ?_)
    replace E := E.trans' EN (fun x hx => .inr (by simp at hx; subst hx; exact Lgi))
    clear IT
    have IT := IT2
    refine Sv (o_ext rfl rfl) (Ln (e_K (hK8 _ _ _ _ (Cq fun K9 hK9 => ?_))))
    refine c_cond rfl (fun h15 => ?_) (fun h15 => ?_)
    ·skip
     refine cK (e_K (hK9 _ _ _ _ (cB (Cq fun K10 hK10 => Cr (tW 2 rfl (Ln (e_K (hK10 _ _ _ _ (Cq fun K11 hK11 => Cr (Zm rfl (Sv ((o_or rfl rfl).to (v' := .int .i32 ((b.toNat ||| 32 : Nat) : Int)) (congrArg (Value.int .i32) (or32i (by omega)))) (sc (oC ent194 rfl) (c_irune_lo _ hexD (b.toNat ||| 32) (or32_lt hbs)) rfl fun v_ w4 h_ => ?_))))))))))))
     obtain ⟨rfl, E_⟩ := h_
     replace IT := IT.mod0 E_
     replace E := E.then E_
     refine Za rfl (Ln (e_K (hK11 _ _ _ _ (Cq fun K12 hK12 => Cq fun K13 hK13 => Cr (tW 2 rfl ?_)))))
     refine bD (fun hi0 : Lib.indexByte hexD (UInt8.ofNat (b.toNat ||| 32)) < 0 => ?_) (fun hi0 => ?_)
     ·refine tW 4 rfl (Ln (e_K (hK13 _ _ _ _ (c_true rfl ?_))))
      have hW : hexF 4 s 0 = none := hexF_none (d4 := 0) hplt hb (hex_no hbs (by omega)) hinv
      exact Cq fun K14 hK14 => Cr (tW 2 rfl (Ln (e_K (hK14 _ _ _ _ (cR (eT (by simp) (eI (by simp) (eT (by simp) (eI (by simp) (eT (by simp) (ret2 rfl rfl rfl ⟨by rw [hW]; rfl, E⟩)))))))))))
     ·refine tW 3 rfl ?_
      refine bD (fun hi1 : (b.toNat : Int) < 48 => ?_) (fun hi1 => ?_)
      ·refine Sv (oF rfl rfl rfl) (Ln (e_K (hK13 _ _ _ _ (c_true rfl ?_))))
       have hW : hexF 4 s 0 = none := hexF_none (d4 := 0) hplt hb (hex_no hbs (by omega)) hinv
       exact Cq fun K15 hK15 => Cr (tW 2 rfl (Ln (e_K (hK15 _ _ _ _ (cR (eT (by simp) (eI (by simp) (eT (by simp) (eI (by simp) (eT (by simp) (ret2 rfl rfl rfl ⟨by rw [hW]; rfl, E⟩)))))))))))
      ·refine Sv (oF rfl rfl rfl) (Ln (e_K (hK13 _ _ _ _ (c_false rfl ?_))))
       obtain ⟨d, hxd, hd16, hid⟩ := hex_yes hbs hi0 (by omega)
       rw [hid]
       have hinv2 := hexF_some hplt hb hxd hinv
       have hn4 := pow16_le hn16 (by omega)
       exact cK (e_K (hK12 _ _ _ _ (Cr (Zm rfl (Sv ((o_shl rfl rfl (by omega)).to (v' := .int .i32 ((16 * n : Nat) : Int)) (congrArg (Value.int .i32) (shl4i (by omega)))) (Zm rfl (Sv ((o_conv Tryz.underlying3 Tryz.underlying21 rfl).to (v' := .int .i32 (d : Int)) (congrArg (Value.int .i32) (wrap32_in _ (by omega)))) (Sv ((o_or rfl rfl).to (v' := .int .i32 ((16 * n + d : Nat) : Int)) (congrArg (Value.int .i32) (or16i (by omega) hd16))) (Za rfl (Ln (eI (by simp) (eR (σ := Nat × Nat) (s := ⟨p, n⟩) (⟨p + 1, 16 * n + d⟩) ⟨rfl, rfl, trivial⟩ ⟨by omega, pow16 hn16 hd16, hinv2, IT, Lgi, E⟩ (by dsimp only; omega)))))))))))))
    ·cases h15
   ·obtain ⟨c, m, hdec, hc1, hc2, hc3⟩ := dec_hi hb hbs
    refine Cr (s_next rfl IT hpl hdec rfl fun w5 IT2 EN hzN => ?_)
    replace E := E.trans' EN (fun x hx => .inr (by simp at hx; subst hx; exact Lgi))
    clear IT
    have IT := IT2
    refine Sv (o_ext rfl rfl) (Ln (e_K (hK8 _ _ _ _ (Cq fun K16 hK16 => ?_))))
    refine c_cond rfl (fun h15 => ?_) (fun h15 => ?_)
    ·skip
     refine cK (e_K (hK16 _ _ _ _ (cB (Cq fun K17 hK17 => Cr (tW 2 rfl (Ln (e_K (hK17 _ _ _ _ (Cq fun K18 hK18 => Cr (Zm rfl (Sv ((o_or rfl rfl).to (v' := .int .i32 ((c ||| 32 : Nat) : Int)) (congrArg (Value.int .i32) (or32i (by omega)))) (sc (oC ent194 rfl) (c_irune_hi _ hexD (c ||| 32) (by decide) (by decide) (by decide) (or32_le hc2) (or32_no hc3) (or32_ge hc1)) rfl fun v_ w6 h_ => ?_))))))))))))
     obtain ⟨rfl, E_⟩ := h_
     replace IT := IT.mod0 E_
     replace E := E.then E_
     refine Za rfl (Ln (e_K (hK18 _ _ _ _ (Cq fun K19 hK19 => Cq fun K20 hK20 => Cr (tW 2 rfl (bE (dT (by decide)) (tW 4 rfl (Ln (e_K (hK20 _ _ _ _ (c_true rfl ?_)))))))))))
     have hW : hexF 4 s 0 = none := hexF_none (d4 := 0) hplt hb (hexv_big (by omega)) hinv
     exact Cq fun K21 hK21 => Cr (tW 2 rfl (Ln (e_K (hK21 _ _ _ _ (cR (eT (by simp) (eI (by simp) (eT (by simp) (eI (by simp) (eT (by simp) (ret2 rfl rfl rfl ⟨by rw [hW]; rfl, E⟩)))))))))))
    ·cases h15
  ·have hs_end : ¬ p < (s.take 4).length := by omega
   refine Cr (s_next_end rfl IT hs_end rfl (Sv (o_ext rfl rfl) (Ln (e_K (hK8 _ _ _ _ (Cq fun K22 hK22 => ?_))))))
   refine c_cond rfl (fun h15 => ?_) (fun h15 => ?_)
   ·cases h15
   ·skip
    exact c_exit (eT (by simp) (eT (by simp) (e_hit (e_K (hK6 _ _ _ _ (Cq fun K23 hK23 => Cr (tW 3 rfl (Ln (e_K (hK23 _ _ _ _ (cR (ret2 rfl rfl rfl ⟨by have hWe : hexF 4 s 0 = some n := (by rw [← hinv, show 4 - p = 0 by omega]; rfl); rw [hWe]; rfl, E⟩))))))))))))

theorem c_escape (w : World) (s : Str) : Calls Tryz.prog 203 [S s].toArray w (Ret fun u w' => u = .tuple #[.int .i32 ((escP s).1 : Int), .int .i64 ((escP s).2 : Int)] ∧ Mod [] w w') := by
 refine enter Tryz.func203 rfl rfl rfl (l := [(0, _)]) ⟨rfl, trivial⟩ ?_
 have E := Mod.refl [] w
 refine Cq fun K1 hK1 => Cr (tW 2 rfl (Ln (e_K (hK1 _ _ _ _ (Cq fun K2 hK2 => Cq fun K3 hK3 => Cr (Zm rfl (Sv (o_seq rfl rfl) (Ln (e_K (hK3 _ _ _ _ ?_))))))))))
 refine c_if rfl (fun h9 => ?_) (fun h9 => ?_)
 ·subst h9
  exact Cq fun K4 hK4 => Cr (tW 2 rfl (Ln (e_K (hK4 _ _ _ _ (cR (eT (by simp) (ret2 rfl rfl rfl ⟨rfl, E⟩)))))))
 ·obtain ⟨c, r, rfl⟩ : ∃ c r, s = c :: r := by
   cases s with
   | nil => exact absurd rfl h9
   | cons c r => exact ⟨c, r, rfl⟩
  refine cK (e_K (hK2 _ _ _ _ (Cq fun K5 hK5 => Cq fun K6 hK6 => Cr (Zm rfl (Sv (o_sidx (c := c) Tryz.underlying9 rfl rfl (by decide) rfl) (sc (oC ent100 rfl) (c_ib _ escF c) rfl fun v_ w1 h_ => ?_))))))
  obtain ⟨rfl, E_⟩ := h_
  replace E := E.then E_
  refine Za rfl (Ln (e_K (hK6 _ _ _ _ (Cq fun K7 hK7 => Cr (Zm rfl (Sv (o_geq rfl rfl) (Ln (e_K (hK7 _ _ _ _ ?_)))))))))
  refine c_if rfl (fun h14 => ?_) (fun h14 => ?_)
  ·obtain ⟨i, d, hd, hi, hi8, hg, hd256⟩ := (escC_idx c).resolve_left (fun h => absurd h14 (by have := h.2; omega))
   rw [hi]
   exact Cq fun K8 hK8 => Cr (Zm rfl (Sv (o_sidx (u := escG) Tryz.underlying9 rfl rfl (by omega) (by rw [Int.toNat_natCast]; exact hg)) (Sv ((o_conv Tryz.underlying5 Tryz.underlying21 rfl).to (v' := .int .i32 (d : Int)) (congrArg (Value.int .i32) (by rw [UInt8.toNat_ofNat', wrap32_in _ (by omega)]; omega))) (tW 2 rfl (Ln (e_K (hK8 _ _ _ _ (cR (eT (by simp) (ret2 rfl rfl rfl ⟨by rw [escP_one hd]; rfl, E⟩))))))))))
  ·have hn : escC c = none := (escC_idx c).elim (·.1) (fun ⟨i, d, _, hi, _⟩ => absurd (show Lib.indexByte escF c ≥ 0 by rw [hi]; omega) h14)
   refine cK (e_K (hK5 _ _ _ _ (Cq fun K9 hK9 => Cr (Zm rfl (Sv ((o_ssfrom (n := 1) Tryz.underlying9 rfl rfl (by simp)).to (v' := S r) rfl) (sc (oC ent233 rfl) (c_four _ r) rfl fun v_ w2 h_ => ?_))))))
   obtain ⟨rfl, E_⟩ := h_
   replace E := E.then E_
   refine tW 5 rfl (Ln (e_K (hK9 _ _ _ _ (Cq fun K10 hK10 => cB (Cq fun K11 hK11 => Cr (Zm rfl (Sv (o_sidx (c := c) Tryz.underlying9 rfl rfl (by decide) rfl) (Sv (o_neq rfl rfl) ?_))))))))
   refine bD (fun hu : (c.toNat : Int) ≠ 117 => ?_) (fun hu => ?_)
   ·refine tW 13 rfl (Ln (e_K (hK11 _ _ _ _ (c_true rfl ?_))))
    have hW : escP (_ :: r) = (0, 0) := escP_bad1 hn (by first | (left; intro e; subst e; exact hu rfl) | (right; left; simpa using hi) | (right; right; exact ⟨n, hx4, by omega, by omega⟩))
    exact Cq fun K12 hK12 => Cr (tW 2 rfl (Ln (e_K (hK12 _ _ _ _ (cR (eI (by simp) (eT (by simp) (ret2 rfl rfl rfl ⟨by rw [hW]; rfl, E⟩))))))))
   ·obtain rfl : c = 117 := u8_eq (by rw [Classical.not_not.1 hu]; rfl)
    refine tW 3 rfl ?_
    refine bC (fun hi : ((!(hexF 4 r 0).isSome)) = true => ?_) (fun hi => ?_)
    ·refine tW 10 rfl (Ln (e_K (hK11 _ _ _ _ (c_true rfl ?_))))
     have hW : escP (_ :: r) = (0, 0) := escP_bad1 hn (by first | (left; intro e; subst e; exact hu rfl) | (right; left; simpa using hi) | (right; right; exact ⟨n, hx4, by omega, by omega⟩))
     exact Cq fun K13 hK13 => Cr (tW 2 rfl (Ln (e_K (hK13 _ _ _ _ (cR (eI (by simp) (eT (by simp) (ret2 rfl rfl rfl ⟨by rw [hW]; rfl, E⟩))))))))
    ·obtain ⟨n, hx4⟩ : ∃ n, hexF 4 r 0 = some n := Option.isSome_iff_exists.1 (by simpa using hi)
     have hn65 := four_lt hx4
     have hr4 := hexF_len hx4
     rw [hx4, Option.getD_some]
     refine tW 3 rfl (Sg rfl rfl (o_geq rfl rfl) ?_)
     refine bD (fun hg1 : (n : Int) ≥ 56320 => ?_) (fun hg1 => ?_)
     ·refine tW 3 rfl ?_
      refine bD (fun hg2 : (n : Int) < 57344 => ?_) (fun hg2 => ?_)
      ·refine tW 3 rfl (Ln (e_K (hK11 _ _ _ _ (c_true rfl ?_))))
       have hW : escP (_ :: r) = (0, 0) := escP_bad1 hn (by first | (left; intro e; subst e; exact hu rfl) | (right; left; simpa using hi) | (right; right; exact ⟨n, hx4, by omega, by omega⟩))
       exact Cq fun K14 hK14 => Cr (tW 2 rfl (Ln (e_K (hK14 _ _ _ _ (cR (eI (by simp) (eT (by simp) (ret2 rfl rfl rfl ⟨by rw [hW]; rfl, E⟩))))))))
      ·refine tW 3 rfl (Ln (e_K (hK11 _ _ _ _ (c_false rfl (Cq fun K15 hK15 => Cr (tW 2 rfl ?_))))))
       refine bD (fun hl1 : (n : Int) < 55296 => ?_) (fun hl1 => ?_)
       ·exact tW 5 rfl (Ln (e_K (hK15 _ _ _ _ (c_true rfl (Cq fun K16 hK16 => Cr (tW 3 rfl (Ln (e_K (hK16 _ _ _ _ (cR (eI (by simp) (eT (by simp) (ret2 rfl rfl rfl ⟨by rw [escP_short hx4 (by omega)]; rfl, E⟩)))))))))))))
       ·refine tW 2 rfl (Sg rfl rfl (o_geq rfl rfl) ?_)
        refine bD (fun hl2 : (n : Int) ≥ 57344 => ?_) (fun hl2 => ?_)
        ·exact tW 2 rfl (Ln (e_K (hK15 _ _ _ _ (c_true rfl (Cq fun K17 hK17 => Cr (tW 3 rfl (Ln (e_K (hK17 _ _ _ _ (cR (eI (by simp) (eT (by simp) (ret2 rfl rfl rfl ⟨by rw [escP_short hx4 (by omega)]; rfl, E⟩)))))))))))))
        ·refine tW 2 rfl (Ln (e_K (hK15 _ _ _ _ (c_false rfl (Cq fun K18 hK18 => Cr (Zm rfl (Sv ((o_ssfrom (n := 5) Tryz.underlying9 rfl rfl (by simp only [List.length_cons]; omega)).to (v' := S (r.drop 4)) rfl) (sc (oC ent177 rfl) (c_hpre _ (r.drop 4) [92, 117]) rfl fun v_ w3 h_ => ?_))))))))
         obtain ⟨rfl, E_⟩ := h_
         replace E := E.then E_
         refine Sv (o_not rfl) ?_
         refine bC (fun hpp : ((!decide (([92, 117] : Str).length ≤ (r.drop 4).length ∧ (r.drop 4).take ([92, 117] : Str).length = [92, 117]))) = true => ?_) (fun hpp => ?_)
         ·refine Za rfl (Ln (e_K (hK18 _ _ _ _ (c_true rfl ?_))))
          have hW := escP_bad2 hx4 (by omega) (.inl (hexU_pre (by rw [← pre_dec]; rw [Bool.not_eq_true'] at hpp; exact hpp)))
          exact Cq fun K19 hK19 => Cr (tW 2 rfl (Ln (e_K (hK19 _ _ _ _ (cR (eI (by simp) (eT (by simp) (ret2 rfl rfl rfl ⟨by rw [hW]; rfl, E⟩))))))))
         ·refine Za rfl (Ln (e_K (hK18 _ _ _ _ (c_false rfl ?_))))
          have hpx : List.isPrefixOf [92, 117] (r.drop 4) = true := by
           rw [← pre_dec]
           cases hd : decide (([92, 117] : Str).length ≤ (r.drop 4).length ∧ (r.drop 4).take ([92, 117] : Str).length = [92, 117]) with
           | true => rfl
           | false => rw [hd] at hpp; cases hpp
          have hux := hexU_pre' hpx
          rw [List.drop_drop] at hux
          have hl6 : 2 ≤ (r.drop 4).length := by
           rw [← pre_dec, decide_eq_true_eq] at hpx
           exact hpx.1
          rw [List.length_drop] at hl6
          refine cK (eI (by simp) (e_K (hK10 _ _ _ _ (Cq fun K20 hK20 => Cr (Zm rfl (Sv ((o_ssfrom (n := 7) Tryz.underlying9 rfl rfl (by simp only [List.length_cons]; omega)).to (v' := S (r.drop 6)) rfl) (sc (oC ent233 rfl) (c_four _ (r.drop 6)) rfl fun v_ w4 h_ => ?_)))))))
          obtain ⟨rfl, E_⟩ := h_
          replace E := E.then E_
          refine tW 5 rfl (Ln (e_K (hK20 _ _ _ _ (Cq fun K21 hK21 => Cq fun K22 hK22 => Cr (tW 2 rfl ?_)))))
          refine bC (fun hj : ((!(hexF 4 (r.drop 6) 0).isSome)) = true => ?_) (fun hj => ?_)
          ·refine tW 8 rfl (Ln (e_K (hK22 _ _ _ _ (c_true rfl ?_))))
           have hW := escP_bad2 hx4 (by omega) (by rw [hux]; first | (left; simpa using hj) | (right; exact ⟨m, hm4, by omega⟩))
           exact Cq fun K23 hK23 => Cr (tW 2 rfl (Ln (e_K (hK23 _ _ _ _ (cR (eT (by simp) (ret2 rfl rfl rfl ⟨by rw [hW]; rfl, E⟩)))))))
          ·obtain ⟨m, hm4⟩ : ∃ m, hexF 4 (r.drop 6) 0 = some m := Option.isSome_iff_exists.1 (by simpa using hj)
           have hm65 := four_lt hm4
           rw [hm4, Option.getD_some]
           refine tW 3 rfl ?_
           refine bD (fun hm1 : (m : Int) < 56320 => ?_) (fun hm1 => ?_)
           ·refine tW 5 rfl (Ln (e_K (hK22 _ _ _ _ (c_true rfl ?_))))
            have hW := escP_bad2 hx4 (by omega) (by rw [hux]; first | (left; simpa using hj) | (right; exact ⟨m, hm4, by omega⟩))
            exact Cq fun K24 hK24 => Cr (tW 2 rfl (Ln (e_K (hK24 _ _ _ _ (cR (eT (by simp) (ret2 rfl rfl rfl ⟨by rw [hW]; rfl, E⟩)))))))
           ·refine tW 3 rfl (Sg rfl rfl (o_geq rfl rfl) ?_)
            refine bD (fun hm2 : (m : Int) ≥ 57344 => ?_) (fun hm2 => ?_)
            ·refine Sv (oF rfl rfl rfl) (Ln (e_K (hK22 _ _ _ _ (c_true rfl ?_))))
             have hW := escP_bad2 hx4 (by omega) (by rw [hux]; first | (left; simpa using hj) | (right; exact ⟨m, hm4, by omega⟩))
             exact Cq fun K25 hK25 => Cr (tW 2 rfl (Ln (e_K (hK25 _ _ _ _ (cR (eT (by simp) (ret2 rfl rfl rfl ⟨by rw [hW]; rfl, E⟩)))))))
            ·refine Sv (oF rfl rfl rfl) (Ln (e_K (hK22 _ _ _ _ (c_false rfl (cK (e_K (hK21 _ _ _ _ (Cq fun K26 hK26 => Cr (Zm rfl (Sv ((o_sub rfl rfl).to (v' := .int .i32 ((n - 55296 : Nat) : Int)) (congrArg (Value.int .i32) (by rw [wrap32_in _ (by omega)]; omega))) (Sv ((o_shl rfl rfl (by omega)).to (v' := .int .i32 ((1024 * (n - 55296) : Nat) : Int)) (congrArg (Value.int .i32) (shl10i (by omega)))) (Sv ((o_add rfl rfl).to (v' := .int .i32 ((65536 + 1024 * (n - 55296) : Nat) : Int)) (congrArg (Value.int .i32) (by rw [wrap32_in _ (by omega)]; omega))) (Zm rfl (Sv ((o_sub rfl rfl).to (v' := .int .i32 ((m - 56320 : Nat) : Int)) (congrArg (Value.int .i32) (by rw [wrap32_in _ (by omega)]; omega))) ?_))))))))))))))
             exact Sv ((o_add rfl rfl).to (v' := .int .i32 ((65536 + 1024 * (n - 55296) + (m - 56320) : Nat) : Int)) (congrArg (Value.int .i32) (by rw [wrap32_in _ (by omega)]; omega))) (tW 2 rfl (Ln (e_K (hK26 _ _ _ _ (cR (ret2 rfl rfl rfl ⟨by rw [escP_pair hx4 (by omega) (hux.trans hm4) (by omega)]; rfl, E⟩))))))
     ·refine tW 6 rfl (Ln (e_K (hK11 _ _ _ _ (c_false rfl (Cq fun K27 hK27 => Cr (tW 2 rfl ?_))))))
      refine bD (fun hl1 : (n : Int) < 55296 => ?_) (fun hl1 => ?_)
      ·exact tW 5 rfl (Ln (e_K (hK27 _ _ _ _ (c_true rfl (Cq fun K28 hK28 => Cr (tW 3 rfl (Ln (e_K (hK28 _ _ _ _ (cR (eI (by simp) (eT (by simp) (ret2 rfl rfl rfl ⟨by rw [escP_short hx4 (by omega)]; rfl, E⟩)))))))))))))
      ·refine tW 2 rfl (Sg rfl rfl (o_geq rfl rfl) ?_)
       refine bD (fun hl2 : (n : Int) ≥ 57344 => ?_) (fun hl2 => ?_)
       ·exact tW 2 rfl (Ln (e_K (hK27 _ _ _ _ (c_true rfl (Cq fun K29 hK29 => Cr (tW 3 rfl (Ln (e_K (hK29 _ _ _ _ (cR (eI (by simp) (eT (by simp) (ret2 rfl rfl rfl ⟨by rw [escP_short hx4 (by omega)]; rfl, E⟩)))))))))))))
       ·refine tW 2 rfl (Ln (e_K (hK27 _ _ _ _ (c_false rfl (Cq fun K30 hK30 => Cr (Zm rfl (Sv ((o_ssfrom (n := 5) Tryz.underlying9 rfl rfl (by simp only [List.length_cons]; omega)).to (v' := S (r.drop 4)) rfl) (sc (oC ent177 rfl) (c_hpre _ (r.drop 4) [92, 117]) rfl fun v_ w5 h_ => ?_))))))))
        obtain ⟨rfl, E_⟩ := h_
        replace E := E.then E_
        refine Sv (o_not rfl) ?_
        refine bC (fun hpp : ((!decide (([92, 117] : Str).length ≤ (r.drop 4).length ∧ (r.drop 4).take ([92, 117] : Str).length = [92, 117]))) = true => ?_) (fun hpp => ?_)
        ·refine Za rfl (Ln (e_K (hK30 _ _ _ _ (c_true rfl ?_))))
         have hW := escP_bad2 hx4 (by omega) (.inl (hexU_pre (by rw [← pre_dec]; rw [Bool.not_eq_true'] at hpp; exact hpp)))
         exact Cq fun K31 hK31 => Cr (tW 2 rfl (Ln (e_K (hK31 _ _ _ _ (cR (eI (by simp) (eT (by simp) (ret2 rfl rfl rfl ⟨by rw [hW]; rfl, E⟩))))))))
        ·refine Za rfl (Ln (e_K (hK30 _ _ _ _ (c_false rfl ?_))))
         have hpx : List.isPrefixOf [92, 117] (r.drop 4) = true := by
          rw [← pre_dec]
          cases hd : decide (([92, 117] : Str).length ≤ (r.drop 4).length ∧ (r.drop 4).take ([92, 117] : Str).length = [92, 117]) with
          | true => rfl
          | false => rw [hd] at hpp; cases hpp
         have hux := hexU_pre' hpx
         rw [List.drop_drop] at hux
         have hl6 : 2 ≤ (r.drop 4).length := by
          rw [← pre_dec, decide_eq_true_eq] at hpx
          exact hpx.1
         rw [List.length_drop] at hl6
         refine cK (eI (by simp) (e_K (hK10 _ _ _ _ (Cq fun K32 hK32 => Cr (Zm rfl (Sv ((o_ssfrom (n := 7) Tryz.underlying9 rfl rfl (by simp only [List.length_cons]; omega)).to (v' := S (r.drop 6)) rfl) (sc (oC ent233 rfl) (c_four _ (r.drop 6)) rfl fun v_ w6 h_ => ?_)))))))
         obtain ⟨rfl, E_⟩ := h_
         replace E := E.then E_
         refine tW 5 rfl (Ln (e_K (hK32 _ _ _ _ (Cq fun K33 hK33 => Cq fun K34 hK34 => Cr (tW 2 rfl ?_)))))
         refine bC (fun hj : ((!(hexF 4 (r.drop 6) 0).isSome)) = true => ?_) (fun hj => ?_)
         ·refine tW 8 rfl (Ln (e_K (hK34 _ _ _ _ (c_true rfl ?_))))
          have hW := escP_bad2 hx4 (by omega) (by rw [hux]; first | (left; simpa using hj) | (right; exact ⟨m, hm4, by omega⟩))
          exact Cq fun K35 hK35 => Cr (tW 2 rfl (Ln (e_K (hK35 _ _ _ _ (cR (eT (by simp) (ret2 rfl rfl rfl ⟨by rw [hW]; rfl, E⟩)))))))
         ·obtain ⟨m, hm4⟩ : ∃ m, hexF 4 (r.drop 6) 0 = some m := Option.isSome_iff_exists.1 (by simpa using hj)
          have hm65 := four_lt hm4
          rw [hm4, Option.getD_some]
          refine tW 3 rfl ?_
          refine bD (fun hm1 : (m : Int) < 56320 => ?_) (fun hm1 => ?_)
          ·refine tW 5 rfl (Ln (e_K (hK34 _ _ _ _ (c_true rfl ?_))))
           have hW := escP_bad2 hx4 (by omega) (by rw [hux]; first | (left; simpa using hj) | (right; exact ⟨m, hm4, by omega⟩))
           exact Cq fun K36 hK36 => Cr (tW 2 rfl (Ln (e_K (hK36 _ _ _ _ (cR (eT (by simp) (ret2 rfl rfl rfl ⟨by rw [hW]; rfl, E⟩)))))))
          ·refine tW 3 rfl (Sg rfl rfl (o_geq rfl rfl) ?_)
           refine bD (fun hm2 : (m : Int) ≥ 57344 => ?_) (fun hm2 => ?_)
           ·refine Sv (oF rfl rfl rfl) (Ln (e_K (hK34 _ _ _ _ (c_true rfl ?_))))
            have hW := escP_bad2 hx4 (by omega) (by rw [hux]; first | (left; simpa using hj) | (right; exact ⟨m, hm4, by omega⟩))
            exact Cq fun K37 hK37 => Cr (tW 2 rfl (Ln (e_K (hK37 _ _ _ _ (cR (eT (by simp) (ret2 rfl rfl rfl ⟨by rw [hW]; rfl, E⟩)))))))
           ·refine Sv (oF rfl rfl rfl) (Ln (e_K (hK34 _ _ _ _ (c_false rfl (cK (e_K (hK33 _ _ _ _ (Cq fun K38 hK38 => Cr (Zm rfl (Sv ((o_sub rfl rfl).to (v' := .int .i32 ((n - 55296 : Nat) : Int)) (congrArg (Value.int .i32) (by rw [wrap32_in _ (by omega)]; omega))) (Sv ((o_shl rfl rfl (by omega)).to (v' := .int .i32 ((1024 * (n - 55296) : Nat) : Int)) (congrArg (Value.int .i32) (shl10i (by omega)))) (Sv ((o_add rfl rfl).to (v' := .int .i32 ((65536 + 1024 * (n - 55296) : Nat) : Int)) (congrArg (Value.int .i32) (by rw [wrap32_in _ (by omega)]; omega))) (Zm rfl (Sv ((o_sub rfl rfl).to (v' := .int .i32 ((m - 56320 : Nat) : Int)) (congrArg (Value.int .i32) (by rw [wrap32_in _ (by omega)]; omega))) ?_))))))))))))))
            exact Sv ((o_add rfl rfl).to (v' := .int .i32 ((65536 + 1024 * (n - 55296) + (m - 56320) : Nat) : Int)) (congrArg (Value.int .i32) (by rw [wrap32_in _ (by omega)]; omega))) (tW 2 rfl (Ln (e_K (hK38 _ _ _ _ (cR (ret2 rfl rfl rfl ⟨by rw [escP_pair hx4 (by omega) (hux.trans hm4) (by omega)]; rfl, E⟩))))))

theorem c_qtake (w : World) (s : Str) (k : Nat) (hs : s.length ≤ 200000) (hU : UtT w) : Calls Tryz.prog 178 [S s, .int .i64 (k : Int)].toArray w (Ret fun u w' => u = .tuple #[S ((strT s k).getD ([], 0)).1, .int .i64 (((strT s k).getD ([], 0)).2 : Int), .bool (strT s k).isSome] ∧ Mod [] w w') := by
 refine enter Tryz.func178 rfl rfl rfl (l := [(0, _), (1, _)]) ⟨rfl, rfl, trivial⟩ ?_
 have E := Mod.refl [] w
 refine Cq fun K1 hK1 => Cr (tW 3 rfl (Ln (e_K (hK1 _ _ _ _ (Cq fun K2 hK2 => Cq fun K3 hK3 => Cr (tW 2 rfl (bE (dF (show ¬ ((k : Int) < 0) by omega)) (tW 3 rfl (Sg rfl rfl (o_slen Tryz.underlying9 rfl) (Sg rfl rfl (o_geq rfl rfl) ?_))))))))))
 refine bD (fun hge : (k : Int) ≥ (s.length : Int) => ?_) (fun hge => ?_)
 ·refine tW 7 rfl (Ln (e_K (hK3 _ _ _ _ (c_true rfl ?_))))
  have hW : (strT s k) = none := by
   unfold strT
   rw [if_neg]
   intro h
   first | (have := (List.getElem?_eq_some_iff.1 h).1; omega) | (rw [hc0] at h; injection h with h; subst h; exact hne rfl)
  exact Cq fun K4 hK4 => Cr (tW 3 rfl (Ln (e_K (hK4 _ _ _ _ (cR (eT (by simp) (ret3 rfl rfl rfl rfl ⟨by rw [hW]; rfl, E⟩)))))))
 ·obtain ⟨c0, hc0⟩ : ∃ c0, s[k]? = some c0 := ⟨_, List.getElem?_eq_getElem (by omega)⟩
  refine tW 4 rfl (Sg rfl rfl (o_sidx Tryz.underlying9 rfl rfl (by omega) (by rw [Int.toNat_natCast]; exact hc0)) (Sg rfl rfl (o_neq rfl rfl) ?_))
  refine bD (fun hne : (c0.toNat : Int) ≠ 34 => ?_) (fun hne => ?_)
  ·refine Sv (oF rfl rfl rfl) (Ln (e_K (hK3 _ _ _ _ (c_true rfl ?_))))
   have hW : (strT s k) = none := by
    unfold strT
    rw [if_neg]
    intro h
    first | (have := (List.getElem?_eq_some_iff.1 h).1; omega) | (rw [hc0] at h; injection h with h; subst h; exact hne rfl)
   exact Cq fun K5 hK5 => Cr (tW 3 rfl (Ln (e_K (hK5 _ _ _ _ (cR (eT (by simp) (ret3 rfl rfl rfl rfl ⟨by rw [hW]; rfl, E⟩)))))))
  ·refine Sv (oF rfl rfl rfl) (Ln (e_K (hK3 _ _ _ _ (c_false rfl ?_))))
   have hq : s[k]? = some 34 := by rw [hc0, u8_eq (show (c0.toNat : Int) = (34 : UInt8).toNat by rw [Classical.not_not.1 hne]; rfl)]
   refine cK (e_K (hK2 _ _ _ _ (Cq fun K6 hK6 => Cr (Za rfl (Ln (e_K (hK6 _ _ _ _ (Cq fun K7 hK7 => Cq fun K8 hK8 => Cr (Zm rfl (Sv (o_addE (r := ((k + 1 : Nat) : Int)) rfl rfl (by rw [wrap64_in _ (by omega)]; omega)) (Za rfl (Ln ?_))))))))))))
   refine e_K (hK8 _ _ _ _ (cB (c_loop (σ := Nat × Value × Str) (fun ⟨i, v, out⟩ => [(0, S s), (7, v), (8, .int .i64 (i : Int))]) (fun ⟨i, v, out⟩ w1 => (k < i ∧ i ≤ s.length ∧ out.length ≤ 4 * i ∧ ∃ f, s.length - i < f ∧ strF f (s.drop i) i out = (strT s k)) ∧ OwB w1 v out ∧ (∀ x ∈ ob v, w.heap.size ≤ x) ∧ Mod [] w w1) (fun ⟨i, v, out⟩ => s.length - i) (⟨k + 1, .slice none 0 0, []⟩) ⟨rfl, rfl, rfl, trivial⟩ (⟨⟨by omega, by omega, by simp, s.length - k, by omega, by rw [strT, if_pos hq]⟩, Own.nil w 5 1, by simp [ob], E⟩) ?_)))
   rintro ⟨i, v, out⟩ w1 ⟨⟨hk, hi, hol, f, hf, hinv⟩, O, L0, E⟩
   refine Cq fun K9 hK9 => Cq fun K10 hK10 => Cr (tW 2 rfl (Sv (o_slen Tryz.underlying9 rfl) (Sv (o_lss rfl rfl) (Ln (e_K (hK10 _ _ _ _ ?_))))))
   refine c_if rfl (fun h30 => ?_) (fun h30 => ?_)
   ·obtain ⟨c, hc⟩ : ∃ c, s[i]? = some c := ⟨_, List.getElem?_eq_getElem (by omega)⟩
    obtain ⟨g, rfl⟩ : ∃ g, f = g + 1 := ⟨f - 1, by omega⟩
    refine cK (e_K (hK9 _ _ _ _ (cB (Cq fun K11 hK11 => ?_))))
    by_cases hA : c = 34
    ·subst hA
     have hdecv : Utf8.decode ⟨⟨s.drop i⟩⟩ 0 = (34, 1) := by rw [dec_some (by omega) (by rw [rune_first hc (by decide)]; simp), rune_first hc (by decide)]; rfl
     have hW : (strT s k) = some (out, i + 1) := by rw [← hinv, strF_quote hc]
     refine Cr (tW 2 rfl (Sv (o_ssfrom Tryz.underlying9 rfl rfl hi) (sc (oC ent202 rfl) (c_decR _ (s.drop i) (hU.mod0 E)) rfl fun v_ w2 h_ => ?_)))
     obtain ⟨rfl, E_⟩ := h_
     replace E := E.then E_
     replace O := O.mod0 E_
     rw [decP_at (show i < s.length by omega), hdecv]
     refine tW 5 rfl (Ln (e_K (hK11 _ _ _ _ (Cq fun K12 hK12 => cB (Cq fun K13 hK13 => Cr (tW 2 rfl (bE (dT (by decide)) (Za rfl (Ln (e_K (hK13 _ _ _ _ (c_true rfl (Cq fun K14 hK14 => ?_)))))))))))))
     refine Cr (Zm rfl (Sv (o_b2s_own (u := out) Tryz.underlying74 Tryz.underlying5 Tryz.underlying9 rfl (O.same rfl (cells_b8 _))) (Zm rfl (Sv (o_addE (r := ((i + 1 : Nat) : Int)) rfl rfl (by rw [wrap64_in _ (by omega)]; omega)) (tW 3 rfl (Ln (e_K (hK14 _ _ _ _ (cR (eI (by simp) (eT (by simp) (eI (by simp) (eT (by simp) (eI (by simp) ?_))))))))))))))
     exact eT (by simp) (ret3 rfl rfl rfl rfl ⟨by rw [hW]; rfl, E⟩)
    ·by_cases hB : c = 92
     ·subst hB
      have hdecv : Utf8.decode ⟨⟨s.drop i⟩⟩ 0 = (92, 1) := by rw [dec_some (by omega) (by rw [rune_first hc (by decide)]; simp), rune_first hc (by decide)]; rfl
      obtain ⟨e1, e2, e3⟩ := escP_le (s.drop (i + 1))
      rw [List.length_drop] at e3
      have hst := strF_esc (f := g) (out := out) hc
      rw [hinv] at hst
      refine Cr (tW 2 rfl (Sv (o_ssfrom Tryz.underlying9 rfl rfl hi) (sc (oC ent202 rfl) (c_decR _ (s.drop i) (hU.mod0 E)) rfl fun v_ w3 h_ => ?_)))
      obtain ⟨rfl, E_⟩ := h_
      replace E := E.then E_
      replace O := O.mod0 E_
      rw [decP_at (show i < s.length by omega), hdecv]
      refine tW 5 rfl (Ln (e_K (hK11 _ _ _ _ (Cq fun K15 hK15 => cB (Cq fun K16 hK16 => Cr (tW 2 rfl (bE (dF (by decide)) (Za rfl (Ln (e_K (hK16 _ _ _ _ (c_false rfl (Cq fun K17 hK17 => ?_)))))))))))))
      refine Cr (tW 2 rfl (bE (dF (by decide)) (tW 3 rfl (bE (dF (by decide)) (tW 6 rfl (Ln (e_K (hK17 _ _ _ _ (c_false rfl (Cq fun K18 hK18 => Cr (tW 2 rfl (bE (dT (by decide)) (Za rfl ?_)))))))))))))
      refine Ln (e_K (hK18 _ _ _ _ (c_true rfl (Cq fun K19 hK19 => Cr (tW 2 rfl (Sv (o_addE (r := ((i + 1 : Nat) : Int)) rfl rfl (by rw [wrap64_in _ (by omega)]; omega)) (Sv (o_ssfrom (n := i + 1) Tryz.underlying9 rfl rfl (by omega)) (sc (oC ent203 rfl) (c_escape _ (s.drop (i + 1))) rfl fun v_ w4 h_ => ?_))))))))
      obtain ⟨rfl, E_⟩ := h_
      replace E := E.then E_
      replace O := O.mod0 E_
      refine tW 5 rfl (Ln (e_K (hK19 _ _ _ _ (Cq fun K20 hK20 => Cq fun K21 hK21 => Cr (tW 2 rfl ?_)))))
      refine bD (fun hez : ((escP (s.drop (i + 1))).2 : Int) = 0 => ?_) (fun hez => ?_)
      ·refine Ln (e_K (hK21 _ _ _ _ (c_true rfl ?_)))
       have hW2 : (strT s k) = none := by rw [hst, if_pos (by omega)]
       exact Cq fun K22 hK22 => Cr (tW 3 rfl (Ln (e_K (hK22 _ _ _ _ (cR (eT (by simp) (eI (by simp) (eT (by simp) (eI (by simp) (eT (by simp) (eI (by simp) (eT (by simp) (ret3 rfl rfl rfl rfl ⟨by rw [hW2]; rfl, E⟩)))))))))))))
      ·refine Ln (e_K (hK21 _ _ _ _ (c_false rfl (cK (e_K (hK20 _ _ _ _ (Cr (Zm rfl (Sv (o_addE (r := (((escP (s.drop (i + 1))).2 + 1 : Nat) : Int)) rfl rfl (by rw [wrap64_in _ (by omega)]; omega)) (Za rfl (Ln (eI (by simp) (e_K (hK15 _ _ _ _ (Cq fun K23 hK23 => ?_)))))))))))))))
       have hinv2 : strF g (s.drop (i + ((escP (s.drop (i + 1))).2 + 1))) (i + ((escP (s.drop (i + 1))).2 + 1)) (out ++ encB (escP (s.drop (i + 1))).1) = (strT s k) := by rw [hst, if_neg (by omega)]
       refine Cr (tW 2 rfl (sc (oC ent189 rfl) (c_apr _ v out (escP (s.drop (i + 1))).1 O e1 e2 (by omega)) rfl fun v_ w5 h_ => ?_))
       obtain ⟨O1, ho1, hm1⟩ := h_
       have L1 : ∀ x ∈ ob v_, w.heap.size ≤ x := fun x hx => (ho1 x hx).elim (L0 x) (Nat.le_trans E.size)
       replace E := E.trans' hm1 (fun x hx => .inr (L0 x hx))
       exact Za rfl (Ln (e_K (hK23 _ _ _ _ (Cr (tW 2 rfl (Sv (o_addE (r := ((i + ((escP (s.drop (i + 1))).2 + 1) : Nat) : Int)) rfl rfl (by rw [wrap64_in _ (by omega)]; omega)) (Za rfl (Ln (eI (by simp) (eR (σ := Nat × Value × Str) (s := ⟨i, v, out⟩) (⟨i + ((escP (s.drop (i + 1))).2 + 1), v_, out ++ encB (escP (s.drop (i + 1))).1⟩) ⟨rfl, rfl, rfl, trivial⟩ ⟨⟨by omega, by omega, by rw [List.length_append]; have := encB_le (escP (s.drop (i + 1))).1; omega, g, by omega, hinv2⟩, O1, L1, E⟩ (by dsimp only; omega)))))))))))
     ·by_cases hz : (runeR (s.drop i)).2 = 0
      ·have hdecv := dec_none (show i < s.length by omega) hz
       have hW : (strT s k) = none := by rw [← hinv, strF_rune hc hA hB, if_pos (.inl hz)]
       refine Cr (tW 2 rfl (Sv (o_ssfrom Tryz.underlying9 rfl rfl hi) (sc (oC ent202 rfl) (c_decR _ (s.drop i) (hU.mod0 E)) rfl fun v_ w6 h_ => ?_)))
       obtain ⟨rfl, E_⟩ := h_
       replace E := E.then E_
       replace O := O.mod0 E_
       rw [decP_at (show i < s.length by omega), hdecv]
       refine tW 5 rfl (Ln (e_K (hK11 _ _ _ _ (Cq fun K24 hK24 => cB (Cq fun K25 hK25 => Cr (tW 2 rfl (bE (dF (by decide)) (Za rfl (Ln (e_K (hK25 _ _ _ _ (c_false rfl (Cq fun K26 hK26 => ?_)))))))))))))
       refine Cr (tW 2 rfl (bE (dF (by decide)) (tW 3 rfl (bE (dT (by decide)) (tW 3 rfl (bE (dT (by decide)) (tW 3 rfl (Ln (e_K (hK26 _ _ _ _ (c_true rfl ?_)))))))))))
       have hW2 : (strT s k) = none := by first | exact hW | (rw [hst, if_pos (.inr (by omega))])
       exact Cq fun K27 hK27 => Cr (tW 3 rfl (Ln (e_K (hK27 _ _ _ _ (cR (eI (by simp) (eT (by simp) (eI (by simp) (eT (by simp) (eI (by simp) (eT (by simp) (ret3 rfl rfl rfl rfl ⟨by rw [hW2]; rfl, E⟩))))))))))))
      ·have hdecv := dec_some (show i < s.length by omega) hz
       obtain ⟨_, _, e1, e2⟩ := enc_take (dec_at (show i < s.length by omega)) hz
       have e3 := runeR_le (s.drop i)
       rw [List.length_drop] at e3
       have hst := strF_rune (f := g) (out := out) hc hA hB
       rw [hinv] at hst
       have hR34 : ¬ (((runeR (s.drop i)).1 : Int) = 34) := fun h => hA (u8_eq (by rw [← rune_low hc hz (by omega)]; exact h))
       have hR92 : ¬ (((runeR (s.drop i)).1 : Int) = 92) := fun h => hB (u8_eq (by rw [← rune_low hc hz (by omega)]; exact h))
       refine Cr (tW 2 rfl (Sv (o_ssfrom Tryz.underlying9 rfl rfl hi) (sc (oC ent202 rfl) (c_decR _ (s.drop i) (hU.mod0 E)) rfl fun v_ w7 h_ => ?_)))
       obtain ⟨rfl, E_⟩ := h_
       replace E := E.then E_
       replace O := O.mod0 E_
       rw [decP_at (show i < s.length by omega), hdecv]
       refine tW 5 rfl (Ln (e_K (hK11 _ _ _ _ (Cq fun K28 hK28 => cB (Cq fun K29 hK29 => Cr (tW 2 rfl (bE (dF (hR34)) (Za rfl (Ln (e_K (hK29 _ _ _ _ (c_false rfl (Cq fun K30 hK30 => ?_)))))))))))))
       refine Cr (tW 2 rfl ?_)
       refine bD (fun hlo : ((runeR (s.drop i)).1 : Int) < 32 => ?_) (fun hlo => ?_)
       ·refine tW 9 rfl (Ln (e_K (hK30 _ _ _ _ (c_true rfl ?_))))
        have hW2 : (strT s k) = none := by first | exact hW | (rw [hst, if_pos (.inr (by omega))])
        exact Cq fun K31 hK31 => Cr (tW 3 rfl (Ln (e_K (hK31 _ _ _ _ (cR (eI (by simp) (eT (by simp) (eI (by simp) (eT (by simp) (eI (by simp) (eT (by simp) (ret3 rfl rfl rfl rfl ⟨by rw [hW2]; rfl, E⟩))))))))))))
       ·refine tW 3 rfl ?_
        refine bD (fun her : ((runeR (s.drop i)).1 : Int) = 65533 => ?_) (fun her => ?_)
        ·have hn2 := rune_err (show i < s.length by omega) hz (by omega)
         refine tW 3 rfl (bE (dF (by omega)) (tW 3 rfl (Ln (e_K (hK30 _ _ _ _ (c_false rfl (Cq fun K32 hK32 => Cr (tW 2 rfl (bE (dF (hR92)) (Za rfl (Ln (e_K (hK32 _ _ _ _ (c_false rfl ?_))))))))))))))
         refine cK (eI (by simp) (e_K (hK28 _ _ _ _ (Cq fun K33 hK33 => ?_))))
         have hinv2 : strF g (s.drop (i + (runeR (s.drop i)).2)) (i + (runeR (s.drop i)).2) (out ++ encB (runeR (s.drop i)).1) = (strT s k) := by rw [hst, if_neg (by omega)]
         refine Cr (tW 2 rfl (sc (oC ent189 rfl) (c_apr _ v out (runeR (s.drop i)).1 O e1 e2 (by omega)) rfl fun v_ w8 h_ => ?_))
         obtain ⟨O1, ho1, hm1⟩ := h_
         have L1 : ∀ x ∈ ob v_, w.heap.size ≤ x := fun x hx => (ho1 x hx).elim (L0 x) (Nat.le_trans E.size)
         replace E := E.trans' hm1 (fun x hx => .inr (L0 x hx))
         exact Za rfl (Ln (e_K (hK33 _ _ _ _ (Cr (tW 2 rfl (Sv (o_addE (r := ((i + (runeR (s.drop i)).2 : Nat) : Int)) rfl rfl (by rw [wrap64_in _ (by omega)]; omega)) (Za rfl (Ln (eI (by simp) (eR (σ := Nat × Value × Str) (s := ⟨i, v, out⟩) (⟨i + (runeR (s.drop i)).2, v_, out ++ encB (runeR (s.drop i)).1⟩) ⟨rfl, rfl, rfl, trivial⟩ ⟨⟨by omega, by omega, by rw [List.length_append]; have := encB_le (runeR (s.drop i)).1; omega, g, by omega, hinv2⟩, O1, L1, E⟩ (by dsimp only; omega)))))))))))
        ·refine tW 6 rfl (Ln (e_K (hK30 _ _ _ _ (c_false rfl (Cq fun K34 hK34 => Cr (tW 2 rfl (bE (dF (hR92)) (Za rfl (Ln (e_K (hK34 _ _ _ _ (c_false rfl (cK (eI (by simp) ?_))))))))))))))
         refine e_K (hK28 _ _ _ _ (Cq fun K35 hK35 => ?_))
         have hinv2 : strF g (s.drop (i + (runeR (s.drop i)).2)) (i + (runeR (s.drop i)).2) (out ++ encB (runeR (s.drop i)).1) = (strT s k) := by rw [hst, if_neg (by omega)]
         refine Cr (tW 2 rfl (sc (oC ent189 rfl) (c_apr _ v out (runeR (s.drop i)).1 O e1 e2 (by omega)) rfl fun v_ w9 h_ => ?_))
         obtain ⟨O1, ho1, hm1⟩ := h_
         have L1 : ∀ x ∈ ob v_, w.heap.size ≤ x := fun x hx => (ho1 x hx).elim (L0 x) (Nat.le_trans E.size)
         replace E := E.trans' hm1 (fun x hx => .inr (L0 x hx))
         exact Za rfl (Ln (e_K (hK35 _ _ _ _ (Cr (tW 2 rfl (Sv (o_addE (r := ((i + (runeR (s.drop i)).2 : Nat) : Int)) rfl rfl (by rw [wrap64_in _ (by omega)]; omega)) (Za rfl (Ln (eI (by simp) (eR (σ := Nat × Value × Str) (s := ⟨i, v, out⟩) (⟨i + (runeR (s.drop i)).2, v_, out ++ encB (runeR (s.drop i)).1⟩) ⟨rfl, rfl, rfl, trivial⟩ ⟨⟨by omega, by omega, by rw [List.length_append]; have := encB_le (runeR (s.drop i)).1; omega, g, by omega, hinv2⟩, O1, L1, E⟩ (by dsimp only; omega)))))))))))
   ·have hW : (strT s k) = none := by rw [← hinv, strF_end (by omega)]
    exact c_exit (eT (by simp) (eT (by simp) (e_hit (e_K (hK7 _ _ _ _ (Cq fun K36 hK36 => Cr (tW 3 rfl (Ln (e_K (hK36 _ _ _ _ (cR (ret3 rfl rfl rfl rfl ⟨by rw [hW]; rfl, E⟩))))))))))))
end Go.Proofs.YtknndpjacklkeaaGreatDoor.V

set_option linter.unusedVariables false
set_option linter.unusedSimpArgs false
set_option maxRecDepth 10000
namespace Go.Proofs.YtknndpjacklkeaaGreatDoor.V
open Go Go.Proofs
theorem ent152 : Ent Tryz.prog 152 := Ent.of Tryz.func152 (by kernel_rfl) (by kernel_rfl)
theorem pl110 : plB Tryz.prog 110 [(0, 1)] = true := by kernel_rfl
theorem zv110 : zvB Tryz.prog 110 ([.int .i64 0]) := by unfold zvB; kernel_rfl
theorem fd76_0 : fdB Tryz.prog 76 0 0 1 = true := by kernel_rfl
theorem sc74 : scB Tryz.prog 74 = true := by kernel_rfl
theorem ent53 : Ent Tryz.prog 53 := Ent.of Tryz.func53 (by kernel_rfl) (by kernel_rfl)
theorem ent154 : Ent Tryz.prog 154 := Ent.of Tryz.func154 (by kernel_rfl) (by kernel_rfl)
theorem ent107 : Ent Tryz.prog 107 := Ent.of Tryz.func107 (by kernel_rfl) (by kernel_rfl)
theorem c_plain (w : World) (v : JV) (us : List Value) (R : Reps [] w v.D us) : Calls Tryz.prog 106 [.agg us.toArray].toArray w (Ret fun u w' => u = .bool v.plain ∧ Mod [] w w') := by
 refine enter Tryz.func106 rfl rfl rfl (l := [(0, _)]) ⟨rfl, trivial⟩ ?_
 have E := Mod.refl [] w
 obtain ⟨al, cl, am, cm, rfl, Rl, Rm⟩ := JV.cells_ R
 refine Cq fun K1 hK1 => Cr (s_box rfl rfl rfl fun g1 w1 N1 => ?_)
 have Lg1_E := N1.le E
 replace E := E.then N1.mod
 have Bg1 := N1.blk
 refine Za rfl (Ln (e_K (hK1 _ _ _ _ (Cq fun K2 hK2 => Cr (Sv (oA0 fd25_0 rfl) (Sv (oL sc3 rfl (Bg1.cell rfl)) (Za rfl (Ln (e_K (hK2 _ _ _ _ (Cq fun K3 hK3 => Cr (Zm rfl (Sv (o_geq rfl rfl) ?_)))))))))))))
 refine bD (fun hge : v.kind ≥ 0 => ?_) (fun hge => ?_)
 ·refine tW 3 rfl ?_
  refine bD (fun hle : v.kind ≤ 5 => ?_) (fun hle => ?_)
  ·refine tW 4 rfl ?_
   refine bD (fun hk1 : v.kind = 1 => ?_) (fun hk1 => ?_)
   ·refine tW 9 rfl (bE (dF (by omega)) (Sg rfl rfl (oM rfl) (Sg rfl rfl (oA0 fd25_2 rfl) (Sg rfl rfl (oL sc3 rfl (Bg1.cell rfl)) (Sg rfl rfl (oE rfl rfl) ?_)))))
    refine bD (fun hnum : v.num = 0 => ?_) (fun hnum => ?_)
    ·refine tW 5 rfl (bE (dF (by omega)) (Sg rfl rfl (oM rfl) (Sg rfl rfl (oA0 fd25_3 rfl) (Sg rfl rfl (oL sc9 rfl (Bg1.cell rfl)) (Sg rfl rfl (o_seq rfl rfl) ?_)))))
     refine bD (fun hstr : v.str = [] => ?_) (fun hstr => ?_)
     ·refine tW 5 rfl (bE (dF (by omega)) (Sg rfl rfl (oM rfl) (Sg rfl rfl (oA0 fd25_4 rfl) (Sg rfl rfl (oL sc22 rfl (Bg1.cell rfl)) (Sg rfl rfl (o_len Tryz.underlying22 rfl) (Sg rfl rfl (oE rfl rfl) ?_))))))
      refine bD (fun hlist : (v.list.length : Int) = 0 => ?_) (fun hlist => ?_)
      ·refine tW 5 rfl (bE (dF (by omega)) (Sg rfl rfl (oM rfl) (Sg rfl rfl (oA0 fd25_5 rfl) (Sg rfl rfl (oL sc23 rfl (Bg1.cell rfl)) (Sg rfl rfl (o_len Tryz.underlying23 rfl) (Sg rfl rfl (oE rfl rfl) ?_))))))
       refine bD (fun hmap : (v.map.length : Int) = 0 => ?_) (fun hmap => ?_)
       ·exact tW 3 rfl (Ln (e_K (hK3 _ _ _ _ (cR (ret1 rfl rfl ⟨congrArg Value.bool (by simp only [JV.plain]; clear E R Rl Rm Bg1; simp_all <;> omega), E⟩)))))
       ·exact tW 3 rfl (Ln (e_K (hK3 _ _ _ _ (cR (ret1 rfl rfl ⟨congrArg Value.bool (by simp only [JV.plain]; clear E R Rl Rm Bg1; simp_all <;> omega), E⟩)))))
      ·exact tW 13 rfl (Ln (e_K (hK3 _ _ _ _ (cR (ret1 rfl rfl ⟨congrArg Value.bool (by simp only [JV.plain]; clear E R Rl Rm Bg1; simp_all <;> omega), E⟩)))))
     ·exact tW 23 rfl (Ln (e_K (hK3 _ _ _ _ (cR (ret1 rfl rfl ⟨congrArg Value.bool (by simp only [JV.plain]; clear E R Rl Rm Bg1; simp_all <;> omega), E⟩)))))
    ·exact tW 32 rfl (Ln (e_K (hK3 _ _ _ _ (cR (ret1 rfl rfl ⟨congrArg Value.bool (by simp only [JV.plain]; clear E R Rl Rm Bg1; simp_all <;> omega), E⟩)))))
   ·refine Sg rfl rfl (oM rfl) (Sg rfl rfl (oA0 fd25_1 rfl) (Sg rfl rfl (oL sc4 rfl (Bg1.cell rfl)) (Sg rfl rfl (o_not rfl) ?_)))
    refine bB (fun his : (!v.is) = true => ?_) (fun his => ?_)
    ·refine tW 5 rfl ?_
     refine bD (fun hk2 : v.kind = 2 => ?_) (fun hk2 => ?_)
     ·refine tW 9 rfl (bE (dF (by omega)) (Sg rfl rfl (oM rfl) (Sg rfl rfl (oA0 fd25_3 rfl) (Sg rfl rfl (oL sc9 rfl (Bg1.cell rfl)) (Sg rfl rfl (o_seq rfl rfl) ?_)))))
      refine bD (fun hstr : v.str = [] => ?_) (fun hstr => ?_)
      ·refine tW 5 rfl (bE (dF (by omega)) (Sg rfl rfl (oM rfl) (Sg rfl rfl (oA0 fd25_4 rfl) (Sg rfl rfl (oL sc22 rfl (Bg1.cell rfl)) (Sg rfl rfl (o_len Tryz.underlying22 rfl) (Sg rfl rfl (oE rfl rfl) ?_))))))
       refine bD (fun hlist : (v.list.length : Int) = 0 => ?_) (fun hlist => ?_)
       ·refine tW 5 rfl (bE (dF (by omega)) (Sg rfl rfl (oM rfl) (Sg rfl rfl (oA0 fd25_5 rfl) (Sg rfl rfl (oL sc23 rfl (Bg1.cell rfl)) (Sg rfl rfl (o_len Tryz.underlying23 rfl) (Sg rfl rfl (oE rfl rfl) ?_))))))
        refine bD (fun hmap : (v.map.length : Int) = 0 => ?_) (fun hmap => ?_)
        ·exact tW 3 rfl (Ln (e_K (hK3 _ _ _ _ (cR (ret1 rfl rfl ⟨congrArg Value.bool (by simp only [JV.plain]; clear E R Rl Rm Bg1; simp_all <;> omega), E⟩)))))
        ·exact tW 3 rfl (Ln (e_K (hK3 _ _ _ _ (cR (ret1 rfl rfl ⟨congrArg Value.bool (by simp only [JV.plain]; clear E R Rl Rm Bg1; simp_all <;> omega), E⟩)))))
       ·exact tW 13 rfl (Ln (e_K (hK3 _ _ _ _ (cR (ret1 rfl rfl ⟨congrArg Value.bool (by simp only [JV.plain]; clear E R Rl Rm Bg1; simp_all <;> omega), E⟩)))))
      ·exact tW 23 rfl (Ln (e_K (hK3 _ _ _ _ (cR (ret1 rfl rfl ⟨congrArg Value.bool (by simp only [JV.plain]; clear E R Rl Rm Bg1; simp_all <;> omega), E⟩)))))
     ·refine Sg rfl rfl (oM rfl) (Sg rfl rfl (oA0 fd25_2 rfl) (Sg rfl rfl (oL sc3 rfl (Bg1.cell rfl)) (Sg rfl rfl (oE rfl rfl) ?_)))
      refine bD (fun hnum : v.num = 0 => ?_) (fun hnum => ?_)
      ·refine tW 5 rfl ?_
       refine bD (fun hk3 : v.kind = 3 => ?_) (fun hk3 => ?_)
       ·refine tW 9 rfl (bE (dF (by omega)) (Sg rfl rfl (oM rfl) (Sg rfl rfl (oA0 fd25_4 rfl) (Sg rfl rfl (oL sc22 rfl (Bg1.cell rfl)) (Sg rfl rfl (o_len Tryz.underlying22 rfl) (Sg rfl rfl (oE rfl rfl) ?_))))))
        refine bD (fun hlist : (v.list.length : Int) = 0 => ?_) (fun hlist => ?_)
        ·refine tW 5 rfl (bE (dF (by omega)) (Sg rfl rfl (oM rfl) (Sg rfl rfl (oA0 fd25_5 rfl) (Sg rfl rfl (oL sc23 rfl (Bg1.cell rfl)) (Sg rfl rfl (o_len Tryz.underlying23 rfl) (Sg rfl rfl (oE rfl rfl) ?_))))))
         refine bD (fun hmap : (v.map.length : Int) = 0 => ?_) (fun hmap => ?_)
         ·exact tW 3 rfl (Ln (e_K (hK3 _ _ _ _ (cR (ret1 rfl rfl ⟨congrArg Value.bool (by simp only [JV.plain]; clear E R Rl Rm Bg1; simp_all <;> omega), E⟩)))))
         ·exact tW 3 rfl (Ln (e_K (hK3 _ _ _ _ (cR (ret1 rfl rfl ⟨congrArg Value.bool (by simp only [JV.plain]; clear E R Rl Rm Bg1; simp_all <;> omega), E⟩)))))
        ·exact tW 13 rfl (Ln (e_K (hK3 _ _ _ _ (cR (ret1 rfl rfl ⟨congrArg Value.bool (by simp only [JV.plain]; clear E R Rl Rm Bg1; simp_all <;> omega), E⟩)))))
       ·refine Sg rfl rfl (oM rfl) (Sg rfl rfl (oA0 fd25_3 rfl) (Sg rfl rfl (oL sc9 rfl (Bg1.cell rfl)) (Sg rfl rfl (o_seq rfl rfl) ?_)))
        refine bD (fun hstr : v.str = [] => ?_) (fun hstr => ?_)
        ·refine tW 5 rfl ?_
         refine bD (fun hk4 : v.kind = 4 => ?_) (fun hk4 => ?_)
         ·refine tW 10 rfl (bE (dF (by omega)) (Sg rfl rfl (oM rfl) (Sg rfl rfl (oA0 fd25_5 rfl) (Sg rfl rfl (oL sc23 rfl (Bg1.cell rfl)) (Sg rfl rfl (o_len Tryz.underlying23 rfl) (Sg rfl rfl (oE rfl rfl) ?_))))))
          refine bD (fun hmap : (v.map.length : Int) = 0 => ?_) (fun hmap => ?_)
          ·exact tW 3 rfl (Ln (e_K (hK3 _ _ _ _ (cR (ret1 rfl rfl ⟨congrArg Value.bool (by simp only [JV.plain]; clear E R Rl Rm Bg1; simp_all <;> omega), E⟩)))))
          ·exact tW 3 rfl (Ln (e_K (hK3 _ _ _ _ (cR (ret1 rfl rfl ⟨congrArg Value.bool (by simp only [JV.plain]; clear E R Rl Rm Bg1; simp_all <;> omega), E⟩)))))
         ·refine Sg rfl rfl (oM rfl) (Sg rfl rfl (oA0 fd25_4 rfl) (Sg rfl rfl (oL sc22 rfl (Bg1.cell rfl)) (Sg rfl rfl (o_len Tryz.underlying22 rfl) (Sg rfl rfl (oE rfl rfl) ?_))))
          refine bD (fun hlist : (v.list.length : Int) = 0 => ?_) (fun hlist => ?_)
          ·refine tW 5 rfl ?_
           refine bD (fun hk5 : v.kind = 5 => ?_) (fun hk5 => ?_)
           ·exact tW 8 rfl (Ln (e_K (hK3 _ _ _ _ (cR (ret1 rfl rfl ⟨congrArg Value.bool (by simp only [JV.plain]; clear E R Rl Rm Bg1; simp_all <;> omega), E⟩)))))
           ·refine Sg rfl rfl (oM rfl) (Sg rfl rfl (oA0 fd25_5 rfl) (Sg rfl rfl (oL sc23 rfl (Bg1.cell rfl)) (Sg rfl rfl (o_len Tryz.underlying23 rfl) (Sg rfl rfl (oE rfl rfl) ?_))))
            refine bD (fun hmap : (v.map.length : Int) = 0 => ?_) (fun hmap => ?_)
            ·exact tW 3 rfl (Ln (e_K (hK3 _ _ _ _ (cR (ret1 rfl rfl ⟨congrArg Value.bool (by simp only [JV.plain]; clear E R Rl Rm Bg1; simp_all <;> omega), E⟩)))))
            ·exact tW 3 rfl (Ln (e_K (hK3 _ _ _ _ (cR (ret1 rfl rfl ⟨congrArg Value.bool (by simp only [JV.plain]; clear E R Rl Rm Bg1; simp_all <;> omega), E⟩)))))
          ·exact tW 13 rfl (Ln (e_K (hK3 _ _ _ _ (cR (ret1 rfl rfl ⟨congrArg Value.bool (by simp only [JV.plain]; clear E R Rl Rm Bg1; simp_all <;> omega), E⟩)))))
        ·exact tW 23 rfl (Ln (e_K (hK3 _ _ _ _ (cR (ret1 rfl rfl ⟨congrArg Value.bool (by simp only [JV.plain]; clear E R Rl Rm Bg1; simp_all <;> omega), E⟩)))))
      ·exact tW 32 rfl (Ln (e_K (hK3 _ _ _ _ (cR (ret1 rfl rfl ⟨congrArg Value.bool (by simp only [JV.plain]; clear E R Rl Rm Bg1; simp_all <;> omega), E⟩)))))
    ·exact tW 41 rfl (Ln (e_K (hK3 _ _ _ _ (cR (ret1 rfl rfl ⟨congrArg Value.bool (by simp only [JV.plain]; clear E R Rl Rm Bg1; simp_all <;> omega), E⟩)))))
  ·exact tW 49 rfl (Ln (e_K (hK3 _ _ _ _ (cR (ret1 rfl rfl ⟨congrArg Value.bool (by simp only [JV.plain]; clear E R Rl Rm Bg1; simp_all <;> omega), E⟩)))))
 ·exact tW 52 rfl (Ln (e_K (hK3 _ _ _ _ (cR (ret1 rfl rfl ⟨congrArg Value.bool (by simp only [JV.plain]; clear E R Rl Rm Bg1; simp_all <;> omega), E⟩)))))

theorem c_fmtb0 (w : World) (x : Bool) : Calls Tryz.prog 152 [.bool x].toArray w (Ret fun u w' => u = S (if x then JV.tTrue else JV.tFalse) ∧ Mod [] w w') := by
 refine enter Tryz.func152 rfl rfl rfl (l := [(0, _)]) ⟨rfl, trivial⟩ ?_
 have E := Mod.refl [] w
 refine Cq fun K1 hK1 => Cr (Za rfl (Ln (e_K (hK1 _ _ _ _ (Cq fun K2 hK2 => Cq fun K3 hK3 => Cr (Zm rfl (Ln (e_K (hK3 _ _ _ _ ?_)))))))))
 refine c_cond rfl (fun h3 => ?_) (fun h3 => ?_)
 ·exact Cq fun K4 hK4 => Cr (Za rfl (Ln (e_K (hK4 _ _ _ _ (cR (eT (by simp) (ret1 rfl rfl ⟨by rw [h3]; rfl, E⟩)))))))
 ·exact cK (e_K (hK2 _ _ _ _ (Cq fun K5 hK5 => Cr (Za rfl (Ln (e_K (hK5 _ _ _ _ (cR (ret1 rfl rfl ⟨by rw [h3]; rfl, E⟩)))))))))

theorem c_fmtb (w : World) (x : Bool) : Calls Tryz.prog 108 [.bool x].toArray w (Ret fun u w' => u = S (if x then JV.tTrue else JV.tFalse) ∧ Mod [] w w') := by
 refine enter Tryz.func108 rfl rfl rfl (l := [(0, _)]) ⟨rfl, trivial⟩ ?_
 have E := Mod.refl [] w
 refine Cq fun K1 hK1 => Cr (Za rfl (Ln (e_K (hK1 _ _ _ _ (Cq fun K2 hK2 => Cr (Zm rfl (sc (oC ent152 rfl) (c_fmtb0 _ _) rfl fun v_ w1 h_ => ?_)))))))
 obtain ⟨rfl, E_⟩ := h_
 replace E := E.then E_
 exact Za rfl (Ln (e_K (hK2 _ _ _ _ (cR (ret1 rfl rfl ⟨rfl, E⟩)))))

theorem c_fail (w : World) (e : Int) : Calls Tryz.prog 53 [.int .i64 e].toArray w (WrF 110 e w) := by
 exact enter Tryz.func53 rfl rfl rfl (l := [(0, _)]) ⟨rfl, trivial⟩ (Cr (Zm rfl (Sv (o_build (cs := [_]) pl110 zv110 rfl rfl) (Sv (o_mki Tryz.underlying110 rfl rfl) (s_panic rfl (endp ⟨rfl, rfl⟩))))))

theorem c_wput (w : World) (g : Nat) (u : Value) (b : Str) (HB : WrB w g 76 u b) (t : Str) (ht : t.length ≤ 1000000) : Calls Tryz.prog 107 [.pointer (some ⟨g, 0, none⟩), S t].toArray w (WrP w g 76 110 u (lng (b ++ t))) := by
 refine enter Tryz.func107 rfl rfl rfl (l := [(0, _), (1, _)]) ⟨rfl, rfl, trivial⟩ (Cq fun K1 hK1 => ?_)
 have H := WrT.init HB
 refine Cr (tW 3 rfl (Sv (oA0 fd76_0 rfl) (Sv (oL sc74 rfl (H.wb.blk.cell rfl)) (Zm rfl (s_append sl74 rfl rfl H.wb.own (Src.str Tryz.underlying9 t) (by decide) (by have := H.wb.len; omega) (by have := H.wb.len; omega) rfl fun u1 w1 AA => ?_)))))
 have O1 : OwB w1 u1 (b ++ t) := AA.own.same (by simp) (by simp [cells_b8, B8])
 obtain ⟨ad1, c1, rfl, hc1, hc2⟩ := O1.form
 have B1 := H.wb.blk.mod AA.mod (fun hx => H.wb.ne _ hx rfl)
 refine Sv (o_nilc rfl) (Sv (oA0 fd76_0 rfl) (s_st sc74 B1 rfl rfl rfl (by simp) fun w2 PX => ?_))
 have BX := PX.blk
 have MX := H.app AA PX.mod
 refine Ln (e_K (hK1 _ _ _ _ (Cq fun K2 hK2 => Cr (tW 2 rfl (Sv (oA0 fd76_0 rfl) (Sv (oL sc74 rfl (BX.cell rfl)) (Sv (o_len Tryz.underlying74 rfl) (Sv (o_gtr rfl rfl) (Ln (e_K (hK2 _ _ _ _ ?_)))))))))))
 refine c_if rfl (fun h18 => ?_) (fun h18 => ?_)
 ·refine Cr ?_
  refine scp (oC ent53 rfl) (c_fail _ 3) rfl (fun w_ h_ => h_.elim) (fun c_ w3 h_ => ?_) fun v_ w3 h_ => ?_
  ·obtain ⟨rfl, rfl⟩ := h_
   exact endp ⟨3, if_pos (by omega), by decide, rfl, MX⟩
  ·exact h_.elim
 ·exact cK (end0R rfl ((H.app' AA O1 PX.mod BX (by omega)).fin (if_neg (by omega))))

theorem c_wtext (w : World) (g : Nat) (u : Value) (b : Str) (HB : WrB w g 76 u b) (s : Str) : Calls Tryz.prog 110 [.pointer (some ⟨g, 0, none⟩), S s].toArray w (WrP w g 76 110 u (txtW b s)) := by
 refine enter Tryz.func110 rfl rfl rfl (l := [(0, _), (1, _)]) ⟨rfl, rfl, trivial⟩ (Cq fun K1 hK1 => Cq fun K2 hK2 => ?_)
 have H := WrT.init HB
 refine Cr (Zm rfl (Sv (o_slen Tryz.underlying9 rfl) (Sv (o_gtr rfl rfl) (Ln (e_K (hK2 _ _ _ _ ?_))))))
 refine c_if rfl (fun h8 => ?_) (fun h8 => ?_)
 ·refine Cr ?_
  refine scp (oC ent53 rfl) (c_fail _ 3) rfl (fun w_ h_ => h_.elim) (fun c_ w1 h_ => ?_) fun v_ w1 h_ => ?_
  ·obtain ⟨rfl, rfl⟩ := h_
   exact eT (by simp) (endp (H.fail (if_pos (by omega))))
  ·exact h_.elim
 ·refine cK (e_K (hK1 _ _ _ _ (Cq fun K3 hK3 => Cr (Zm rfl (sc (oC ent154 rfl) (c_qput _ s (by omega)) rfl fun v_ w2 h_ => ?_)))))
  obtain ⟨rfl, E_⟩ := h_
  replace H := H.mod0 E_
  refine tW 5 rfl (Ln (e_K (hK3 _ _ _ _ (Cq fun K4 hK4 => Cq fun K5 hK5 => Cr (tW 2 rfl (Ln (e_K (hK5 _ _ _ _ ?_))))))))
  refine c_cond rfl (fun h16 => ?_) (fun h16 => ?_)
  ·have hv : validR s = false := by simpa using h16
   refine Cr ?_
   refine scp (oC ent53 rfl) (c_fail _ 1) rfl (fun w_ h_ => h_.elim) (fun c_ w3 h_ => ?_) fun v_ w3 h_ => ?_
   ·obtain ⟨rfl, rfl⟩ := h_
    exact eT (by simp) (endp (H.fail (by rw [txtW, if_neg (by omega), hv]; rfl)))
   ·exact h_.elim
  ·have hv : validR s = true := by simpa using h16
   refine cK (e_K (hK4 _ _ _ _ (Cr (tW 2 rfl ?_))))
   have hql := escs_len s
   have hqp : (putQ s).length = (escs s).length + 2 := by simp [putQ]
   rw [hv, if_pos rfl]
   refine scp (oC ent107 rfl) (c_wput _ _ _ _ H.wb (putQ s) (by omega)) rfl (fun w_ h_ => h_.elim) (fun c_ w4 h_ => ?_) fun v_ w4 h_ => ?_
   ·have hp := H.panic (r := txtW b s) h_ (fun e he => by rw [txtW, if_neg (by omega), hv]; exact he)
    exact endp hp
   obtain ⟨u1, b1, hb1, H1, hm1, ho1⟩ := H.ret h_
   replace H := H1
   exact Ln (end0R rfl (H.fin (r := txtW b s) (by rw [txtW, if_neg (by omega), hv]; exact hb1)))

theorem c_wcomma (w : World) (g : Nat) (u : Value) (b : Str) (HB : WrB w g 76 u b) (k : Nat) : Calls Tryz.prog 111 [.pointer (some ⟨g, 0, none⟩), .int .i64 (k : Int)].toArray w (WrP w g 76 110 u (if k = 0 then .ok b else lng (b ++ [44]))) := by
 refine enter Tryz.func111 rfl rfl rfl (l := [(0, _), (1, _)]) ⟨rfl, rfl, trivial⟩ (Cq fun K1 hK1 => ?_)
 have H := WrT.init HB
 refine Cr (tW 2 rfl (Ln (e_K (hK1 _ _ _ _ ?_))))
 refine c_if rfl (fun h5 => ?_) (fun h5 => ?_)
 ·skip
  refine Cr (Zm rfl ?_)
  refine scp (oC ent107 rfl) (c_wput _ _ _ _ H.wb [44] (by simp)) rfl (fun w_ h_ => h_.elim) (fun c_ w1 h_ => ?_) fun v_ w1 h_ => ?_
  ·have hp := H.panic (r := if k = 0 then .ok b else lng (b ++ [44])) h_ (fun e he => by rw [if_neg (by omega)]; exact he)
   exact endp hp
  obtain ⟨u1, b1, hb1, H1, hm1, ho1⟩ := H.ret h_
  replace H := H1
  exact Ln (end0R rfl (H.fin (by rw [if_neg (by omega)]; exact hb1)))
 ·skip
  exact cK (end0R rfl (H.fin (by rw [if_pos (by omega)])))
end Go.Proofs.YtknndpjacklkeaaGreatDoor.V
