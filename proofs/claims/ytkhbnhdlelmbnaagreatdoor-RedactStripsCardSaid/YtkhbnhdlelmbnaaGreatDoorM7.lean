/-
  A part of the proof: bytes that grow behind one another while a JSON value is read: what is kept from step to step. No condition of its own.
-/
import Derived.Test.YtkhbnhdlelmbnaaGreatDoorM6
import Derived.Test.YtkhbnhdlelmbnaaGreatDoorM3
import Derived.Lib.AppendIntMem
import Derived.Lib.LaidTab
import Derived.Shelf.Small.Utf8
import Derived.Shelf.Small.Strs
import Derived.Shelf.Small.Wraps
import Derived.Shelf.Strconv.Itoa0
import Derived.Shelf.Strconv.Itoa1
import Derived.Shelf.LaysM
import Derived.Shelf.Strconv.Itoa2
import Derived.Shelf.Strconv.Itoa3
import Derived.Shelf.Strings.Search1
import Derived.Shelf.Strings.Search2
import Derived.Shelf.Strings.Cut
import Derived.Shelf.Strings.Shaped
import Derived.Shelf.Strings.Prefix
import Derived.Shelf.Strings.Runes
import Derived.Ground.Names2Prog
import Derived.Shelf.Slices.Clone
import Derived.Ground.SlgnProg
import Derived.Shelf.SlicesE.Clone
import Derived.Test.YtkhbnhdlelmbnaaGreatDoorProg
set_option linter.unusedVariables false
set_option linter.unusedSimpArgs false
set_option maxRecDepth 10000
namespace Go.Proofs.YtkhbnhdlelmbnaaGreatDoor.V
open Go Go.Proofs
theorem ent100 : Ent Tryz.prog 100 := Ent.of Tryz.func100 (by kernel_rfl) (by kernel_rfl)
theorem sl53 : slB Tryz.prog 53 5 1 1 = true := by kernel_rfl
theorem zv5 : zvB Tryz.prog 5 ([.int .u8 0]) := by unfold zvB; kernel_rfl
theorem c_put8 (w : World) (s : Str) (hs : s.length ≤ 65536) : Calls Tryz.prog 130 [S s].toArray w (Ret fun u w' => u = .tuple #[S (if validR s then putQ s else []), .bool (validR s)] ∧ Mod [] w w') := by
 refine enter Tryz.func130 rfl rfl rfl (l := [(0, _)]) ⟨rfl, trivial⟩ ?_
 have E := Mod.refl [] w
 refine Cq fun K1 hK1 => Cr (Za rfl (Za rfl (Ln (e_K (hK1 _ _ _ _ (Cq fun K2 hK2 => Cq fun K3 hK3 => Cr (Zm rfl (sc (oC ent100 rfl) (c_valid8 _ _) rfl fun v_ w1 h_ => ?_))))))))
 obtain ⟨rfl, E_⟩ := h_
 replace E := E.then E_
 refine Sv (o_not rfl) (Ln (e_K (hK3 _ _ _ _ ?_)))
 refine c_cond rfl (fun h10 => ?_) (fun h10 => ?_)
 ·have hval : validR s = false := by simpa using h10
  exact Cq fun K4 hK4 => Cr (Za rfl (Za rfl (Ln (e_K (hK4 _ _ _ _ (cR (eT (by simp) (ret2 rfl rfl rfl ⟨by rw [hval]; rfl, E⟩))))))))
 ·have hval : validR s = true := by simpa using h10
  refine cK (e_K (hK2 _ _ _ _ (Cq fun K5 hK5 => Cr (Za rfl (Ln (e_K (hK5 _ _ _ _ (Cq fun K6 hK6 => Cr (s_bslice (cs := [_]) sl53 zv5 rfl rfl rfl (by decide) rfl fun g1 w2 N1 => ?_)))))))))
  have Lg1_E := N1.le E
  replace E := E.then N1.mod
  have Bg1 := N1.blk
  refine Za rfl (Ln (e_K (hK6 _ _ _ _ (Cq fun K7 hK7 => Cq fun K8 hK8 => Cr (Za rfl (Ln (e_K (hK8 _ _ _ _ (cB (c_loop (σ := Nat × Value) (fun ⟨k, v⟩ => [(0, S s), (4, S hexD), (5, v), (6, .int .i64 (k : Int))]) (fun ⟨k, v⟩ w1 => k ≤ s.length ∧ Own w1 5 1 v ((34 :: escs (s.take k))).length ((((34 :: escs (s.take k))).map b8c).flatten) ∧ (∀ x ∈ ob v, w.heap.size ≤ x) ∧ Mod [] w w1) (fun ⟨k, v⟩ => s.length - k) (⟨0, .slice (some ⟨g1, 0, none⟩) 1 1⟩) ⟨rfl, rfl, rfl, rfl, trivial⟩ (⟨by omega, (Own.all (c := 1) Bg1 rfl (by omega)).same rfl rfl, by simp only [ob, List.mem_singleton]; intro x hx; subst hx; exact Lg1_E, E⟩) ?_))))))))))
  rintro ⟨k, v⟩ w3 ⟨hk, Oa, L0, E⟩
  refine Cq fun K9 hK9 => Cq fun K10 hK10 => Cr (Zm rfl (Zm rfl (Sv (o_slen Tryz.underlying9 rfl) (Sv (o_lss rfl rfl) (Ln (e_K (hK10 _ _ _ _ ?_)))))))
  refine c_if rfl (fun h15 => ?_) (fun h15 => ?_)
  ·refine cK (e_K (hK9 _ _ _ _ (Cq fun K11 hK11 => cB (Cq fun K12 hK12 => Cr (Zm rfl (Zm rfl (s_sidx (m := k) Tryz.underlying9 rfl rfl (by omega) (by simp; omega) rfl fun c hc => ?_)))))))
   rw [Int.toNat_natCast] at hc
   have hcl := c.toNat_lt
   have hql := escs_len (s.take k)
   have htl : (s.take k).length = k := by rw [List.length_take]; omega
   have hq2 : (34 :: escs (s.take k)).length = (escs (s.take k)).length + 1 := rfl
   refine Za rfl (Ln (e_K (hK12 _ _ _ _ (cB (Cq fun K13 hK13 => ?_)))))
   by_cases hs10_0 : (c.toNat : Int) = 34
   ·refine Cr (Zm rfl (Sv (oE rfl rfl) (Zm rfl (Sx rfl (dT hs10_0) (Sx rfl (dT hs10_0) (Sv (oT (dT hs10_0) rfl rfl) (Za rfl (Ln (e_K (hK13 _ _ _ _ (c_true rfl (Cr (Zm rfl (Zm rfl ?_))))))))))))))
    refine s_bslice (cs := [_, _]) sl53 zv5 rfl rfl rfl (by decide) rfl fun g2 w4 N2 => ?_
    have Lg2_E := N2.le E
    have Da0_g2 := N2.own_ne Oa
    replace E := E.then N2.mod
    replace Oa := Oa.mod0 N2.mod
    have Bg2 := N2.blk
    have hesc := escQ1 (c := c) (by omega)
    refine s_append sl53 rfl rfl Oa (Src.own Tryz.underlying53 (Own.all (cs := [_, _]) Bg2 rfl (by omega)) (by simp [Value.oneCell'])) (by decide) (by omega) (by omega) rfl fun v1 w5 A1 => ?_
    have Dv1_g2 := A1.ne Da0_g2 Bg2
    have Lv1_E := A1.ge L0 E
    replace Bg2 := Bg2.mod A1.mod (fun hx => Da0_g2 _ hx rfl)
    replace E := E.trans' A1.mod (fun x hx => .inr (L0 x hx))
    replace Oa := A1.own
    exact Za rfl (Ln (eI (by simp) (eI (by simp) (e_K (hK11 _ _ _ _ (Cr (Zm rfl (Sv (o_addN rfl rfl (by omega)) (Za rfl (Ln (eR (σ := Nat × Value) (s := ⟨k, v⟩) (⟨k + 1, v1⟩) ⟨rfl, rfl, rfl, rfl, trivial⟩ ⟨by omega, Oa.same (by rw [escs_succ hc, hesc]; simp) (by rw [escs_succ hc, hesc]; simp [B8]), Lv1_E, E⟩ (by dsimp only; omega))))))))))))
   ·by_cases hs10_1 : (c.toNat : Int) = 92
    ·refine Cr (Zm rfl (Sv (oE rfl rfl) (Zm rfl (Sg rfl (dF hs10_0) (oM rfl) (Sg rfl (dF hs10_0) (oE rfl rfl) (Sv (oF (dF hs10_0) rfl rfl) (Za rfl (Ln (e_K (hK13 _ _ _ _ ?_))))))))))
     refine c_if rfl (fun h25 => ?_) (fun h25 => absurd hs10_1 h25)
     refine Cr (Zm rfl (Zm rfl (s_bslice (cs := [_, _]) sl53 zv5 rfl rfl rfl (by decide) rfl fun g3 w6 N3 => ?_)))
     have Lg3_E := N3.le E
     have Da0_g3 := N3.own_ne Oa
     replace E := E.then N3.mod
     replace Oa := Oa.mod0 N3.mod
     have Bg3 := N3.blk
     have hesc := escQ1 (c := c) (by omega)
     refine s_append sl53 rfl rfl Oa (Src.own Tryz.underlying53 (Own.all (cs := [_, _]) Bg3 rfl (by omega)) (by simp [Value.oneCell'])) (by decide) (by omega) (by omega) rfl fun v2 w7 A2 => ?_
     have Dv2_g3 := A2.ne Da0_g3 Bg3
     have Lv2_E := A2.ge L0 E
     replace Bg3 := Bg3.mod A2.mod (fun hx => Da0_g3 _ hx rfl)
     replace E := E.trans' A2.mod (fun x hx => .inr (L0 x hx))
     replace Oa := A2.own
     exact Za rfl (Ln (eI (by simp) (eI (by simp) (e_K (hK11 _ _ _ _ (Cr (Zm rfl (Sv (o_addN rfl rfl (by omega)) (Za rfl (Ln (eR (σ := Nat × Value) (s := ⟨k, v⟩) (⟨k + 1, v2⟩) ⟨rfl, rfl, rfl, rfl, trivial⟩ ⟨by omega, Oa.same (by rw [escs_succ hc, hesc]; simp) (by rw [escs_succ hc, hesc]; simp [B8]), Lv2_E, E⟩ (by dsimp only; omega))))))))))))
    ·refine Cr (Zm rfl (Sv (oE rfl rfl) (Zm rfl (Sg rfl (dF hs10_0) (oM rfl) (Sg rfl (dF hs10_0) (oE rfl rfl) (Sv (oF (dF hs10_0) rfl rfl) (Za rfl (Ln (e_K (hK13 _ _ _ _ (c_if rfl (fun h25 => absurd h25 hs10_1) (fun h25 => Cq fun K14 hK14 => Cr (Zm rfl ?_)))))))))))))
     refine Sv (oE rfl rfl) (Za rfl (Ln (e_K (hK14 _ _ _ _ ?_))))
     refine c_if rfl (fun h36 => ?_) (fun h36 => ?_)
     ·refine Cr (Zm rfl (s_bslice (cs := [_, _]) sl53 zv5 rfl rfl rfl (by decide) rfl fun g4 w8 N4 => ?_))
      have Lg4_E := N4.le E
      have Da0_g4 := N4.own_ne Oa
      replace E := E.then N4.mod
      replace Oa := Oa.mod0 N4.mod
      have Bg4 := N4.blk
      have hesc := escQ2 h36
      refine s_append sl53 rfl rfl Oa (Src.own Tryz.underlying53 (Own.all (cs := [_, _]) Bg4 rfl (by omega)) (by simp [Value.oneCell'])) (by decide) (by omega) (by omega) rfl fun v3 w9 A3 => ?_
      have Dv3_g4 := A3.ne Da0_g4 Bg4
      have Lv3_E := A3.ge L0 E
      replace Bg4 := Bg4.mod A3.mod (fun hx => Da0_g4 _ hx rfl)
      replace E := E.trans' A3.mod (fun x hx => .inr (L0 x hx))
      replace Oa := A3.own
      exact Za rfl (Ln (eI (by simp) (eI (by simp) (e_K (hK11 _ _ _ _ (Cr (Zm rfl (Sv (o_addN rfl rfl (by omega)) (Za rfl (Ln (eR (σ := Nat × Value) (s := ⟨k, v⟩) (⟨k + 1, v3⟩) ⟨rfl, rfl, rfl, rfl, trivial⟩ ⟨by omega, Oa.same (by rw [escs_succ hc, hesc]; simp) (by rw [escs_succ hc, hesc]; simp [B8]), Lv3_E, E⟩ (by dsimp only; omega))))))))))))
     ·refine Cq fun K15 hK15 => Cr (Zm rfl (Sv (oE rfl rfl) (Za rfl (Ln (e_K (hK15 _ _ _ _ ?_))))))
      refine c_if rfl (fun h42 => ?_) (fun h42 => ?_)
      ·refine Cr (Zm rfl (s_bslice (cs := [_, _]) sl53 zv5 rfl rfl rfl (by decide) rfl fun g5 w10 N5 => ?_))
       have Lg5_E := N5.le E
       have Da0_g5 := N5.own_ne Oa
       replace E := E.then N5.mod
       replace Oa := Oa.mod0 N5.mod
       have Bg5 := N5.blk
       have hesc := escQ3 h42
       refine s_append sl53 rfl rfl Oa (Src.own Tryz.underlying53 (Own.all (cs := [_, _]) Bg5 rfl (by omega)) (by simp [Value.oneCell'])) (by decide) (by omega) (by omega) rfl fun v4 w11 A4 => ?_
       have Dv4_g5 := A4.ne Da0_g5 Bg5
       have Lv4_E := A4.ge L0 E
       replace Bg5 := Bg5.mod A4.mod (fun hx => Da0_g5 _ hx rfl)
       replace E := E.trans' A4.mod (fun x hx => .inr (L0 x hx))
       replace Oa := A4.own
       exact Za rfl (Ln (eI (by simp) (eI (by simp) (e_K (hK11 _ _ _ _ (Cr (Zm rfl (Sv (o_addN rfl rfl (by omega)) (Za rfl (Ln (eR (σ := Nat × Value) (s := ⟨k, v⟩) (⟨k + 1, v4⟩) ⟨rfl, rfl, rfl, rfl, trivial⟩ ⟨by omega, Oa.same (by rw [escs_succ hc, hesc]; simp) (by rw [escs_succ hc, hesc]; simp [B8]), Lv4_E, E⟩ (by dsimp only; omega))))))))))))
      ·refine Cq fun K16 hK16 => Cr (Zm rfl (Sv (oE rfl rfl) (Za rfl (Ln (e_K (hK16 _ _ _ _ ?_))))))
       refine c_if rfl (fun h48 => ?_) (fun h48 => ?_)
       ·refine Cr (Zm rfl (s_bslice (cs := [_, _]) sl53 zv5 rfl rfl rfl (by decide) rfl fun g6 w12 N6 => ?_))
        have Lg6_E := N6.le E
        have Da0_g6 := N6.own_ne Oa
        replace E := E.then N6.mod
        replace Oa := Oa.mod0 N6.mod
        have Bg6 := N6.blk
        have hesc := escQ4 h48
        refine s_append sl53 rfl rfl Oa (Src.own Tryz.underlying53 (Own.all (cs := [_, _]) Bg6 rfl (by omega)) (by simp [Value.oneCell'])) (by decide) (by omega) (by omega) rfl fun v5 w13 A5 => ?_
        have Dv5_g6 := A5.ne Da0_g6 Bg6
        have Lv5_E := A5.ge L0 E
        replace Bg6 := Bg6.mod A5.mod (fun hx => Da0_g6 _ hx rfl)
        replace E := E.trans' A5.mod (fun x hx => .inr (L0 x hx))
        replace Oa := A5.own
        exact Za rfl (Ln (eI (by simp) (eI (by simp) (e_K (hK11 _ _ _ _ (Cr (Zm rfl (Sv (o_addN rfl rfl (by omega)) (Za rfl (Ln (eR (σ := Nat × Value) (s := ⟨k, v⟩) (⟨k + 1, v5⟩) ⟨rfl, rfl, rfl, rfl, trivial⟩ ⟨by omega, Oa.same (by rw [escs_succ hc, hesc]; simp) (by rw [escs_succ hc, hesc]; simp [B8]), Lv5_E, E⟩ (by dsimp only; omega))))))))))))
       ·refine Cq fun K17 hK17 => Cr (Zm rfl (Sv (oE rfl rfl) (Za rfl (Ln (e_K (hK17 _ _ _ _ ?_))))))
        refine c_if rfl (fun h54 => ?_) (fun h54 => ?_)
        ·refine Cr (Zm rfl (s_bslice (cs := [_, _]) sl53 zv5 rfl rfl rfl (by decide) rfl fun g7 w14 N7 => ?_))
         have Lg7_E := N7.le E
         have Da0_g7 := N7.own_ne Oa
         replace E := E.then N7.mod
         replace Oa := Oa.mod0 N7.mod
         have Bg7 := N7.blk
         have hesc := escQ5 h54
         refine s_append sl53 rfl rfl Oa (Src.own Tryz.underlying53 (Own.all (cs := [_, _]) Bg7 rfl (by omega)) (by simp [Value.oneCell'])) (by decide) (by omega) (by omega) rfl fun v6 w15 A6 => ?_
         have Dv6_g7 := A6.ne Da0_g7 Bg7
         have Lv6_E := A6.ge L0 E
         replace Bg7 := Bg7.mod A6.mod (fun hx => Da0_g7 _ hx rfl)
         replace E := E.trans' A6.mod (fun x hx => .inr (L0 x hx))
         replace Oa := A6.own
         exact Za rfl (Ln (eI (by simp) (eI (by simp) (e_K (hK11 _ _ _ _ (Cr (Zm rfl (Sv (o_addN rfl rfl (by omega)) (Za rfl (Ln (eR (σ := Nat × Value) (s := ⟨k, v⟩) (⟨k + 1, v6⟩) ⟨rfl, rfl, rfl, rfl, trivial⟩ ⟨by omega, Oa.same (by rw [escs_succ hc, hesc]; simp) (by rw [escs_succ hc, hesc]; simp [B8]), Lv6_E, E⟩ (by dsimp only; omega))))))))))))
        ·refine Cq fun K18 hK18 => Cr (Zm rfl (Sv (oE rfl rfl) (Za rfl (Ln (e_K (hK18 _ _ _ _ ?_))))))
         refine c_if rfl (fun h60 => ?_) (fun h60 => ?_)
         ·refine Cr (Zm rfl (s_bslice (cs := [_, _]) sl53 zv5 rfl rfl rfl (by decide) rfl fun g8 w16 N8 => ?_))
          have Lg8_E := N8.le E
          have Da0_g8 := N8.own_ne Oa
          replace E := E.then N8.mod
          replace Oa := Oa.mod0 N8.mod
          have Bg8 := N8.blk
          have hesc := escQ6 h60
          refine s_append sl53 rfl rfl Oa (Src.own Tryz.underlying53 (Own.all (cs := [_, _]) Bg8 rfl (by omega)) (by simp [Value.oneCell'])) (by decide) (by omega) (by omega) rfl fun v7 w17 A7 => ?_
          have Dv7_g8 := A7.ne Da0_g8 Bg8
          have Lv7_E := A7.ge L0 E
          replace Bg8 := Bg8.mod A7.mod (fun hx => Da0_g8 _ hx rfl)
          replace E := E.trans' A7.mod (fun x hx => .inr (L0 x hx))
          replace Oa := A7.own
          exact Za rfl (Ln (eI (by simp) (eI (by simp) (e_K (hK11 _ _ _ _ (Cr (Zm rfl (Sv (o_addN rfl rfl (by omega)) (Za rfl (Ln (eR (σ := Nat × Value) (s := ⟨k, v⟩) (⟨k + 1, v7⟩) ⟨rfl, rfl, rfl, rfl, trivial⟩ ⟨by omega, Oa.same (by rw [escs_succ hc, hesc]; simp) (by rw [escs_succ hc, hesc]; simp [B8]), Lv7_E, E⟩ (by dsimp only; omega))))))))))))
         ·refine Cq fun K19 hK19 => Cr (Zm rfl (Sv (o_lss rfl rfl) (Za rfl (Ln (e_K (hK19 _ _ _ _ ?_))))))
          refine c_if rfl (fun h66 => ?_) (fun h66 => ?_)
          ·refine c_drawp [0] [1, 2, 3, 4, 5, 6, 7, 8] 9 [10, 11] wide (by kernel_rfl) (fun _ _ _ h => h.2) (pw (fun _ => (oM rfl)) rfl rfl (pw_nil (tv (fun w_ E_ => (oM rfl)) rfl rfl (tv (fun w_ E_ => (oM rfl)) rfl rfl (tv (fun w_ E_ => ((o_quo rfl rfl (by omega)).to (v' := .int .u8 ((c.toNat / 16 : Nat) : Int)) (by rw [Int.tdiv_eq_ediv_of_nonneg (by omega), wrapu8_in _ (by omega), Int.natCast_ediv]; try rfl))) rfl rfl (tv (fun w_ E_ => (o_sidx Tryz.underlying9 rfl rfl (by omega) (by rw [Int.toNat_natCast]; exact hex_at (by omega)))) rfl rfl (tv (fun w_ E_ => (oM rfl)) rfl rfl (tv (fun w_ E_ => (oM rfl)) rfl rfl (tv (fun w_ E_ => ((o_remN rfl rfl (by omega)).to (v' := .int .u8 ((c.toNat % 16 : Nat) : Int)) (by rw [Int.natCast_emod]; try rfl))) rfl rfl (tv (fun w_ E_ => (o_sidx Tryz.underlying9 rfl rfl (by omega) (by rw [Int.toNat_natCast]; exact hex_at (by omega)))) rfl rfl (tw_tail rfl fun w18 E_ => ?_)))))))))))
           replace E := E.then E_
           replace Oa := Oa.mod0 E_
           refine s_bslice (cs := [_, _, _, _, _, _]) sl53 zv5 rfl rfl rfl (by decide) rfl fun g9 w19 N9 => ?_
           have Lg9_E := N9.le E
           have Da0_g9 := N9.own_ne Oa
           replace E := E.then N9.mod
           replace Oa := Oa.mod0 N9.mod
           have Bg9 := N9.blk
           have hesc := (escQ7 (c := c) (by omega) (by omega) h36 h42 h48 h54 h60).trans (if_pos (by omega))
           refine s_append sl53 rfl rfl Oa (Src.own Tryz.underlying53 (Own.all (cs := [_, _, _, _, _, _]) Bg9 rfl (by omega)) (by simp [Value.oneCell'])) (by decide) (by omega) (by omega) rfl fun v8 w20 A8 => ?_
           have Dv8_g9 := A8.ne Da0_g9 Bg9
           have Lv8_E := A8.ge L0 E
           replace Bg9 := Bg9.mod A8.mod (fun hx => Da0_g9 _ hx rfl)
           replace E := E.trans' A8.mod (fun x hx => .inr (L0 x hx))
           replace Oa := A8.own
           exact Za rfl (Ln (eI (by simp) (eI (by simp) (e_K (hK11 _ _ _ _ (Cr (Zm rfl (Sv (o_addN rfl rfl (by omega)) (Za rfl (Ln (eR (σ := Nat × Value) (s := ⟨k, v⟩) (⟨k + 1, v8⟩) ⟨rfl, rfl, rfl, rfl, trivial⟩ ⟨by omega, Oa.same (by rw [escs_succ hc, hesc]; simp) (by rw [escs_succ hc, hesc]; simp [B8]), Lv8_E, E⟩ (by dsimp only; omega))))))))))))
          ·refine Cr (Zm rfl (Zm rfl (s_bslice (cs := [_]) sl53 zv5 rfl rfl rfl (by decide) rfl fun g10 w21 N10 => ?_)))
           have Lg10_E := N10.le E
           have Da0_g10 := N10.own_ne Oa
           replace E := E.then N10.mod
           replace Oa := Oa.mod0 N10.mod
           have Bg10 := N10.blk
           have hesc := (escQ7 (c := c) (by omega) (by omega) h36 h42 h48 h54 h60).trans (if_neg (by omega))
           refine s_append sl53 rfl rfl Oa (Src.own Tryz.underlying53 (Own.all (cs := [_]) Bg10 rfl (by omega)) (by simp [Value.oneCell'])) (by decide) (by omega) (by omega) rfl fun v9 w22 A9 => ?_
           have Dv9_g10 := A9.ne Da0_g10 Bg10
           have Lv9_E := A9.ge L0 E
           replace Bg10 := Bg10.mod A9.mod (fun hx => Da0_g10 _ hx rfl)
           replace E := E.trans' A9.mod (fun x hx => .inr (L0 x hx))
           replace Oa := A9.own
           exact Za rfl (Ln (eI (by simp) (eI (by simp) (e_K (hK11 _ _ _ _ (Cr (Zm rfl (Sv (o_addN rfl rfl (by omega)) (Za rfl (Ln (eR (σ := Nat × Value) (s := ⟨k, v⟩) (⟨k + 1, v9⟩) ⟨rfl, rfl, rfl, rfl, trivial⟩ ⟨by omega, Oa.same (by rw [escs_succ hc, hesc]; simp) (by rw [escs_succ hc, hesc]; simp [B8]), Lv9_E, E⟩ (by dsimp only; omega))))))))))))
  ·have htk : s.take k = s := List.take_of_length_le (by omega)
   refine c_exit (eT (by simp) (eT (by simp) (e_hit (e_K (hK7 _ _ _ _ (Cq fun K20 hK20 => Cr (Zm rfl (s_bslice (cs := [_]) sl53 zv5 rfl rfl rfl (by decide) rfl fun g11 w23 N11 => ?_))))))))
   have Lg11_E := N11.le E
   have Da0_g11 := N11.own_ne Oa
   replace E := E.then N11.mod
   replace Oa := Oa.mod0 N11.mod
   have Bg11 := N11.blk
   have hql := escs_len s
   have hq2 : (34 :: escs (s.take k)).length = (escs s).length + 1 := by rw [htk]; rfl
   refine s_append sl53 rfl rfl Oa (Src.own Tryz.underlying53 (Own.all (cs := [_]) Bg11 rfl (by omega)) (by simp [Value.oneCell'])) (by decide) (by omega) (by omega) rfl fun v10 w24 A10 => ?_
   have Dv10_g11 := A10.ne Da0_g11 Bg11
   have Lv10_E := A10.ge L0 E
   replace Bg11 := Bg11.mod A10.mod (fun hx => Da0_g11 _ hx rfl)
   replace E := E.trans' A10.mod (fun x hx => .inr (L0 x hx))
   replace Oa := A10.own
   exact Sv (o_b2s_own (u := putQ s) Tryz.underlying53 Tryz.underlying5 Tryz.underlying9 rfl (Oa.same (by rw [htk]; simp [putQ]) (by rw [htk]; simp [putQ, B8, cells_b8]))) (Za rfl (Za rfl (Ln (e_K (hK20 _ _ _ _ (cR (ret2 rfl rfl rfl ⟨by rw [hval]; rfl, E⟩)))))))
end Go.Proofs.YtkhbnhdlelmbnaaGreatDoor.V

set_option linter.unusedVariables false
set_option linter.unusedSimpArgs false
namespace Go.Proofs.YtkhbnhdlelmbnaaGreatDoor.V
open Go
section
variable {w0 w wA w' : World} {u0 u u1 u2 res : Value} {b t : Str} {r : Except Int Str}
abbrev OwB (w : World) (u : Value) (b : Str) : Prop := Own w 5 1 u b.length ((b.map b8c).flatten)
/-- what a writing function answers -/
def WR (w0 w : World) (u0 : Value) (r : Except Int Str) (res : Value) : Prop :=
  ∃ u, res = .tuple #[u, .int .i64 (ern r)] ∧ OwB w u (bts r) ∧ (∀ x ∈ ob u, x ∈ ob u0 ∨ w0.heap.size ≤ x) ∧ Mod (ob u0) w0 w ∧ (bts r).length ≤ 65536
theorem long_own (h : u2 = u1 ∧ bts (lng b) = b ∨ u2 = .slice none 0 0 ∧ bts (lng b) = []) (O : OwB w u1 b) : OwB w u2 (bts (lng b)) ∧ ∀ x ∈ ob u2, x ∈ ob u1 := by
  rcases h with ⟨rfl, h⟩ | ⟨rfl, h⟩
  · rw [h]; exact ⟨O, fun x hx => hx⟩
  · rw [h]; exact ⟨Own.nil w 5 1, by simp [ob]⟩
theorem WR.applong {n : Nat} {vs : List Value} (E : Mod [] w0 w) (AA : App w wA 5 1 u0 u1 n vs) (O1 : OwB wA u1 (b ++ t)) (h : u2 = u1 ∧ bts (lng (b ++ t)) = b ++ t ∨ u2 = .slice none 0 0 ∧ bts (lng (b ++ t)) = []) (E_ : Mod [] wA w') (hr : r = lng (b ++ t)) :
    WR w0 w' u0 r (.tuple #[u2, .int .i64 (ern (lng (b ++ t)))]) := by
  subst hr
  obtain ⟨h1, h2⟩ := long_own h (O1.mod0 E_)
  exact ⟨u2, rfl, h1, fun x hx => (AA.ob_ x (h2 x hx)).imp id (fun h => Nat.le_trans E.size h), ((E.mono (by simp)).trans AA.mod).trans (E_.mono (by simp)), lng_len _⟩
theorem WR.err {e : Int} (E : Mod [] w0 w) (he : e ≠ 0) (hr : r = .error e) : WR w0 w u0 r (.tuple #[.slice none 0 0, .int .i64 e]) := by
  subst hr
  exact ⟨_, by simp [ern, he], Own.nil w 5 1, by simp [ob], E.mono (by simp), by simp [bts]⟩
/-- the writing of a list or a map under way -/
structure WS (w0 w : World) (u0 : Value) (g V : Nat) (cells : List Value) (v : JV) (al am : Option Addr) (cl cm : Nat) (u : Value) (b : Str) : Prop where
  own : OwB w u b
  len : b.length ≤ 65536
  hob : ∀ x ∈ ob u, x ∈ ob u0 ∨ w0.heap.size ≤ x
  mod : Mod (ob u0) w0 w
  blk : Blk w g V cells
  dis : ∀ x ∈ ob u, x ≠ g
  rl : Rep (ob u) w (.sl 6 (v.list.map JV.D)) (.slice al v.list.length cl)
  rm : Rep (ob u) w (.sl 7 (v.map.map JV.Dp)) (.slice am v.map.length cm)
variable {g V : Nat} {cells : List Value} {v : JV} {al am : Option Addr} {cl cm : Nat}
theorem WS.step (H : WS w0 w u0 g V cells v al am cl cm u b) {b' : Str} {u' : Value} (k : Mod (ob u) w w') (O : OwB w' u' b') (ho : ∀ x ∈ ob u', x ∈ ob u ∨ w.heap.size ≤ x) (hl : b'.length ≤ 65536) : WS w0 w' u0 g V cells v al am cl cm u' b' where
  own := O
  len := hl
  hob := fun x hx => (ho x hx).elim (H.hob x) (fun h => .inr (Nat.le_trans H.mod.size h))
  mod := H.mod.trans' k H.hob
  blk := H.blk.mod k (fun hx => H.dis _ hx rfl)
  dis := fun x hx => (ho x hx).elim (H.dis x) (fun h e => by have := H.blk.lt; omega)
  rl := Rep.to k (fun x hx => hx) ho _ _ H.rl
  rm := Rep.to k (fun x hx => hx) ho _ _ H.rm
theorem WS.mod0 (H : WS w0 w u0 g V cells v al am cl cm u b) (k : Mod [] w w') : WS w0 w' u0 g V cells v al am cl cm u b :=
  H.step (k.mono (by simp)) (H.own.mod0 k) (fun x hx => .inl hx) H.len
theorem WS.applong {n : Nat} {vs : List Value} (H : WS w0 w u0 g V cells v al am cl cm u b) (AA : App w wA 5 1 u u1 n vs) (O1 : OwB wA u1 (b ++ t)) (h : u2 = u1 ∧ bts (lng (b ++ t)) = b ++ t ∨ u2 = .slice none 0 0 ∧ bts (lng (b ++ t)) = []) (E_ : Mod [] wA w') :
    WS w0 w' u0 g V cells v al am cl cm u2 (bts (lng (b ++ t))) := by
  obtain ⟨h1, h2⟩ := long_own h (O1.mod0 E_)
  exact H.step (AA.mod.trans (E_.mono (by simp))) h1 (fun x hx => AA.ob_ x (h2 x hx)) (lng_len _)
theorem WS.wr (H : WS w0 w u0 g V cells v al am cl cm u b) (h : WR w w' u r res) : ∃ u', res = .tuple #[u', .int .i64 (ern r)] ∧ WS w0 w' u0 g V cells v al am cl cm u' (bts r) := by
  obtain ⟨u', h1, h2, h3, h4, h5⟩ := h
  exact ⟨u', h1, H.step h4 h2 h3 h5⟩
theorem WS.err (H : WS w0 w u0 g V cells v al am cl cm u b) (hr : ¬ ern r = 0) : WR w0 w u0 r (.tuple #[.slice none 0 0, .int .i64 (ern r)]) := by
  obtain ⟨e, rfl⟩ := ern_no hr
  exact ⟨_, rfl, Own.nil w 5 1, by simp [ob], H.mod, by simp [bts]⟩
theorem WS.fin {n : Nat} {vs : List Value} (H : WS w0 w u0 g V cells v al am cl cm u b) (AA : App w wA 5 1 u u1 n vs) (O1 : OwB wA u1 (b ++ t)) (h : u2 = u1 ∧ bts (lng (b ++ t)) = b ++ t ∨ u2 = .slice none 0 0 ∧ bts (lng (b ++ t)) = []) (E_ : Mod [] wA w') (hr : r = lng (b ++ t)) :
    WR w0 w' u0 r (.tuple #[u2, .int .i64 (ern (lng (b ++ t)))]) := by
  subst hr
  have H' := H.applong AA O1 h E_
  exact ⟨u2, rfl, H'.own, H'.hob, H'.mod, H'.len⟩
theorem WS.ok (H : WS w0 w u0 g V cells v al am cl cm u (bts (.ok b))) : WS w0 w u0 g V cells v al am cl cm u b := H
end
theorem WR.from_ {w0 w w' : World} {u0 res : Value} {r r' : Except Int Str} (E : Mod [] w0 w) (h : WR w w' u0 r res) (hr : r' = r) : WR w0 w' u0 r' res := by
  subst hr
  obtain ⟨u, h1, h2, h3, h4, h5⟩ := h
  exact ⟨u, h1, h2, fun x hx => (h3 x hx).imp id (fun h => Nat.le_trans E.size h), (E.mono (by simp)).trans h4, h5⟩
theorem WS.init {w0 w : World} {u0 : Value} {b : Str} {g V : Nat} {cells : List Value} {v : JV} {al am : Option Addr} {cl cm : Nat} (E : Mod [] w0 w) (O : OwB w0 u0 b) (hb : b.length ≤ 65536) (B : Blk w g V cells) (hg : w0.heap.size ≤ g)
    (Rl : Rep (ob u0) w0 (.sl 6 (v.list.map JV.D)) (.slice al v.list.length cl)) (Rm : Rep (ob u0) w0 (.sl 7 (v.map.map JV.Dp)) (.slice am v.map.length cm)) : WS w0 w u0 g V cells v al am cl cm u0 b where
  own := O.mod0 E
  len := hb
  hob := fun x hx => .inl hx
  mod := E.mono (by simp)
  blk := B
  dis := fun x hx e => by have := O.lt x hx; omega
  rl := Rl.to0 E
  rm := Rm.to0 E
theorem bare_num {v : JV} (h : v.bare = true) (h2 : v.kind = 2) : -9007199254740991 ≤ v.num ∧ v.num ≤ 9007199254740991 := by
  simp only [JV.bare, h2] at h
  simp at h
  omega
theorem okb {f : Str → Except Int Str} {b : Str} {W : Except Int Str} (h : (Except.ok b : Except Int Str).bind f = W) : f b = W := h
theorem bind_self (r : Except Int Str) : (r.bind fun b => Except.ok b) = r := by cases r <;> rfl
theorem le_bl {a b : Str} (h : ¬ (bl a b || a == b) = true) : bl b a = true := by
  rcases bl_total b a with h1 | h1 | h1
  · exact h1
  · subst h1; exact absurd (by simp) h
  · exact absurd (by simp [h1]) h
theorem bl_le {a b : Str} (h : (bl a b || a == b) = true) : bl b a = false := by
  rcases Bool.or_eq_true_iff.1 h with h | h
  · exact bl_asymm h
  · have := eq_of_beq h; subst this; exact bl_irrefl a
def prevK (m : List (Str × JV)) (k : Nat) : Option Str := if k = 0 then none else (m[k - 1]?).map (·.1)
theorem wrl_at {l : List JV} {k : Nat} {x : JV} {deep : Nat} {fst : Bool} {b : Str} (h : l[k]? = some x) : JV.wrl (l.drop k) deep fst b = (if fst then Except.ok b else lng (b ++ [44])).bind fun b => (JV.wr x (deep + 1) b).bind fun b => JV.wrl (l.drop (k + 1)) deep false b := by
  obtain ⟨hk, rfl⟩ := List.getElem?_eq_some_iff.1 h
  rw [List.drop_eq_getElem_cons hk, JV.wrl]
theorem wrl_end {l : List JV} {k deep : Nat} {fst : Bool} {b : Str} (h : l.length ≤ k) : JV.wrl (l.drop k) deep fst b = .ok b := by
  rw [List.drop_eq_nil_of_le h, JV.wrl]
theorem wrm_none (p : List UInt8 × JV) (r : List (List UInt8 × JV)) (deep : Nat) (b : Str) : JV.wrm (p :: r) deep none b = (txtW b p.1).bind fun b => (lng (b ++ [58])).bind fun b => (JV.wr p.2 (deep + 1) b).bind fun b => JV.wrm r deep (some p.1) b := by
  rw [JV.wrm.eq_def]
  rfl
theorem wrm_some (p : List UInt8 × JV) (q : Str) (r : List (List UInt8 × JV)) (deep : Nat) (b : Str) : JV.wrm (p :: r) deep (some q) b = ((lng (b ++ [44])).bind fun b => if bl q p.1 then .ok b else .error 1).bind fun b => (txtW b p.1).bind fun b => (lng (b ++ [58])).bind fun b => (JV.wr p.2 (deep + 1) b).bind fun b => JV.wrm r deep (some p.1) b := by
  rw [JV.wrm.eq_def]
theorem wrm_end {m : List (Str × JV)} {k deep : Nat} {p : Option Str} {b : Str} (h : m.length ≤ k) : JV.wrm (m.drop k) deep p b = .ok b := by
  rw [List.drop_eq_nil_of_le h, JV.wrm]
theorem prevK_succ {m : List (Str × JV)} {k : Nat} {p : Str × JV} (h : m[k]? = some p) : prevK m (k + 1) = some p.1 := by
  simp [prevK, h]
theorem wrm_at0 {m : List (Str × JV)} {p : Str × JV} {deep : Nat} {b : Str} (h : m[0]? = some p) : JV.wrm (m.drop 0) deep (prevK m 0) b = (txtW b p.1).bind fun b => (lng (b ++ [58])).bind fun b => (JV.wr p.2 (deep + 1) b).bind fun b => JV.wrm (m.drop (0 + 1)) deep (prevK m (0 + 1)) b := by
  rw [prevK_succ h]
  obtain ⟨hk, rfl⟩ := List.getElem?_eq_some_iff.1 h
  rw [List.drop_eq_getElem_cons hk]
  exact wrm_none _ _ _ _
theorem wrm_at {m : List (Str × JV)} {k : Nat} {p q : Str × JV} {deep : Nat} {b : Str} (h : m[k]? = some p) (hq : m[k - 1]? = some q) (h0 : 0 < k) : JV.wrm (m.drop k) deep (prevK m k) b = ((lng (b ++ [44])).bind fun b => if bl q.1 p.1 then .ok b else .error 1).bind fun b => (txtW b p.1).bind fun b => (lng (b ++ [58])).bind fun b => (JV.wr p.2 (deep + 1) b).bind fun b => JV.wrm (m.drop (k + 1)) deep (prevK m (k + 1)) b := by
  rw [prevK_succ h]
  have hp : prevK m k = some q.1 := by simp [prevK, hq]; omega
  obtain ⟨hk, rfl⟩ := List.getElem?_eq_some_iff.1 h
  rw [List.drop_eq_getElem_cons hk, hp]
  exact wrm_some _ _ _ _ _
theorem wrl_step {l : List JV} {k deep : Nat} {x : JV} {b1 : Str} {W r1 : Except Int Str} (hx : l[k]? = some x) (hinv : ((Except.ok b1 : Except Int Str).bind fun b => JV.wrl (l.drop k) deep (decide (k = 0)) b) = W) (h1 : (if decide (k = 0) then Except.ok b1 else lng (b1 ++ [44])) = r1) :
    (r1.bind fun b => (JV.wr x (deep + 1) b).bind fun b => JV.wrl (l.drop (k + 1)) deep (decide (k + 1 = 0)) b) = W := by
  have h2 : JV.wrl (l.drop k) deep (decide (k = 0)) b1 = W := hinv
  rw [wrl_at hx, h1] at h2
  rw [show decide (k + 1 = 0) = false by simp]
  exact h2
theorem wrm_step0 {m : List (Str × JV)} {k deep : Nat} {x : Str × JV} {b1 : Str} {W : Except Int Str} (hx : m[k]? = some x) (h0 : k = 0) (hinv : ((Except.ok b1 : Except Int Str).bind fun b => JV.wrm (m.drop k) deep (prevK m k) b) = W) :
    ((txtW b1 x.1).bind fun b => (lng (b ++ [58])).bind fun b => (JV.wr x.2 (deep + 1) b).bind fun b => JV.wrm (m.drop (k + 1)) deep (prevK m (k + 1)) b) = W := by
  subst h0
  have h2 : JV.wrm (m.drop 0) deep (prevK m 0) b1 = W := hinv
  rwa [wrm_at0 hx] at h2
theorem wrm_step {m : List (Str × JV)} {k deep : Nat} {x q : Str × JV} {b1 : Str} {W : Except Int Str} (hx : m[k]? = some x) (hq : m[k - 1]? = some q) (h0 : 0 < k) (hinv : ((Except.ok b1 : Except Int Str).bind fun b => JV.wrm (m.drop k) deep (prevK m k) b) = W) :
    (((lng (b1 ++ [44])).bind fun b => if bl q.1 x.1 then .ok b else .error 1).bind fun b => (txtW b x.1).bind fun b => (lng (b ++ [58])).bind fun b => (JV.wr x.2 (deep + 1) b).bind fun b => JV.wrm (m.drop (k + 1)) deep (prevK m (k + 1)) b) = W := by
  have h2 : JV.wrm (m.drop k) deep (prevK m k) b1 = W := hinv
  rwa [wrm_at hx hq h0] at h2
end Go.Proofs.YtkhbnhdlelmbnaaGreatDoor.V

set_option linter.unusedVariables false
set_option linter.unusedSimpArgs false
set_option maxRecDepth 10000
namespace Go.Proofs.YtkhbnhdlelmbnaaGreatDoor.V
open Go Go.Proofs
theorem ent130 : Ent Tryz.prog 130 := Ent.of Tryz.func130 (by kernel_rfl) (by kernel_rfl)
theorem ent102 : Ent Tryz.prog 102 := Ent.of Tryz.func102 (by kernel_rfl) (by kernel_rfl)
theorem c_bare (w : World) (v : JV) (us : List Value) (R : Reps [] w v.D us) : Calls Tryz.prog 101 [.agg us.toArray].toArray w (Ret fun u w' => u = .bool v.bare ∧ Mod [] w w') := by
 refine enter Tryz.func101 rfl rfl rfl (l := [(0, _)]) ⟨rfl, trivial⟩ ?_
 have E := Mod.refl [] w
 obtain ⟨al, cl, am, cm, rfl, Rl, Rm⟩ := JV.cells_ R
 refine Cq fun K1 hK1 => Cr (s_box rfl rfl rfl fun g1 w1 N1 => ?_)
 have Lg1_E := N1.le E
 replace E := E.then N1.mod
 have Bg1 := N1.blk
 refine Za rfl (Ln (e_K (hK1 _ _ _ _ (Cq fun K2 hK2 => Cr (Sv (o_lda (vs := [_, _, _, _, _, _]) ag25 rfl rfl (Bg1.cs rfl)) (s_alloc zv25 rfl fun g2 w2 N2 => ?_))))))
 have Lg2_E := N2.le E
 have Dg1_g2 := N2.ne Bg1
 replace Bg1 := Bg1.mod0 N2.mod
 replace E := E.then N2.mod
 have Bg2 := N2.blk
 refine s_sta (vs := [_, _, _, _, _, _]) ag25 Bg2 rfl rfl rfl (by simp [Value.oneCell']) (by simp) fun w3 P3 => ?_
 replace Bg1 := Bg1.ne P3.mod (Ne.symm (Ne.symm Dg1_g2))
 replace E := E.own P3.mod Lg2_E
 replace Bg2 : Blk w3 g2 _ [_, _, _, _, _, _] := P3.blk
 refine Ln (e_K (hK2 _ _ _ _ (Cq fun K3 hK3 => ?_)))
 have J3 : ∀ (b1 : Bool) (n1 : Int) (s1 : Str) (a1 : Option Addr) (k1 c1 : Nat) (a2 : Option Addr) (k2 c2 : Nat) (w1 : World), v.bare = (!b1 && decide (n1 = 0) && decide (s1 = []) && decide (k1 = 0) && decide (k2 = 0)) ∧ Blk w1 g2 25 [.int .i64 v.kind, .bool b1, .int .i64 n1, S s1, .slice a1 k1 c1, .slice a2 k2 c2] ∧ Mod [] w w1 → ∀ a, Has 57 [] [(3, .pointer (some ⟨g2, 0, none⟩))] a → K3 a w1 := by
  intro b1 n1 s1 a1 k1 c1 a2 k2 c2 w4 hI
  obtain ⟨hB, Bg2, E⟩ := hI
  refine hK3 _ _ _ _ (Cq fun K4 hK4 => ?_)
  by_cases hs17_0 : (!b1) = true
  ·by_cases hs17_1 : n1 = 0
   ·by_cases hs17_2 : s1 = []
    ·by_cases hs17_3 : (k1 : Int) = 0
     ·by_cases hs17_4 : (k2 : Int) = 0
      ·refine Cr (Sv (oA0 fd25_1 rfl) (Sv (oL sc4 rfl (Bg2.cell rfl)) (Sv (o_not rfl) (Zm rfl (Sg rfl hs17_0 (oA0 fd25_2 rfl) (Sg rfl hs17_0 (oL sc3 rfl (Bg2.cell rfl)) (Sg rfl hs17_0 (oE rfl rfl) (Sv (oT hs17_0 rfl rfl) (Zm rfl (Sg rfl (dT hs17_1) (oA0 fd25_3 rfl) (Sg rfl (dT hs17_1) (oL sc9 rfl (Bg2.cell rfl)) (Sg rfl (dT hs17_1) (o_seq rfl rfl) (Sv (oT (dT hs17_1) rfl rfl) ?_)))))))))))))
       refine Zm rfl (Sg rfl (dT hs17_2) (oA0 fd25_4 rfl) (Sg rfl (dT hs17_2) (oL sc22 rfl (Bg2.cell rfl)) (Sg rfl (dT hs17_2) (o_len Tryz.underlying22 rfl) (Sg rfl (dT hs17_2) (oE rfl rfl) (Sv (oT (dT hs17_2) rfl rfl) (Zm rfl (Sg rfl (dT hs17_3) (oA0 fd25_5 rfl) (Sg rfl (dT hs17_3) (oL sc23 rfl (Bg2.cell rfl)) (Sg rfl (dT hs17_3) (o_len Tryz.underlying23 rfl) (Sg rfl (dT hs17_3) (oE rfl rfl) (Sv (oT (dT hs17_3) rfl rfl) (Za rfl (Ln ?_)))))))))))))
       exact e_K (hK4 _ _ _ _ (cR (ret1 rfl rfl ⟨by rw [hB]; clear hB; simp_all, E⟩)))
      ·refine Cr (Sv (oA0 fd25_1 rfl) (Sv (oL sc4 rfl (Bg2.cell rfl)) (Sv (o_not rfl) (Zm rfl (Sg rfl hs17_0 (oA0 fd25_2 rfl) (Sg rfl hs17_0 (oL sc3 rfl (Bg2.cell rfl)) (Sg rfl hs17_0 (oE rfl rfl) (Sv (oT hs17_0 rfl rfl) (Zm rfl (Sg rfl (dT hs17_1) (oA0 fd25_3 rfl) (Sg rfl (dT hs17_1) (oL sc9 rfl (Bg2.cell rfl)) (Sg rfl (dT hs17_1) (o_seq rfl rfl) (Sv (oT (dT hs17_1) rfl rfl) ?_)))))))))))))
       refine Zm rfl (Sg rfl (dT hs17_2) (oA0 fd25_4 rfl) (Sg rfl (dT hs17_2) (oL sc22 rfl (Bg2.cell rfl)) (Sg rfl (dT hs17_2) (o_len Tryz.underlying22 rfl) (Sg rfl (dT hs17_2) (oE rfl rfl) (Sv (oT (dT hs17_2) rfl rfl) (Zm rfl (Sg rfl (dT hs17_3) (oA0 fd25_5 rfl) (Sg rfl (dT hs17_3) (oL sc23 rfl (Bg2.cell rfl)) (Sg rfl (dT hs17_3) (o_len Tryz.underlying23 rfl) (Sg rfl (dT hs17_3) (oE rfl rfl) (Sv (oT (dT hs17_3) rfl rfl) (Za rfl (Ln ?_)))))))))))))
       exact e_K (hK4 _ _ _ _ (cR (ret1 rfl rfl ⟨by rw [hB]; clear hB; simp_all, E⟩)))
     ·refine Cr (Sv (oA0 fd25_1 rfl) (Sv (oL sc4 rfl (Bg2.cell rfl)) (Sv (o_not rfl) (Zm rfl (Sg rfl hs17_0 (oA0 fd25_2 rfl) (Sg rfl hs17_0 (oL sc3 rfl (Bg2.cell rfl)) (Sg rfl hs17_0 (oE rfl rfl) (Sv (oT hs17_0 rfl rfl) (Zm rfl (Sg rfl (dT hs17_1) (oA0 fd25_3 rfl) (Sg rfl (dT hs17_1) (oL sc9 rfl (Bg2.cell rfl)) (Sg rfl (dT hs17_1) (o_seq rfl rfl) (Sv (oT (dT hs17_1) rfl rfl) ?_)))))))))))))
      refine Zm rfl (Sg rfl (dT hs17_2) (oA0 fd25_4 rfl) (Sg rfl (dT hs17_2) (oL sc22 rfl (Bg2.cell rfl)) (Sg rfl (dT hs17_2) (o_len Tryz.underlying22 rfl) (Sg rfl (dT hs17_2) (oE rfl rfl) (Sv (oT (dT hs17_2) rfl rfl) (Zm rfl (Sx rfl (dF hs17_3) (Sx rfl (dF hs17_3) (Sx rfl (dF hs17_3) (Sx rfl (dF hs17_3) (Sv (oF (dF hs17_3) rfl rfl) (Za rfl (Ln ?_)))))))))))))
      exact e_K (hK4 _ _ _ _ (cR (ret1 rfl rfl ⟨by rw [hB]; clear hB; simp_all, E⟩)))
    ·refine Cr (Sv (oA0 fd25_1 rfl) (Sv (oL sc4 rfl (Bg2.cell rfl)) (Sv (o_not rfl) (Zm rfl (Sg rfl hs17_0 (oA0 fd25_2 rfl) (Sg rfl hs17_0 (oL sc3 rfl (Bg2.cell rfl)) (Sg rfl hs17_0 (oE rfl rfl) (Sv (oT hs17_0 rfl rfl) (Zm rfl (Sg rfl (dT hs17_1) (oA0 fd25_3 rfl) (Sg rfl (dT hs17_1) (oL sc9 rfl (Bg2.cell rfl)) (Sg rfl (dT hs17_1) (o_seq rfl rfl) (Sv (oT (dT hs17_1) rfl rfl) ?_)))))))))))))
     refine Zm rfl (Sx rfl (dF hs17_2) (Sx rfl (dF hs17_2) (Sx rfl (dF hs17_2) (Sx rfl (dF hs17_2) (Sv (oF (dF hs17_2) rfl rfl) (Zm rfl (Sx rfl rfl (Sx rfl rfl (Sx rfl rfl (Sx rfl rfl (Sv (oF rfl rfl rfl) (Za rfl (Ln ?_)))))))))))))
     exact e_K (hK4 _ _ _ _ (cR (ret1 rfl rfl ⟨by rw [hB]; clear hB; simp_all, E⟩)))
   ·refine Cr (Sv (oA0 fd25_1 rfl) (Sv (oL sc4 rfl (Bg2.cell rfl)) (Sv (o_not rfl) (Zm rfl (Sg rfl hs17_0 (oA0 fd25_2 rfl) (Sg rfl hs17_0 (oL sc3 rfl (Bg2.cell rfl)) (Sg rfl hs17_0 (oE rfl rfl) (Sv (oT hs17_0 rfl rfl) (Zm rfl (Sx rfl (dF hs17_1) (Sx rfl (dF hs17_1) (Sx rfl (dF hs17_1) (Sv (oF (dF hs17_1) rfl rfl) ?_)))))))))))))
    refine Zm rfl (Sx rfl rfl (Sx rfl rfl (Sx rfl rfl (Sx rfl rfl (Sv (oF rfl rfl rfl) (Zm rfl (Sx rfl rfl (Sx rfl rfl (Sx rfl rfl (Sx rfl rfl (Sv (oF rfl rfl rfl) (Za rfl (Ln ?_)))))))))))))
    exact e_K (hK4 _ _ _ _ (cR (ret1 rfl rfl ⟨by rw [hB]; clear hB; simp_all, E⟩)))
  ·refine Cr (Sv (oA0 fd25_1 rfl) (Sv (oL sc4 rfl (Bg2.cell rfl)) (Sv (o_not rfl) (Zm rfl (Sx rfl (bF hs17_0) (Sx rfl (bF hs17_0) (Sx rfl (bF hs17_0) (Sv (oF (bF hs17_0) rfl rfl) (Zm rfl (Sx rfl rfl (Sx rfl rfl (Sx rfl rfl (Sv (oF rfl rfl rfl) ?_)))))))))))))
   refine Zm rfl (Sx rfl rfl (Sx rfl rfl (Sx rfl rfl (Sx rfl rfl (Sv (oF rfl rfl rfl) (Zm rfl (Sx rfl rfl (Sx rfl rfl (Sx rfl rfl (Sx rfl rfl (Sv (oF rfl rfl rfl) (Za rfl (Ln ?_)))))))))))))
   exact e_K (hK4 _ _ _ _ (cR (ret1 rfl rfl ⟨by rw [hB]; clear hB; simp_all, E⟩)))
 refine Cq fun K5 hK5 => Cr (Sv (oA0 fd25_0 rfl) (Sv (oL sc3 rfl (Bg1.cell rfl)) (Ln (e_K (hK5 _ _ _ _ (cB (Cq fun K6 hK6 => Cr (Sv (oE rfl rfl) (Za rfl (Ln (e_K (hK6 _ _ _ _ ?_))))))))))))
 refine c_if rfl (fun h7 => ?_) (fun h7 => ?_)
 ·refine cK (eI (by simp) ?_)
  refine WE.sub (l' := [(3, _)]) ⟨rfl, trivial⟩ (e_K (J3 v.is v.num v.str al v.list.length cl am v.map.length cm w3 ⟨by simp [JV.bare, h7], Bg2, E⟩))
 ·refine Cq fun K7 hK7 => Cr (Sv (oE rfl rfl) (Za rfl (Ln (e_K (hK7 _ _ _ _ ?_)))))
  refine c_if rfl (fun h9 => ?_) (fun h9 => ?_)
  ·refine Cr (Sv (oA0 fd25_1 rfl) (s_st sc4 Bg2 rfl rfl rfl (by simp) fun w5 P5 => ?_))
   replace Bg1 := Bg1.ne P5.mod (Ne.symm (Ne.symm Dg1_g2))
   replace E := E.own P5.mod Lg2_E
   replace Bg2 : Blk w5 g2 _ [_, _, _, _, _, _] := P5.blk
   refine Ln (eI (by simp) ?_)
   refine WE.sub (l' := [(3, _)]) ⟨rfl, trivial⟩ (e_K (J3 false v.num v.str al v.list.length cl am v.map.length cm w5 ⟨by simp [JV.bare, h9], Bg2, E⟩))
  ·refine Cq fun K8 hK8 => Cr (Sv (oE rfl rfl) (Za rfl (Ln (e_K (hK8 _ _ _ _ ?_)))))
   refine c_if rfl (fun h12 => ?_) (fun h12 => ?_)
   ·refine Cq fun K9 hK9 => Cr (Sv (oA0 fd25_2 rfl) (s_st sc3 Bg2 rfl rfl rfl (by simp) fun w6 P6 => ?_))
    replace Bg1 := Bg1.ne P6.mod (Ne.symm (Ne.symm Dg1_g2))
    replace E := E.own P6.mod Lg2_E
    replace Bg2 : Blk w6 g2 _ [_, _, _, _, _, _] := P6.blk
    refine Ln (e_K (hK9 _ _ _ _ (Cq fun K10 hK10 => ?_)))
    by_cases hs9_0 : v.num > 9007199254740991
    ·refine Cr (Sv (oA0 fd25_2 rfl) (Sv (oL sc3 rfl (Bg1.cell rfl)) (Sv (o_gtr rfl rfl) (Zm rfl (Sx rfl (dT hs9_0) (Sx rfl (dT hs9_0) (Sx rfl (dT hs9_0) (Sv (oT (dT hs9_0) rfl rfl) (Ln (e_K (hK10 _ _ _ _ (c_true rfl ?_))))))))))))
     have hf : v.bare = false := by simp only [JV.bare, h12]; simp; intros; omega
     exact Cq fun K11 hK11 => Cr (Za rfl (Ln (e_K (hK11 _ _ _ _ (cR (eI (by simp) (eT (by simp) (ret1 rfl rfl ⟨by rw [hf], E⟩))))))))
    ·refine Cr (Sv (oA0 fd25_2 rfl) (Sv (oL sc3 rfl (Bg1.cell rfl)) (Sv (o_gtr rfl rfl) (Zm rfl (Sg rfl (dF hs9_0) (oA0 fd25_2 rfl) (Sg rfl (dF hs9_0) (oL sc3 rfl (Bg1.cell rfl)) (Sg rfl (dF hs9_0) (o_lss rfl rfl) (Sv (oF (dF hs9_0) rfl rfl) (Ln (e_K (hK10 _ _ _ _ ?_)))))))))))
     refine c_if rfl (fun h22 => ?_) (fun h22 => ?_)
     ·have hf : v.bare = false := by simp only [JV.bare, h12]; simp; intros; omega
      exact Cq fun K12 hK12 => Cr (Za rfl (Ln (e_K (hK12 _ _ _ _ (cR (eI (by simp) (eT (by simp) (ret1 rfl rfl ⟨by rw [hf], E⟩))))))))
     ·have hrg : -9007199254740991 ≤ v.num ∧ v.num ≤ 9007199254740991 := by omega
      refine cK (eI (by simp) ?_)
      refine WE.sub (l' := [(3, _)]) ⟨rfl, trivial⟩ (e_K (J3 v.is 0 v.str al v.list.length cl am v.map.length cm w6 ⟨by simp [JV.bare, h12, hrg], Bg2, E⟩))
   ·refine Cq fun K13 hK13 => Cr (Sv (oE rfl rfl) (Za rfl (Ln (e_K (hK13 _ _ _ _ ?_)))))
    refine c_if rfl (fun h23 => ?_) (fun h23 => ?_)
    ·refine Cr (Sv (oA0 fd25_3 rfl) (s_st sc9 Bg2 rfl rfl rfl (by simp) fun w7 P7 => ?_))
     replace Bg1 := Bg1.ne P7.mod (Ne.symm (Ne.symm Dg1_g2))
     replace E := E.own P7.mod Lg2_E
     replace Bg2 : Blk w7 g2 _ [_, _, _, _, _, _] := P7.blk
     refine Ln (eI (by simp) ?_)
     refine WE.sub (l' := [(3, _)]) ⟨rfl, trivial⟩ (e_K (J3 v.is v.num [] al v.list.length cl am v.map.length cm w7 ⟨by simp [JV.bare, h23], Bg2, E⟩))
    ·refine Cq fun K14 hK14 => Cr (Sv (oE rfl rfl) (Za rfl (Ln (e_K (hK14 _ _ _ _ ?_)))))
     refine c_if rfl (fun h26 => ?_) (fun h26 => ?_)
     ·refine Cr (Sv (oA0 fd25_4 rfl) (s_st sc22 Bg2 rfl rfl rfl (by simp) fun w8 P8 => ?_))
      replace Bg1 := Bg1.ne P8.mod (Ne.symm (Ne.symm Dg1_g2))
      replace E := E.own P8.mod Lg2_E
      replace Bg2 : Blk w8 g2 _ [_, _, _, _, _, _] := P8.blk
      refine Ln (eI (by simp) ?_)
      refine WE.sub (l' := [(3, _)]) ⟨rfl, trivial⟩ (e_K (J3 v.is v.num v.str none 0 0 am v.map.length cm w8 ⟨by simp [JV.bare, h26], Bg2, E⟩))
     ·refine Cq fun K15 hK15 => Cr (Sv (oE rfl rfl) (Za rfl (Ln (e_K (hK15 _ _ _ _ ?_)))))
      refine c_if rfl (fun h29 => ?_) (fun h29 => ?_)
      ·refine Cr (Sv (oA0 fd25_5 rfl) (s_st sc23 Bg2 rfl rfl rfl (by simp) fun w9 P9 => ?_))
       replace Bg1 := Bg1.ne P9.mod (Ne.symm (Ne.symm Dg1_g2))
       replace E := E.own P9.mod Lg2_E
       replace Bg2 : Blk w9 g2 _ [_, _, _, _, _, _] := P9.blk
       refine Ln (eI (by simp) ?_)
       refine WE.sub (l' := [(3, _)]) ⟨rfl, trivial⟩ (e_K (J3 v.is v.num v.str al v.list.length cl none 0 0 w9 ⟨by simp [JV.bare, h29], Bg2, E⟩))
      ·have hf : v.bare = false := by simp only [JV.bare]; simp; intros; omega
       exact Cq fun K16 hK16 => Cr (Za rfl (Ln (e_K (hK16 _ _ _ _ (cR (eI (by simp) (eT (by simp) (ret1 rfl rfl ⟨by rw [hf], E⟩))))))))

theorem c_long9 (w : World) (b : Str) (u0 : Value) (O : OwB w u0 b) : Calls Tryz.prog 102 [u0].toArray w (Ret fun u w' => ∃ u2, u = .tuple #[u2, .int .i64 (ern (lng b))] ∧ (u2 = u0 ∧ bts (lng b) = b ∨ u2 = .slice none 0 0 ∧ bts (lng b) = []) ∧ Mod [] w w') := by
 refine enter Tryz.func102 rfl rfl rfl (l := [(0, _)]) ⟨rfl, trivial⟩ ?_
 have E := Mod.refl [] w
 obtain ⟨ad, c, rfl, hc1, hc2⟩ := O.form
 refine Cq fun K1 hK1 => Cr (Za rfl (Za rfl (Ln (e_K (hK1 _ _ _ _ (Cq fun K2 hK2 => Cq fun K3 hK3 => Cr (Zm rfl (Sv (o_len Tryz.underlying53 rfl) (Sv (o_gtr rfl rfl) (Ln (e_K (hK3 _ _ _ _ ?_))))))))))))
 refine c_if rfl (fun h6 => ?_) (fun h6 => ?_)
 ·have hl : lng b = .error 3 := if_pos (by omega)
  exact Cq fun K4 hK4 => Cr (Za rfl (Za rfl (Ln (e_K (hK4 _ _ _ _ (cR (eT (by simp) (ret2 rfl rfl rfl ⟨_, by rw [hl]; rfl, .inr ⟨rfl, by rw [hl]; rfl⟩, E⟩))))))))
 ·have hl : lng b = .ok b := if_neg (by omega)
  exact cK (e_K (hK2 _ _ _ _ (Cq fun K5 hK5 => Cr (Zm rfl (Za rfl (Za rfl (Ln (e_K (hK5 _ _ _ _ (cR (ret2 rfl rfl rfl ⟨_, by rw [hl]; rfl, .inl ⟨rfl, by rw [hl]; rfl⟩, E⟩)))))))))))

theorem c_text9 (w : World) (b s : Str) (u0 : Value) (O : OwB w u0 b) (hb : b.length ≤ 65536) : Calls Tryz.prog 104 [u0, S s].toArray w (Ret fun u w' => WR w w' u0 (txtW b s) u) := by
 refine enter Tryz.func104 rfl rfl rfl (l := [(0, _), (1, _)]) ⟨rfl, rfl, trivial⟩ ?_
 have E := Mod.refl [] w
 refine Cq fun K1 hK1 => Cr (Za rfl (Za rfl (Ln (e_K (hK1 _ _ _ _ (Cq fun K2 hK2 => Cq fun K3 hK3 => Cr (Zm rfl (Sv (o_slen Tryz.underlying9 rfl) (Sv (o_gtr rfl rfl) (Ln (e_K (hK3 _ _ _ _ ?_))))))))))))
 refine c_if rfl (fun h10 => ?_) (fun h10 => ?_)
 ·have hr : txtW b s = .error 3 := if_pos (by omega)
  exact Cq fun K4 hK4 => Cr (Za rfl (Za rfl (Ln (e_K (hK4 _ _ _ _ (cR (eT (by simp) (ret2 rfl rfl rfl (WR.err E (by decide) hr)))))))))
 ·have hsl : s.length ≤ 65536 := by omega
  refine cK (e_K (hK2 _ _ _ _ (Cq fun K5 hK5 => Cr (Zm rfl (sc (oC ent130 rfl) (c_put8 _ s (by omega)) rfl fun v_ w1 h_ => ?_)))))
  obtain ⟨rfl, E_⟩ := h_
  replace E := E.then E_
  refine Zm rfl (Sv (o_ext rfl rfl) (Sv (o_ext rfl rfl) (Za rfl (Za rfl (Ln (e_K (hK5 _ _ _ _ (Cq fun K6 hK6 => Cq fun K7 hK7 => Cr (Zm rfl (Sv (o_not rfl) (Ln (e_K (hK7 _ _ _ _ ?_)))))))))))))
  refine c_cond rfl (fun h17 => ?_) (fun h17 => ?_)
  ·have hv : validR s = false := by simpa using h17
   have hr : txtW b s = .error 1 := by rw [txtW, if_neg (by omega), hv]; rfl
   exact Cq fun K8 hK8 => Cr (Za rfl (Za rfl (Ln (e_K (hK8 _ _ _ _ (cR (eT (by simp) (ret2 rfl rfl rfl (WR.err E (by decide) hr)))))))))
  ·have hv : validR s = true := by simpa using h17
   have hr : txtW b s = lng (b ++ putQ s) := by rw [txtW, if_neg (by omega), hv]; rfl
   refine cK (e_K (hK6 _ _ _ _ (Cq fun K9 hK9 => Cr (Zm rfl (Zm rfl ?_)))))
   have hql := escs_len s
   have hqp : (putQ s).length = (escs s).length + 2 := by simp [putQ]
   replace O := O.mod0 E
   rw [hv, if_pos rfl]
   refine s_append sl53 rfl rfl O (Src.str Tryz.underlying9 _) (by decide) (by first | omega | (simp only [List.length_append, List.length_cons, List.length_nil] at *; omega)) (by first | omega | (simp only [List.length_append, List.length_cons, List.length_nil] at *; omega)) rfl fun u1 w2 AA => ?_
   have O1 : OwB w2 u1 (b ++ putQ s) := AA.own.same (by simp) (by simp [cells_b8, B8])
   refine sc (oC ent102 rfl) (c_long9 _ (b ++ putQ s) _ O1) rfl fun v_ w3 h_ => ?_
   obtain ⟨u2, rfl, hu2, E_⟩ := h_
   exact Sv (o_ext rfl rfl) (Sv (o_ext rfl rfl) (Za rfl (Za rfl (Ln (e_K (hK9 _ _ _ _ (cR (ret2 rfl rfl rfl (WR.applong E AA O1 hu2 E_ hr)))))))))
end Go.Proofs.YtkhbnhdlelmbnaaGreatDoor.V

namespace Go.Proofs
open Go.Shelf
def Tryz.laysM171_ren : Go.Shelf.Ren := ⟨fun | 171 => 103 | 243 => 129 | 246 => 142 | 283 => 153 | 284 => 154 | 285 => 155 | 286 => 156 | 129 => 161 | 317 => 160 | 318 => 162 | 319 => 163 | 320 => 164 | 337 => 167 | 338 => 168 | n => n, fun | 3 => 3 | 9 => 9 | 2 => 2 | 4 => 4 | 171 => 154 | 0 => 0 | 53 => 102 | 37 => 53 | 5 => 5 | 173 => 157 | 212 => 160 | 51 => 77 | 20 => 20 | 213 => 161 | 46 => 74 | 232 => 51 | 233 => 166 | n => n, fun | 17 => 2 | 18 => 3 | 19 => 4 | n => n⟩
theorem Tryz.laysM171 : Go.Proofs.LaysM.n171 Tryz.prog Tryz.laysM171_ren := {
  mixed := by kernel_rfl
  f129 := Tryz.func161.trans (congrArg some (by kernel_rfl))
  f171 := Tryz.func103.trans (congrArg some (by kernel_rfl))
  f243 := Tryz.func129.trans (congrArg some (by kernel_rfl))
  f246 := Tryz.func142.trans (congrArg some (by kernel_rfl))
  f283 := Tryz.func153.trans (congrArg some (by kernel_rfl))
  f284 := Tryz.func154.trans (congrArg some (by kernel_rfl))
  f285 := Tryz.func155.trans (congrArg some (by kernel_rfl))
  f286 := Tryz.func156.trans (congrArg some (by kernel_rfl))
  f317 := Tryz.func160.trans (congrArg some (by kernel_rfl))
  f318 := Tryz.func162.trans (congrArg some (by kernel_rfl))
  f319 := Tryz.func163.trans (congrArg some (by kernel_rfl))
  f320 := Tryz.func164.trans (congrArg some (by kernel_rfl))
  f337 := Tryz.func167.trans (congrArg some (by kernel_rfl))
  f338 := Tryz.func168.trans (congrArg some (by kernel_rfl))
  t0 := Tryz.underlying0
  a0 := Tryz.isAgg0
  z0 := Tryz.sizeOf0
  v0 := Tryz.zeroValue0
  t2 := Tryz.underlying2
  a2 := Tryz.isAgg2
  z2 := Tryz.sizeOf2
  v2 := Tryz.zeroValue2
  t3 := Tryz.underlying3
  a3 := Tryz.isAgg3
  z3 := Tryz.sizeOf3
  v3 := Tryz.zeroValue3
  t4 := Tryz.underlying4
  a4 := Tryz.isAgg4
  z4 := Tryz.sizeOf4
  v4 := Tryz.zeroValue4
  t5 := Tryz.underlying5
  a5 := Tryz.isAgg5
  z5 := Tryz.sizeOf5
  v5 := Tryz.zeroValue5
  t9 := Tryz.underlying9
  a9 := Tryz.isAgg9
  z9 := Tryz.sizeOf9
  v9 := Tryz.zeroValue9
  t20 := Tryz.underlying20
  a20 := Tryz.isAgg20
  z20 := Tryz.sizeOf20
  v20 := Tryz.zeroValue20
  t37 := Tryz.underlying53
  a37 := Tryz.isAgg53
  z37 := Tryz.sizeOf53
  v37 := Tryz.zeroValue53
  t46 := Tryz.underlying74
  a46 := Tryz.isAgg74
  z46 := Tryz.sizeOf74
  v46 := Tryz.zeroValue74
  t51 := Tryz.underlying77
  a51 := Tryz.isAgg77
  z51 := Tryz.sizeOf77
  v51 := Tryz.zeroValue77
  t53 := Tryz.underlying102
  a53 := Tryz.isAgg102
  z53 := Tryz.sizeOf102
  v53 := Tryz.zeroValue102
  t171 := Tryz.underlying154
  a171 := Tryz.isAgg154
  z171 := Tryz.sizeOf154
  v171 := Tryz.zeroValue154
  t173 := Tryz.underlying157
  a173 := Tryz.isAgg157
  z173 := Tryz.sizeOf157
  v173 := Tryz.zeroValue157
  t212 := Tryz.underlying160
  a212 := Tryz.isAgg160
  z212 := Tryz.sizeOf160
  v212 := Tryz.zeroValue160
  t213 := Tryz.underlying161
  a213 := Tryz.isAgg161
  z213 := Tryz.sizeOf161
  t232 := Tryz.underlying51
  a232 := Tryz.isAgg51
  z232 := Tryz.sizeOf51
  v232 := Tryz.zeroValue51
  t233 := Tryz.underlying166
  a233 := Tryz.isAgg166
  z233 := Tryz.sizeOf166
  v233 := Tryz.zeroValue166
  g17 := by kernel_rfl
  g18 := by kernel_rfl
  g19 := by kernel_rfl
  i0 := by kernel_rfl
  i2 := by kernel_rfl
  i3 := by kernel_rfl
  i4 := by kernel_rfl
  i5 := by kernel_rfl
  i9 := by kernel_rfl
  i20 := by kernel_rfl
  i37 := by kernel_rfl
  i46 := by kernel_rfl
  i51 := by kernel_rfl
  i53 := by kernel_rfl
  i171 := by kernel_rfl
  i173 := by kernel_rfl
  i212 := by kernel_rfl
  i232 := by kernel_rfl
  i233 := by kernel_rfl
  m17 := by kernel_rfl
  m18 := by kernel_rfl
  m19 := by kernel_rfl }
open Go.RowKit Go.Sort Go.Lib in
/-- strconv.Itoa: "Itoa is equivalent to FormatInt(int64(i), 10).": i's DECIMAL NUMERAL ('Lib.itoa': a '-' where i is negative, then the digits), FOR EVERY int. The world behind the call: the world before it, new blocks behind the heap (the library's 'var a [24]byte'), draws. (LAID: no walk: one application.) -/
theorem Tryz.strconv_Itoa (n : Int) (h0 : -9223372036854775808 ≤ n) (h1 : n ≤ 9223372036854775807) (w : World) (htab : Lib.TabIs Tryz.prog w "internal/strconv.uint64pow10" .u64 Lib.pow10Tab) :
    Calls Tryz.prog 103 #[.int .i64 n] w fun e w' => e = .returned (.string ⟨(Lib.itoa n).toArray⟩) ∧ ∃ k os, w' = grow (w.drewN k) os := Any.strconv_Itoa Tryz.laysM171 n h0 h1 w htab
end Go.Proofs

namespace Go.Proofs.YtkhbnhdlelmbnaaGreatDoor.V
open Go Go.Proofs
abbrev Tab (w : World) : Prop := Lib.TabIs Tryz.prog w "internal/strconv.uint64pow10" .u64 Lib.pow10Tab
abbrev gT : Nat := 2
theorem gPow : Tryz.prog.globalNamed "internal/strconv.uint64pow10" = some gT := by kernel_rfl
theorem Tab.mod {M : List Nat} {w w' : World} (h : Tab w) (k : Mod M w w') (hM : gT ∉ M) : Tab w' := by
  unfold Tab Lib.TabIs World.var? at h ⊢
  simp only [gPow, Option.bind_some] at h ⊢
  have hlt : gT < w.heap.size := by
    rcases Nat.lt_or_ge gT w.heap.size with hl | hl
    · exact hl
    · rw [Array.getElem?_eq_none hl] at h
      cases h
  rw [k.block gT hlt hM]
  exact h
theorem Tab.lt {w : World} (h : Tab w) : gT < w.heap.size := by
  unfold Tab Lib.TabIs World.var? at h
  simp only [gPow, Option.bind_some] at h
  rcases Nat.lt_or_ge gT w.heap.size with hl | hl
  · exact hl
  · rw [Array.getElem?_eq_none hl] at h
    cases h
theorem mod_grow (w : World) (k : Nat) (os : Array Obj) : Mod [] w (Sort.grow (w.drewN k) os) := by
  have h := Lib.below_grow w.heap.size w (Nat.le_refl _) k os
  exact ⟨h.os, h.tape, h.output, h.size, fun i hi _ => h.block i hi⟩
theorem c_itoa (w : World) (n : Int) (h0 : -9223372036854775808 ≤ n) (h1 : n ≤ 9223372036854775807) (hT : Tab w) : Calls Tryz.prog 103 [.int .i64 n].toArray w (Ret fun u w' => u = S (Lib.itoa n) ∧ Mod [] w w') :=
  (Tryz.strconv_Itoa n h0 h1 w hT).mono fun e w' he => by
    obtain ⟨rfl, k, os, rfl⟩ := he
    exact ⟨rfl, mod_grow w k os⟩
end Go.Proofs.YtkhbnhdlelmbnaaGreatDoor.V
