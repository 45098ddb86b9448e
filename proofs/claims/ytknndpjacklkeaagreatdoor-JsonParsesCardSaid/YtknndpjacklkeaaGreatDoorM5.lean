/-
  A part of the proof: events: what they stand for in memory; whether one is greater than is played. No condition of its own.
-/
import Derived.Test.YtknndpjacklkeaaGreatDoorM4
import Derived.Test.YtknndpjacklkeaaGreatDoorM3
import Derived.Test.YtknndpjacklkeaaGreatDoorProg
import Derived.Test.YtknndpjacklkeaaGreatDoorM2
import Derived.Lib.AppendIntMem
import Derived.Lib.LaidTab
import Derived.Shelf.Strings.Trim
import Derived.Shelf.Small.Utf8
import Derived.Shelf.Small.Bits
import Derived.Shelf.Small.Strs
import Derived.Shelf.Small.Wraps
import Derived.Shelf.Utf8.AppendRune
import Derived.Shelf.Strconv.Atoi
import Derived.Shelf.Strconv.Itoa0
import Derived.Shelf.Strconv.Itoa1
import Derived.Shelf.LaysM
import Derived.Shelf.Strconv.Itoa2
import Derived.Shelf.Strconv.Itoa3
import Derived.Shelf.Strconv.AtoiErrFast
import Derived.Shelf.Strconv.ParseIntEmpty
import Derived.Shelf.Strconv.AtoiFail
import Derived.Shelf.Strconv.Clone
import Derived.Shelf.Strconv.SyntaxError
import Derived.Shelf.LaysC
import Derived.Shelf.Strconv.ToError
import Derived.Shelf.Strconv.Lower
import Derived.Shelf.Strconv.ParseUint10
import Derived.Shelf.Strconv.ParseUint10Empty
import Derived.Shelf.Strconv.ParseUint10Any
import Derived.Shelf.Strconv.ParseInt10
import Derived.Shelf.Strconv.AtoiLong
import Derived.Shelf.Strconv.AtoiInnerAll
import Derived.Shelf.Strconv.RangeError
import Derived.Shelf.Strconv.ToErrorRange
import Derived.Shelf.Strconv.AtoiAll
import Derived.Shelf.Strconv.ErrVarAll
import Derived.Shelf.Strings.Search1
import Derived.Shelf.Strings.Search2
import Derived.Shelf.Strings.Cut
import Derived.Shelf.Strings.Shaped
import Derived.Shelf.Strings.Prefix
import Derived.Shelf.Strings.Runes
import Derived.Shelf.Strings.AsciiSet
import Derived.Shelf.Unicode.DecodeSlow
import Derived.Shelf.Unicode.DecodeAny
import Derived.Ground.Names2Prog
import Derived.Shelf.Slices.Clone
set_option linter.unusedVariables false
set_option linter.unusedSimpArgs false
set_option maxRecDepth 10000
namespace Go.Proofs.YtknndpjacklkeaaGreatDoor.V
open Go Go.Proofs
theorem fd25_0 : fdB Tryz.prog 25 0 0 1 = true := by kernel_rfl
theorem sc3 : scB Tryz.prog 3 = true := by kernel_rfl
theorem fd25_1 : fdB Tryz.prog 25 1 1 1 = true := by kernel_rfl
theorem sc4 : scB Tryz.prog 4 = true := by kernel_rfl
theorem fd25_2 : fdB Tryz.prog 25 2 2 1 = true := by kernel_rfl
theorem ent16 : Ent Tryz.prog 16 := Ent.of Tryz.func16 (by kernel_rfl) (by kernel_rfl)
theorem c_same_step (N : Nat) (ih : ∀ (w : World) (v y : JV) (us vs : List Value), v.sz ≤ N → Reps [] w v.D us → Reps [] w y.D vs → Calls Tryz.prog 16 [.agg us.toArray, .agg vs.toArray].toArray w (Ret fun u w' => u = .bool (JV.eqJ v y) ∧ Mod [] w w')) (w : World) (v y : JV) (us vs : List Value) (hN : v.sz ≤ N + 1) (R : Reps [] w v.D us) (R2 : Reps [] w y.D vs) : Calls Tryz.prog 16 [.agg us.toArray, .agg vs.toArray].toArray w (Ret fun u w' => u = .bool (JV.eqJ v y) ∧ Mod [] w w') := by
 refine enter Tryz.func16 rfl rfl rfl (l := [(0, _), (1, _)]) ⟨rfl, rfl, trivial⟩ ?_
 have E := Mod.refl [] w
 obtain ⟨al, cl, am, cm, rfl, Rl, Rm⟩ := JV.cells_ R
 obtain ⟨al2, cl2, am2, cm2, rfl, Rl2, Rm2⟩ := JV.cells_ R2
 refine Cq fun K1 hK1 => Cr (s_box rfl rfl rfl fun g1 w1 N1 => ?_)
 have Lg1_E := N1.le E
 replace E := E.then N1.mod
 have Bg1 := N1.blk
 refine s_box rfl rfl rfl fun g2 w2 N2 => ?_
 have Lg2_E := N2.le E
 have Dg1_g2 := N2.ne Bg1
 replace Bg1 := Bg1.mod0 N2.mod
 replace E := E.then N2.mod
 have Bg2 := N2.blk
 refine Za rfl (Ln (e_K (hK1 _ _ _ _ (Cq fun K2 hK2 => Cq fun K3 hK3 => Cr (Sv (oA0 fd25_0 rfl) (Sv (oL sc3 rfl (Bg1.cell rfl)) (Sv (oA0 fd25_0 rfl) (Sv (oL sc3 rfl (Bg2.cell rfl)) (Sv (o_neq rfl rfl) ?_)))))))))
 refine bD (fun hs1_0 : v.kind ≠ y.kind => ?_) (fun hs1_0 => ?_)
 ·have hz3 : JV.eqJ v y = false := JV.eqJ_ne fun e => hs1_0 (by rw [e])
  exact tW 39 rfl (Ln (e_K (hK3 _ _ _ _ (c_true rfl (Cq fun K4 hK4 => Cr (Za rfl (Ln (e_K (hK4 _ _ _ _ (cR (eT (by simp) (ret1 rfl rfl ⟨by rw [hz3], E⟩))))))))))))
 ·refine Zm rfl (Sg rfl rfl (oA0 fd25_1 rfl) (Sg rfl rfl (oL sc4 rfl (Bg1.cell rfl)) (Sg rfl rfl (oA0 fd25_1 rfl) (Sg rfl rfl (oL sc4 rfl (Bg2.cell rfl)) (Sg rfl rfl (o_bsne Tryz.underlying4 rfl rfl) ?_)))))
  refine bC (fun hs1_1 : ((v.is != y.is)) = true => ?_) (fun hs1_1 => ?_)
  ·have hz3 : JV.eqJ v y = false := JV.eqJ_ne fun e => (by subst e; simp at hs1_1)
   exact tW 33 rfl (Ln (e_K (hK3 _ _ _ _ (c_true rfl (Cq fun K5 hK5 => Cr (Za rfl (Ln (e_K (hK5 _ _ _ _ (cR (eT (by simp) (ret1 rfl rfl ⟨by rw [hz3], E⟩))))))))))))
  ·refine tW 2 rfl (Sg rfl rfl (oA0 fd25_2 rfl) (Sg rfl rfl (oL sc3 rfl (Bg1.cell rfl)) (Sg rfl rfl (oA0 fd25_2 rfl) (Sg rfl rfl (oL sc3 rfl (Bg2.cell rfl)) (Sg rfl rfl (o_neq rfl rfl) ?_)))))
   refine bD (fun hs1_2 : v.num ≠ y.num => ?_) (fun hs1_2 => ?_)
   ·have hz3 : JV.eqJ v y = false := JV.eqJ_ne fun e => hs1_2 (by rw [e])
    exact tW 26 rfl (Ln (e_K (hK3 _ _ _ _ (c_true rfl (Cq fun K6 hK6 => Cr (Za rfl (Ln (e_K (hK6 _ _ _ _ (cR (eT (by simp) (ret1 rfl rfl ⟨by rw [hz3], E⟩))))))))))))
   ·refine tW 2 rfl (Sg rfl rfl (oA0 fd25_3 rfl) (Sg rfl rfl (oL sc9 rfl (Bg1.cell rfl)) (Sg rfl rfl (oA0 fd25_3 rfl) (Sg rfl rfl (oL sc9 rfl (Bg2.cell rfl)) (Sg rfl rfl (o_sne rfl rfl) ?_)))))
    refine bD (fun hs1_3 : v.str ≠ y.str => ?_) (fun hs1_3 => ?_)
    ·have hz3 : JV.eqJ v y = false := JV.eqJ_ne fun e => hs1_3 (by rw [e])
     exact tW 19 rfl (Ln (e_K (hK3 _ _ _ _ (c_true rfl (Cq fun K7 hK7 => Cr (Za rfl (Ln (e_K (hK7 _ _ _ _ (cR (eT (by simp) (ret1 rfl rfl ⟨by rw [hz3], E⟩))))))))))))
    ·refine tW 2 rfl (Sg rfl rfl (oA0 fd25_4 rfl) (Sg rfl rfl (oL sc22 rfl (Bg1.cell rfl)) (Sg rfl rfl (o_len Tryz.underlying22 rfl) (Sg rfl rfl (oA0 fd25_4 rfl) (Sg rfl rfl (oL sc22 rfl (Bg2.cell rfl)) (Sg rfl rfl (o_len Tryz.underlying22 rfl) (Sg rfl rfl (o_neq rfl rfl) ?_)))))))
     refine bD (fun hs1_4 : (v.list.length : Int) ≠ (y.list.length : Int) => ?_) (fun hs1_4 => ?_)
     ·have hz3 : JV.eqJ v y = false := JV.eqJ_ne fun e => hs1_4 (by rw [e])
      exact tW 10 rfl (Ln (e_K (hK3 _ _ _ _ (c_true rfl (Cq fun K8 hK8 => Cr (Za rfl (Ln (e_K (hK8 _ _ _ _ (cR (eT (by simp) (ret1 rfl rfl ⟨by rw [hz3], E⟩))))))))))))
     ·refine tW 2 rfl (Sg rfl rfl (oA0 fd25_5 rfl) (Sg rfl rfl (oL sc23 rfl (Bg1.cell rfl)) (Sg rfl rfl (o_len Tryz.underlying23 rfl) (Sg rfl rfl (oA0 fd25_5 rfl) (Sg rfl rfl (oL sc23 rfl (Bg2.cell rfl)) (Sg rfl rfl (o_len Tryz.underlying23 rfl) (Sg rfl rfl (o_neq rfl rfl) ?_)))))))
      refine bD (fun hs1_5 : (v.map.length : Int) ≠ (y.map.length : Int) => ?_) (fun hs1_5 => ?_)
      ·have hz3 : JV.eqJ v y = false := JV.eqJ_ne fun e => hs1_5 (by rw [e])
       exact Sv (oF rfl rfl rfl) (Ln (e_K (hK3 _ _ _ _ (c_true rfl (Cq fun K9 hK9 => Cr (Za rfl (Ln (e_K (hK9 _ _ _ _ (cR (eT (by simp) (ret1 rfl rfl ⟨by rw [hz3], E⟩))))))))))))
      ·refine Sv (oF rfl rfl rfl) (Ln (e_K (hK3 _ _ _ _ (c_false rfl (cK (e_K (hK2 _ _ _ _ (Cq fun K10 hK10 => Cq fun K11 hK11 => Cr (Sv (oA0 fd25_4 rfl) (Sv (oL sc22 rfl (Bg1.cell rfl)) (Sv (o_len Tryz.underlying22 rfl) (Zm rfl (Ln ?_)))))))))))))
       refine e_K (hK11 _ _ _ _ (cB (c_loop (σ := Nat) (fun k => [(2, .pointer (some ⟨g1, 0, none⟩)), (3, .pointer (some ⟨g2, 0, none⟩)), (53, .int .i64 v.list.length), (54, .int .i64 (k : Int))]) (fun k w1 => k ≤ v.list.length ∧ (∀ (i : Nat) (a b : JV), i < k → v.list[i]? = some a → y.list[i]? = some b → a = b) ∧ Blk w1 g1 25 [.int .i64 v.kind, .bool v.is, .int .i64 v.num, S v.str, .slice al v.list.length cl, .slice am v.map.length cm] ∧ Blk w1 g2 25 [.int .i64 y.kind, .bool y.is, .int .i64 y.num, S y.str, .slice al2 y.list.length cl2, .slice am2 y.map.length cm2] ∧ Mod [] w w1) (fun k => v.list.length - k) (0) ⟨rfl, rfl, rfl, rfl, trivial⟩ (⟨by omega, fun i a b h => by omega, Bg1, Bg2, E⟩) ?_)))
       rintro k w3 ⟨hk, hA, Bg1, Bg2, E⟩
       refine Cq fun K12 hK12 => Cr (Sv (o_lss rfl rfl) (Ln (e_K (hK12 _ _ _ _ (Cq fun K13 hK13 => ?_)))))
       refine c_if rfl (fun h55 => ?_) (fun h55 => ?_)
       ·obtain ⟨x, hx_x⟩ : ∃ x, v.list[k]? = some x := ⟨_, List.getElem?_eq_getElem (by omega)⟩
        obtain ⟨a_x, us_x, ha_x, R_x, hcs0_x⟩ := JV.at_l Rl hx_x
        obtain ⟨al_x, cl_x, am_x, cm_x, rfl, Rl_x, Rm_x⟩ := JV.cells_ R_x
        have hcs_x := hcs0_x.mod0 E
        have hcap_x := JV.cap_l Rl
        obtain rfl := ha_x
        obtain ⟨z, hx_z⟩ : ∃ x, y.list[k]? = some x := ⟨_, List.getElem?_eq_getElem (by omega)⟩
        obtain ⟨a_z, us_z, ha_z, R_z, hcs0_z⟩ := JV.at_l Rl2 hx_z
        obtain ⟨al_z, cl_z, am_z, cm_z, rfl, Rl_z, Rm_z⟩ := JV.cells_ R_z
        have hcs_z := hcs0_z.mod0 E
        have hcap_z := JV.cap_l Rl2
        obtain rfl := ha_z
        refine cK (e_K (hK13 _ _ _ _ (Cq fun K14 hK14 => cB (Cq fun K15 hK15 => Cr (tW 2 rfl (Ln (e_K (hK15 _ _ _ _ (Cq fun K16 hK16 => c_draw wide (by kernel_rfl) (tv (fun w_ E_ => (oA0 fd25_4 rfl)) rfl rfl (tv (fun w_ E_ => (oL sc22 rfl ((Bg1.mod0 E_).cell rfl))) rfl rfl (tv (fun w_ E_ => (oM rfl)) rfl rfl ?_))))))))))))
        refine tv (fun w_ E_ => (o_ix sl22 rfl rfl (by omega))) rfl rfl (tv (fun w_ E_ => (o_lda ag25 rfl rfl (hcs_x.mod0 E_))) rfl rfl (tv (fun w_ E_ => (oA0 fd25_4 rfl)) rfl rfl (tv (fun w_ E_ => (oL sc22 rfl ((Bg2.mod0 E_).cell rfl))) rfl rfl (tv (fun w_ E_ => (oM rfl)) rfl rfl (tv (fun w_ E_ => (o_ix sl22 rfl rfl (by omega))) rfl rfl (tv (fun w_ E_ => (o_lda ag25 rfl rfl (hcs_z.mod0 E_))) rfl rfl (tc (fun w_ E_ => oC ent16 rfl) (fun w_ E_ => ih _ x z _ _ (by have := JV.sz_in_list (List.mem_of_getElem? hx_x); omega) (R_x.to0 (E.then E_)) (R_z.to0 (E.then E_))) rfl rfl (tv (fun w_ E_ => (o_not rfl)) rfl rfl (tw_nil rfl fun w4 E_ => ?_)))))))))
        replace Bg1 := Bg1.mod0 E_
        replace Bg2 := Bg2.mod0 E_
        replace E := E.then E_
        refine e_K (hK16 _ _ _ _ ?_)
        refine c_cond rfl (fun h68 => ?_) (fun h68 => ?_)
        ·have hz3 : JV.eqJ v y = false := JV.eqJ_ne fun e => by
          subst e
          rw [hx_x] at hx_z
          injection hx_z with e
          subst e
          rw [JV.eqJ_self] at h68
          cases h68
         exact Cq fun K17 hK17 => Cr (Za rfl (Ln (e_K (hK17 _ _ _ _ (cR (eI (by simp) (eT (by simp) (eT (by simp) (eI (by simp) (eT (by simp) (ret1 rfl rfl ⟨by rw [hz3], E⟩)))))))))))
        ·have hA2 : ∀ (i : Nat) (a b : JV), i < k + 1 → v.list[i]? = some a → y.list[i]? = some b → a = b := fun i a b hi ha hb => by
          rcases Nat.lt_succ_iff_lt_or_eq.1 hi with h | h
          ·exact hA i a b h ha hb
          ·subst h
           rw [hx_x] at ha
           rw [hx_z] at hb
           injection ha with ha
           injection hb with hb
           subst ha; subst hb
           exact JV.eqJ_iff.1 (by simpa using h68)
         exact cK (eI (by simp) (e_K (hK14 _ _ _ _ (Cr (Sv (o_addN rfl rfl (by omega)) (Zm rfl (Ln (eR (σ := Nat) (s := k) (k + 1) ⟨rfl, rfl, rfl, rfl, trivial⟩ ⟨by omega, hA2, Bg1, Bg2, E⟩ (by omega)))))))))
       ·refine c_exit (eT (by simp) (eT (by simp) (e_hit (e_K (hK10 _ _ _ _ (Cq fun K18 hK18 => Cq fun K19 hK19 => Cr (Sv (oA0 fd25_5 rfl) (Sv (oL sc23 rfl (Bg1.cell rfl)) (Sv (o_len Tryz.underlying23 rfl) (Zm rfl (Ln (e_K (hK19 _ _ _ _ ?_)))))))))))))
        refine cB (c_loop (σ := Nat) (fun j => [(2, .pointer (some ⟨g1, 0, none⟩)), (3, .pointer (some ⟨g2, 0, none⟩)), (72, .int .i64 v.map.length), (73, .int .i64 (j : Int))]) (fun j w1 => j ≤ v.map.length ∧ (∀ (i : Nat) (a b : List UInt8 × JV), i < j → v.map[i]? = some a → y.map[i]? = some b → a = b) ∧ Blk w1 g1 25 [.int .i64 v.kind, .bool v.is, .int .i64 v.num, S v.str, .slice al v.list.length cl, .slice am v.map.length cm] ∧ Blk w1 g2 25 [.int .i64 y.kind, .bool y.is, .int .i64 y.num, S y.str, .slice al2 y.list.length cl2, .slice am2 y.map.length cm2] ∧ Mod [] w w1) (fun j => v.map.length - j) (0) ⟨rfl, rfl, rfl, rfl, trivial⟩ (⟨by omega, fun i a b h => by omega, Bg1, Bg2, E⟩) ?_)
        rintro j w5 ⟨hj, hB, Bg1, Bg2, E⟩
        refine Cq fun K20 hK20 => Cr (Sv (o_lss rfl rfl) (Ln (e_K (hK20 _ _ _ _ (Cq fun K21 hK21 => ?_)))))
        refine c_if rfl (fun h74 => ?_) (fun h74 => ?_)
        ·obtain ⟨x, hx_x⟩ : ∃ x, v.map[j]? = some x := ⟨_, List.getElem?_eq_getElem (by omega)⟩
         obtain ⟨a_x, us_x, ha_x, R_x, hcs0_x⟩ := JV.at_m Rm hx_x
         obtain ⟨al_x, cl_x, am_x, cm_x, rfl, Rl_x, Rm_x⟩ := JV.cells_ R_x
         have hcs_x := hcs0_x.mod0 E
         have hcap_x := JV.cap_m Rm
         obtain rfl := ha_x
         obtain ⟨z, hx_z⟩ : ∃ x, y.map[j]? = some x := ⟨_, List.getElem?_eq_getElem (by omega)⟩
         obtain ⟨a_z, us_z, ha_z, R_z, hcs0_z⟩ := JV.at_m Rm2 hx_z
         obtain ⟨al_z, cl_z, am_z, cm_z, rfl, Rl_z, Rm_z⟩ := JV.cells_ R_z
         have hcs_z := hcs0_z.mod0 E
         have hcap_z := JV.cap_m Rm2
         obtain rfl := ha_z
         refine cK (e_K (hK21 _ _ _ _ (Cq fun K22 hK22 => cB (Cq fun K23 hK23 => Cr (tW 2 rfl (Ln (e_K (hK23 _ _ _ _ (Cq fun K24 hK24 => ?_)))))))))
         by_cases hs12_0 : x.1 ≠ z.1
         ·refine c_draw wide (by kernel_rfl) (tv (fun w_ E_ => (oA0 fd25_5 rfl)) rfl rfl (tv (fun w_ E_ => (oL sc23 rfl ((Bg1.mod0 E_).cell rfl))) rfl rfl (tv (fun w_ E_ => (oM rfl)) rfl rfl (tv (fun w_ E_ => (o_ix sl23 rfl rfl (by omega))) rfl rfl (tv (fun w_ E_ => (o_fad fd44_0 rfl)) rfl rfl (tv (fun w_ E_ => (oL sc9 rfl ((hcs_x.mod0 E_) 0 _ rfl))) rfl rfl (tv (fun w_ E_ => (oA0 fd25_5 rfl)) rfl rfl (tv (fun w_ E_ => (oL sc23 rfl ((Bg2.mod0 E_).cell rfl))) rfl rfl (tv (fun w_ E_ => (oM rfl)) rfl rfl (tv (fun w_ E_ => (o_ix sl23 rfl rfl (by omega))) rfl rfl (tv (fun w_ E_ => (o_fad fd44_0 rfl)) rfl rfl (tv (fun w_ E_ => (oL sc9 rfl ((hcs_z.mod0 E_) 0 _ rfl))) rfl rfl (tv (fun w_ E_ => (o_sne rfl rfl)) rfl rfl ?_)))))))))))))
          refine tv (fun w_ E_ => (oM rfl)) rfl rfl (Tx rfl (dT hs12_0) (Tx rfl (dT hs12_0) (Tx rfl (dT hs12_0) (Tx rfl (dT hs12_0) (Tx rfl (dT hs12_0) (Tx rfl (dT hs12_0) (Tx rfl (dT hs12_0) (Tx rfl (dT hs12_0) (Tx rfl (dT hs12_0) (Tx rfl (dT hs12_0) (Tx rfl (dT hs12_0) (Tx rfl (dT hs12_0) (Tx rfl (dT hs12_0) ?_)))))))))))))
          refine Tx rfl (dT hs12_0) (tv (fun w_ E_ => (oT (dT hs12_0) rfl rfl)) rfl rfl (tw_nil rfl fun w6 E_ => ?_))
          replace Bg1 := Bg1.mod0 E_
          replace Bg2 := Bg2.mod0 E_
          replace E := E.then E_
          refine e_K (hK24 _ _ _ _ (c_true rfl ?_))
          have hz3 : JV.eqJ v y = false := JV.eqJ_ne fun e => by
           subst e
           rw [hx_x] at hx_z
           injection hx_z with e
           subst e
           exact hs12_0 rfl
          exact Cq fun K25 hK25 => Cr (Za rfl (Ln (e_K (hK25 _ _ _ _ (cR (eI (by simp) (eT (by simp) (eT (by simp) (eI (by simp) (eT (by simp) (ret1 rfl rfl ⟨by rw [hz3], E⟩)))))))))))
         ·refine c_draw wide (by kernel_rfl) (tv (fun w_ E_ => (oA0 fd25_5 rfl)) rfl rfl (tv (fun w_ E_ => (oL sc23 rfl ((Bg1.mod0 E_).cell rfl))) rfl rfl (tv (fun w_ E_ => (oM rfl)) rfl rfl (tv (fun w_ E_ => (o_ix sl23 rfl rfl (by omega))) rfl rfl (tv (fun w_ E_ => (o_fad fd44_0 rfl)) rfl rfl (tv (fun w_ E_ => (oL sc9 rfl ((hcs_x.mod0 E_) 0 _ rfl))) rfl rfl (tv (fun w_ E_ => (oA0 fd25_5 rfl)) rfl rfl (tv (fun w_ E_ => (oL sc23 rfl ((Bg2.mod0 E_).cell rfl))) rfl rfl (tv (fun w_ E_ => (oM rfl)) rfl rfl (tv (fun w_ E_ => (o_ix sl23 rfl rfl (by omega))) rfl rfl (tv (fun w_ E_ => (o_fad fd44_0 rfl)) rfl rfl (tv (fun w_ E_ => (oL sc9 rfl ((hcs_z.mod0 E_) 0 _ rfl))) rfl rfl (tv (fun w_ E_ => (o_sne rfl rfl)) rfl rfl ?_)))))))))))))
          refine tv (fun w_ E_ => (oM rfl)) rfl rfl (tvg rfl (dF hs12_0) (fun w_ E_ => (oA0 fd25_5 rfl)) rfl rfl (tvg rfl (dF hs12_0) (fun w_ E_ => (oL sc23 rfl ((Bg1.mod0 E_).cell rfl))) rfl rfl (tvg rfl (dF hs12_0) (fun w_ E_ => (oM rfl)) rfl rfl (tvg rfl (dF hs12_0) (fun w_ E_ => (o_ix sl23 rfl rfl (by omega))) rfl rfl (tvg rfl (dF hs12_0) (fun w_ E_ => (o_fad fd44_1 rfl)) rfl rfl (tvg rfl (dF hs12_0) (fun w_ E_ => (o_lda ag25 rfl rfl (hcs_x.mod0 E_).tail_)) rfl rfl (tvg rfl (dF hs12_0) (fun w_ E_ => (oA0 fd25_5 rfl)) rfl rfl (tvg rfl (dF hs12_0) (fun w_ E_ => (oL sc23 rfl ((Bg2.mod0 E_).cell rfl))) rfl rfl (tvg rfl (dF hs12_0) (fun w_ E_ => (oM rfl)) rfl rfl (tvg rfl (dF hs12_0) (fun w_ E_ => (o_ix sl23 rfl rfl (by omega))) rfl rfl (tvg rfl (dF hs12_0) (fun w_ E_ => (o_fad fd44_1 rfl)) rfl rfl (tvg rfl (dF hs12_0) (fun w_ E_ => (o_lda ag25 rfl rfl (hcs_z.mod0 E_).tail_)) rfl rfl (tcg rfl (dF hs12_0) (fun w_ E_ => oC ent16 rfl) (fun w_ E_ => ih _ x.2 z.2 _ _ (by have := JV.sz_in_map (List.mem_of_getElem? hx_x); omega) (R_x.to0 (E.then E_)) (R_z.to0 (E.then E_))) rfl rfl ?_)))))))))))))
          refine tvg rfl (dF hs12_0) (fun w_ E_ => (o_not rfl)) rfl rfl (tv (fun w_ E_ => (oF (dF hs12_0) rfl rfl)) rfl rfl (tw_nil rfl fun w7 E_ => ?_))
          replace Bg1 := Bg1.mod0 E_
          replace Bg2 := Bg2.mod0 E_
          replace E := E.then E_
          refine e_K (hK24 _ _ _ _ ?_)
          refine c_cond rfl (fun h104 => ?_) (fun h104 => ?_)
          ·have hz3 : JV.eqJ v y = false := JV.eqJ_ne fun e => by
            subst e
            rw [hx_x] at hx_z
            injection hx_z with e
            subst e
            rw [JV.eqJ_self] at h104
            cases h104
           exact Cq fun K26 hK26 => Cr (Za rfl (Ln (e_K (hK26 _ _ _ _ (cR (eI (by simp) (eT (by simp) (eT (by simp) (eI (by simp) (eT (by simp) (ret1 rfl rfl ⟨by rw [hz3], E⟩)))))))))))
          ·have hB2 : ∀ (i : Nat) (a b : List UInt8 × JV), i < j + 1 → v.map[i]? = some a → y.map[i]? = some b → a = b := fun i a b hi ha hb => by
            rcases Nat.lt_succ_iff_lt_or_eq.1 hi with h | h
            ·exact hB i a b h ha hb
            ·subst h
             rw [hx_x] at ha
             rw [hx_z] at hb
             injection ha with ha
             injection hb with hb
             subst ha; subst hb
             exact Prod.ext (Classical.byContradiction hs12_0) (JV.eqJ_iff.1 (by simpa using h104))
           exact cK (eI (by simp) (e_K (hK22 _ _ _ _ (Cr (Sv (o_addN rfl rfl (by omega)) (Zm rfl (Ln (eR (σ := Nat) (s := j) (j + 1) ⟨rfl, rfl, rfl, rfl, trivial⟩ ⟨by omega, hB2, Bg1, Bg2, E⟩ (by omega)))))))))
        ·exact c_exit (eT (by simp) (eT (by simp) (e_hit (e_K (hK18 _ _ _ _ (Cq fun K27 hK27 => Cr (Za rfl (Ln (e_K (hK27 _ _ _ _ (cR (ret1 rfl rfl ⟨by rw [JV.eqJ_iff.2 (JV.ext_ (Classical.byContradiction hs1_0) (by simpa using hs1_1) (Classical.byContradiction hs1_2) (Classical.byContradiction hs1_3) (JV.list_ext_ (by omega) fun i a b hi ha hb => hA i a b (by omega) ha hb) (JV.list_ext_ (by omega) fun i a b hi ha hb => hB i a b (by omega) ha hb))], E⟩))))))))))))

theorem c_same_all : ∀ N : Nat, ∀ (w : World) (v y : JV) (us vs : List Value), v.sz ≤ N → Reps [] w v.D us → Reps [] w y.D vs → Calls Tryz.prog 16 [.agg us.toArray, .agg vs.toArray].toArray w (Ret fun u w' => u = .bool (JV.eqJ v y) ∧ Mod [] w w')
 | 0, w, v, y, us, vs, h, R, R2 => absurd (JV.sz_eq v) (by omega)
 | N + 1, w, v, y, us, vs, h, R, R2 => c_same_step N (c_same_all N) w v y us vs h R R2
theorem c_same (w : World) (v y : JV) (us vs : List Value) (R : Reps [] w v.D us) (R2 : Reps [] w y.D vs) : Calls Tryz.prog 16 [.agg us.toArray, .agg vs.toArray].toArray w (Ret fun u w' => u = .bool (JV.eqJ v y) ∧ Mod [] w w') := c_same_all v.sz w v y us vs (Nat.le_refl _) R R2
end Go.Proofs.YtknndpjacklkeaaGreatDoor.V

set_option linter.unusedVariables false
set_option linter.unusedSimpArgs false
set_option maxRecDepth 10000
namespace Go.Proofs.YtknndpjacklkeaaGreatDoor.V
open Go Go.Proofs
theorem ag44 : agB Tryz.prog 44 7 = true := by kernel_rfl
theorem pl44 : plB Tryz.prog 44 [(0, 1), (1, 6)] = true := by kernel_rfl
theorem zv44 : zvB Tryz.prog 44 ([S [], .int .i64 0, .bool false, .int .i64 0, S [], .slice none 0 0, .slice none 0 0]) := by unfold zvB; kernel_rfl
end Go.Proofs.YtknndpjacklkeaaGreatDoor.V

set_option linter.unusedVariables false
set_option linter.unusedSimpArgs false
set_option maxRecDepth 10000
namespace Go.Proofs.YtknndpjacklkeaaGreatDoor.V
open Go Go.Proofs
theorem zv25 : zvB Tryz.prog 25 ([.int .i64 0, .bool false, .int .i64 0, S [], .slice none 0 0, .slice none 0 0]) := by unfold zvB; kernel_rfl
theorem pl25 : plB Tryz.prog 25 [(0, 1), (1, 1), (2, 1), (3, 1), (4, 1), (5, 1)] = true := by kernel_rfl
theorem c_jfindR (A : List Nat) (w0 w : World) (E0 : Mod [] w0 w) (m : List (Str × JV)) (v : Value) (R : Rep A w0 (.sl 7 (m.map JV.Dp)) v) (k : Str) : Calls Tryz.prog 77 [v, S k].toArray w (Ret fun u w' => ∃ us', u = .tuple #[.agg us'.toArray, .bool (look m k).isSome] ∧ Reps A w0 ((look m k).getD JV.nul).D us' ∧ Mod [] w w') := by
 refine enter Tryz.func77 rfl rfl rfl (l := [(0, _), (1, _)]) ⟨rfl, rfl, trivial⟩ ?_
 have E := Mod.refl [] w
 obtain ⟨ad, c, rfl, hc1, hc2⟩ : ∃ ad c, v = .slice ad m.length c ∧ m.length ≤ c ∧ c ≤ 9223372036854775807 := by
  obtain ⟨ad, c, h1, h2, h3⟩ := R.sl_
  rw [List.length_map] at h1 h2
  exact ⟨ad, c, h1, h2, h3⟩
 refine Cq fun K1 hK1 => Cr (s_alloc zv25 rfl fun g1 w1 N1 => ?_)
 have Lg1_E := N1.le E
 replace E := E.then N1.mod
 have Bg1 := N1.blk
 refine Za rfl (Ln (e_K (hK1 _ _ _ _ (Cq fun K2 hK2 => Cq fun K3 hK3 => Cr (Zm rfl (Sv (o_len Tryz.underlying23 rfl) (Zm rfl (Ln (e_K (hK3 _ _ _ _ (cB (c_loop (σ := Nat) (fun i => [(1, S k), (4, .pointer (some ⟨g1, 0, none⟩)), (5, .bool false), (8, .slice ad m.length c), (9, .int .i64 m.length), (10, .int .i64 (i : Int))]) (fun i w1 => i ≤ m.length ∧ (∀ (j : Nat) (y : Str × JV), j < i → m[j]? = some y → y.1 ≠ k) ∧ Blk w1 g1 25 [.int .i64 0, .bool false, .int .i64 0, S [], .slice none 0 0, .slice none 0 0] ∧ w.heap.size ≤ g1 ∧ Mod [] w w1) (fun i => m.length - i) (0) ⟨rfl, rfl, rfl, rfl, rfl, rfl, trivial⟩ (⟨by omega, fun j y h => by omega, Bg1, Lg1_E, E⟩) ?_))))))))))))
 rintro i w2 ⟨hi, hA, Bg1, Lg1_E, E⟩
 refine Cq fun K4 hK4 => Cr (Sv (o_lss rfl rfl) (Ln (e_K (hK4 _ _ _ _ (Cq fun K5 hK5 => ?_)))))
 refine c_if rfl (fun h11 => ?_) (fun h11 => ?_)
 ·obtain ⟨x, hx_x⟩ : ∃ x, m[i]? = some x := ⟨_, List.getElem?_eq_getElem (by omega)⟩
  obtain ⟨a_x, us_x, ha_x, R_x, hcs0_x⟩ := JV.at_m R hx_x
  obtain ⟨al_x, cl_x, am_x, cm_x, rfl, Rl_x, Rm_x⟩ := JV.cells_ R_x
  have hcs_x := hcs0_x.mod0 (E0.then E)
  have hcap_x := JV.cap_m R
  obtain rfl := ha_x
  refine cK (e_K (hK5 _ _ _ _ (Cq fun K6 hK6 => cB (Cq fun K7 hK7 => Cr (Sv (o_ix sl23 rfl rfl (by omega)) (Sv (o_lda ag44 rfl rfl hcs_x) (s_alloc zv44 rfl fun g2 w3 N2 => ?_)))))))
  have Lg2_E := N2.le E
  have Dg1_g2 := N2.ne Bg1
  replace Bg1 := Bg1.mod0 N2.mod
  replace E := E.then N2.mod
  have Bg2 := N2.blk
  refine s_sta (vs := [_, _, _, _, _, _, _]) ag44 Bg2 rfl rfl rfl (by simp [Value.oneCell']) (by simp) fun w4 P4 => ?_
  replace Bg1 := Bg1.ne P4.mod (Ne.symm (Ne.symm Dg1_g2))
  replace E := E.own P4.mod Lg2_E
  replace Bg2 : Blk w4 g2 _ [_, _, _, _, _, _, _] := P4.blk
  refine Ln (e_K (hK7 _ _ _ _ (Cq fun K8 hK8 => Cr (Sv (oA0 fd44_0 rfl) (Sv (oL sc9 rfl (Bg2.cell rfl)) (Zm rfl (Sv (o_seq rfl rfl) (Ln (e_K (hK8 _ _ _ _ ?_))))))))))
  refine c_if rfl (fun h17 => ?_) (fun h17 => ?_)
  ·have hlk : look m k = some x.2 := look_hit hA hx_x h17
   refine Cq fun K9 hK9 => Cr (Sv (oA0 fd44_1 rfl) (Sv (o_lda (vs := [_, _, _, _, _, _]) ag25 rfl rfl (Bg2.cs rfl)) (s_sta (vs := [_, _, _, _, _, _]) ag25 Bg1 rfl rfl rfl (by simp [Value.oneCell']) (by simp) fun w5 P5 => ?_)))
   replace Bg2 := Bg2.ne P5.mod (Ne.symm Dg1_g2)
   replace E := E.own P5.mod Lg1_E
   replace Bg1 : Blk w5 g1 _ [_, _, _, _, _, _] := P5.blk
   exact Za rfl (Ln (e_K (hK9 _ _ _ _ (cR (eI (by simp) (eT (by simp) (eT (by simp) (eI (by simp) (eT (by simp) (retct (vs := [_, _, _, _, _, _]) rfl ag25 rfl rfl (Bg1.cs rfl) rfl ⟨_, by rw [hlk]; rfl, by rw [hlk]; exact R_x, E⟩))))))))))
  ·have hA2 : ∀ (j : Nat) (y : Str × JV), j < i + 1 → m[j]? = some y → y.1 ≠ k := fun j y hj hy => by
    rcases Nat.lt_succ_iff_lt_or_eq.1 hj with h | h
    ·exact hA j y h hy
    ·subst h; rw [hx_x] at hy; injection hy with hy; subst hy; exact h17
   exact cK (eI (by simp) (e_K (hK6 _ _ _ _ (Cr (Sv (o_addN rfl rfl (by omega)) (Zm rfl (Ln (eR (σ := Nat) (s := i) (i + 1) ⟨rfl, rfl, rfl, rfl, rfl, rfl, trivial⟩ ⟨by omega, hA2, Bg1, Lg1_E, E⟩ (by omega)))))))))
 ·refine c_exit (eT (by simp) (eT (by simp) (e_hit (e_K (hK2 _ _ _ _ (Cq fun K10 hK10 => Cr (Sv (o_build (cs := [_, _, _, _, _, _]) pl25 zv25 rfl rfl) (s_sta (vs := [_, _, _, _, _, _]) ag25 Bg1 rfl rfl rfl (by simp [Value.oneCell']) (by simp) fun w6 P6 => ?_))))))))
  replace E := E.own P6.mod Lg1_E
  replace Bg1 : Blk w6 g1 _ [_, _, _, _, _, _] := P6.blk
  exact Za rfl (Ln (e_K (hK10 _ _ _ _ (cR (retct (vs := [_, _, _, _, _, _]) rfl ag25 rfl rfl (Bg1.cs rfl) rfl ⟨_, by rw [look_none_of fun j y hy => hA j y (by have := (List.getElem?_eq_some_iff.1 hy).1; omega) hy]; rfl, by rw [look_none_of fun j y hy => hA j y (by have := (List.getElem?_eq_some_iff.1 hy).1; omega) hy]; exact JV.nul_reps, E⟩)))))
end Go.Proofs.YtknndpjacklkeaaGreatDoor.V

set_option linter.unusedVariables false
set_option linter.unusedSimpArgs false
set_option maxRecDepth 10000
namespace Go.Proofs.YtknndpjacklkeaaGreatDoor.V
open Go Go.Proofs

theorem c_rune (w : World) (s : Str) : Calls Tryz.prog 147 [S s].toArray w (Ret fun u w' => u = .tuple #[.int .i64 ((runeR s).1 : Int), .int .i64 ((runeR s).2 : Int)] ∧ Mod [] w w') := by
 refine enter Tryz.func147 rfl rfl rfl (l := [(0, _)]) ⟨rfl, trivial⟩ ?_
 have E := Mod.refl [] w
 refine Cq fun K1 hK1 => Cr (tW 2 rfl (Ln (e_K (hK1 _ _ _ _ (Cq fun K2 hK2 => Cq fun K3 hK3 => Cr (Zm rfl (Sv (o_seq rfl rfl) (Ln (e_K (hK3 _ _ _ _ ?_))))))))))
 refine c_if rfl (fun h9 => ?_) (fun h9 => ?_)
 ·have hs0 : s = [] := h9
  subst hs0
  have hR : runeR [] = (0, 0) := rfl
  exact Cq fun K4 hK4 => Cr (tW 2 rfl (Ln (e_K (hK4 _ _ _ _ (cR (eT (by simp) (ret2 rfl rfl rfl ⟨by rw [hR]; try rfl, E⟩)))))))
 ·obtain ⟨b0, r, rfl⟩ : ∃ b0 r, s = b0 :: r := by
   cases s with
   | nil => exact absurd rfl h9
   | cons b0 r => exact ⟨b0, r, rfl⟩
  have hb0 := b0.toNat_lt
  have hlen : (b0 :: r).length = r.length + 1 := rfl
  refine cK (e_K (hK2 _ _ _ _ (Cq fun K5 hK5 => Cr (Zm rfl (s_sidx (m := 0) Tryz.underlying9 rfl rfl (by omega) (by simp) rfl fun b0_ hb0_ => ?_)))))
  obtain rfl : b0 = b0_ := by simpa using hb0_
  refine Sv (o_convE (r := (b0.toNat : Int)) Tryz.underlying5 Tryz.underlying3 rfl (wrap64_in _ (by omega))) (Za rfl (Ln (e_K (hK5 _ _ _ _ (Cq fun K6 hK6 => Cq fun K7 hK7 => Cr (tW 2 rfl (Ln (e_K (hK7 _ _ _ _ ?_)))))))))
  refine c_if rfl (fun h14 => ?_) (fun h14 => ?_)
  ·have hR := runeR_small (b0 := b0) (r := r) (by omega)
   exact Cq fun K8 hK8 => Cr (tW 3 rfl (Ln (e_K (hK8 _ _ _ _ (cR (eT (by simp) (ret2 rfl rfl rfl ⟨by rw [hR]; try rfl, E⟩)))))))
  ·have hge : ¬ b0.toNat < 128 := by omega
   refine cK (e_K (hK6 _ _ _ _ (Cq fun K9 hK9 => Cr (Za rfl (Ln (e_K (hK9 _ _ _ _ (Cq fun K10 hK10 => Cr (Za rfl (Ln (e_K (hK10 _ _ _ _ (Cq fun K11 hK11 => ?_)))))))))))))
   have J11 : ∀ (n l c : Nat) (w1 : World), runeH b0.toNat = (n, l, c) ∧ (n = 0 ∨ c < 32 ∧ 2 ≤ n ∧ n ≤ 4) ∧ Mod [] w w1 → ∀ a, Has 91 [] [(0, S (b0 :: r)), (4, .int .i64 (c : Int)), (5, .int .i64 (n : Int)), (6, .int .i64 (l : Int))] a → K11 a w1 := by
    intro n l c w1 hI
    obtain ⟨hH, hn, E⟩ := hI
    refine hK11 _ _ _ _ (Cq fun K12 hK12 => Cq fun K13 hK13 => Cr (tW 2 rfl ?_))
    refine bD (fun hs20_0 : (n : Int) = 0 => ?_) (fun hs20_0 => ?_)
    ·refine tW 6 rfl (Ln (e_K (hK13 _ _ _ _ (c_true rfl ?_))))
     have hR := runeR_short (r := r) hge hH (.inl (by omega))
     exact Cq fun K14 hK14 => Cr (tW 2 rfl (Ln (e_K (hK14 _ _ _ _ (cR (eT (by simp) (ret2 rfl rfl rfl ⟨by rw [hR]; try rfl, E⟩)))))))
    ·refine tW 2 rfl (Sg rfl rfl (o_slen Tryz.underlying9 rfl) (tW 2 rfl ?_))
     refine bD (fun hs20_1 : ((b0 :: r).length : Int) < n => ?_) (fun hs20_1 => ?_)
     ·refine Sv (oF rfl rfl rfl) (Ln (e_K (hK13 _ _ _ _ (c_true rfl ?_))))
      have hR := runeR_short (r := r) hge hH (.inr (by omega))
      exact Cq fun K15 hK15 => Cr (tW 2 rfl (Ln (e_K (hK15 _ _ _ _ (cR (eT (by simp) (ret2 rfl rfl rfl ⟨by rw [hR]; try rfl, E⟩)))))))
     ·refine Sv (oF rfl rfl rfl) (Ln (e_K (hK13 _ _ _ _ (c_false rfl ?_))))
      have hln : ¬ (n = 0 ∨ (b0 :: r).length < n) := by omega
      refine cK (e_K (hK12 _ _ _ _ (Cq fun K16 hK16 => Cq fun K17 hK17 => Cr (Za rfl (Ln (e_K (hK17 _ _ _ _ (cB (c_loop (σ := Nat × Nat) (fun ⟨i, d⟩ => [(0, S (b0 :: r)), (4, .int .i64 (d : Int)), (5, .int .i64 (n : Int)), (6, .int .i64 (l : Int)), (7, .int .i64 (i : Int))]) (fun ⟨i, d⟩ w1 => 1 ≤ i ∧ i ≤ n ∧ runeC ((r.take (n - 1)).drop (i - 1)) d = runeC (r.take (n - 1)) c ∧ ((i = 1 ∧ d < 64) ∨ (i = 2 ∧ d < 4096) ∨ (i = 3 ∧ d < 262144) ∨ (i = 4 ∧ d < 16777216)) ∧ Mod [] w w1) (fun ⟨i, d⟩ => n - i) (⟨1, c⟩) ⟨rfl, rfl, rfl, rfl, rfl, trivial⟩ (⟨by omega, by omega, rfl, by omega, E⟩) ?_)))))))))
      rintro ⟨i, d⟩ w2 ⟨hi1, hi, hC, hd, E⟩
      refine Cq fun K18 hK18 => Cq fun K19 hK19 => Cr (tW 3 rfl (Ln (e_K (hK19 _ _ _ _ ?_))))
      refine c_if rfl (fun h53 => ?_) (fun h53 => ?_)
      ·obtain ⟨b1, hb1⟩ : ∃ b1, (b0 :: r)[i]? = some b1 := ⟨_, List.getElem?_eq_getElem (by omega)⟩
       have hb1r : (r.take (n - 1))[i - 1]? = some b1 := by
        rw [List.getElem?_take, if_pos (by omega)]
        rw [← hb1]
        obtain ⟨j, rfl⟩ : ∃ j, i = j + 1 := ⟨i - 1, by omega⟩
        simp
       have hb1l := b1.toNat_lt
       refine cK (e_K (hK18 _ _ _ _ (Cq fun K20 hK20 => cB (Cq fun K21 hK21 => Cq fun K22 hK22 => Cr (tW 2 rfl (s_sidx (m := i) Tryz.underlying9 rfl rfl (by omega) (by simp; omega) rfl fun b1_ hb1_ => ?_))))))
       obtain rfl : b1 = b1_ := by rw [Int.toNat_natCast, hb1] at hb1_; injection hb1_
       refine Sv (o_lss rfl rfl) ?_
       refine bD (fun hs25_0 : (b1.toNat : Int) < 128 => ?_) (fun hs25_0 => ?_)
       ·refine tW 6 rfl (Ln (e_K (hK22 _ _ _ _ (c_true rfl ?_))))
        have hR := runeR_none hge hH hln (by rw [← hC]; exact runeC_no hb1r (.inl (by omega)))
        exact Cq fun K23 hK23 => Cr (tW 2 rfl (Ln (e_K (hK23 _ _ _ _ (cR (eT (by simp) (eI (by simp) (eT (by simp) (eT (by simp) (eI (by simp) (eT (by simp) (ret2 rfl rfl rfl ⟨by rw [hR]; try rfl, E⟩))))))))))))
       ·refine tW 3 rfl (Sg rfl rfl (o_sidx Tryz.underlying9 rfl rfl (by omega) (by rw [Int.toNat_natCast]; exact hb1)) (Sg rfl rfl (o_geq rfl rfl) ?_))
        refine bD (fun hs25_1 : (b1.toNat : Int) ≥ 192 => ?_) (fun hs25_1 => ?_)
        ·refine Sv (oF rfl rfl rfl) (Ln (e_K (hK22 _ _ _ _ (c_true rfl ?_))))
         have hR := runeR_none hge hH hln (by rw [← hC]; exact runeC_no hb1r (.inr (by omega)))
         exact Cq fun K24 hK24 => Cr (tW 2 rfl (Ln (e_K (hK24 _ _ _ _ (cR (eT (by simp) (eI (by simp) (eT (by simp) (eT (by simp) (eI (by simp) (eT (by simp) (ret2 rfl rfl rfl ⟨by rw [hR]; try rfl, E⟩))))))))))))
        ·refine Sv (oF rfl rfl rfl) (Ln (e_K (hK22 _ _ _ _ (c_false rfl ?_))))
         have hst := runeC_go (d := d) hb1r (by omega)
         rw [show i - 1 + 1 = i by omega] at hst
         refine cK (e_K (hK21 _ _ _ _ (Cr (Zm rfl (Sv (o_mulE (r := ((d * 64 : Nat) : Int)) rfl rfl (by rw [wrap64_in _ (by omega)]; omega)) (tW 2 rfl (Sv (o_sidx Tryz.underlying9 rfl rfl (by omega) (by rw [Int.toNat_natCast]; exact hb1)) (Sv (o_convE (r := (b1.toNat : Int)) Tryz.underlying5 Tryz.underlying3 rfl (wrap64_in _ (by omega))) (Sv ((o_remN rfl rfl (by omega)).to (v' := .int .i64 ((b1.toNat % 64 : Nat) : Int)) (by rw [Int.natCast_emod]; try rfl)) (Sv (o_addE (r := ((d * 64 + b1.toNat % 64 : Nat) : Int)) rfl rfl (by rw [wrap64_in _ (by omega)]; omega)) (Za rfl (Ln (eI (by simp) (e_K (hK20 _ _ _ _ ?_)))))))))))))))
         exact Cr (Zm rfl (Sv (o_addN rfl rfl (by omega)) (Za rfl (Ln (eR (σ := Nat × Nat) (s := ⟨i, d⟩) (⟨i + 1, d * 64 + b1.toNat % 64⟩) ⟨rfl, rfl, rfl, rfl, rfl, trivial⟩ ⟨by omega, by omega, by rw [show i + 1 - 1 = i by omega, ← hst]; exact hC, by omega, E⟩ (by dsimp only; omega))))))
      ·have hend : runeC (r.take (n - 1)) c = some d := by rw [← hC, List.drop_eq_nil_of_le (by rw [List.length_take]; omega)]; rfl
       refine c_exit (eT (by simp) (eT (by simp) (e_hit (e_K (hK16 _ _ _ _ (Cq fun K25 hK25 => Cq fun K26 hK26 => Cr (tW 3 rfl ?_)))))))
       refine bD (fun hs28_0 : (d : Int) < l => ?_) (fun hs28_0 => ?_)
       ·refine tW 12 rfl (Ln (e_K (hK26 _ _ _ _ (c_true rfl ?_))))
        have hR := runeR_bad hge hH hln hend (by omega)
        exact Cq fun K27 hK27 => Cr (tW 2 rfl (Ln (e_K (hK27 _ _ _ _ (cR (eT (by simp) (ret2 rfl rfl rfl ⟨by rw [hR]; try rfl, E⟩)))))))
       ·refine tW 3 rfl ?_
        refine bD (fun hs28_1 : (d : Int) > 1114111 => ?_) (fun hs28_1 => ?_)
        ·refine tW 9 rfl (Ln (e_K (hK26 _ _ _ _ (c_true rfl ?_))))
         have hR := runeR_bad hge hH hln hend (by omega)
         exact Cq fun K28 hK28 => Cr (tW 2 rfl (Ln (e_K (hK28 _ _ _ _ (cR (eT (by simp) (ret2 rfl rfl rfl ⟨by rw [hR]; try rfl, E⟩)))))))
        ·refine tW 3 rfl (Sg rfl rfl (o_geq rfl rfl) ?_)
         refine bD (fun hs28_2 : (d : Int) ≥ 55296 => ?_) (fun hs28_2 => ?_)
         ·refine tW 5 rfl (Ln (e_K (hK26 _ _ _ _ ?_)))
          refine c_if rfl (fun h88 => ?_) (fun h88 => ?_)
          ·have hR := runeR_bad hge hH hln hend (by omega)
           exact Cq fun K29 hK29 => Cr (tW 2 rfl (Ln (e_K (hK29 _ _ _ _ (cR (eT (by simp) (ret2 rfl rfl rfl ⟨by rw [hR]; try rfl, E⟩)))))))
          ·have hR := runeR_good hge hH hln hend (by omega)
           exact cK (e_K (hK25 _ _ _ _ (Cq fun K30 hK30 => Cr (tW 4 rfl (Ln (e_K (hK30 _ _ _ _ (cR (ret2 rfl rfl rfl ⟨by rw [hR]; try rfl, E⟩)))))))))
         ·refine tW 5 rfl (Ln (e_K (hK26 _ _ _ _ (c_false rfl ?_))))
          have hR := runeR_good hge hH hln hend (by omega)
          exact cK (e_K (hK25 _ _ _ _ (Cq fun K31 hK31 => Cr (tW 4 rfl (Ln (e_K (hK31 _ _ _ _ (cR (ret2 rfl rfl rfl ⟨by rw [hR]; try rfl, E⟩)))))))))
   refine cB (Cq fun K32 hK32 => Cr (Zm rfl (Sv (o_geq rfl rfl) ?_)))
   refine bD (fun hs8_0 : (b0.toNat : Int) ≥ 192 => ?_) (fun hs8_0 => ?_)
   ·refine tW 3 rfl ?_
    refine bD (fun hs8_1 : (b0.toNat : Int) < 224 => ?_) (fun hs8_1 => ?_)
    ·refine tW 2 rfl (Ln (e_K (hK32 _ _ _ _ (c_true rfl (Cq fun K33 hK33 => Cr (Za rfl (Ln (e_K (hK33 _ _ _ _ (Cq fun K34 hK34 => Cr (Za rfl (Ln (e_K (hK34 _ _ _ _ ?_))))))))))))))
     refine Cr (Zm rfl (Sv ((o_remN rfl rfl (by omega)).to (v' := .int .i64 ((b0.toNat % 32 : Nat) : Int)) (by rw [Int.natCast_emod]; try rfl)) (Za rfl (Ln (eI (by simp) ?_)))))
     refine WE.sub (l' := [(0, _), (4, _), (5, _), (6, _)]) ⟨rfl, rfl, rfl, rfl, trivial⟩ (e_K (J11 2 128 (b0.toNat % 32) w ⟨by unfold runeH; rw [if_pos (by omega)], by omega, E⟩))
    ·refine tW 2 rfl (Ln (e_K (hK32 _ _ _ _ (c_false rfl (Cq fun K35 hK35 => Cr (Zm rfl (Sv (o_geq rfl rfl) ?_)))))))
     refine bD (fun hs12_0 : (b0.toNat : Int) ≥ 224 => ?_) (fun hs12_0 => ?_)
     ·refine tW 3 rfl ?_
      refine bD (fun hs12_1 : (b0.toNat : Int) < 240 => ?_) (fun hs12_1 => ?_)
      ·refine tW 2 rfl (Ln (e_K (hK35 _ _ _ _ (c_true rfl (Cq fun K36 hK36 => Cr (Za rfl (Ln (e_K (hK36 _ _ _ _ (Cq fun K37 hK37 => Cr (Za rfl (Ln (e_K (hK37 _ _ _ _ ?_))))))))))))))
       refine Cr (Zm rfl (Sv ((o_remN rfl rfl (by omega)).to (v' := .int .i64 ((b0.toNat % 16 : Nat) : Int)) (by rw [Int.natCast_emod]; try rfl)) (Za rfl (Ln (eI (by simp) ?_)))))
       refine WE.sub (l' := [(0, _), (4, _), (5, _), (6, _)]) ⟨rfl, rfl, rfl, rfl, trivial⟩ (e_K (J11 3 2048 (b0.toNat % 16) w ⟨by unfold runeH; rw [if_neg (by omega), if_pos (by omega)], by omega, E⟩))
      ·refine tW 2 rfl (Ln (e_K (hK35 _ _ _ _ (c_false rfl (Cq fun K38 hK38 => Cr (Zm rfl (Sv (o_geq rfl rfl) ?_)))))))
       refine bD (fun hs16_0 : (b0.toNat : Int) ≥ 240 => ?_) (fun hs16_0 => ?_)
       ·refine tW 3 rfl ?_
        refine bD (fun hs16_1 : (b0.toNat : Int) < 248 => ?_) (fun hs16_1 => ?_)
        ·refine tW 2 rfl (Ln (e_K (hK38 _ _ _ _ (c_true rfl (Cq fun K39 hK39 => Cr (Za rfl (Ln (e_K (hK39 _ _ _ _ (Cq fun K40 hK40 => Cr (Za rfl (Ln (e_K (hK40 _ _ _ _ ?_))))))))))))))
         refine Cr (Zm rfl (Sv ((o_remN rfl rfl (by omega)).to (v' := .int .i64 ((b0.toNat % 8 : Nat) : Int)) (by rw [Int.natCast_emod]; try rfl)) (Za rfl (Ln (eI (by simp) ?_)))))
         refine WE.sub (l' := [(0, _), (4, _), (5, _), (6, _)]) ⟨rfl, rfl, rfl, rfl, trivial⟩ (e_K (J11 4 65536 (b0.toNat % 8) w ⟨by unfold runeH; rw [if_neg (by omega), if_neg (by omega), if_pos (by omega)], by omega, E⟩))
        ·refine tW 2 rfl (Ln (e_K (hK38 _ _ _ _ (c_false rfl (cK (eI (by simp) ?_))))))
         refine WE.sub (l' := [(0, _), (4, _), (5, _), (6, _)]) ⟨rfl, rfl, rfl, rfl, trivial⟩ (e_K (J11 0 0 b0.toNat w ⟨by unfold runeH; rw [if_neg (by omega), if_neg (by omega), if_neg (by omega)], by omega, E⟩))
       ·refine tW 5 rfl (Ln (e_K (hK38 _ _ _ _ (c_false rfl (cK (eI (by simp) ?_))))))
        refine WE.sub (l' := [(0, _), (4, _), (5, _), (6, _)]) ⟨rfl, rfl, rfl, rfl, trivial⟩ (e_K (J11 0 0 b0.toNat w ⟨by unfold runeH; rw [if_neg (by omega), if_neg (by omega), if_neg (by omega)], by omega, E⟩))
     ·refine tW 5 rfl (Ln (e_K (hK35 _ _ _ _ (c_false rfl (Cq fun K41 hK41 => Cr (Zm rfl (Sv (o_geq rfl rfl) ?_)))))))
      refine bD (fun hs16_0 : (b0.toNat : Int) ≥ 240 => ?_) (fun hs16_0 => ?_)
      ·refine tW 3 rfl ?_
       refine bD (fun hs16_1 : (b0.toNat : Int) < 248 => ?_) (fun hs16_1 => ?_)
       ·refine tW 2 rfl (Ln (e_K (hK41 _ _ _ _ (c_true rfl (Cq fun K42 hK42 => Cr (Za rfl (Ln (e_K (hK42 _ _ _ _ (Cq fun K43 hK43 => Cr (Za rfl (Ln (e_K (hK43 _ _ _ _ ?_))))))))))))))
        refine Cr (Zm rfl (Sv ((o_remN rfl rfl (by omega)).to (v' := .int .i64 ((b0.toNat % 8 : Nat) : Int)) (by rw [Int.natCast_emod]; try rfl)) (Za rfl (Ln (eI (by simp) ?_)))))
        refine WE.sub (l' := [(0, _), (4, _), (5, _), (6, _)]) ⟨rfl, rfl, rfl, rfl, trivial⟩ (e_K (J11 4 65536 (b0.toNat % 8) w ⟨by unfold runeH; rw [if_neg (by omega), if_neg (by omega), if_pos (by omega)], by omega, E⟩))
       ·refine tW 2 rfl (Ln (e_K (hK41 _ _ _ _ (c_false rfl (cK (eI (by simp) ?_))))))
        refine WE.sub (l' := [(0, _), (4, _), (5, _), (6, _)]) ⟨rfl, rfl, rfl, rfl, trivial⟩ (e_K (J11 0 0 b0.toNat w ⟨by unfold runeH; rw [if_neg (by omega), if_neg (by omega), if_neg (by omega)], by omega, E⟩))
      ·refine tW 5 rfl (Ln (e_K (hK41 _ _ _ _ (c_false rfl (cK (eI (by simp) ?_))))))
       refine WE.sub (l' := [(0, _), (4, _), (5, _), (6, _)]) ⟨rfl, rfl, rfl, rfl, trivial⟩ (e_K (J11 0 0 b0.toNat w ⟨by unfold runeH; rw [if_neg (by omega), if_neg (by omega), if_neg (by omega)], by omega, E⟩))
   ·refine tW 5 rfl (Ln (e_K (hK32 _ _ _ _ (c_false rfl (Cq fun K44 hK44 => Cr (Zm rfl (Sv (o_geq rfl rfl) ?_)))))))
    refine bD (fun hs12_0 : (b0.toNat : Int) ≥ 224 => ?_) (fun hs12_0 => ?_)
    ·refine tW 3 rfl ?_
     refine bD (fun hs12_1 : (b0.toNat : Int) < 240 => ?_) (fun hs12_1 => ?_)
     ·refine tW 2 rfl (Ln (e_K (hK44 _ _ _ _ (c_true rfl (Cq fun K45 hK45 => Cr (Za rfl (Ln (e_K (hK45 _ _ _ _ (Cq fun K46 hK46 => Cr (Za rfl (Ln (e_K (hK46 _ _ _ _ ?_))))))))))))))
      refine Cr (Zm rfl (Sv ((o_remN rfl rfl (by omega)).to (v' := .int .i64 ((b0.toNat % 16 : Nat) : Int)) (by rw [Int.natCast_emod]; try rfl)) (Za rfl (Ln (eI (by simp) ?_)))))
      refine WE.sub (l' := [(0, _), (4, _), (5, _), (6, _)]) ⟨rfl, rfl, rfl, rfl, trivial⟩ (e_K (J11 3 2048 (b0.toNat % 16) w ⟨by unfold runeH; rw [if_neg (by omega), if_pos (by omega)], by omega, E⟩))
     ·refine tW 2 rfl (Ln (e_K (hK44 _ _ _ _ (c_false rfl (Cq fun K47 hK47 => Cr (Zm rfl (Sv (o_geq rfl rfl) ?_)))))))
      refine bD (fun hs16_0 : (b0.toNat : Int) ≥ 240 => ?_) (fun hs16_0 => ?_)
      ·refine tW 3 rfl ?_
       refine bD (fun hs16_1 : (b0.toNat : Int) < 248 => ?_) (fun hs16_1 => ?_)
       ·refine tW 2 rfl (Ln (e_K (hK47 _ _ _ _ (c_true rfl (Cq fun K48 hK48 => Cr (Za rfl (Ln (e_K (hK48 _ _ _ _ (Cq fun K49 hK49 => Cr (Za rfl (Ln (e_K (hK49 _ _ _ _ ?_))))))))))))))
        refine Cr (Zm rfl (Sv ((o_remN rfl rfl (by omega)).to (v' := .int .i64 ((b0.toNat % 8 : Nat) : Int)) (by rw [Int.natCast_emod]; try rfl)) (Za rfl (Ln (eI (by simp) ?_)))))
        refine WE.sub (l' := [(0, _), (4, _), (5, _), (6, _)]) ⟨rfl, rfl, rfl, rfl, trivial⟩ (e_K (J11 4 65536 (b0.toNat % 8) w ⟨by unfold runeH; rw [if_neg (by omega), if_neg (by omega), if_pos (by omega)], by omega, E⟩))
       ·refine tW 2 rfl (Ln (e_K (hK47 _ _ _ _ (c_false rfl (cK (eI (by simp) ?_))))))
        refine WE.sub (l' := [(0, _), (4, _), (5, _), (6, _)]) ⟨rfl, rfl, rfl, rfl, trivial⟩ (e_K (J11 0 0 b0.toNat w ⟨by unfold runeH; rw [if_neg (by omega), if_neg (by omega), if_neg (by omega)], by omega, E⟩))
      ·refine tW 5 rfl (Ln (e_K (hK47 _ _ _ _ (c_false rfl (cK (eI (by simp) ?_))))))
       refine WE.sub (l' := [(0, _), (4, _), (5, _), (6, _)]) ⟨rfl, rfl, rfl, rfl, trivial⟩ (e_K (J11 0 0 b0.toNat w ⟨by unfold runeH; rw [if_neg (by omega), if_neg (by omega), if_neg (by omega)], by omega, E⟩))
    ·refine tW 5 rfl (Ln (e_K (hK44 _ _ _ _ (c_false rfl (Cq fun K50 hK50 => Cr (Zm rfl (Sv (o_geq rfl rfl) ?_)))))))
     refine bD (fun hs16_0 : (b0.toNat : Int) ≥ 240 => ?_) (fun hs16_0 => ?_)
     ·refine tW 3 rfl ?_
      refine bD (fun hs16_1 : (b0.toNat : Int) < 248 => ?_) (fun hs16_1 => ?_)
      ·refine tW 2 rfl (Ln (e_K (hK50 _ _ _ _ (c_true rfl (Cq fun K51 hK51 => Cr (Za rfl (Ln (e_K (hK51 _ _ _ _ (Cq fun K52 hK52 => Cr (Za rfl (Ln (e_K (hK52 _ _ _ _ ?_))))))))))))))
       refine Cr (Zm rfl (Sv ((o_remN rfl rfl (by omega)).to (v' := .int .i64 ((b0.toNat % 8 : Nat) : Int)) (by rw [Int.natCast_emod]; try rfl)) (Za rfl (Ln (eI (by simp) ?_)))))
       refine WE.sub (l' := [(0, _), (4, _), (5, _), (6, _)]) ⟨rfl, rfl, rfl, rfl, trivial⟩ (e_K (J11 4 65536 (b0.toNat % 8) w ⟨by unfold runeH; rw [if_neg (by omega), if_neg (by omega), if_pos (by omega)], by omega, E⟩))
      ·refine tW 2 rfl (Ln (e_K (hK50 _ _ _ _ (c_false rfl (cK (eI (by simp) ?_))))))
       refine WE.sub (l' := [(0, _), (4, _), (5, _), (6, _)]) ⟨rfl, rfl, rfl, rfl, trivial⟩ (e_K (J11 0 0 b0.toNat w ⟨by unfold runeH; rw [if_neg (by omega), if_neg (by omega), if_neg (by omega)], by omega, E⟩))
     ·refine tW 5 rfl (Ln (e_K (hK50 _ _ _ _ (c_false rfl (cK (eI (by simp) ?_))))))
      refine WE.sub (l' := [(0, _), (4, _), (5, _), (6, _)]) ⟨rfl, rfl, rfl, rfl, trivial⟩ (e_K (J11 0 0 b0.toNat w ⟨by unfold runeH; rw [if_neg (by omega), if_neg (by omega), if_neg (by omega)], by omega, E⟩))
end Go.Proofs.YtknndpjacklkeaaGreatDoor.V

set_option linter.unusedVariables false
set_option linter.unusedSimpArgs false
set_option maxRecDepth 10000
namespace Go.Proofs.YtknndpjacklkeaaGreatDoor.V
open Go Go.Proofs
theorem ent147 : Ent Tryz.prog 147 := Ent.of Tryz.func147 (by kernel_rfl) (by kernel_rfl)
end Go.Proofs.YtknndpjacklkeaaGreatDoor.V

set_option linter.unusedVariables false
set_option linter.unusedSimpArgs false
set_option maxRecDepth 10000
namespace Go.Proofs.YtknndpjacklkeaaGreatDoor.V
open Go Go.Proofs
theorem sl74 : slB Tryz.prog 74 5 1 1 = true := by kernel_rfl
theorem zv5 : zvB Tryz.prog 5 ([.int .u8 0]) := by unfold zvB; kernel_rfl
end Go.Proofs.YtknndpjacklkeaaGreatDoor.V

set_option linter.unusedVariables false
set_option linter.unusedSimpArgs false
set_option maxRecDepth 10000
namespace Go.Proofs.YtknndpjacklkeaaGreatDoor.V
open Go Go.Proofs
end Go.Proofs.YtknndpjacklkeaaGreatDoor.V

namespace Go.Proofs
open Go.Shelf
def Tryz.laysM171_ren : Go.Shelf.Ren := ⟨fun | 171 => 109 | 243 => 153 | 246 => 187 | 283 => 221 | 284 => 222 | 285 => 223 | 286 => 224 | 129 => 215 | 317 => 244 | 318 => 245 | 319 => 246 | 320 => 247 | 337 => 256 | 338 => 257 | n => n, fun | 3 => 3 | 9 => 9 | 2 => 2 | 4 => 4 | 171 => 225 | 0 => 0 | 53 => 182 | 37 => 74 | 5 => 5 | 173 => 227 | 212 => 245 | 51 => 147 | 20 => 20 | 213 => 246 | 46 => 144 | 232 => 103 | 233 => 265 | n => n, fun | 17 => 4 | 18 => 7 | 19 => 8 | n => n⟩
theorem Tryz.laysM171 : Go.Proofs.LaysM.n171 Tryz.prog Tryz.laysM171_ren := {
 mixed := by kernel_rfl
 f129 := Tryz.func215.trans (congrArg some (by kernel_rfl))
 f171 := Tryz.func109.trans (congrArg some (by kernel_rfl))
 f243 := Tryz.func153.trans (congrArg some (by kernel_rfl))
 f246 := Tryz.func187.trans (congrArg some (by kernel_rfl))
 f283 := Tryz.func221.trans (congrArg some (by kernel_rfl))
 f284 := Tryz.func222.trans (congrArg some (by kernel_rfl))
 f285 := Tryz.func223.trans (congrArg some (by kernel_rfl))
 f286 := Tryz.func224.trans (congrArg some (by kernel_rfl))
 f317 := Tryz.func244.trans (congrArg some (by kernel_rfl))
 f318 := Tryz.func245.trans (congrArg some (by kernel_rfl))
 f319 := Tryz.func246.trans (congrArg some (by kernel_rfl))
 f320 := Tryz.func247.trans (congrArg some (by kernel_rfl))
 f337 := Tryz.func256.trans (congrArg some (by kernel_rfl))
 f338 := Tryz.func257.trans (congrArg some (by kernel_rfl))
 t0 := Tryz.underlying0
 a0 := Tryz.isAgg0
 z0 := Tryz.sizeOf0
 v0 := Tryz.zeroValue0
 t2 := Tryz.underlying2
 a2 := Tryz.isAgg2
 z2 := Tryz.sizeOf2
 v2 := Tryz.zeroValue2
 t3 := Tryz.underlying3
 a3 := Tryz.isAgg3
 z3 := Tryz.sizeOf3
 v3 := Tryz.zeroValue3
 t4 := Tryz.underlying4
 a4 := Tryz.isAgg4
 z4 := Tryz.sizeOf4
 v4 := Tryz.zeroValue4
 t5 := Tryz.underlying5
 a5 := Tryz.isAgg5
 z5 := Tryz.sizeOf5
 v5 := Tryz.zeroValue5
 t9 := Tryz.underlying9
 a9 := Tryz.isAgg9
 z9 := Tryz.sizeOf9
 v9 := Tryz.zeroValue9
 t20 := Tryz.underlying20
 a20 := Tryz.isAgg20
 z20 := Tryz.sizeOf20
 v20 := Tryz.zeroValue20
 t37 := Tryz.underlying74
 a37 := Tryz.isAgg74
 z37 := Tryz.sizeOf74
 v37 := Tryz.zeroValue74
 t46 := Tryz.underlying144
 a46 := Tryz.isAgg144
 z46 := Tryz.sizeOf144
 v46 := Tryz.zeroValue144
 t51 := Tryz.underlying147
 a51 := Tryz.isAgg147
 z51 := Tryz.sizeOf147
 v51 := Tryz.zeroValue147
 t53 := Tryz.underlying182
 a53 := Tryz.isAgg182
 z53 := Tryz.sizeOf182
 v53 := Tryz.zeroValue182
 t171 := Tryz.underlying225
 a171 := Tryz.isAgg225
 z171 := Tryz.sizeOf225
 v171 := Tryz.zeroValue225
 t173 := Tryz.underlying227
 a173 := Tryz.isAgg227
 z173 := Tryz.sizeOf227
 v173 := Tryz.zeroValue227
 t212 := Tryz.underlying245
 a212 := Tryz.isAgg245
 z212 := Tryz.sizeOf245
 v212 := Tryz.zeroValue245
 t213 := Tryz.underlying246
 a213 := Tryz.isAgg246
 z213 := Tryz.sizeOf246
 t232 := Tryz.underlying103
 a232 := Tryz.isAgg103
 z232 := Tryz.sizeOf103
 v232 := Tryz.zeroValue103
 t233 := Tryz.underlying265
 a233 := Tryz.isAgg265
 z233 := Tryz.sizeOf265
 v233 := Tryz.zeroValue265
 g17 := by kernel_rfl
 g18 := by kernel_rfl
 g19 := by kernel_rfl
 i0 := by kernel_rfl
 i2 := by kernel_rfl
 i3 := by kernel_rfl
 i4 := by kernel_rfl
 i5 := by kernel_rfl
 i9 := by kernel_rfl
 i20 := by kernel_rfl
 i37 := by kernel_rfl
 i46 := by kernel_rfl
 i51 := by kernel_rfl
 i53 := by kernel_rfl
 i171 := by kernel_rfl
 i173 := by kernel_rfl
 i212 := by kernel_rfl
 i232 := by kernel_rfl
 i233 := by kernel_rfl
 m17 := by kernel_rfl
 m18 := by kernel_rfl
 m19 := by kernel_rfl }
open Go.RowKit Go.Sort Go.Lib in
theorem Tryz.strconv_Itoa (n : Int) (h0 : -9223372036854775808 ≤ n) (h1 : n ≤ 9223372036854775807) (w : World) (htab : Lib.TabIs Tryz.prog w "internal/strconv.uint64pow10" .u64 Lib.pow10Tab) :
  Calls Tryz.prog 109 #[.int .i64 n] w fun e w' => e = .returned (.string ⟨(Lib.itoa n).toArray⟩) ∧ ∃ k os, w' = grow (w.drewN k) os := Any.strconv_Itoa Tryz.laysM171 n h0 h1 w htab
end Go.Proofs

namespace Go.Proofs.YtknndpjacklkeaaGreatDoor.V
open Go Go.Proofs
abbrev Tab (w : World) : Prop := Lib.TabIs Tryz.prog w "internal/strconv.uint64pow10" .u64 Lib.pow10Tab
abbrev gT : Nat := 4
theorem gPow : Tryz.prog.globalNamed "internal/strconv.uint64pow10" = some gT := by kernel_rfl
theorem Tab.mod {M : List Nat} {w w' : World} (h : Tab w) (k : Mod M w w') (hM : gT ∉ M) : Tab w' := by
 unfold Tab Lib.TabIs World.var? at h ⊢
 simp only [gPow, Option.bind_some] at h ⊢
 have hlt : gT < w.heap.size := by
  rcases Nat.lt_or_ge gT w.heap.size with hl | hl
  ·exact hl
  ·rw [Array.getElem?_eq_none hl] at h
   cases h
 rw [k.block gT hlt hM]
 exact h
theorem Tab.lt {w : World} (h : Tab w) : gT < w.heap.size := by
 unfold Tab Lib.TabIs World.var? at h
 simp only [gPow, Option.bind_some] at h
 rcases Nat.lt_or_ge gT w.heap.size with hl | hl
 ·exact hl
 ·rw [Array.getElem?_eq_none hl] at h
  cases h
theorem mod_grow (w : World) (k : Nat) (os : Array Obj) : Mod [] w (Sort.grow (w.drewN k) os) := by
 have h := Lib.below_grow w.heap.size w (Nat.le_refl _) k os
 exact ⟨h.os, h.tape, h.output, h.size, fun i hi _ => h.block i hi⟩
theorem c_itoa (w : World) (n : Int) (h0 : -9223372036854775808 ≤ n) (h1 : n ≤ 9223372036854775807) (hT : Tab w) : Calls Tryz.prog 109 [.int .i64 n].toArray w (Ret fun u w' => u = S (Lib.itoa n) ∧ Mod [] w w') :=
 (Tryz.strconv_Itoa n h0 h1 w hT).mono fun e w' he => by
  obtain ⟨rfl, k, os, rfl⟩ := he
  exact ⟨rfl, mod_grow w k os⟩
end Go.Proofs.YtknndpjacklkeaaGreatDoor.V

set_option linter.unusedVariables false
set_option linter.unusedSimpArgs false
set_option maxRecDepth 10000
namespace Go.Proofs.YtknndpjacklkeaaGreatDoor.V
open Go Go.Proofs
theorem ent109 : Ent Tryz.prog 109 := Ent.of Tryz.func109 (by kernel_rfl) (by kernel_rfl)
end Go.Proofs.YtknndpjacklkeaaGreatDoor.V

set_option linter.unusedVariables false
set_option linter.unusedSimpArgs false
namespace Go.Proofs.YtknndpjacklkeaaGreatDoor.V
open Go
structure Sig3 where
 srv : Str
 key : Str
 sig : Str
abbrev Sig3.cells (s : Sig3) : List Value := [S s.srv, S s.key, S s.sig]
structure EV where
 room : Str
 snd : Str
 ty : Str
 st : Bool
 key : Str
 con : JV
 prev : List Str
 auth : List Str
 dep : Int
 time : Int
 hash : Str
 sigs : List Sig3
namespace EV
def D (e : EV) : List Go.Proofs.YtknndpjacklkeaaGreatDoor.V.D := [.v (S e.room), .v (S e.snd), .v (S e.ty), .v (.bool e.st), .v (S e.key)] ++ (e.con.D ++ [strD e.prev, strD e.auth, .v (.int .i64 e.dep), .v (.int .i64 e.time), .v (S e.hash), flat 3 Sig3.cells e.sigs])
theorem D_len (e : EV) : e.D.length = 17 := by simp [D, JV.D_len]
theorem cells_ {A : List Nat} {w : World} {e : EV} {us : List Value} (R : Reps A w e.D us) : ∃ cs ap cp aa ca aS cS, us = [S e.room, S e.snd, S e.ty, .bool e.st, S e.key] ++ (cs ++ [.slice ap e.prev.length cp, .slice aa e.auth.length ca, .int .i64 e.dep, .int .i64 e.time, S e.hash, .slice aS e.sigs.length cS]) ∧
  Reps A w e.con.D cs ∧ Rep A w (strD e.prev) (.slice ap e.prev.length cp) ∧ Rep A w (strD e.auth) (.slice aa e.auth.length ca) ∧ Rep A w (flat 3 Sig3.cells e.sigs) (.slice aS e.sigs.length cS) := by
 unfold D at R
 obtain ⟨h1, h2⟩ := R.cut
 simp only [List.length_cons, List.length_nil] at h1 h2
 obtain ⟨h3, h4⟩ := h2.cut
 have hus : us = us.take (0 + 1 + 1 + 1 + 1 + 1) ++ ((us.drop (0 + 1 + 1 + 1 + 1 + 1)).take e.con.D.length ++ (us.drop (0 + 1 + 1 + 1 + 1 + 1)).drop e.con.D.length) := by rw [List.take_append_drop, List.take_append_drop]
 obtain ⟨_, _, e1, g1, h1⟩ := h1
 obtain ⟨_, _, rfl, g2, h1⟩ := h1
 obtain ⟨_, _, rfl, g3, h1⟩ := h1
 obtain ⟨_, _, rfl, g4, h1⟩ := h1
 obtain ⟨_, _, rfl, g5, h1⟩ := h1
 obtain rfl := h1
 obtain ⟨_, _, e2, k1, h4⟩ := h4
 obtain ⟨_, _, rfl, k2, h4⟩ := h4
 obtain ⟨_, _, rfl, k3, h4⟩ := h4
 obtain ⟨_, _, rfl, k4, h4⟩ := h4
 obtain ⟨_, _, rfl, k5, h4⟩ := h4
 obtain ⟨_, _, rfl, k6, h4⟩ := h4
 obtain rfl := h4
 obtain rfl := g1.v_eq; obtain rfl := g2.v_eq; obtain rfl := g3.v_eq; obtain rfl := g4.v_eq; obtain rfl := g5.v_eq
 obtain rfl := k3.v_eq; obtain rfl := k4.v_eq; obtain rfl := k5.v_eq
 obtain ⟨ap, cp, rfl, _⟩ := flat_len k1
 obtain ⟨aa, ca, rfl, _⟩ := flat_len k2
 obtain ⟨aS, cS, rfl, _⟩ := flat_len k6
 rw [e1, e2] at hus
 exact ⟨_, ap, cp, aa, ca, aS, cS, hus, h3, k1, k2, k6⟩
theorem at_ {A : List Nat} {w : World} {es : List EV} {e : EV} {ad : Option Addr} {n c i : Nat} (R : Rep A w (.sl 17 (es.map EV.D)) (.slice ad n c)) (h : es[i]? = some e) : ∃ a us, ad = some a ∧ Reps A w e.D us ∧ Cs w (a.add (i * 17)) us := by
 obtain ⟨a, us, h1, h2, _, h3, _⟩ := Rep.at_ (i := i) (r := e.D) R (by simp [h])
 exact ⟨a, us, h1, h2, h3⟩
def ok (e : EV) : Prop := e.room.length ≤ 140737488351232 ∧ e.snd.length ≤ 140737488351232 ∧ e.ty.length ≤ 140737488351232 ∧ e.key.length ≤ 140737488351232 ∧ e.con.ok ∧ (∀ s ∈ e.prev, s.length ≤ 140737488351232) ∧ e.prev.length ≤ 140737488351232 ∧ (∀ s ∈ e.auth, s.length ≤ 140737488351232) ∧ e.auth.length ≤ 140737488351232 ∧ e.hash.length ≤ 140737488351232 ∧ (∀ s ∈ e.sigs, s.srv.length ≤ 140737488351232 ∧ s.key.length ≤ 140737488351232 ∧ s.sig.length ≤ 140737488351232) ∧ e.sigs.length ≤ 140737488351232
end EV
def addW : List Nat → Nat → Nat → Nat
 | [], n, _ => n
 | x :: r, n, most => if n ≤ most then addW r (n + x) most else n
namespace EV
def n0 (e : EV) : Nat := e.room.length + e.snd.length + e.ty.length + e.key.length + e.hash.length + e.prev.length + e.auth.length + e.sigs.length
def n1 (e : EV) (most : Nat) : Nat := addW (e.prev.map List.length) e.n0 most
def n2 (e : EV) (most : Nat) : Nat := addW (e.auth.map List.length) (e.n1 most) most
def n3 (e : EV) (most : Nat) : Nat := addW (e.sigs.map fun s => s.srv.length + s.key.length + s.sig.length) (e.n2 most) most
def great (e : EV) (most : Nat) : Bool := decide (e.n3 most > most) || decide (e.con.weigh ((most : Int) - e.n3 most) 60 < 0)
end EV
end Go.Proofs.YtknndpjacklkeaaGreatDoor.V

set_option linter.unusedVariables false
set_option linter.unusedSimpArgs false
set_option maxRecDepth 10000
namespace Go.Proofs.YtknndpjacklkeaaGreatDoor.V
open Go Go.Proofs

end Go.Proofs.YtknndpjacklkeaaGreatDoor.V

set_option linter.unusedVariables false
set_option linter.unusedSimpArgs false
set_option maxRecDepth 10000
namespace Go.Proofs.YtknndpjacklkeaaGreatDoor.V
open Go Go.Proofs
theorem ent201 : Ent Tryz.prog 201 := Ent.of Tryz.func201 (by kernel_rfl) (by kernel_rfl)
theorem ent177 : Ent Tryz.prog 177 := Ent.of Tryz.func177 (by kernel_rfl) (by kernel_rfl)
theorem c_hpl (w : World) (s p : Str) : Calls Tryz.prog 201 [S s, S p].toArray w (Ret fun u w' => u = .bool (decide (p.length ≤ s.length ∧ s.take p.length = p)) ∧ Mod [] w w') := by
 refine enter Tryz.func201 rfl rfl rfl (l := [(0, _), (1, _)]) ⟨rfl, rfl, trivial⟩ ?_
 have E := Mod.refl [] w
 refine Cq fun K1 hK1 => Cr (Za rfl (Ln (e_K (hK1 _ _ _ _ (Cq fun K2 hK2 => Cr (Zm rfl (Sv (o_slen Tryz.underlying9 rfl) (Zm rfl (Sv (o_slen Tryz.underlying9 rfl) (Sv (o_geq rfl rfl) ?_))))))))))
 refine bD (fun hs1_0 : (s.length : Int) ≥ (p.length : Int) => ?_) (fun hs1_0 => ?_)
 ·exact tW 3 rfl (Sg rfl rfl (o_slen Tryz.underlying9 rfl) (Sg rfl rfl (o_ssto Tryz.underlying9 rfl rfl (by omega)) (Sg rfl rfl (oM rfl) (Sg rfl rfl (o_seq rfl rfl) (tW 2 rfl (Ln (e_K (hK2 _ _ _ _ (cR (ret1 rfl rfl ⟨by rw [decide_eq_decide.2 (show s.take p.length = p ↔ p.length ≤ s.length ∧ s.take p.length = p from ⟨fun h => ⟨by omega, h⟩, fun h => h.2⟩)], E⟩))))))))))
 ·exact tW 9 rfl (Ln (e_K (hK2 _ _ _ _ (cR (ret1 rfl rfl ⟨by rw [dF (fun h => by omega)], E⟩)))))

theorem c_hpre (w : World) (s p : Str) : Calls Tryz.prog 177 [S s, S p].toArray w (Ret fun u w' => u = .bool (decide (p.length ≤ s.length ∧ s.take p.length = p)) ∧ Mod [] w w') := by
 refine enter Tryz.func177 rfl rfl rfl (l := [(0, _), (1, _)]) ⟨rfl, rfl, trivial⟩ ?_
 have E := Mod.refl [] w
 refine Cq fun K1 hK1 => Cr (Za rfl (Ln (e_K (hK1 _ _ _ _ (Cq fun K2 hK2 => Cr (tW 2 rfl (sc (oC ent201 rfl) (c_hpl _ _ _) rfl fun v_ w1 h_ => ?_)))))))
 obtain ⟨rfl, E_⟩ := h_
 replace E := E.then E_
 exact Za rfl (Ln (e_K (hK2 _ _ _ _ (cR (ret1 rfl rfl ⟨rfl, E⟩)))))

end Go.Proofs.YtknndpjacklkeaaGreatDoor.V
