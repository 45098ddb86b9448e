/-
  A part of the proof: events: what they stand for in memory; whether one is greater than is played. No condition of its own.
-/
import Derived.Test.YtknndpjacklkeaaGreatDoorM5
import Derived.Test.YtknndpjacklkeaaGreatDoorM3
import Derived.Test.YtknndpjacklkeaaGreatDoorProg
import Derived.Test.YtknndpjacklkeaaGreatDoorM2
import Derived.Lib.AppendIntMem
import Derived.Lib.LaidTab
import Derived.Shelf.Strings.Trim
import Derived.Shelf.Small.Utf8
import Derived.Shelf.Small.Bits
import Derived.Shelf.Small.Strs
import Derived.Shelf.Small.Wraps
import Derived.Shelf.Utf8.AppendRune
import Derived.Shelf.Strconv.Atoi
import Derived.Shelf.Strconv.Itoa0
import Derived.Shelf.Strconv.Itoa1
import Derived.Shelf.LaysM
import Derived.Shelf.Strconv.Itoa2
import Derived.Shelf.Strconv.Itoa3
import Derived.Shelf.Strconv.AtoiErrFast
import Derived.Shelf.Strconv.ParseIntEmpty
import Derived.Shelf.Strconv.AtoiFail
import Derived.Shelf.Strconv.Clone
import Derived.Shelf.Strconv.SyntaxError
import Derived.Shelf.LaysC
import Derived.Shelf.Strconv.ToError
import Derived.Shelf.Strconv.Lower
import Derived.Shelf.Strconv.ParseUint10
import Derived.Shelf.Strconv.ParseUint10Empty
import Derived.Shelf.Strconv.ParseUint10Any
import Derived.Shelf.Strconv.ParseInt10
import Derived.Shelf.Strconv.AtoiLong
import Derived.Shelf.Strconv.AtoiInnerAll
import Derived.Shelf.Strconv.RangeError
import Derived.Shelf.Strconv.ToErrorRange
import Derived.Shelf.Strconv.AtoiAll
import Derived.Shelf.Strconv.ErrVarAll
import Derived.Shelf.Strings.Search1
import Derived.Shelf.Strings.Search2
import Derived.Shelf.Strings.Cut
import Derived.Shelf.Strings.Shaped
import Derived.Shelf.Strings.Prefix
import Derived.Shelf.Strings.Runes
import Derived.Shelf.Strings.AsciiSet
import Derived.Shelf.Unicode.DecodeSlow
import Derived.Shelf.Unicode.DecodeAny
import Derived.Ground.Names2Prog
import Derived.Shelf.Slices.Clone
import Derived.Test.YtknndpjacklkeaaGreatDoorM4
set_option linter.unusedVariables false
set_option linter.unusedSimpArgs false
set_option maxRecDepth 10000
namespace Go.Proofs.YtknndpjacklkeaaGreatDoor.V
open Go Go.Proofs
theorem fd25_0 : fdB Tryz.prog 25 0 0 1 = true := by kernel_rfl
theorem sc3 : scB Tryz.prog 3 = true := by kernel_rfl
theorem fd25_1 : fdB Tryz.prog 25 1 1 1 = true := by kernel_rfl
theorem sc4 : scB Tryz.prog 4 = true := by kernel_rfl
theorem fd25_2 : fdB Tryz.prog 25 2 2 1 = true := by kernel_rfl
theorem ent16 : Ent Tryz.prog 16 := Ent.of Tryz.func16 (by kernel_rfl) (by kernel_rfl)
theorem c_same_step (N : Nat) (ih : ∀ (w : World) (v y : JV) (us vs : List Value), v.sz ≤ N → Reps [] w v.D us → Reps [] w y.D vs → Calls Tryz.prog 16 [.agg us.toArray, .agg vs.toArray].toArray w (Ret fun u w' => u = .bool (JV.eqJ v y) ∧ Mod [] w w')) (w : World) (v y : JV) (us vs : List Value) (hN : v.sz ≤ N + 1) (R : Reps [] w v.D us) (R2 : Reps [] w y.D vs) : Calls Tryz.prog 16 [.agg us.toArray, .agg vs.toArray].toArray w (Ret fun u w' => u = .bool (JV.eqJ v y) ∧ Mod [] w w') := by
 refine enter Tryz.func16 rfl rfl rfl (l := [(0, _), (1, _)]) ⟨rfl, rfl, trivial⟩ ?_
 have E := Mod.refl [] w
 obtain ⟨al, cl, am, cm, rfl, Rl, Rm⟩ := JV.cells_ R
 obtain ⟨al2, cl2, am2, cm2, rfl, Rl2, Rm2⟩ := JV.cells_ R2
 refine Cq fun K1 hK1 => Cr (s_box rfl rfl rfl fun g1 w1 N1 => ?_)
 have Lg1_E := N1.le E
 replace E := E.then N1.mod
 have Bg1 := N1.blk
 refine s_box rfl rfl rfl fun g2 w2 N2 => ?_
 have Lg2_E := N2.le E
 have Dg1_g2 := N2.ne Bg1
 replace Bg1 := Bg1.mod0 N2.mod
 replace E := E.then N2.mod
 have Bg2 := N2.blk
 refine Za rfl (Ln (e_K (hK1 _ _ _ _ (Cq fun K2 hK2 => Cq fun K3 hK3 => Cr (Sv (oA0 fd25_0 rfl) (Sv (oL sc3 rfl (Bg1.cell rfl)) (Sv (oA0 fd25_0 rfl) (Sv (oL sc3 rfl (Bg2.cell rfl)) (Sv (o_neq rfl rfl) ?_)))))))))
 refine bD (fun hs1_0 : v.kind ≠ y.kind => ?_) (fun hs1_0 => ?_)
 ·have hz3 : JV.eqJ v y = false := JV.eqJ_ne fun e => hs1_0 (by rw [e])
  exact tW 39 rfl (Ln (e_K (hK3 _ _ _ _ (c_true rfl (Cq fun K4 hK4 => Cr (Za rfl (Ln (e_K (hK4 _ _ _ _ (cR (eT (by simp) (ret1 rfl rfl ⟨by rw [hz3], E⟩))))))))))))
 ·refine Zm rfl (Sg rfl rfl (oA0 fd25_1 rfl) (Sg rfl rfl (oL sc4 rfl (Bg1.cell rfl)) (Sg rfl rfl (oA0 fd25_1 rfl) (Sg rfl rfl (oL sc4 rfl (Bg2.cell rfl)) (Sg rfl rfl (o_bsne Tryz.underlying4 rfl rfl) ?_)))))
  refine bC (fun hs1_1 : ((v.is != y.is)) = true => ?_) (fun hs1_1 => ?_)
  ·have hz3 : JV.eqJ v y = false := JV.eqJ_ne fun e => (by subst e; simp at hs1_1)
   exact tW 33 rfl (Ln (e_K (hK3 _ _ _ _ (c_true rfl (Cq fun K5 hK5 => Cr (Za rfl (Ln (e_K (hK5 _ _ _ _ (cR (eT (by simp) (ret1 rfl rfl ⟨by rw [hz3], E⟩))))))))))))
  ·refine tW 2 rfl (Sg rfl rfl (oA0 fd25_2 rfl) (Sg rfl rfl (oL sc3 rfl (Bg1.cell rfl)) (Sg rfl rfl (oA0 fd25_2 rfl) (Sg rfl rfl (oL sc3 rfl (Bg2.cell rfl)) (Sg rfl rfl (o_neq rfl rfl) ?_)))))
   refine bD (fun hs1_2 : v.num ≠ y.num => ?_) (fun hs1_2 => ?_)
   ·have hz3 : JV.eqJ v y = false := JV.eqJ_ne fun e => hs1_2 (by rw [e])
    exact tW 26 rfl (Ln (e_K (hK3 _ _ _ _ (c_true rfl (Cq fun K6 hK6 => Cr (Za rfl (Ln (e_K (hK6 _ _ _ _ (cR (eT (by simp) (ret1 rfl rfl ⟨by rw [hz3], E⟩))))))))))))
   ·refine tW 2 rfl (Sg rfl rfl (oA0 fd25_3 rfl) (Sg rfl rfl (oL sc9 rfl (Bg1.cell rfl)) (Sg rfl rfl (oA0 fd25_3 rfl) (Sg rfl rfl (oL sc9 rfl (Bg2.cell rfl)) (Sg rfl rfl (o_sne rfl rfl) ?_)))))
    refine bD (fun hs1_3 : v.str ≠ y.str => ?_) (fun hs1_3 => ?_)
    ·have hz3 : JV.eqJ v y = false := JV.eqJ_ne fun e => hs1_3 (by rw [e])
     exact tW 19 rfl (Ln (e_K (hK3 _ _ _ _ (c_true rfl (Cq fun K7 hK7 => Cr (Za rfl (Ln (e_K (hK7 _ _ _ _ (cR (eT (by simp) (ret1 rfl rfl ⟨by rw [hz3], E⟩))))))))))))
    ·refine tW 2 rfl (Sg rfl rfl (oA0 fd25_4 rfl) (Sg rfl rfl (oL sc22 rfl (Bg1.cell rfl)) (Sg rfl rfl (o_len Tryz.underlying22 rfl) (Sg rfl rfl (oA0 fd25_4 rfl) (Sg rfl rfl (oL sc22 rfl (Bg2.cell rfl)) (Sg rfl rfl (o_len Tryz.underlying22 rfl) (Sg rfl rfl (o_neq rfl rfl) ?_)))))))
     refine bD (fun hs1_4 : (v.list.length : Int) ≠ (y.list.length : Int) => ?_) (fun hs1_4 => ?_)
     ·have hz3 : JV.eqJ v y = false := JV.eqJ_ne fun e => hs1_4 (by rw [e])
      exact tW 10 rfl (Ln (e_K (hK3 _ _ _ _ (c_true rfl (Cq fun K8 hK8 => Cr (Za rfl (Ln (e_K (hK8 _ _ _ _ (cR (eT (by simp) (ret1 rfl rfl ⟨by rw [hz3], E⟩))))))))))))
     ·refine tW 2 rfl (Sg rfl rfl (oA0 fd25_5 rfl) (Sg rfl rfl (oL sc23 rfl (Bg1.cell rfl)) (Sg rfl rfl (o_len Tryz.underlying23 rfl) (Sg rfl rfl (oA0 fd25_5 rfl) (Sg rfl rfl (oL sc23 rfl (Bg2.cell rfl)) (Sg rfl rfl (o_len Tryz.underlying23 rfl) (Sg rfl rfl (o_neq rfl rfl) ?_)))))))
      refine bD (fun hs1_5 : (v.map.length : Int) ≠ (y.map.length : Int) => ?_) (fun hs1_5 => ?_)
      ·have hz3 : JV.eqJ v y = false := JV.eqJ_ne fun e => hs1_5 (by rw [e])
       exact Sv (oF rfl rfl rfl) (Ln (e_K (hK3 _ _ _ _ (c_true rfl (Cq fun K9 hK9 => Cr (Za rfl (Ln (e_K (hK9 _ _ _ _ (cR (eT (by simp) (ret1 rfl rfl ⟨by rw [hz3], E⟩))))))))))))
      ·refine Sv (oF rfl rfl rfl) (Ln (e_K (hK3 _ _ _ _ (c_false rfl (cK (e_K (hK2 _ _ _ _ (Cq fun K10 hK10 => Cq fun K11 hK11 => Cr (Sv (oA0 fd25_4 rfl) (Sv (oL sc22 rfl (Bg1.cell rfl)) (Sv (o_len Tryz.underlying22 rfl) (Zm rfl (Ln ?_)))))))))))))
       refine e_K (hK11 _ _ _ _ (cB (c_loop (σ := Nat) (fun k => [(2, .pointer (some ⟨g1, 0, none⟩)), (3, .pointer (some ⟨g2, 0, none⟩)), (53, .int .i64 v.list.length), (54, .int .i64 (k : Int))]) (fun k w1 => k ≤ v.list.length ∧ (∀ (i : Nat) (a b : JV), i < k → v.list[i]? = some a → y.list[i]? = some b → a = b) ∧ Blk w1 g1 25 [.int .i64 v.kind, .bool v.is, .int .i64 v.num, S v.str, .slice al v.list.length cl, .slice am v.map.length cm] ∧ Blk w1 g2 25 [.int .i64 y.kind, .bool y.is, .int .i64 y.num, S y.str, .slice al2 y.list.length cl2, .slice am2 y.map.length cm2] ∧ Mod [] w w1) (fun k => v.list.length - k) (0) ⟨rfl, rfl, rfl, rfl, trivial⟩ (⟨by omega, fun i a b h => by omega, Bg1, Bg2, E⟩) ?_)))
       rintro k w3 ⟨hk, hA, Bg1, Bg2, E⟩
       refine Cq fun K12 hK12 => Cr (Sv (o_lss rfl rfl) (Ln (e_K (hK12 _ _ _ _ (Cq fun K13 hK13 => ?_)))))
       refine c_if rfl (fun h55 => ?_) (fun h55 => ?_)
       ·obtain ⟨x, hx_x⟩ : ∃ x, v.list[k]? = some x := ⟨_, List.getElem?_eq_getElem (by omega)⟩
        obtain ⟨a_x, us_x, ha_x, R_x, hcs0_x⟩ := JV.at_l Rl hx_x
        obtain ⟨al_x, cl_x, am_x, cm_x, rfl, Rl_x, Rm_x⟩ := JV.cells_ R_x
        have hcs_x := hcs0_x.mod0 E
        have hcap_x := JV.cap_l Rl
        obtain rfl := ha_x
        obtain ⟨z, hx_z⟩ : ∃ x, y.list[k]? = some x := ⟨_, List.getElem?_eq_getElem (by omega)⟩
        obtain ⟨a_z, us_z, ha_z, R_z, hcs0_z⟩ := JV.at_l Rl2 hx_z
        obtain ⟨al_z, cl_z, am_z, cm_z, rfl, Rl_z, Rm_z⟩ := JV.cells_ R_z
        have hcs_z := hcs0_z.mod0 E
        have hcap_z := JV.cap_l Rl2
        obtain rfl := ha_z
        refine cK (e_K (hK13 _ _ _ _ (Cq fun K14 hK14 => cB (Cq fun K15 hK15 => Cr (tW 2 rfl (Ln (e_K (hK15 _ _ _ _ (Cq fun K16 hK16 => c_draw wide (by kernel_rfl) (tv (fun w_ E_ => (oA0 fd25_4 rfl)) rfl rfl (tv (fun w_ E_ => (oL sc22 rfl ((Bg1.mod0 E_).cell rfl))) rfl rfl (tv (fun w_ E_ => (oM rfl)) rfl rfl ?_))))))))))))
        refine tv (fun w_ E_ => (o_ix sl22 rfl rfl (by omega))) rfl rfl (tv (fun w_ E_ => (o_lda ag25 rfl rfl (hcs_x.mod0 E_))) rfl rfl (tv (fun w_ E_ => (oA0 fd25_4 rfl)) rfl rfl (tv (fun w_ E_ => (oL sc22 rfl ((Bg2.mod0 E_).cell rfl))) rfl rfl (tv (fun w_ E_ => (oM rfl)) rfl rfl (tv (fun w_ E_ => (o_ix sl22 rfl rfl (by omega))) rfl rfl (tv (fun w_ E_ => (o_lda ag25 rfl rfl (hcs_z.mod0 E_))) rfl rfl (tc (fun w_ E_ => oC ent16 rfl) (fun w_ E_ => ih _ x z _ _ (by have := JV.sz_in_list (List.mem_of_getElem? hx_x); omega) (R_x.to0 (E.then E_)) (R_z.to0 (E.then E_))) rfl rfl (tv (fun w_ E_ => (o_not rfl)) rfl rfl (tw_nil rfl fun w4 E_ => ?_)))))))))
        replace Bg1 := Bg1.mod0 E_
        replace Bg2 := Bg2.mod0 E_
        replace E := E.then E_
        refine e_K (hK16 _ _ _ _ ?_)
        refine c_cond rfl (fun h68 => ?_) (fun h68 => ?_)
        ·have hz3 : JV.eqJ v y = false := JV.eqJ_ne fun e => by
          subst e
          rw [hx_x] at hx_z
          injection hx_z with e
          subst e
          rw [JV.eqJ_self] at h68
          cases h68
         exact Cq fun K17 hK17 => Cr (Za rfl (Ln (e_K (hK17 _ _ _ _ (cR (eI (by simp) (eT (by simp) (eT (by simp) (eI (by simp) (eT (by simp) (ret1 rfl rfl ⟨by rw [hz3], E⟩)))))))))))
        ·have hA2 : ∀ (i : Nat) (a b : JV), i < k + 1 → v.list[i]? = some a → y.list[i]? = some b → a = b := fun i a b hi ha hb => by
          rcases Nat.lt_succ_iff_lt_or_eq.1 hi with h | h
          ·exact hA i a b h ha hb
          ·subst h
           rw [hx_x] at ha
           rw [hx_z] at hb
           injection ha with ha
           injection hb with hb
           subst ha; subst hb
           exact JV.eqJ_iff.1 (by simpa using h68)
         exact cK (eI (by simp) (e_K (hK14 _ _ _ _ (Cr (Sv (o_addN rfl rfl (by omega)) (Zm rfl (Ln (eR (σ := Nat) (s := k) (k + 1) ⟨rfl, rfl, rfl, rfl, trivial⟩ ⟨by omega, hA2, Bg1, Bg2, E⟩ (by omega)))))))))
       ·refine c_exit (eT (by simp) (eT (by simp) (e_hit (e_K (hK10 _ _ _ _ (Cq fun K18 hK18 => Cq fun K19 hK19 => Cr (Sv (oA0 fd25_5 rfl) (Sv (oL sc23 rfl (Bg1.cell rfl)) (Sv (o_len Tryz.underlying23 rfl) (Zm rfl (Ln (e_K (hK19 _ _ _ _ ?_)))))))))))))
        refine cB (c_loop (σ := Nat) (fun j => [(2, .pointer (some ⟨g1, 0, none⟩)), (3, .pointer (some ⟨g2, 0, none⟩)), (72, .int .i64 v.map.length), (73, .int .i64 (j : Int))]) (fun j w1 => j ≤ v.map.length ∧ (∀ (i : Nat) (a b : List UInt8 × JV), i < j → v.map[i]? = some a → y.map[i]? = some b → a = b) ∧ Blk w1 g1 25 [.int .i64 v.kind, .bool v.is, .int .i64 v.num, S v.str, .slice al v.list.length cl, .slice am v.map.length cm] ∧ Blk w1 g2 25 [.int .i64 y.kind, .bool y.is, .int .i64 y.num, S y.str, .slice al2 y.list.length cl2, .slice am2 y.map.length cm2] ∧ Mod [] w w1) (fun j => v.map.length - j) (0) ⟨rfl, rfl, rfl, rfl, trivial⟩ (⟨by omega, fun i a b h => by omega, Bg1, Bg2, E⟩) ?_)
        rintro j w5 ⟨hj, hB, Bg1, Bg2, E⟩
        refine Cq fun K20 hK20 => Cr (Sv (o_lss rfl rfl) (Ln (e_K (hK20 _ _ _ _ (Cq fun K21 hK21 => ?_)))))
        refine c_if rfl (fun h74 => ?_) (fun h74 => ?_)
        ·obtain ⟨x, hx_x⟩ : ∃ x, v.map[j]? = some x := ⟨_, List.getElem?_eq_getElem (by omega)⟩
         obtain ⟨a_x, us_x, ha_x, R_x, hcs0_x⟩ := JV.at_m Rm hx_x
         obtain ⟨al_x, cl_x, am_x, cm_x, rfl, Rl_x, Rm_x⟩ := JV.cells_ R_x
         have hcs_x := hcs0_x.mod0 E
         have hcap_x := JV.cap_m Rm
         obtain rfl := ha_x
         obtain ⟨z, hx_z⟩ : ∃ x, y.map[j]? = some x := ⟨_, List.getElem?_eq_getElem (by omega)⟩
         obtain ⟨a_z, us_z, ha_z, R_z, hcs0_z⟩ := JV.at_m Rm2 hx_z
         obtain ⟨al_z, cl_z, am_z, cm_z, rfl, Rl_z, Rm_z⟩ := JV.cells_ R_z
         have hcs_z := hcs0_z.mod0 E
         have hcap_z := JV.cap_m Rm2
         obtain rfl := ha_z
         refine cK (e_K (hK21 _ _ _ _ (Cq fun K22 hK22 => cB (Cq fun K23 hK23 => Cr (tW 2 rfl (Ln (e_K (hK23 _ _ _ _ (Cq fun K24 hK24 => ?_)))))))))
         by_cases hs12_0 : x.1 ≠ z.1
         ·refine c_draw wide (by kernel_rfl) (tv (fun w_ E_ => (oA0 fd25_5 rfl)) rfl rfl (tv (fun w_ E_ => (oL sc23 rfl ((Bg1.mod0 E_).cell rfl))) rfl rfl (tv (fun w_ E_ => (oM rfl)) rfl rfl (tv (fun w_ E_ => (o_ix sl23 rfl rfl (by omega))) rfl rfl (tv (fun w_ E_ => (o_fad fd44_0 rfl)) rfl rfl (tv (fun w_ E_ => (oL sc9 rfl ((hcs_x.mod0 E_) 0 _ rfl))) rfl rfl (tv (fun w_ E_ => (oA0 fd25_5 rfl)) rfl rfl (tv (fun w_ E_ => (oL sc23 rfl ((Bg2.mod0 E_).cell rfl))) rfl rfl (tv (fun w_ E_ => (oM rfl)) rfl rfl (tv (fun w_ E_ => (o_ix sl23 rfl rfl (by omega))) rfl rfl (tv (fun w_ E_ => (o_fad fd44_0 rfl)) rfl rfl (tv (fun w_ E_ => (oL sc9 rfl ((hcs_z.mod0 E_) 0 _ rfl))) rfl rfl (tv (fun w_ E_ => (o_sne rfl rfl)) rfl rfl ?_)))))))))))))
          refine tv (fun w_ E_ => (oM rfl)) rfl rfl (Tx rfl (dT hs12_0) (Tx rfl (dT hs12_0) (Tx rfl (dT hs12_0) (Tx rfl (dT hs12_0) (Tx rfl (dT hs12_0) (Tx rfl (dT hs12_0) (Tx rfl (dT hs12_0) (Tx rfl (dT hs12_0) (Tx rfl (dT hs12_0) (Tx rfl (dT hs12_0) (Tx rfl (dT hs12_0) (Tx rfl (dT hs12_0) (Tx rfl (dT hs12_0) ?_)))))))))))))
          refine Tx rfl (dT hs12_0) (tv (fun w_ E_ => (oT (dT hs12_0) rfl rfl)) rfl rfl (tw_nil rfl fun w6 E_ => ?_))
          replace Bg1 := Bg1.mod0 E_
          replace Bg2 := Bg2.mod0 E_
          replace E := E.then E_
          refine e_K (hK24 _ _ _ _ (c_true rfl ?_))
          have hz3 : JV.eqJ v y = false := JV.eqJ_ne fun e => by
           subst e
           rw [hx_x] at hx_z
           injection hx_z with e
           subst e
           exact hs12_0 rfl
          exact Cq fun K25 hK25 => Cr (Za rfl (Ln (e_K (hK25 _ _ _ _ (cR (eI (by simp) (eT (by simp) (eT (by simp) (eI (by simp) (eT (by simp) (ret1 rfl rfl ⟨by rw [hz3], E⟩)))))))))))
         ·refine c_draw wide (by kernel_rfl) (tv (fun w_ E_ => (oA0 fd25_5 rfl)) rfl rfl (tv (fun w_ E_ => (oL sc23 rfl ((Bg1.mod0 E_).cell rfl))) rfl rfl (tv (fun w_ E_ => (oM rfl)) rfl rfl (tv (fun w_ E_ => (o_ix sl23 rfl rfl (by omega))) rfl rfl (tv (fun w_ E_ => (o_fad fd44_0 rfl)) rfl rfl (tv (fun w_ E_ => (oL sc9 rfl ((hcs_x.mod0 E_) 0 _ rfl))) rfl rfl (tv (fun w_ E_ => (oA0 fd25_5 rfl)) rfl rfl (tv (fun w_ E_ => (oL sc23 rfl ((Bg2.mod0 E_).cell rfl))) rfl rfl (tv (fun w_ E_ => (oM rfl)) rfl rfl (tv (fun w_ E_ => (o_ix sl23 rfl rfl (by omega))) rfl rfl (tv (fun w_ E_ => (o_fad fd44_0 rfl)) rfl rfl (tv (fun w_ E_ => (oL sc9 rfl ((hcs_z.mod0 E_) 0 _ rfl))) rfl rfl (tv (fun w_ E_ => (o_sne rfl rfl)) rfl rfl ?_)))))))))))))
          refine tv (fun w_ E_ => (oM rfl)) rfl rfl (tvg rfl (dF hs12_0) (fun w_ E_ => (oA0 fd25_5 rfl)) rfl rfl (tvg rfl (dF hs12_0) (fun w_ E_ => (oL sc23 rfl ((Bg1.mod0 E_).cell rfl))) rfl rfl (tvg rfl (dF hs12_0) (fun w_ E_ => (oM rfl)) rfl rfl (tvg rfl (dF hs12_0) (fun w_ E_ => (o_ix sl23 rfl rfl (by omega))) rfl rfl (tvg rfl (dF hs12_0) (fun w_ E_ => (o_fad fd44_1 rfl)) rfl rfl (tvg rfl (dF hs12_0) (fun w_ E_ => (o_lda ag25 rfl rfl (hcs_x.mod0 E_).tail_)) rfl rfl (tvg rfl (dF hs12_0) (fun w_ E_ => (oA0 fd25_5 rfl)) rfl rfl (tvg rfl (dF hs12_0) (fun w_ E_ => (oL sc23 rfl ((Bg2.mod0 E_).cell rfl))) rfl rfl (tvg rfl (dF hs12_0) (fun w_ E_ => (oM rfl)) rfl rfl (tvg rfl (dF hs12_0) (fun w_ E_ => (o_ix sl23 rfl rfl (by omega))) rfl rfl (tvg rfl (dF hs12_0) (fun w_ E_ => (o_fad fd44_1 rfl)) rfl rfl (tvg rfl (dF hs12_0) (fun w_ E_ => (o_lda ag25 rfl rfl (hcs_z.mod0 E_).tail_)) rfl rfl (tcg rfl (dF hs12_0) (fun w_ E_ => oC ent16 rfl) (fun w_ E_ => ih _ x.2 z.2 _ _ (by have := JV.sz_in_map (List.mem_of_getElem? hx_x); omega) (R_x.to0 (E.then E_)) (R_z.to0 (E.then E_))) rfl rfl ?_)))))))))))))
          refine tvg rfl (dF hs12_0) (fun w_ E_ => (o_not rfl)) rfl rfl (tv (fun w_ E_ => (oF (dF hs12_0) rfl rfl)) rfl rfl (tw_nil rfl fun w7 E_ => ?_))
          replace Bg1 := Bg1.mod0 E_
          replace Bg2 := Bg2.mod0 E_
          replace E := E.then E_
          refine e_K (hK24 _ _ _ _ ?_)
          refine c_cond rfl (fun h104 => ?_) (fun h104 => ?_)
          ·have hz3 : JV.eqJ v y = false := JV.eqJ_ne fun e => by
            subst e
            rw [hx_x] at hx_z
            injection hx_z with e
            subst e
            rw [JV.eqJ_self] at h104
            cases h104
           exact Cq fun K26 hK26 => Cr (Za rfl (Ln (e_K (hK26 _ _ _ _ (cR (eI (by simp) (eT (by simp) (eT (by simp) (eI (by simp) (eT (by simp) (ret1 rfl rfl ⟨by rw [hz3], E⟩)))))))))))
          ·have hB2 : ∀ (i : Nat) (a b : List UInt8 × JV), i < j + 1 → v.map[i]? = some a → y.map[i]? = some b → a = b := fun i a b hi ha hb => by
            rcases Nat.lt_succ_iff_lt_or_eq.1 hi with h | h
            ·exact hB i a b h ha hb
            ·subst h
             rw [hx_x] at ha
             rw [hx_z] at hb
             injection ha with ha
             injection hb with hb
             subst ha; subst hb
             exact Prod.ext (Classical.byContradiction hs12_0) (JV.eqJ_iff.1 (by simpa using h104))
           exact cK (eI (by simp) (e_K (hK22 _ _ _ _ (Cr (Sv (o_addN rfl rfl (by omega)) (Zm rfl (Ln (eR (σ := Nat) (s := j) (j + 1) ⟨rfl, rfl, rfl, rfl, trivial⟩ ⟨by omega, hB2, Bg1, Bg2, E⟩ (by omega)))))))))
        ·exact c_exit (eT (by simp) (eT (by simp) (e_hit (e_K (hK18 _ _ _ _ (Cq fun K27 hK27 => Cr (Za rfl (Ln (e_K (hK27 _ _ _ _ (cR (ret1 rfl rfl ⟨by rw [JV.eqJ_iff.2 (JV.ext_ (Classical.byContradiction hs1_0) (by simpa using hs1_1) (Classical.byContradiction hs1_2) (Classical.byContradiction hs1_3) (JV.list_ext_ (by omega) fun i a b hi ha hb => hA i a b (by omega) ha hb) (JV.list_ext_ (by omega) fun i a b hi ha hb => hB i a b (by omega) ha hb))], E⟩))))))))))))

theorem c_same_all : ∀ N : Nat, ∀ (w : World) (v y : JV) (us vs : List Value), v.sz ≤ N → Reps [] w v.D us → Reps [] w y.D vs → Calls Tryz.prog 16 [.agg us.toArray, .agg vs.toArray].toArray w (Ret fun u w' => u = .bool (JV.eqJ v y) ∧ Mod [] w w')
 | 0, w, v, y, us, vs, h, R, R2 => absurd (JV.sz_eq v) (by omega)
 | N + 1, w, v, y, us, vs, h, R, R2 => c_same_step N (c_same_all N) w v y us vs h R R2
theorem c_same (w : World) (v y : JV) (us vs : List Value) (R : Reps [] w v.D us) (R2 : Reps [] w y.D vs) : Calls Tryz.prog 16 [.agg us.toArray, .agg vs.toArray].toArray w (Ret fun u w' => u = .bool (JV.eqJ v y) ∧ Mod [] w w') := c_same_all v.sz w v y us vs (Nat.le_refl _) R R2
end Go.Proofs.YtknndpjacklkeaaGreatDoor.V

set_option linter.unusedVariables false
set_option linter.unusedSimpArgs false
set_option maxRecDepth 10000
namespace Go.Proofs.YtknndpjacklkeaaGreatDoor.V
open Go Go.Proofs
theorem ag44 : agB Tryz.prog 44 7 = true := by kernel_rfl
theorem pl44 : plB Tryz.prog 44 [(0, 1), (1, 6)] = true := by kernel_rfl
theorem zv44 : zvB Tryz.prog 44 ([S [], .int .i64 0, .bool false, .int .i64 0, S [], .slice none 0 0, .slice none 0 0]) := by unfold zvB; kernel_rfl
end Go.Proofs.YtknndpjacklkeaaGreatDoor.V

set_option linter.unusedVariables false
set_option linter.unusedSimpArgs false
set_option maxRecDepth 10000
namespace Go.Proofs.YtknndpjacklkeaaGreatDoor.V
open Go Go.Proofs
theorem zv25 : zvB Tryz.prog 25 ([.int .i64 0, .bool false, .int .i64 0, S [], .slice none 0 0, .slice none 0 0]) := by unfold zvB; kernel_rfl
theorem pl25 : plB Tryz.prog 25 [(0, 1), (1, 1), (2, 1), (3, 1), (4, 1), (5, 1)] = true := by kernel_rfl
end Go.Proofs.YtknndpjacklkeaaGreatDoor.V

set_option linter.unusedVariables false
set_option linter.unusedSimpArgs false
set_option maxRecDepth 10000
namespace Go.Proofs.YtknndpjacklkeaaGreatDoor.V
open Go Go.Proofs

end Go.Proofs.YtknndpjacklkeaaGreatDoor.V

set_option linter.unusedVariables false
set_option linter.unusedSimpArgs false
set_option maxRecDepth 10000
namespace Go.Proofs.YtknndpjacklkeaaGreatDoor.V
open Go Go.Proofs
end Go.Proofs.YtknndpjacklkeaaGreatDoor.V

set_option linter.unusedVariables false
set_option linter.unusedSimpArgs false
set_option maxRecDepth 10000
namespace Go.Proofs.YtknndpjacklkeaaGreatDoor.V
open Go Go.Proofs
theorem sl74 : slB Tryz.prog 74 5 1 1 = true := by kernel_rfl
theorem zv5 : zvB Tryz.prog 5 ([.int .u8 0]) := by unfold zvB; kernel_rfl
end Go.Proofs.YtknndpjacklkeaaGreatDoor.V

set_option linter.unusedVariables false
set_option linter.unusedSimpArgs false
set_option maxRecDepth 10000
namespace Go.Proofs.YtknndpjacklkeaaGreatDoor.V
open Go Go.Proofs
end Go.Proofs.YtknndpjacklkeaaGreatDoor.V

namespace Go.Proofs
open Go.Shelf
def Tryz.laysM171_ren : Go.Shelf.Ren := ⟨fun | 171 => 109 | 243 => 153 | 246 => 187 | 283 => 221 | 284 => 222 | 285 => 223 | 286 => 224 | 129 => 215 | 317 => 244 | 318 => 245 | 319 => 246 | 320 => 247 | 337 => 256 | 338 => 257 | n => n, fun | 3 => 3 | 9 => 9 | 2 => 2 | 4 => 4 | 171 => 225 | 0 => 0 | 53 => 182 | 37 => 74 | 5 => 5 | 173 => 227 | 212 => 245 | 51 => 147 | 20 => 20 | 213 => 246 | 46 => 144 | 232 => 103 | 233 => 265 | n => n, fun | 17 => 4 | 18 => 7 | 19 => 8 | n => n⟩
theorem Tryz.laysM171 : Go.Proofs.LaysM.n171 Tryz.prog Tryz.laysM171_ren := {
 mixed := by kernel_rfl
 f129 := Tryz.func215.trans (congrArg some (by kernel_rfl))
 f171 := Tryz.func109.trans (congrArg some (by kernel_rfl))
 f243 := Tryz.func153.trans (congrArg some (by kernel_rfl))
 f246 := Tryz.func187.trans (congrArg some (by kernel_rfl))
 f283 := Tryz.func221.trans (congrArg some (by kernel_rfl))
 f284 := Tryz.func222.trans (congrArg some (by kernel_rfl))
 f285 := Tryz.func223.trans (congrArg some (by kernel_rfl))
 f286 := Tryz.func224.trans (congrArg some (by kernel_rfl))
 f317 := Tryz.func244.trans (congrArg some (by kernel_rfl))
 f318 := Tryz.func245.trans (congrArg some (by kernel_rfl))
 f319 := Tryz.func246.trans (congrArg some (by kernel_rfl))
 f320 := Tryz.func247.trans (congrArg some (by kernel_rfl))
 f337 := Tryz.func256.trans (congrArg some (by kernel_rfl))
 f338 := Tryz.func257.trans (congrArg some (by kernel_rfl))
 t0 := Tryz.underlying0
 a0 := Tryz.isAgg0
 z0 := Tryz.sizeOf0
 v0 := Tryz.zeroValue0
 t2 := Tryz.underlying2
 a2 := Tryz.isAgg2
 z2 := Tryz.sizeOf2
 v2 := Tryz.zeroValue2
 t3 := Tryz.underlying3
 a3 := Tryz.isAgg3
 z3 := Tryz.sizeOf3
 v3 := Tryz.zeroValue3
 t4 := Tryz.underlying4
 a4 := Tryz.isAgg4
 z4 := Tryz.sizeOf4
 v4 := Tryz.zeroValue4
 t5 := Tryz.underlying5
 a5 := Tryz.isAgg5
 z5 := Tryz.sizeOf5
 v5 := Tryz.zeroValue5
 t9 := Tryz.underlying9
 a9 := Tryz.isAgg9
 z9 := Tryz.sizeOf9
 v9 := Tryz.zeroValue9
 t20 := Tryz.underlying20
 a20 := Tryz.isAgg20
 z20 := Tryz.sizeOf20
 v20 := Tryz.zeroValue20
 t37 := Tryz.underlying74
 a37 := Tryz.isAgg74
 z37 := Tryz.sizeOf74
 v37 := Tryz.zeroValue74
 t46 := Tryz.underlying144
 a46 := Tryz.isAgg144
 z46 := Tryz.sizeOf144
 v46 := Tryz.zeroValue144
 t51 := Tryz.underlying147
 a51 := Tryz.isAgg147
 z51 := Tryz.sizeOf147
 v51 := Tryz.zeroValue147
 t53 := Tryz.underlying182
 a53 := Tryz.isAgg182
 z53 := Tryz.sizeOf182
 v53 := Tryz.zeroValue182
 t171 := Tryz.underlying225
 a171 := Tryz.isAgg225
 z171 := Tryz.sizeOf225
 v171 := Tryz.zeroValue225
 t173 := Tryz.underlying227
 a173 := Tryz.isAgg227
 z173 := Tryz.sizeOf227
 v173 := Tryz.zeroValue227
 t212 := Tryz.underlying245
 a212 := Tryz.isAgg245
 z212 := Tryz.sizeOf245
 v212 := Tryz.zeroValue245
 t213 := Tryz.underlying246
 a213 := Tryz.isAgg246
 z213 := Tryz.sizeOf246
 t232 := Tryz.underlying103
 a232 := Tryz.isAgg103
 z232 := Tryz.sizeOf103
 v232 := Tryz.zeroValue103
 t233 := Tryz.underlying265
 a233 := Tryz.isAgg265
 z233 := Tryz.sizeOf265
 v233 := Tryz.zeroValue265
 g17 := by kernel_rfl
 g18 := by kernel_rfl
 g19 := by kernel_rfl
 i0 := by kernel_rfl
 i2 := by kernel_rfl
 i3 := by kernel_rfl
 i4 := by kernel_rfl
 i5 := by kernel_rfl
 i9 := by kernel_rfl
 i20 := by kernel_rfl
 i37 := by kernel_rfl
 i46 := by kernel_rfl
 i51 := by kernel_rfl
 i53 := by kernel_rfl
 i171 := by kernel_rfl
 i173 := by kernel_rfl
 i212 := by kernel_rfl
 i232 := by kernel_rfl
 i233 := by kernel_rfl
 m17 := by kernel_rfl
 m18 := by kernel_rfl
 m19 := by kernel_rfl }
open Go.RowKit Go.Sort Go.Lib in
theorem Tryz.strconv_Itoa (n : Int) (h0 : -9223372036854775808 ≤ n) (h1 : n ≤ 9223372036854775807) (w : World) (htab : Lib.TabIs Tryz.prog w "internal/strconv.uint64pow10" .u64 Lib.pow10Tab) :
  Calls Tryz.prog 109 #[.int .i64 n] w fun e w' => e = .returned (.string ⟨(Lib.itoa n).toArray⟩) ∧ ∃ k os, w' = grow (w.drewN k) os := Any.strconv_Itoa Tryz.laysM171 n h0 h1 w htab
end Go.Proofs

namespace Go.Proofs.YtknndpjacklkeaaGreatDoor.V
open Go Go.Proofs
abbrev Tab (w : World) : Prop := Lib.TabIs Tryz.prog w "internal/strconv.uint64pow10" .u64 Lib.pow10Tab
abbrev gT : Nat := 4
theorem gPow : Tryz.prog.globalNamed "internal/strconv.uint64pow10" = some gT := by kernel_rfl
theorem Tab.mod {M : List Nat} {w w' : World} (h : Tab w) (k : Mod M w w') (hM : gT ∉ M) : Tab w' := by
 unfold Tab Lib.TabIs World.var? at h ⊢
 simp only [gPow, Option.bind_some] at h ⊢
 have hlt : gT < w.heap.size := by
  rcases Nat.lt_or_ge gT w.heap.size with hl | hl
  ·exact hl
  ·rw [Array.getElem?_eq_none hl] at h
   cases h
 rw [k.block gT hlt hM]
 exact h
theorem Tab.lt {w : World} (h : Tab w) : gT < w.heap.size := by
 unfold Tab Lib.TabIs World.var? at h
 simp only [gPow, Option.bind_some] at h
 rcases Nat.lt_or_ge gT w.heap.size with hl | hl
 ·exact hl
 ·rw [Array.getElem?_eq_none hl] at h
  cases h
theorem mod_grow (w : World) (k : Nat) (os : Array Obj) : Mod [] w (Sort.grow (w.drewN k) os) := by
 have h := Lib.below_grow w.heap.size w (Nat.le_refl _) k os
 exact ⟨h.os, h.tape, h.output, h.size, fun i hi _ => h.block i hi⟩
theorem c_itoa (w : World) (n : Int) (h0 : -9223372036854775808 ≤ n) (h1 : n ≤ 9223372036854775807) (hT : Tab w) : Calls Tryz.prog 109 [.int .i64 n].toArray w (Ret fun u w' => u = S (Lib.itoa n) ∧ Mod [] w w') :=
 (Tryz.strconv_Itoa n h0 h1 w hT).mono fun e w' he => by
  obtain ⟨rfl, k, os, rfl⟩ := he
  exact ⟨rfl, mod_grow w k os⟩
end Go.Proofs.YtknndpjacklkeaaGreatDoor.V

set_option linter.unusedVariables false
set_option linter.unusedSimpArgs false
set_option maxRecDepth 10000
namespace Go.Proofs.YtknndpjacklkeaaGreatDoor.V
open Go Go.Proofs
theorem ent109 : Ent Tryz.prog 109 := Ent.of Tryz.func109 (by kernel_rfl) (by kernel_rfl)
end Go.Proofs.YtknndpjacklkeaaGreatDoor.V

set_option linter.unusedVariables false
set_option linter.unusedSimpArgs false
namespace Go.Proofs.YtknndpjacklkeaaGreatDoor.V
open Go
structure Sig3 where
 srv : Str
 key : Str
 sig : Str
abbrev Sig3.cells (s : Sig3) : List Value := [S s.srv, S s.key, S s.sig]
structure EV where
 room : Str
 snd : Str
 ty : Str
 st : Bool
 key : Str
 con : JV
 prev : List Str
 auth : List Str
 dep : Int
 time : Int
 hash : Str
 sigs : List Sig3
namespace EV
def D (e : EV) : List Go.Proofs.YtknndpjacklkeaaGreatDoor.V.D := [.v (S e.room), .v (S e.snd), .v (S e.ty), .v (.bool e.st), .v (S e.key)] ++ (e.con.D ++ [strD e.prev, strD e.auth, .v (.int .i64 e.dep), .v (.int .i64 e.time), .v (S e.hash), flat 3 Sig3.cells e.sigs])
theorem D_len (e : EV) : e.D.length = 17 := by simp [D, JV.D_len]
theorem cells_ {A : List Nat} {w : World} {e : EV} {us : List Value} (R : Reps A w e.D us) : ∃ cs ap cp aa ca aS cS, us = [S e.room, S e.snd, S e.ty, .bool e.st, S e.key] ++ (cs ++ [.slice ap e.prev.length cp, .slice aa e.auth.length ca, .int .i64 e.dep, .int .i64 e.time, S e.hash, .slice aS e.sigs.length cS]) ∧
  Reps A w e.con.D cs ∧ Rep A w (strD e.prev) (.slice ap e.prev.length cp) ∧ Rep A w (strD e.auth) (.slice aa e.auth.length ca) ∧ Rep A w (flat 3 Sig3.cells e.sigs) (.slice aS e.sigs.length cS) := by
 unfold D at R
 obtain ⟨h1, h2⟩ := R.cut
 simp only [List.length_cons, List.length_nil] at h1 h2
 obtain ⟨h3, h4⟩ := h2.cut
 have hus : us = us.take (0 + 1 + 1 + 1 + 1 + 1) ++ ((us.drop (0 + 1 + 1 + 1 + 1 + 1)).take e.con.D.length ++ (us.drop (0 + 1 + 1 + 1 + 1 + 1)).drop e.con.D.length) := by rw [List.take_append_drop, List.take_append_drop]
 obtain ⟨_, _, e1, g1, h1⟩ := h1
 obtain ⟨_, _, rfl, g2, h1⟩ := h1
 obtain ⟨_, _, rfl, g3, h1⟩ := h1
 obtain ⟨_, _, rfl, g4, h1⟩ := h1
 obtain ⟨_, _, rfl, g5, h1⟩ := h1
 obtain rfl := h1
 obtain ⟨_, _, e2, k1, h4⟩ := h4
 obtain ⟨_, _, rfl, k2, h4⟩ := h4
 obtain ⟨_, _, rfl, k3, h4⟩ := h4
 obtain ⟨_, _, rfl, k4, h4⟩ := h4
 obtain ⟨_, _, rfl, k5, h4⟩ := h4
 obtain ⟨_, _, rfl, k6, h4⟩ := h4
 obtain rfl := h4
 obtain rfl := g1.v_eq; obtain rfl := g2.v_eq; obtain rfl := g3.v_eq; obtain rfl := g4.v_eq; obtain rfl := g5.v_eq
 obtain rfl := k3.v_eq; obtain rfl := k4.v_eq; obtain rfl := k5.v_eq
 obtain ⟨ap, cp, rfl, _⟩ := flat_len k1
 obtain ⟨aa, ca, rfl, _⟩ := flat_len k2
 obtain ⟨aS, cS, rfl, _⟩ := flat_len k6
 rw [e1, e2] at hus
 exact ⟨_, ap, cp, aa, ca, aS, cS, hus, h3, k1, k2, k6⟩
theorem at_ {A : List Nat} {w : World} {es : List EV} {e : EV} {ad : Option Addr} {n c i : Nat} (R : Rep A w (.sl 17 (es.map EV.D)) (.slice ad n c)) (h : es[i]? = some e) : ∃ a us, ad = some a ∧ Reps A w e.D us ∧ Cs w (a.add (i * 17)) us := by
 obtain ⟨a, us, h1, h2, _, h3, _⟩ := Rep.at_ (i := i) (r := e.D) R (by simp [h])
 exact ⟨a, us, h1, h2, h3⟩
def ok (e : EV) : Prop := e.room.length ≤ 140737488351232 ∧ e.snd.length ≤ 140737488351232 ∧ e.ty.length ≤ 140737488351232 ∧ e.key.length ≤ 140737488351232 ∧ e.con.ok ∧ (∀ s ∈ e.prev, s.length ≤ 140737488351232) ∧ e.prev.length ≤ 140737488351232 ∧ (∀ s ∈ e.auth, s.length ≤ 140737488351232) ∧ e.auth.length ≤ 140737488351232 ∧ e.hash.length ≤ 140737488351232 ∧ (∀ s ∈ e.sigs, s.srv.length ≤ 140737488351232 ∧ s.key.length ≤ 140737488351232 ∧ s.sig.length ≤ 140737488351232) ∧ e.sigs.length ≤ 140737488351232
end EV
def addW : List Nat → Nat → Nat → Nat
 | [], n, _ => n
 | x :: r, n, most => if n ≤ most then addW r (n + x) most else n
namespace EV
def n0 (e : EV) : Nat := e.room.length + e.snd.length + e.ty.length + e.key.length + e.hash.length + e.prev.length + e.auth.length + e.sigs.length
def n1 (e : EV) (most : Nat) : Nat := addW (e.prev.map List.length) e.n0 most
def n2 (e : EV) (most : Nat) : Nat := addW (e.auth.map List.length) (e.n1 most) most
def n3 (e : EV) (most : Nat) : Nat := addW (e.sigs.map fun s => s.srv.length + s.key.length + s.sig.length) (e.n2 most) most
def great (e : EV) (most : Nat) : Bool := decide (e.n3 most > most) || decide (e.con.weigh ((most : Int) - e.n3 most) 60 < 0)
end EV
end Go.Proofs.YtknndpjacklkeaaGreatDoor.V

set_option linter.unusedVariables false
set_option linter.unusedSimpArgs false
set_option maxRecDepth 10000
namespace Go.Proofs.YtknndpjacklkeaaGreatDoor.V
open Go Go.Proofs

end Go.Proofs.YtknndpjacklkeaaGreatDoor.V

set_option linter.unusedVariables false
set_option linter.unusedSimpArgs false
set_option maxRecDepth 10000
namespace Go.Proofs.YtknndpjacklkeaaGreatDoor.V
open Go Go.Proofs
theorem ent201 : Ent Tryz.prog 201 := Ent.of Tryz.func201 (by kernel_rfl) (by kernel_rfl)
theorem ent177 : Ent Tryz.prog 177 := Ent.of Tryz.func177 (by kernel_rfl) (by kernel_rfl)
theorem c_short (w : World) (c : Nat) (hc : c ≤ 1114111) : Calls Tryz.prog 188 [.int .i32 (c : Int)].toArray w (Ret fun u w' => u = .int .u8 (shq c : Int) ∧ Mod [] w w') := by
 refine enter Tryz.func188 rfl rfl rfl (l := [(0, _)]) ⟨rfl, trivial⟩ ?_
 have E := Mod.refl [] w
 refine Cq fun K1 hK1 => Cr (Za rfl (Ln (e_K (hK1 _ _ _ _ (Cq fun K2 hK2 => Cq fun K3 hK3 => Cr (Zm rfl (Ln (e_K (hK3 _ _ _ _ (cB (Cq fun K4 hK4 => Cq fun K5 hK5 => ?_)))))))))))
 refine Cr (Sv (oE rfl rfl) ?_)
 refine bD (fun hs2_0 : (c : Int) = 34 => ?_) (fun hs2_0 => ?_)
 ·refine Za rfl (Ln (e_K (hK5 _ _ _ _ (c_true rfl (cK (e_K (hK4 _ _ _ _ (c_true rfl (Cq fun K6 hK6 => Cr (Zm rfl (Sv (o_convE (r := (c : Int)) Tryz.underlying21 Tryz.underlying5 rfl (wrapu8_in _ (by omega))) (Za rfl (Ln (e_K (hK6 _ _ _ _ ?_)))))))))))))))
  exact cR (eI (by simp) (eT (by simp) (ret1 rfl rfl ⟨congrArg (Value.int .u8) (show (c : Int) = ((shq c : Nat) : Int) by unfold shq; by_cases h34 : c = 34; (rw [if_pos h34, h34]); rw [if_neg h34, if_pos (by omega)]; omega), E⟩)))
 ·refine Za rfl (Ln (e_K (hK5 _ _ _ _ (c_false rfl (Cr (Sv (oE rfl rfl) ?_))))))
  refine bD (fun hs3_0 : (c : Int) = 92 => ?_) (fun hs3_0 => ?_)
  ·exact Za rfl (Ln (e_K (hK4 _ _ _ _ (c_true rfl (Cq fun K7 hK7 => Cr (Zm rfl (Sv (o_convE (r := (c : Int)) Tryz.underlying21 Tryz.underlying5 rfl (wrapu8_in _ (by omega))) (Za rfl (Ln (e_K (hK7 _ _ _ _ (cR (eI (by simp) (eT (by simp) (ret1 rfl rfl ⟨congrArg (Value.int .u8) (show (c : Int) = ((shq c : Nat) : Int) by unfold shq; by_cases h34 : c = 34; (rw [if_pos h34, h34]); rw [if_neg h34, if_pos (by omega)]; omega), E⟩)))))))))))))))
  ·refine Za rfl (Ln (e_K (hK4 _ _ _ _ (c_false rfl (Cq fun K8 hK8 => Cr (tW 2 rfl (Ln (e_K (hK8 _ _ _ _ ?_)))))))))
   refine c_if rfl (fun h9 => ?_) (fun h9 => ?_)
   ·exact Cq fun K9 hK9 => Cr (Za rfl (Ln (e_K (hK9 _ _ _ _ (cR (eI (by simp) (eT (by simp) (ret1 rfl rfl ⟨congrArg (Value.int .u8) (show (_ : Int) = ((shq c : Nat) : Int) by unfold shq; rw [if_neg (by omega), if_neg (by omega), if_pos (by omega)]; rfl), E⟩))))))))
   ·refine Cq fun K10 hK10 => Cr (tW 2 rfl (Ln (e_K (hK10 _ _ _ _ ?_))))
    refine c_if rfl (fun h11 => ?_) (fun h11 => ?_)
    ·exact Cq fun K11 hK11 => Cr (Za rfl (Ln (e_K (hK11 _ _ _ _ (cR (eI (by simp) (eT (by simp) (ret1 rfl rfl ⟨congrArg (Value.int .u8) (show (_ : Int) = ((shq c : Nat) : Int) by unfold shq; rw [if_neg (by omega), if_neg (by omega), if_neg (by omega), if_pos (by omega)]; rfl), E⟩))))))))
    ·refine Cq fun K12 hK12 => Cr (tW 2 rfl (Ln (e_K (hK12 _ _ _ _ ?_))))
     refine c_if rfl (fun h13 => ?_) (fun h13 => ?_)
     ·exact Cq fun K13 hK13 => Cr (Za rfl (Ln (e_K (hK13 _ _ _ _ (cR (eI (by simp) (eT (by simp) (ret1 rfl rfl ⟨congrArg (Value.int .u8) (show (_ : Int) = ((shq c : Nat) : Int) by unfold shq; rw [if_neg (by omega), if_neg (by omega), if_neg (by omega), if_neg (by omega), if_pos (by omega)]; rfl), E⟩))))))))
     ·refine Cq fun K14 hK14 => Cr (tW 2 rfl (Ln (e_K (hK14 _ _ _ _ ?_))))
      refine c_if rfl (fun h15 => ?_) (fun h15 => ?_)
      ·exact Cq fun K15 hK15 => Cr (Za rfl (Ln (e_K (hK15 _ _ _ _ (cR (eI (by simp) (eT (by simp) (ret1 rfl rfl ⟨congrArg (Value.int .u8) (show (_ : Int) = ((shq c : Nat) : Int) by unfold shq; rw [if_neg (by omega), if_neg (by omega), if_neg (by omega), if_neg (by omega), if_neg (by omega), if_pos (by omega)]; rfl), E⟩))))))))
      ·refine Cq fun K16 hK16 => Cr (tW 2 rfl (Ln (e_K (hK16 _ _ _ _ ?_))))
       refine c_if rfl (fun h17 => ?_) (fun h17 => ?_)
       ·exact Cq fun K17 hK17 => Cr (Za rfl (Ln (e_K (hK17 _ _ _ _ (cR (eI (by simp) (eT (by simp) (ret1 rfl rfl ⟨congrArg (Value.int .u8) (show (_ : Int) = ((shq c : Nat) : Int) by unfold shq; rw [if_neg (by omega), if_neg (by omega), if_neg (by omega), if_neg (by omega), if_neg (by omega), if_neg (by omega), if_pos (by omega)]; rfl), E⟩))))))))
       ·exact cK (eI (by simp) (e_K (hK2 _ _ _ _ (Cq fun K18 hK18 => Cr (Za rfl (Ln (e_K (hK18 _ _ _ _ (cR (ret1 rfl rfl ⟨congrArg (Value.int .u8) (show (_ : Int) = ((shq c : Nat) : Int) by unfold shq; rw [if_neg (by omega), if_neg (by omega), if_neg (by omega), if_neg (by omega), if_neg (by omega), if_neg (by omega), if_neg (by omega)]; rfl), E⟩))))))))))

theorem c_hpl (w : World) (s p : Str) : Calls Tryz.prog 201 [S s, S p].toArray w (Ret fun u w' => u = .bool (decide (p.length ≤ s.length ∧ s.take p.length = p)) ∧ Mod [] w w') := by
 refine enter Tryz.func201 rfl rfl rfl (l := [(0, _), (1, _)]) ⟨rfl, rfl, trivial⟩ ?_
 have E := Mod.refl [] w
 refine Cq fun K1 hK1 => Cr (Za rfl (Ln (e_K (hK1 _ _ _ _ (Cq fun K2 hK2 => Cr (Zm rfl (Sv (o_slen Tryz.underlying9 rfl) (Zm rfl (Sv (o_slen Tryz.underlying9 rfl) (Sv (o_geq rfl rfl) ?_))))))))))
 refine bD (fun hs1_0 : (s.length : Int) ≥ (p.length : Int) => ?_) (fun hs1_0 => ?_)
 ·exact tW 3 rfl (Sg rfl rfl (o_slen Tryz.underlying9 rfl) (Sg rfl rfl (o_ssto Tryz.underlying9 rfl rfl (by omega)) (Sg rfl rfl (oM rfl) (Sg rfl rfl (o_seq rfl rfl) (tW 2 rfl (Ln (e_K (hK2 _ _ _ _ (cR (ret1 rfl rfl ⟨by rw [decide_eq_decide.2 (show s.take p.length = p ↔ p.length ≤ s.length ∧ s.take p.length = p from ⟨fun h => ⟨by omega, h⟩, fun h => h.2⟩)], E⟩))))))))))
 ·exact tW 9 rfl (Ln (e_K (hK2 _ _ _ _ (cR (ret1 rfl rfl ⟨by rw [dF (fun h => by omega)], E⟩)))))

theorem c_hpre (w : World) (s p : Str) : Calls Tryz.prog 177 [S s, S p].toArray w (Ret fun u w' => u = .bool (decide (p.length ≤ s.length ∧ s.take p.length = p)) ∧ Mod [] w w') := by
 refine enter Tryz.func177 rfl rfl rfl (l := [(0, _), (1, _)]) ⟨rfl, rfl, trivial⟩ ?_
 have E := Mod.refl [] w
 refine Cq fun K1 hK1 => Cr (Za rfl (Ln (e_K (hK1 _ _ _ _ (Cq fun K2 hK2 => Cr (tW 2 rfl (sc (oC ent201 rfl) (c_hpl _ _ _) rfl fun v_ w1 h_ => ?_)))))))
 obtain ⟨rfl, E_⟩ := h_
 replace E := E.then E_
 exact Za rfl (Ln (e_K (hK2 _ _ _ _ (cR (ret1 rfl rfl ⟨rfl, E⟩)))))

theorem c_qvalid (w : World) (s : Str) : Calls Tryz.prog 166 [S s].toArray w (Ret fun u w' => u = .bool (validR s) ∧ Mod [] w w') := by
 refine enter Tryz.func166 rfl rfl rfl (l := [(0, _)]) ⟨rfl, trivial⟩ ?_
 have E := Mod.refl [] w
 refine Cq fun K1 hK1 => Cr (Za rfl (Ln (e_K (hK1 _ _ _ _ (Cq fun K2 hK2 => Cq fun K3 hK3 => Cr (Zm rfl (s_range Tryz.underlying9 rfl rfl fun gi w1 IT hgi EI => ?_)))))))
 have Lgi : w.heap.size ≤ gi := by have := E.size; omega
 replace E := E.then EI
 refine Ln (e_K (hK3 _ _ _ _ (cB (c_loop (σ := Nat) (fun p => [(0, S s), (6, .pointer (some ⟨gi, 0, none⟩))]) (fun p w1 => p ≤ s.length ∧ validR s = validR (s.drop p) ∧ It w1 gi s p ∧ w.heap.size ≤ gi ∧ Mod [] w w1) (fun p => s.length - p) (0) ⟨rfl, rfl, trivial⟩ (⟨by omega, rfl, IT, Lgi, E⟩) ?_))))
 rintro p w2 ⟨hp, hv, IT, Lgi, E⟩
 refine Cq fun K4 hK4 => ?_
 by_cases hplt : p < s.length
 ·have hne := dec_at hplt
  have hle := runeR_le (s.drop p)
  have hdl : (s.drop p).length = s.length - p := List.length_drop ..
  by_cases hz : (runeR (s.drop p)).2 = 0
  ·skip
   refine Cr (s_next rfl IT hplt (dec_bad hplt hz) rfl fun w3 IT2 EN hzN => ?_)
   replace E := E.trans' EN (fun x hx => .inr (by simp at hx; subst hx; exact Lgi))
   clear IT
   have IT := IT2
   refine Sv (o_ext rfl rfl) (Ln (e_K (hK4 _ _ _ _ (Cq fun K5 hK5 => ?_))))
   refine c_cond rfl (fun h8 => ?_) (fun h8 => ?_)
   ·skip
    refine cK (e_K (hK5 _ _ _ _ (cB (Cq fun K6 hK6 => Cr (tW 4 rfl (Ln (e_K (hK6 _ _ _ _ (Cq fun K7 hK7 => Cr (tW 2 rfl (bE (dT rfl) (tW 3 rfl (Sg rfl rfl (o_ssfrom Tryz.underlying9 rfl rfl hp) ?_)))))))))))))
    refine sgc rfl rfl (oC ent177 rfl) (c_hpre _ (s.drop p) [239, 191, 189]) rfl fun v_ w4 h_ => ?_
    obtain ⟨rfl, E_⟩ := h_
    replace IT := IT.mod0 E_
    replace E := E.then E_
    refine tW 2 rfl (Ln (e_K (hK7 _ _ _ _ ?_)))
    refine c_cond rfl (fun h19 => ?_) (fun h19 => ?_)
    ·have hR : validR s = false := hv.trans (validR_no hne hz)
     exact Cq fun K8 hK8 => Cr (Za rfl (Ln (e_K (hK8 _ _ _ _ (cR (eI (by simp) (eT (by simp) (eI (by simp) (eT (by simp) (ret1 rfl rfl ⟨by rw [hR], E⟩))))))))))
    ·exact absurd (by simpa using h19) (no_pre hz)
   ·cases h8
  ·skip
   refine Cr (s_next rfl IT hplt (dec_ok hplt hz) rfl fun w5 IT2 EN hzN => ?_)
   replace E := E.trans' EN (fun x hx => .inr (by simp at hx; subst hx; exact Lgi))
   clear IT
   have IT := IT2
   refine Sv (o_ext rfl rfl) (Ln (e_K (hK4 _ _ _ _ (Cq fun K9 hK9 => ?_))))
   refine c_cond rfl (fun h8 => ?_) (fun h8 => ?_)
   ·skip
    refine cK (e_K (hK9 _ _ _ _ (cB (Cq fun K10 hK10 => Cr (tW 4 rfl (Ln (e_K (hK10 _ _ _ _ (Cq fun K11 hK11 => Cr (tW 2 rfl ?_))))))))))
    refine bD (fun hs4_0 : ((runeR (s.drop p)).1 : Int) = 65533 => ?_) (fun hs4_0 => ?_)
    ·skip
     refine tW 3 rfl (Sg rfl rfl (o_ssfrom Tryz.underlying9 rfl rfl hp) (sgc rfl rfl (oC ent177 rfl) (c_hpre _ (s.drop p) [239, 191, 189]) rfl fun v_ w6 h_ => ?_))
     obtain ⟨rfl, E_⟩ := h_
     replace IT := IT.mod0 E_
     replace E := E.then E_
     refine tW 2 rfl (Ln (e_K (hK11 _ _ _ _ ?_)))
     refine c_cond rfl (fun h19 => ?_) (fun h19 => ?_)
     ·rw [dT (show ([239, 191, 189] : Str).length ≤ (s.drop p).length ∧ (s.drop p).take ([239, 191, 189] : Str).length = [239, 191, 189] from is_pre hne hz (by omega))] at h19
      cases h19
     ·skip
      exact cK (eI (by simp) (eR (σ := Nat) (s := p) (p + (runeR (s.drop p)).2) ⟨rfl, rfl, trivial⟩ ⟨by omega, by rw [hv, validR_go hne hz, List.drop_drop], IT, Lgi, E⟩ (by omega)))
    ·skip
     refine tW 7 rfl (Ln (e_K (hK11 _ _ _ _ (c_false rfl ?_))))
     skip
     exact cK (eI (by simp) (eR (σ := Nat) (s := p) (p + (runeR (s.drop p)).2) ⟨rfl, rfl, trivial⟩ ⟨by omega, by rw [hv, validR_go hne hz, List.drop_drop], IT, Lgi, E⟩ (by omega)))
   ·cases h8
 ·have hs_end := hplt
  refine Cr (s_next_end rfl IT hs_end rfl (Sv (o_ext rfl rfl) (Ln (e_K (hK4 _ _ _ _ (Cq fun K12 hK12 => ?_))))))
  refine c_cond rfl (fun h8 => ?_) (fun h8 => ?_)
  ·cases h8
  ·have hR : validR s = true := by rw [hv, List.drop_eq_nil_of_le (by omega), validR_nil]
   exact c_exit (eT (by simp) (eT (by simp) (e_hit (e_K (hK2 _ _ _ _ (Cq fun K13 hK13 => Cr (Za rfl (Ln (e_K (hK13 _ _ _ _ (cR (ret1 rfl rfl ⟨by rw [hR], E⟩))))))))))))
end Go.Proofs.YtknndpjacklkeaaGreatDoor.V

set_option linter.unusedVariables false
set_option linter.unusedSimpArgs false
set_option maxRecDepth 10000
namespace Go.Proofs.YtknndpjacklkeaaGreatDoor.V
open Go Go.Proofs
theorem ent225 : Ent Tryz.prog 225 := Ent.of Tryz.func225 (by kernel_rfl) (by kernel_rfl)
theorem c_aprn (w : World) (v : Value) (b : Str) (c : Nat) (O : OwB w v b) (h1 : c ≤ 1114111) (h2 : ¬ (55296 ≤ c ∧ c ≤ 57343)) (hb : b.length ≤ 1000000) (h0 : 128 ≤ c) : Calls Tryz.prog 225 [v, .int .i32 (c : Int)].toArray w (Ret fun u w' => OwB w' u (b ++ encB c) ∧ (∀ x ∈ ob u, x ∈ ob v ∨ w.heap.size ≤ x) ∧ Mod (ob v) w w') := by
 refine enter Tryz.func225 rfl rfl rfl (l := [(0, _), (1, _)]) ⟨rfl, rfl, trivial⟩ ?_
 have E := Mod.refl [] w
 refine Cq fun K1 hK1 => Cr (Za rfl (Ln (e_K (hK1 _ _ _ _ (Cq fun K2 hK2 => Cr (Zm rfl (Sv (o_cu32 Tryz.underlying21 Tryz.underlying147 rfl h1) (Za rfl (Ln (e_K (hK2 _ _ _ _ (cB (Cq fun K3 hK3 => ?_)))))))))))))
 refine Cr (tW 3 rfl (Ln (e_K (hK3 _ _ _ _ ?_))))
 refine c_if rfl (fun h11 => ?_) (fun h11 => ?_)
 ·refine Cq fun K4 hK4 => Cr (tW 2 rfl (Sv (o_shE 6 64 rfl rfl (by decide) (by decide)) (Sv (o_cv8 Tryz.underlying21 Tryz.underlying5 rfl) (Sv (o_o192 rfl rfl (by omega)) (Zm rfl (Sv (o_cv8 Tryz.underlying21 Tryz.underlying5 rfl) (Sv (o_a63 rfl rfl) (Sv (o_o128 rfl rfl) (s_bslice (cs := [_, _]) sl74 zv5 rfl rfl rfl (by decide) rfl fun g1 w1 N1 => ?_)))))))))
  have Lg1_E := N1.le E
  have Da0_g1 := N1.own_ne O
  replace E := E.then N1.mod
  replace O := O.mod0 N1.mod
  have Bg1 := N1.blk
  exact s_append sl74 rfl rfl O (Src.own Tryz.underlying74 (Own.all (c := 2) (cs := [_, _]) Bg1 rfl (by omega)) (by simp [Value.oneCell'])) (by decide) (by omega) (by omega) rfl fun u1 w2 AA => Za rfl (Ln (e_K (hK4 _ _ _ _ (cR (eI (by simp) (ret1 rfl rfl ⟨own_enc h1 AA.own (by rw [show encL c = [192 + c / 64, 128 + c % 64] by unfold encL; rw [if_neg (by omega), if_pos (by omega)]]; rfl) (by rw [show encL c = [192 + c / 64, 128 + c % 64] by unfold encL; rw [if_neg (by omega), if_pos (by omega)]]; rfl), fun x hx => (AA.ob_ x hx).imp id (Nat.le_trans E.size), (E.mono (by simp)).trans AA.mod⟩))))))
 ·refine Cq fun K5 hK5 => Cq fun K6 hK6 => Cr (tW 2 rfl ?_)
  refine bD (fun hs5_0 : (c : Int) < 55296 => ?_) (fun hs5_0 => ?_)
  ·refine Za rfl (Ln (e_K (hK6 _ _ _ _ (c_true rfl (cK (e_K (hK5 _ _ _ _ (c_true rfl (Cq fun K7 hK7 => Cr (tW 2 rfl (Sv (o_shE 12 4096 rfl rfl (by decide) (by decide)) (Sv (o_cv8 Tryz.underlying21 Tryz.underlying5 rfl) (Sv (o_o224 rfl rfl (by omega)) (Zm rfl ?_))))))))))))))
   refine Sv (o_shE 6 64 rfl rfl (by decide) (by decide)) (Sv (o_cv8 Tryz.underlying21 Tryz.underlying5 rfl) (Sv (o_a63 rfl rfl) (Sv (o_o128 rfl rfl) (Zm rfl (Sv (o_cv8 Tryz.underlying21 Tryz.underlying5 rfl) (Sv (o_a63 rfl rfl) (Sv (o_o128 rfl rfl) (s_bslice (cs := [_, _, _]) sl74 zv5 rfl rfl rfl (by decide) rfl fun g2 w3 N2 => ?_))))))))
   have Lg2_E := N2.le E
   have Da0_g2 := N2.own_ne O
   replace E := E.then N2.mod
   replace O := O.mod0 N2.mod
   have Bg2 := N2.blk
   exact s_append sl74 rfl rfl O (Src.own Tryz.underlying74 (Own.all (c := 3) (cs := [_, _, _]) Bg2 rfl (by omega)) (by simp [Value.oneCell'])) (by decide) (by omega) (by omega) rfl fun u1 w4 AA => Za rfl (Ln (e_K (hK7 _ _ _ _ (cR (eI (by simp) (ret1 rfl rfl ⟨own_enc h1 AA.own (by rw [show encL c = [224 + c / 4096, 128 + c / 64 % 64, 128 + c % 64] by unfold encL; rw [if_neg (by omega), if_neg (by omega), if_pos (by omega)]]; rfl) (by rw [show encL c = [224 + c / 4096, 128 + c / 64 % 64, 128 + c % 64] by unfold encL; rw [if_neg (by omega), if_neg (by omega), if_pos (by omega)]]; rfl), fun x hx => (AA.ob_ x hx).imp id (Nat.le_trans E.size), (E.mono (by simp)).trans AA.mod⟩))))))
  ·refine Za rfl (Ln (e_K (hK6 _ _ _ _ (c_false rfl (Cr (tW 2 rfl (bE (dT (show (57343 : Int) < (c : Int) by omega)) (tW 5 rfl (Ln (e_K (hK5 _ _ _ _ ?_)))))))))))
   refine c_if rfl (fun h25 => ?_) (fun h25 => ?_)
   ·refine Cq fun K8 hK8 => Cr (tW 2 rfl (Sv (o_shE 12 4096 rfl rfl (by decide) (by decide)) (Sv (o_cv8 Tryz.underlying21 Tryz.underlying5 rfl) (Sv (o_o224 rfl rfl (by omega)) (Zm rfl (Sv (o_shE 6 64 rfl rfl (by decide) (by decide)) (Sv (o_cv8 Tryz.underlying21 Tryz.underlying5 rfl) (Sv (o_a63 rfl rfl) (Sv (o_o128 rfl rfl) (Zm rfl (Sv (o_cv8 Tryz.underlying21 Tryz.underlying5 rfl) (Sv (o_a63 rfl rfl) ?_))))))))))))
    refine Sv (o_o128 rfl rfl) (s_bslice (cs := [_, _, _]) sl74 zv5 rfl rfl rfl (by decide) rfl fun g3 w5 N3 => ?_)
    have Lg3_E := N3.le E
    have Da0_g3 := N3.own_ne O
    replace E := E.then N3.mod
    replace O := O.mod0 N3.mod
    have Bg3 := N3.blk
    exact s_append sl74 rfl rfl O (Src.own Tryz.underlying74 (Own.all (c := 3) (cs := [_, _, _]) Bg3 rfl (by omega)) (by simp [Value.oneCell'])) (by decide) (by omega) (by omega) rfl fun u1 w6 AA => Za rfl (Ln (e_K (hK8 _ _ _ _ (cR (eI (by simp) (ret1 rfl rfl ⟨own_enc h1 AA.own (by rw [show encL c = [224 + c / 4096, 128 + c / 64 % 64, 128 + c % 64] by unfold encL; rw [if_neg (by omega), if_neg (by omega), if_pos (by omega)]]; rfl) (by rw [show encL c = [224 + c / 4096, 128 + c / 64 % 64, 128 + c % 64] by unfold encL; rw [if_neg (by omega), if_neg (by omega), if_pos (by omega)]]; rfl), fun x hx => (AA.ob_ x hx).imp id (Nat.le_trans E.size), (E.mono (by simp)).trans AA.mod⟩))))))
   ·refine Cq fun K9 hK9 => Cr (tW 2 rfl (bE (dT (show (65535 : Int) < (c : Int) by omega)) (tW 5 rfl (Ln (e_K (hK9 _ _ _ _ ?_))))))
    refine c_if rfl (fun h50 => ?_) (fun h50 => ?_)
    ·refine Cq fun K10 hK10 => Cr (tW 2 rfl (Sv (o_shE 18 262144 rfl rfl (by decide) (by decide)) (Sv (o_cv8 Tryz.underlying21 Tryz.underlying5 rfl) (Sv (o_o240 rfl rfl (by omega)) (Zm rfl (Sv (o_shE 12 4096 rfl rfl (by decide) (by decide)) (Sv (o_cv8 Tryz.underlying21 Tryz.underlying5 rfl) (Sv (o_a63 rfl rfl) (Sv (o_o128 rfl rfl) (Zm rfl (Sv (o_shE 6 64 rfl rfl (by decide) (by decide)) (Sv (o_cv8 Tryz.underlying21 Tryz.underlying5 rfl) ?_))))))))))))
     refine Sv (o_a63 rfl rfl) (Sv (o_o128 rfl rfl) (Zm rfl (Sv (o_cv8 Tryz.underlying21 Tryz.underlying5 rfl) (Sv (o_a63 rfl rfl) (Sv (o_o128 rfl rfl) (s_bslice (cs := [_, _, _, _]) sl74 zv5 rfl rfl rfl (by decide) rfl fun g4 w7 N4 => ?_))))))
     have Lg4_E := N4.le E
     have Da0_g4 := N4.own_ne O
     replace E := E.then N4.mod
     replace O := O.mod0 N4.mod
     have Bg4 := N4.blk
     exact s_append sl74 rfl rfl O (Src.own Tryz.underlying74 (Own.all (c := 4) (cs := [_, _, _, _]) Bg4 rfl (by omega)) (by simp [Value.oneCell'])) (by decide) (by omega) (by omega) rfl fun u1 w8 AA => Za rfl (Ln (e_K (hK10 _ _ _ _ (cR (eI (by simp) (ret1 rfl rfl ⟨own_enc h1 AA.own (by rw [show encL c = [240 + c / 262144, 128 + c / 4096 % 64, 128 + c / 64 % 64, 128 + c % 64] by unfold encL; rw [if_neg (by omega), if_neg (by omega), if_neg (by omega)]]; rfl) (by rw [show encL c = [240 + c / 262144, 128 + c / 4096 % 64, 128 + c / 64 % 64, 128 + c % 64] by unfold encL; rw [if_neg (by omega), if_neg (by omega), if_neg (by omega)]]; rfl), fun x hx => (AA.ob_ x hx).imp id (Nat.le_trans E.size), (E.mono (by simp)).trans AA.mod⟩))))))
    ·exact absurd (show (c : Int) ≤ 1114111 by omega) h50

theorem c_apr (w : World) (v : Value) (b : Str) (c : Nat) (O : OwB w v b) (h1 : c ≤ 1114111) (h2 : ¬ (55296 ≤ c ∧ c ≤ 57343)) (hb : b.length ≤ 1000000) : Calls Tryz.prog 189 [v, .int .i32 (c : Int)].toArray w (Ret fun u w' => OwB w' u (b ++ encB c) ∧ (∀ x ∈ ob u, x ∈ ob v ∨ w.heap.size ≤ x) ∧ Mod (ob v) w w') := by
 refine enter Tryz.func189 rfl rfl rfl (l := [(0, _), (1, _)]) ⟨rfl, rfl, trivial⟩ ?_
 have E := Mod.refl [] w
 refine Cq fun K1 hK1 => Cr (Za rfl (Ln (e_K (hK1 _ _ _ _ (Cq fun K2 hK2 => Cq fun K3 hK3 => Cr (Zm rfl (Sv (o_cu32 Tryz.underlying21 Tryz.underlying147 rfl h1) (Sv (o_leq rfl rfl) (Ln (e_K (hK3 _ _ _ _ ?_)))))))))))
 refine c_if rfl (fun h7 => ?_) (fun h7 => ?_)
 ·refine Cq fun K4 hK4 => Cr (tW 2 rfl (Sv (o_cv8 Tryz.underlying21 Tryz.underlying5 rfl) (s_bslice (cs := [_]) sl74 zv5 rfl rfl rfl (by decide) rfl fun g1 w1 N1 => ?_)))
  have Lg1_E := N1.le E
  have Da0_g1 := N1.own_ne O
  replace E := E.then N1.mod
  replace O := O.mod0 N1.mod
  have Bg1 := N1.blk
  exact s_append sl74 rfl rfl O (Src.own Tryz.underlying74 (Own.all (c := 1) (cs := [_]) Bg1 rfl (by omega)) (by simp [Value.oneCell'])) (by decide) (by omega) (by omega) rfl fun u1 w2 AA => Za rfl (Ln (e_K (hK4 _ _ _ _ (cR (eT (by simp) (ret1 rfl rfl ⟨own_enc h1 AA.own (by rw [show encL c = [c] by unfold encL; rw [if_pos (by omega)]]; rfl) (by rw [show encL c = [c] by unfold encL; rw [if_pos (by omega)], show c % 256 = c by omega]; rfl), fun x hx => (AA.ob_ x hx).imp id (Nat.le_trans E.size), (E.mono (by simp)).trans AA.mod⟩))))))
 ·refine cK (e_K (hK2 _ _ _ _ (Cq fun K5 hK5 => Cr (tW 2 rfl (sc (oC ent225 rfl) (c_aprn _ v b c O h1 h2 hb (by omega)) rfl fun v_ w3 h_ => ?_)))))
  obtain ⟨hO1, hob1, hm1⟩ := h_
  exact Za rfl (Ln (e_K (hK5 _ _ _ _ (cR (ret1 rfl rfl ⟨hO1, fun x hx => (hob1 x hx).imp id (Nat.le_trans E.size), (E.mono (by simp)).trans hm1⟩)))))
end Go.Proofs.YtknndpjacklkeaaGreatDoor.V
