/-
  A part of the proof: members' rows as the library's sort sees them: rows of seven cells; the sorted row is the map; the members' sort: the shelf's contract, in the words of the own base; byKey walked. No condition of its own.
-/
import Derived.Test.YtknndpjacklkeaaGreatDoorM11
import Derived.Test.YtknndpjacklkeaaGreatDoorM4
import Derived.Test.YtknndpjacklkeaaGreatDoorM8
import Derived.Shelf.SlSortCmp.WholeK
import Derived.Test.YtknndpjacklkeaaGreatDoorM2
import Derived.Shelf.Strings.Trim
import Derived.Shelf.Small.Utf8
import Derived.Shelf.Small.Bits
import Derived.Shelf.Small.Strs
import Derived.Shelf.Small.Wraps
import Derived.Shelf.Utf8.AppendRune
import Derived.Shelf.Strconv.Atoi
import Derived.Shelf.Strconv.Itoa0
import Derived.Shelf.Strconv.Itoa1
import Derived.Shelf.LaysM
import Derived.Shelf.Strconv.Itoa2
import Derived.Shelf.Strconv.Itoa3
import Derived.Shelf.Strconv.AtoiErrFast
import Derived.Shelf.Strconv.ParseIntEmpty
import Derived.Shelf.Strconv.AtoiFail
import Derived.Shelf.Strconv.Clone
import Derived.Shelf.Strconv.SyntaxError
import Derived.Shelf.LaysC
import Derived.Shelf.Strconv.ToError
import Derived.Shelf.Strconv.Lower
import Derived.Shelf.Strconv.ParseUint10
import Derived.Shelf.Strconv.ParseUint10Empty
import Derived.Shelf.Strconv.ParseUint10Any
import Derived.Shelf.Strconv.ParseInt10
import Derived.Shelf.Strconv.AtoiLong
import Derived.Shelf.Strconv.AtoiInnerAll
import Derived.Shelf.Strconv.RangeError
import Derived.Shelf.Strconv.ToErrorRange
import Derived.Shelf.Strconv.AtoiAll
import Derived.Shelf.Strconv.ErrVarAll
import Derived.Shelf.Strings.Search1
import Derived.Shelf.Strings.Search2
import Derived.Shelf.Strings.Cut
import Derived.Shelf.Strings.Shaped
import Derived.Shelf.Strings.Prefix
import Derived.Shelf.Strings.Runes
import Derived.Shelf.Strings.AsciiSet
import Derived.Shelf.Unicode.DecodeSlow
import Derived.Shelf.Unicode.DecodeAny
import Derived.Shelf.Slices.Clone
import Derived.Shelf.SlGeneric
import Derived.Shelf.SlSortCmp.NoneTotal
set_option linter.unusedVariables false
set_option linter.unusedSimpArgs false
set_option maxRecDepth 10000
namespace Go.Proofs.YtknndpjacklkeaaGreatDoor.V
open Go Go.Proofs
theorem ifn168 : Tryz.prog.underlying 168 = some (.interface (Tryz.prog.methodsAt 168)) := by kernel_rfl
theorem ent151 : Ent Tryz.prog 151 := Ent.of Tryz.func151 (by kernel_rfl) (by kernel_rfl)
theorem ent179 : Ent Tryz.prog 179 := Ent.of Tryz.func179 (by kernel_rfl) (by kernel_rfl)
theorem ent22 : Ent Tryz.prog 22 := Ent.of Tryz.func22 (by kernel_rfl) (by kernel_rfl)
theorem c_number_ (w : World) (g : Nat) (s : Str) (k : Nat) (sk : Value) (B : Blk w g 67 [S s, .int .i64 (k : Int), sk]) (hs : s.length ≤ 65536) (hk : k ≤ s.length) (hE : Env w) (hg : gX < g) : Calls Tryz.prog 144 [.pointer (some ⟨g, 0, none⟩)].toArray w (PnP 110 [g] w (numA s k) (fun x u w' => ∃ us, u = .agg us.toArray ∧ (∀ (A : List Nat) (w : World), Reps A w x.1.D us) ∧ Blk w' g 67 [S s, .int .i64 (x.2 : Int), sk])) := by
 refine enter Tryz.func144 rfl rfl rfl (l := [(0, _)]) ⟨rfl, trivial⟩ ?_
 have E := Mod.refl [g] w
 refine Cq fun K1 hK1 => Cr (s_alloc zv25 rfl fun g1 w1 N1 => ?_)
 have Lg1_E := N1.le E
 have Dg_g1 := N1.ne B
 replace B := B.mod0 N1.mod
 replace E := E.then N1.mod
 have Bg1 := N1.blk
 refine Ln (e_K (hK1 _ _ _ _ (Cq fun K2 hK2 => ?_)))
 have hne : g1 ≠ g := Ne.symm Dg_g1
 have Lg1 := Lg1_E
 refine Cr (tW 2 rfl (Sv (oA0 fd67_1 rfl) (Sv (oL sc3 rfl (B.cell rfl)) (Za rfl (Ln (e_K (hK2 _ _ _ _ (Cq fun K3 hK3 => cB (c_loop (σ := Nat) (fun p => [(0, .pointer (some ⟨g, 0, none⟩)), (2, .pointer (some ⟨g1, 0, none⟩)), (3, .int .i64 (k : Int))]) (fun p w1 => (k ≤ p ∧ p ≤ s.length ∧ spanA isNm s p = spanA isNm s k) ∧ Blk w1 g1 25 [.int .i64 0, .bool false, .int .i64 0, S [], .slice none 0 0, .slice none 0 0] ∧ Blk w1 g 67 [S s, .int .i64 (p : Int), sk] ∧ Mod [g] w w1) (fun p => s.length - p) (k) ⟨rfl, rfl, rfl, trivial⟩ (⟨⟨Nat.le_refl _, hk, rfl⟩, Bg1, B, E⟩) ?_)))))))))
 rintro p w2 ⟨⟨hkp, hp, hsp⟩, Bg1, B, E⟩
 refine Cq fun K4 hK4 => Cq fun K5 hK5 => ?_
 by_cases hlt : (p : Int) < (s.length : Int)
 ·obtain ⟨c, hc⟩ : ∃ c, s[p]? = some c := ⟨_, List.getElem?_eq_getElem (by omega)⟩
  rcases hws : isNm c with _ | _
  ·refine c_draw wide (by kernel_rfl) (tU 2 rfl rfl (tv (fun w_ E_ => (oA0 fd67_1 rfl)) rfl rfl (tv (fun w_ E_ => (oL sc3 rfl ((B.mod0 E_).cell rfl))) rfl rfl (tU 2 rfl rfl (tv (fun w_ E_ => (oA0 fd67_0 rfl)) rfl rfl (tv (fun w_ E_ => (oL sc9 rfl ((B.mod0 E_).cell rfl))) rfl rfl (tv (fun w_ E_ => (o_slen Tryz.underlying9 rfl)) rfl rfl (tU 2 rfl rfl (tvg rfl (dT hlt) (fun w_ E_ => (oM rfl)) rfl rfl (tvg rfl (dT hlt) (fun w_ E_ => (o_nilc rfl)) rfl rfl (tvg rfl (dT hlt) (fun w_ E_ => (oA0 fd67_0 rfl)) rfl rfl (tvg rfl (dT hlt) (fun w_ E_ => (oL sc9 rfl ((B.mod0 E_).cell rfl))) rfl rfl (tvg rfl (dT hlt) (fun w_ E_ => (oM rfl)) rfl rfl ?_)))))))))))))
   refine tvg rfl (dT hlt) (fun w_ E_ => (o_nilc rfl)) rfl rfl (tvg rfl (dT hlt) (fun w_ E_ => (oA0 fd67_1 rfl)) rfl rfl (tvg rfl (dT hlt) (fun w_ E_ => (oL sc3 rfl ((B.mod0 E_).cell rfl))) rfl rfl (tvg rfl (dT hlt) (fun w_ E_ => (o_sidx Tryz.underlying9 rfl rfl (by omega) (by rw [Int.toNat_natCast]; exact hc))) rfl rfl (tcg rfl (dT hlt) (fun w_ E_ => oC ent100 rfl) (fun w_ E_ => c_ib _ [43, 45, 46, 48, 49, 50, 51, 52, 53, 54, 55, 56, 57, 69, 101] c) rfl rfl (tvg rfl (dT hlt) (fun w_ E_ => (o_geq rfl rfl)) rfl rfl (tv (fun w_ E_ => (oT (dT hlt) rfl rfl)) rfl rfl (tw_nil rfl fun w3 E_ => ?_)))))))
   replace B := B.mod0 E_
   replace Bg1 := Bg1.mod0 E_
   replace E := E.then E_
   refine e_K (hK5 _ _ _ _ (c_cond rfl (fun h33 => absurd (((ib_num c).trans hws).symm.trans h33) (by decide)) (fun h33 => ?_)))
   have hpe : p = spanA isNm s k := by
    rw [← hsp]
    first | exact (spanA_end (by omega)).symm | exact (spanA_stop hc hws).symm
   refine c_exit (eT (by simp) (eT (by simp) (e_hit (e_K (hK3 _ _ _ _ (Cq fun K6 hK6 => ?_))))))
   have hwl : ((s.drop k).take (spanA isNm s k - k)).length ≤ 1000000 := by rw [List.length_take, List.length_drop]; omega
   refine c_draw wide (by kernel_rfl) (tU 2 rfl rfl (tv (fun w_ E_ => (oA0 fd67_0 rfl)) rfl rfl (tv (fun w_ E_ => (oL sc9 rfl ((B.mod0 E_).cell rfl))) rfl rfl (tU 3 rfl rfl (tv (fun w_ E_ => (oA0 fd67_1 rfl)) rfl rfl (tv (fun w_ E_ => (oL sc3 rfl ((B.mod0 E_).cell rfl))) rfl rfl (tv (fun w_ E_ => ((o_ssl Tryz.underlying9 rfl rfl rfl (by simp only [loV, hiV]; omega)).to (v' := S ((s.drop k).take (spanA isNm s k - k))) (by simp only [loV, hiV, Int.toNat_natCast]; rw [hpe]))) rfl rfl (tv (fun w_ E_ => (o_as rfl)) rfl rfl (tw_nil rfl fun w4 E_ => ?_)))))))))
   replace B := B.mod0 E_
   replace Bg1 := Bg1.mod0 E_
   replace E := E.then E_
   refine e_K (hK6 _ _ _ _ (Cq fun K7 hK7 => Cr (Zm rfl (sc (oC ent151 rfl) (c_atoi _ ((s.drop k).take (spanA isNm s k - k)) hwl (hE.modg hg E).err) rfl fun v_ w5 h_ => ?_))))
   obtain ⟨n, er, rfl, hat, E_⟩ := h_
   replace B := B.mod0 E_
   replace Bg1 := Bg1.mod0 E_
   replace E := E.then E_
   refine tW 5 rfl (Ln (e_K (hK7 _ _ _ _ (Cq fun K8 hK8 => cB (Cq fun K9 hK9 => Cr (Zm rfl (sc (oC ent179 rfl) (c_right _ ((s.drop k).take (spanA isNm s k - k)) hwl) rfl fun v_ w6 h_ => ?_)))))))
   obtain ⟨rfl, E_⟩ := h_
   replace B := B.mod0 E_
   replace Bg1 := Bg1.mod0 E_
   replace E := E.then E_
   refine tW 2 rfl (Ln (e_K (hK9 _ _ _ _ ?_)))
   refine c_cond rfl (fun h56 => ?_) (fun h56 => ?_)
   ·have hrt : (wholeA ((s.drop k).take (spanA isNm s k - k))).1 = false := by simpa using h56
    refine Cr ?_
    refine scp (oC ent53 rfl) (c_fail _ 4) rfl (fun w_ h_ => h_.elim) (fun c_ w7 h_ => ?_) fun v_ w7 h_ => ?_
    ·obtain ⟨rfl, rfl⟩ := h_
     exact eI (by simp) (eT (by simp) (endp ⟨4, by unfold numA numW; rw [if_pos hrt]; rfl, by decide, rfl, E⟩))
    ·exact h_.elim
   ·have hrt : ¬ (wholeA ((s.drop k).take (spanA isNm s k - k))).1 = false := by simpa using h56
    refine Cq fun K10 hK10 => ?_
    by_cases hnil : er = .nilIface
    ·obtain hok : Lib.atoiAll ((s.drop k).take (spanA isNm s k - k)) = .ok n := hat.elim (·.1) (fun h => by obtain ⟨_, ⟨T_, p_, e⟩, _⟩ := h; rw [hnil] at e; cases e)
     obtain ⟨hb1, hb2⟩ := atoi_bound hok
     subst hnil
     by_cases hi0 : Lib.itoa n ≠ ((s.drop k).take (spanA isNm s k - k))
     ·refine Cr (Zm rfl (Sv ((o_nnn ifn168 rfl)) (tW 2 rfl (sgc rfl rfl (oC ent109 rfl) (c_itoa _ n hb1 hb2 (hE.modg hg E).tab) rfl fun v_ w8 h_ => ?_))))
      obtain ⟨rfl, E_⟩ := h_
      replace B := B.mod0 E_
      replace Bg1 := Bg1.mod0 E_
      replace E := E.then E_
      refine Sg rfl rfl (oM rfl) (Sg rfl rfl (o_sne rfl rfl) (tW 2 rfl (Sx rfl (dT hi0) (Sx rfl (dT hi0) (Sv (oT (dT hi0) rfl rfl) (tW 5 rfl (Ln (e_K (hK10 _ _ _ _ (c_true rfl ?_))))))))))
      have hnw : numW ((s.drop k).take (spanA isNm s k - k)) = .error 7 := by
       unfold numW
       rw [if_neg hrt]
       first | rw [numZ_no hno] | (rw [numZ_ok hok, if_neg (by rintro ⟨h1, h2, h3⟩; first | exact hi0 h1 | omega)])
      refine Cr ?_
      refine scp (oC ent53 rfl) (c_fail _ 7) rfl (fun w_ h_ => h_.elim) (fun c_ w9 h_ => ?_) fun v_ w9 h_ => ?_
      ·obtain ⟨rfl, rfl⟩ := h_
       exact eI (by simp) (eT (by simp) (endp ⟨7, by unfold numA; rw [hnw]; rfl, by decide, rfl, E⟩))
      ·exact h_.elim
     ·by_cases hi1 : n > 9007199254740991
      ·refine Cr (Zm rfl (Sv ((o_nnn ifn168 rfl)) (tW 2 rfl (sgc rfl rfl (oC ent109 rfl) (c_itoa _ n hb1 hb2 (hE.modg hg E).tab) rfl fun v_ w10 h_ => ?_))))
       obtain ⟨rfl, E_⟩ := h_
       replace B := B.mod0 E_
       replace Bg1 := Bg1.mod0 E_
       replace E := E.then E_
       refine Sg rfl rfl (oM rfl) (Sg rfl rfl (o_sne rfl rfl) (tW 2 rfl (Sg rfl (dF hi0) (oM rfl) (Sg rfl (dF hi0) (o_gtr rfl rfl) (Sv (oF (dF hi0) rfl rfl) (Zm rfl (Sx rfl (dT hi1) (Sx rfl (dT hi1) (Sv (oT (dT hi1) rfl rfl) (Za rfl (Ln (e_K (hK10 _ _ _ _ (c_true rfl ?_))))))))))))))
       have hnw : numW ((s.drop k).take (spanA isNm s k - k)) = .error 7 := by
        unfold numW
        rw [if_neg hrt]
        first | rw [numZ_no hno] | (rw [numZ_ok hok, if_neg (by rintro ⟨h1, h2, h3⟩; first | exact hi0 h1 | omega)])
       refine Cr ?_
       refine scp (oC ent53 rfl) (c_fail _ 7) rfl (fun w_ h_ => h_.elim) (fun c_ w11 h_ => ?_) fun v_ w11 h_ => ?_
       ·obtain ⟨rfl, rfl⟩ := h_
        exact eI (by simp) (eT (by simp) (endp ⟨7, by unfold numA; rw [hnw]; rfl, by decide, rfl, E⟩))
       ·exact h_.elim
      ·by_cases hi2 : n < -9007199254740991
       ·refine Cr (Zm rfl (Sv ((o_nnn ifn168 rfl)) (tW 2 rfl (sgc rfl rfl (oC ent109 rfl) (c_itoa _ n hb1 hb2 (hE.modg hg E).tab) rfl fun v_ w12 h_ => ?_))))
        obtain ⟨rfl, E_⟩ := h_
        replace B := B.mod0 E_
        replace Bg1 := Bg1.mod0 E_
        replace E := E.then E_
        refine Sg rfl rfl (oM rfl) (Sg rfl rfl (o_sne rfl rfl) (tW 2 rfl (Sg rfl (dF hi0) (oM rfl) (Sg rfl (dF hi0) (o_gtr rfl rfl) (Sv (oF (dF hi0) rfl rfl) (Zm rfl (Sg rfl (dF hi1) (oM rfl) (Sg rfl (dF hi1) (o_lss rfl rfl) (Sv (oF (dF hi1) rfl rfl) (Za rfl (Ln (e_K (hK10 _ _ _ _ ?_)))))))))))))
        refine c_if rfl (fun h61 => ?_) (fun h61 => absurd hi2 h61)
        have hnw : numW ((s.drop k).take (spanA isNm s k - k)) = .error 7 := by
         unfold numW
         rw [if_neg hrt]
         first | rw [numZ_no hno] | (rw [numZ_ok hok, if_neg (by rintro ⟨h1, h2, h3⟩; first | exact hi0 h1 | omega)])
        refine Cr ?_
        refine scp (oC ent53 rfl) (c_fail _ 7) rfl (fun w_ h_ => h_.elim) (fun c_ w13 h_ => ?_) fun v_ w13 h_ => ?_
        ·obtain ⟨rfl, rfl⟩ := h_
         exact eI (by simp) (eT (by simp) (endp ⟨7, by unfold numA; rw [hnw]; rfl, by decide, rfl, E⟩))
        ·exact h_.elim
       ·refine Cr (Zm rfl (Sv ((o_nnn ifn168 rfl)) (tW 2 rfl (sgc rfl rfl (oC ent109 rfl) (c_itoa _ n hb1 hb2 (hE.modg hg E).tab) rfl fun v_ w14 h_ => ?_))))
        obtain ⟨rfl, E_⟩ := h_
        replace B := B.mod0 E_
        replace Bg1 := Bg1.mod0 E_
        replace E := E.then E_
        refine Sg rfl rfl (oM rfl) (Sg rfl rfl (o_sne rfl rfl) (tW 2 rfl (Sg rfl (dF hi0) (oM rfl) (Sg rfl (dF hi0) (o_gtr rfl rfl) (Sv (oF (dF hi0) rfl rfl) (Zm rfl (Sg rfl (dF hi1) (oM rfl) (Sg rfl (dF hi1) (o_lss rfl rfl) (Sv (oF (dF hi1) rfl rfl) (Za rfl (Ln (e_K (hK10 _ _ _ _ (c_if rfl (fun h61 => absurd h61 hi2) (fun h61 => ?_)))))))))))))))
        have hnw : numW ((s.drop k).take (spanA isNm s k - k)) = .ok n := by
         unfold numW
         rw [if_neg hrt, numZ_ok hok, if_pos ⟨Classical.not_not.1 hi0, by omega, by omega⟩]
        refine cK (eI (by simp) (e_K (hK8 _ _ _ _ (Cq fun K11 hK11 => Cr (Zm rfl (sc (oC ent20 rfl) (c_jnum _ n) rfl fun v_ w15 h_ => ?_))))))
        obtain ⟨rfl, E_⟩ := h_
        replace B := B.mod0 E_
        replace Bg1 := Bg1.mod0 E_
        replace E := E.then E_
        refine s_sta (vs := [_, _, _, _, _, _]) ag25 Bg1 rfl rfl rfl (by simp [Value.oneCell']) (by simp) fun w16 P16 => ?_
        replace B := B.ne P16.mod (Ne.symm hne)
        replace E := E.own P16.mod Lg1
        replace Bg1 : Blk w16 g1 _ [_, _, _, _, _, _] := P16.blk
        exact Ln (e_K (hK11 _ _ _ _ (cR (retcR (vs := [_, _, _, _, _, _]) rfl ag25 rfl rfl (Bg1.cs rfl) ⟨(JV.numV n, spanA isNm s k), by unfold numA; rw [hnw]; rfl, ⟨_, rfl, fun A w => JV.num_reps, by rw [← hpe]; exact B⟩, E⟩))))
    ·obtain ⟨hno, ⟨T_, p_, rfl⟩, _⟩ := hat.resolve_left (fun h => hnil h.2)
     refine Cr (Zm rfl (Sv ((o_nnf ifn168 rfl)) (tW 15 rfl (Ln (e_K (hK10 _ _ _ _ (c_true rfl ?_)))))))
     have hnw : numW ((s.drop k).take (spanA isNm s k - k)) = .error 7 := by
      unfold numW
      rw [if_neg hrt]
      first | rw [numZ_no hno] | (rw [numZ_ok hok, if_neg (by rintro ⟨h1, h2, h3⟩; first | exact hi0 h1 | omega)])
     refine Cr ?_
     refine scp (oC ent53 rfl) (c_fail _ 7) rfl (fun w_ h_ => h_.elim) (fun c_ w17 h_ => ?_) fun v_ w17 h_ => ?_
     ·obtain ⟨rfl, rfl⟩ := h_
      exact eI (by simp) (eT (by simp) (endp ⟨7, by unfold numA; rw [hnw]; rfl, by decide, rfl, E⟩))
     ·exact h_.elim
  ·refine c_draw wide (by kernel_rfl) (tU 2 rfl rfl (tv (fun w_ E_ => (oA0 fd67_1 rfl)) rfl rfl (tv (fun w_ E_ => (oL sc3 rfl ((B.mod0 E_).cell rfl))) rfl rfl (tU 2 rfl rfl (tv (fun w_ E_ => (oA0 fd67_0 rfl)) rfl rfl (tv (fun w_ E_ => (oL sc9 rfl ((B.mod0 E_).cell rfl))) rfl rfl (tv (fun w_ E_ => (o_slen Tryz.underlying9 rfl)) rfl rfl (tU 2 rfl rfl (tvg rfl (dT hlt) (fun w_ E_ => (oM rfl)) rfl rfl (tvg rfl (dT hlt) (fun w_ E_ => (o_nilc rfl)) rfl rfl (tvg rfl (dT hlt) (fun w_ E_ => (oA0 fd67_0 rfl)) rfl rfl (tvg rfl (dT hlt) (fun w_ E_ => (oL sc9 rfl ((B.mod0 E_).cell rfl))) rfl rfl (tvg rfl (dT hlt) (fun w_ E_ => (oM rfl)) rfl rfl ?_)))))))))))))
   refine tvg rfl (dT hlt) (fun w_ E_ => (o_nilc rfl)) rfl rfl (tvg rfl (dT hlt) (fun w_ E_ => (oA0 fd67_1 rfl)) rfl rfl (tvg rfl (dT hlt) (fun w_ E_ => (oL sc3 rfl ((B.mod0 E_).cell rfl))) rfl rfl (tvg rfl (dT hlt) (fun w_ E_ => (o_sidx Tryz.underlying9 rfl rfl (by omega) (by rw [Int.toNat_natCast]; exact hc))) rfl rfl (tcg rfl (dT hlt) (fun w_ E_ => oC ent100 rfl) (fun w_ E_ => c_ib _ [43, 45, 46, 48, 49, 50, 51, 52, 53, 54, 55, 56, 57, 69, 101] c) rfl rfl (tvg rfl (dT hlt) (fun w_ E_ => (o_geq rfl rfl)) rfl rfl (tv (fun w_ E_ => (oT (dT hlt) rfl rfl)) rfl rfl (tw_nil rfl fun w18 E_ => ?_)))))))
   replace B := B.mod0 E_
   replace Bg1 := Bg1.mod0 E_
   replace E := E.then E_
   refine e_K (hK5 _ _ _ _ ?_)
   refine c_cond rfl (fun h33 => ?_) (fun h33 => absurd (((ib_num c).trans hws).symm.trans h33) (by decide))
   skip
   refine cK (e_K (hK4 _ _ _ _ (cB (Cr (tW 2 rfl (Sv (oA0 fd67_1 rfl) (Sv (oL sc3 rfl (B.cell rfl)) (Sv (o_addE (r := ((p + 1 : Nat) : Int)) rfl rfl (by rw [wrap64_in _ (by omega)]; omega)) (Sv (o_nilc rfl) (Sv (oA0 fd67_1 rfl) (s_st sc3 B rfl rfl rfl (by simp) fun w19 P19 => ?_)))))))))))
   replace Bg1 := Bg1.ne P19.mod hne
   replace E := E.trans P19.mod
   replace B : Blk w19 g _ [_, _, _] := P19.blk
   exact Ln (eI (by simp) (eR (σ := Nat) (s := p) (p + 1) ⟨rfl, rfl, rfl, trivial⟩ ⟨⟨by omega, by omega, by rw [spanA_go hc hws]; exact hsp⟩, Bg1, B, E⟩ (by omega)))
 ·refine c_draw wide (by kernel_rfl) (tU 2 rfl rfl (tv (fun w_ E_ => (oA0 fd67_1 rfl)) rfl rfl (tv (fun w_ E_ => (oL sc3 rfl ((B.mod0 E_).cell rfl))) rfl rfl (tU 2 rfl rfl (tv (fun w_ E_ => (oA0 fd67_0 rfl)) rfl rfl (tv (fun w_ E_ => (oL sc9 rfl ((B.mod0 E_).cell rfl))) rfl rfl (tv (fun w_ E_ => (o_slen Tryz.underlying9 rfl)) rfl rfl (tU 2 rfl rfl (Tx rfl (dF hlt) (Tx rfl (dF hlt) (Tx rfl (dF hlt) (Tx rfl (dF hlt) (Tx rfl (dF hlt) ?_)))))))))))))
  refine Tx rfl (dF hlt) (Tx rfl (dF hlt) (Tx rfl (dF hlt) (Tx rfl (dF hlt) (Tx rfl (dF hlt) (Tx rfl (dF hlt) (tv (fun w_ E_ => (oF (dF hlt) rfl rfl)) rfl rfl (tw_nil rfl fun w20 E_ => ?_)))))))
  replace B := B.mod0 E_
  replace Bg1 := Bg1.mod0 E_
  replace E := E.then E_
  refine e_K (hK5 _ _ _ _ (c_false rfl ?_))
  have hpe : p = spanA isNm s k := by
   rw [← hsp]
   first | exact (spanA_end (by omega)).symm | exact (spanA_stop hc hws).symm
  refine c_exit (eT (by simp) (eT (by simp) (e_hit (e_K (hK3 _ _ _ _ (Cq fun K12 hK12 => ?_))))))
  have hwl : ((s.drop k).take (spanA isNm s k - k)).length ≤ 1000000 := by rw [List.length_take, List.length_drop]; omega
  refine c_draw wide (by kernel_rfl) (tU 2 rfl rfl (tv (fun w_ E_ => (oA0 fd67_0 rfl)) rfl rfl (tv (fun w_ E_ => (oL sc9 rfl ((B.mod0 E_).cell rfl))) rfl rfl (tU 3 rfl rfl (tv (fun w_ E_ => (oA0 fd67_1 rfl)) rfl rfl (tv (fun w_ E_ => (oL sc3 rfl ((B.mod0 E_).cell rfl))) rfl rfl (tv (fun w_ E_ => ((o_ssl Tryz.underlying9 rfl rfl rfl (by simp only [loV, hiV]; omega)).to (v' := S ((s.drop k).take (spanA isNm s k - k))) (by simp only [loV, hiV, Int.toNat_natCast]; rw [hpe]))) rfl rfl (tv (fun w_ E_ => (o_as rfl)) rfl rfl (tw_nil rfl fun w21 E_ => ?_)))))))))
  replace B := B.mod0 E_
  replace Bg1 := Bg1.mod0 E_
  replace E := E.then E_
  refine e_K (hK12 _ _ _ _ (Cq fun K13 hK13 => Cr (Zm rfl (sc (oC ent151 rfl) (c_atoi _ ((s.drop k).take (spanA isNm s k - k)) hwl (hE.modg hg E).err) rfl fun v_ w22 h_ => ?_))))
  obtain ⟨n, er, rfl, hat, E_⟩ := h_
  replace B := B.mod0 E_
  replace Bg1 := Bg1.mod0 E_
  replace E := E.then E_
  refine tW 5 rfl (Ln (e_K (hK13 _ _ _ _ (Cq fun K14 hK14 => cB (Cq fun K15 hK15 => Cr (Zm rfl (sc (oC ent179 rfl) (c_right _ ((s.drop k).take (spanA isNm s k - k)) hwl) rfl fun v_ w23 h_ => ?_)))))))
  obtain ⟨rfl, E_⟩ := h_
  replace B := B.mod0 E_
  replace Bg1 := Bg1.mod0 E_
  replace E := E.then E_
  refine tW 2 rfl (Ln (e_K (hK15 _ _ _ _ ?_)))
  refine c_cond rfl (fun h56 => ?_) (fun h56 => ?_)
  ·have hrt : (wholeA ((s.drop k).take (spanA isNm s k - k))).1 = false := by simpa using h56
   refine Cr ?_
   refine scp (oC ent53 rfl) (c_fail _ 4) rfl (fun w_ h_ => h_.elim) (fun c_ w24 h_ => ?_) fun v_ w24 h_ => ?_
   ·obtain ⟨rfl, rfl⟩ := h_
    exact eI (by simp) (eT (by simp) (endp ⟨4, by unfold numA numW; rw [if_pos hrt]; rfl, by decide, rfl, E⟩))
   ·exact h_.elim
  ·have hrt : ¬ (wholeA ((s.drop k).take (spanA isNm s k - k))).1 = false := by simpa using h56
   refine Cq fun K16 hK16 => ?_
   by_cases hnil : er = .nilIface
   ·obtain hok : Lib.atoiAll ((s.drop k).take (spanA isNm s k - k)) = .ok n := hat.elim (·.1) (fun h => by obtain ⟨_, ⟨T_, p_, e⟩, _⟩ := h; rw [hnil] at e; cases e)
    obtain ⟨hb1, hb2⟩ := atoi_bound hok
    subst hnil
    by_cases hi0 : Lib.itoa n ≠ ((s.drop k).take (spanA isNm s k - k))
    ·refine Cr (Zm rfl (Sv ((o_nnn ifn168 rfl)) (tW 2 rfl (sgc rfl rfl (oC ent109 rfl) (c_itoa _ n hb1 hb2 (hE.modg hg E).tab) rfl fun v_ w25 h_ => ?_))))
     obtain ⟨rfl, E_⟩ := h_
     replace B := B.mod0 E_
     replace Bg1 := Bg1.mod0 E_
     replace E := E.then E_
     refine Sg rfl rfl (oM rfl) (Sg rfl rfl (o_sne rfl rfl) (tW 2 rfl (Sx rfl (dT hi0) (Sx rfl (dT hi0) (Sv (oT (dT hi0) rfl rfl) (tW 5 rfl (Ln (e_K (hK16 _ _ _ _ (c_true rfl ?_))))))))))
     have hnw : numW ((s.drop k).take (spanA isNm s k - k)) = .error 7 := by
      unfold numW
      rw [if_neg hrt]
      first | rw [numZ_no hno] | (rw [numZ_ok hok, if_neg (by rintro ⟨h1, h2, h3⟩; first | exact hi0 h1 | omega)])
     refine Cr ?_
     refine scp (oC ent53 rfl) (c_fail _ 7) rfl (fun w_ h_ => h_.elim) (fun c_ w26 h_ => ?_) fun v_ w26 h_ => ?_
     ·obtain ⟨rfl, rfl⟩ := h_
      exact eI (by simp) (eT (by simp) (endp ⟨7, by unfold numA; rw [hnw]; rfl, by decide, rfl, E⟩))
     ·exact h_.elim
    ·by_cases hi1 : n > 9007199254740991
     ·refine Cr (Zm rfl (Sv ((o_nnn ifn168 rfl)) (tW 2 rfl (sgc rfl rfl (oC ent109 rfl) (c_itoa _ n hb1 hb2 (hE.modg hg E).tab) rfl fun v_ w27 h_ => ?_))))
      obtain ⟨rfl, E_⟩ := h_
      replace B := B.mod0 E_
      replace Bg1 := Bg1.mod0 E_
      replace E := E.then E_
      refine Sg rfl rfl (oM rfl) (Sg rfl rfl (o_sne rfl rfl) (tW 2 rfl (Sg rfl (dF hi0) (oM rfl) (Sg rfl (dF hi0) (o_gtr rfl rfl) (Sv (oF (dF hi0) rfl rfl) (Zm rfl (Sx rfl (dT hi1) (Sx rfl (dT hi1) (Sv (oT (dT hi1) rfl rfl) (Za rfl (Ln (e_K (hK16 _ _ _ _ (c_true rfl ?_))))))))))))))
      have hnw : numW ((s.drop k).take (spanA isNm s k - k)) = .error 7 := by
       unfold numW
       rw [if_neg hrt]
       first | rw [numZ_no hno] | (rw [numZ_ok hok, if_neg (by rintro ⟨h1, h2, h3⟩; first | exact hi0 h1 | omega)])
      refine Cr ?_
      refine scp (oC ent53 rfl) (c_fail _ 7) rfl (fun w_ h_ => h_.elim) (fun c_ w28 h_ => ?_) fun v_ w28 h_ => ?_
      ·obtain ⟨rfl, rfl⟩ := h_
       exact eI (by simp) (eT (by simp) (endp ⟨7, by unfold numA; rw [hnw]; rfl, by decide, rfl, E⟩))
      ·exact h_.elim
     ·by_cases hi2 : n < -9007199254740991
      ·refine Cr (Zm rfl (Sv ((o_nnn ifn168 rfl)) (tW 2 rfl (sgc rfl rfl (oC ent109 rfl) (c_itoa _ n hb1 hb2 (hE.modg hg E).tab) rfl fun v_ w29 h_ => ?_))))
       obtain ⟨rfl, E_⟩ := h_
       replace B := B.mod0 E_
       replace Bg1 := Bg1.mod0 E_
       replace E := E.then E_
       refine Sg rfl rfl (oM rfl) (Sg rfl rfl (o_sne rfl rfl) (tW 2 rfl (Sg rfl (dF hi0) (oM rfl) (Sg rfl (dF hi0) (o_gtr rfl rfl) (Sv (oF (dF hi0) rfl rfl) (Zm rfl (Sg rfl (dF hi1) (oM rfl) (Sg rfl (dF hi1) (o_lss rfl rfl) (Sv (oF (dF hi1) rfl rfl) (Za rfl (Ln (e_K (hK16 _ _ _ _ ?_)))))))))))))
       refine c_if rfl (fun h61 => ?_) (fun h61 => absurd hi2 h61)
       have hnw : numW ((s.drop k).take (spanA isNm s k - k)) = .error 7 := by
        unfold numW
        rw [if_neg hrt]
        first | rw [numZ_no hno] | (rw [numZ_ok hok, if_neg (by rintro ⟨h1, h2, h3⟩; first | exact hi0 h1 | omega)])
       refine Cr ?_
       refine scp (oC ent53 rfl) (c_fail _ 7) rfl (fun w_ h_ => h_.elim) (fun c_ w30 h_ => ?_) fun v_ w30 h_ => ?_
       ·obtain ⟨rfl, rfl⟩ := h_
        exact eI (by simp) (eT (by simp) (endp ⟨7, by unfold numA; rw [hnw]; rfl, by decide, rfl, E⟩))
       ·exact h_.elim
      ·refine Cr (Zm rfl (Sv ((o_nnn ifn168 rfl)) (tW 2 rfl (sgc rfl rfl (oC ent109 rfl) (c_itoa _ n hb1 hb2 (hE.modg hg E).tab) rfl fun v_ w31 h_ => ?_))))
       obtain ⟨rfl, E_⟩ := h_
       replace B := B.mod0 E_
       replace Bg1 := Bg1.mod0 E_
       replace E := E.then E_
       refine Sg rfl rfl (oM rfl) (Sg rfl rfl (o_sne rfl rfl) (tW 2 rfl (Sg rfl (dF hi0) (oM rfl) (Sg rfl (dF hi0) (o_gtr rfl rfl) (Sv (oF (dF hi0) rfl rfl) (Zm rfl (Sg rfl (dF hi1) (oM rfl) (Sg rfl (dF hi1) (o_lss rfl rfl) (Sv (oF (dF hi1) rfl rfl) (Za rfl (Ln (e_K (hK16 _ _ _ _ (c_if rfl (fun h61 => absurd h61 hi2) (fun h61 => ?_)))))))))))))))
       have hnw : numW ((s.drop k).take (spanA isNm s k - k)) = .ok n := by
        unfold numW
        rw [if_neg hrt, numZ_ok hok, if_pos ⟨Classical.not_not.1 hi0, by omega, by omega⟩]
       refine cK (eI (by simp) (e_K (hK14 _ _ _ _ (Cq fun K17 hK17 => Cr (Zm rfl (sc (oC ent20 rfl) (c_jnum _ n) rfl fun v_ w32 h_ => ?_))))))
       obtain ⟨rfl, E_⟩ := h_
       replace B := B.mod0 E_
       replace Bg1 := Bg1.mod0 E_
       replace E := E.then E_
       refine s_sta (vs := [_, _, _, _, _, _]) ag25 Bg1 rfl rfl rfl (by simp [Value.oneCell']) (by simp) fun w33 P33 => ?_
       replace B := B.ne P33.mod (Ne.symm hne)
       replace E := E.own P33.mod Lg1
       replace Bg1 : Blk w33 g1 _ [_, _, _, _, _, _] := P33.blk
       exact Ln (e_K (hK17 _ _ _ _ (cR (retcR (vs := [_, _, _, _, _, _]) rfl ag25 rfl rfl (Bg1.cs rfl) ⟨(JV.numV n, spanA isNm s k), by unfold numA; rw [hnw]; rfl, ⟨_, rfl, fun A w => JV.num_reps, by rw [← hpe]; exact B⟩, E⟩))))
   ·obtain ⟨hno, ⟨T_, p_, rfl⟩, _⟩ := hat.resolve_left (fun h => hnil h.2)
    refine Cr (Zm rfl (Sv ((o_nnf ifn168 rfl)) (tW 15 rfl (Ln (e_K (hK16 _ _ _ _ (c_true rfl ?_)))))))
    have hnw : numW ((s.drop k).take (spanA isNm s k - k)) = .error 7 := by
     unfold numW
     rw [if_neg hrt]
     first | rw [numZ_no hno] | (rw [numZ_ok hok, if_neg (by rintro ⟨h1, h2, h3⟩; first | exact hi0 h1 | omega)])
    refine Cr ?_
    refine scp (oC ent53 rfl) (c_fail _ 7) rfl (fun w_ h_ => h_.elim) (fun c_ w34 h_ => ?_) fun v_ w34 h_ => ?_
    ·obtain ⟨rfl, rfl⟩ := h_
     exact eI (by simp) (eT (by simp) (endp ⟨7, by unfold numA; rw [hnw]; rfl, by decide, rfl, E⟩))
    ·exact h_.elim

theorem c_jbool (w : World) (x : Bool) : Calls Tryz.prog 22 [.bool x].toArray w (Ret fun u w' => u = .agg #[.int .i64 1, .bool x, .int .i64 0, S [], .slice none 0 0, .slice none 0 0] ∧ Mod [] w w') := by
 refine enter Tryz.func22 rfl rfl rfl (l := [(0, _)]) ⟨rfl, trivial⟩ ?_
 have E := Mod.refl [] w
 refine Cq fun K1 hK1 => Cr (s_alloc zv25 rfl fun g1 w1 N1 => ?_)
 have Lg1_E := N1.le E
 replace E := E.then N1.mod
 have Bg1 := N1.blk
 refine Ln (e_K (hK1 _ _ _ _ (Cq fun K2 hK2 => Cr (Zm rfl (Sv (o_build (cs := [_, _, _, _, _, _]) pl25 zv25 rfl rfl) (s_sta (vs := [_, _, _, _, _, _]) ag25 Bg1 rfl rfl rfl (by simp [Value.oneCell']) (by simp) fun w2 P2 => ?_))))))
 replace E := E.own P2.mod Lg1_E
 replace Bg1 : Blk w2 g1 _ [_, _, _, _, _, _] := P2.blk
 exact Ln (e_K (hK2 _ _ _ _ (cR (retc (vs := [_, _, _, _, _, _]) rfl ag25 rfl rfl (Bg1.cs rfl) ⟨rfl, E⟩))))

def W3 : List Str := [JV.tNull, JV.tTrue, JV.tFalse]
def V3 : List JV := [JV.nul, .mk 1 true 0 [] [] [], .mk 1 false 0 [] [] []]
/-- the word that stands at a place -/
def wordA (s : Str) (k : Nat) : Option (JV × Nat) :=
 if hasA s k JV.tNull then some (JV.nul, k + 4) else if hasA s k JV.tTrue then some (.mk 1 true 0 [] [] [], k + 4) else if hasA s k JV.tFalse then some (.mk 1 false 0 [] [] [], k + 5) else none
theorem JV.bool_reps {A : List Nat} {w : World} {b : Bool} : Reps A w (JV.mk 1 b 0 [] [] []).D [.int .i64 1, .bool b, .int .i64 0, S [], .slice none 0 0, .slice none 0 0] :=
 JV.reps_ (A := A) (w := w) (v := .mk 1 b 0 [] [] []) (al := none) (am := none) (cl := 0) (cm := 0) Rep.sl_nil Rep.sl_nil
theorem has_pre (s x : Str) (k : Nat) : decide (x.length ≤ (s.drop k).length ∧ (s.drop k).take x.length = x) = hasA s k x := pre_dec x (s.drop k)

theorem c_word (w : World) (g : Nat) (s : Str) (k : Nat) (sk : Value) (B : Blk w g 67 [S s, .int .i64 (k : Int), sk]) (hs : s.length ≤ 65536) (hk : k ≤ s.length) : Calls Tryz.prog 141 [.pointer (some ⟨g, 0, none⟩)].toArray w (Ret fun u w' => ∃ us, u = .tuple #[.agg us.toArray, .bool (wordA s k).isSome] ∧ ((wordA s k).isSome = true → ∃ v q, wordA s k = some (v, q) ∧ (∀ (A : List Nat) (w : World), Reps A w v.D us) ∧ Blk w' g 67 [S s, .int .i64 (q : Int), sk]) ∧ ((wordA s k).isSome = false → wordA s k = none ∧ us = [.int .i64 0, .bool false, .int .i64 0, S [], .slice none 0 0, .slice none 0 0] ∧ Blk w' g 67 [S s, .int .i64 (k : Int), sk]) ∧ Mod [g] w w') := by
 refine enter Tryz.func141 rfl rfl rfl (l := [(0, _)]) ⟨rfl, trivial⟩ ?_
 have E := Mod.refl [g] w
 refine Cq fun K1 hK1 => Cr (s_alloc zv25 rfl fun g1 w1 N1 => ?_)
 have Lg1_E := N1.le E
 have Dg_g1 := N1.ne B
 replace B := B.mod0 N1.mod
 replace E := E.then N1.mod
 have Bg1 := N1.blk
 refine Za rfl (Ln (e_K (hK1 _ _ _ _ (Cq fun K2 hK2 => Cq fun K3 hK3 => ?_))))
 have hne : g1 ≠ g := Ne.symm Dg_g1
 have Lg1 := Lg1_E
 refine Cr (s_bslice (cs := [_, _, _]) sl45 zv9 rfl rfl rfl (by decide) rfl fun g2 w2 N2 => ?_)
 have Lg2_E := N2.le E
 have Dg_g2 := N2.ne B
 have Dg1_g2 := N2.ne Bg1
 replace B := B.mod0 N2.mod
 replace Bg1 := Bg1.mod0 N2.mod
 replace E := E.then N2.mod
 have Bg2 := N2.blk
 have hne2 : g2 ≠ g := Ne.symm Dg_g2
 have hne3 : g1 ≠ g2 := Dg1_g2
 have Lg2 := Lg2_E
 refine Sv (o_len Tryz.underlying45 rfl) (Zm rfl (Ln (e_K (hK3 _ _ _ _ (cB (c_loop (σ := Nat) (fun i => [(0, .pointer (some ⟨g, 0, none⟩)), (2, .pointer (some ⟨g1, 0, none⟩)), (6, .slice (some ⟨g2, 0, none⟩) 3 3), (7, .int .i64 3), (8, .int .i64 (i : Int))]) (fun i w1 => (i ≤ 3 ∧ ∀ (j : Nat) (y : Str), j < i → W3[j]? = some y → hasA s k y = false) ∧ Blk w1 g1 25 [.int .i64 0, .bool false, .int .i64 0, S [], .slice none 0 0, .slice none 0 0] ∧ Blk w1 g2 9 [S JV.tNull, S JV.tTrue, S JV.tFalse] ∧ Blk w1 g 67 [S s, .int .i64 (k : Int), sk] ∧ Mod [g] w w1) (fun i => 3 - i) (0) ⟨rfl, rfl, rfl, rfl, rfl, trivial⟩ (⟨⟨by omega, fun j y h => by omega⟩, Bg1, Bg2, B, E⟩) ?_))))))
 rintro i w3 ⟨⟨hi, hfs⟩, Bg1, Bg2, B, E⟩
 refine Cq fun K4 hK4 => Cr (Sv (o_lss rfl rfl) (Ln (e_K (hK4 _ _ _ _ (Cq fun K5 hK5 => ?_)))))
 refine c_if rfl (fun h9 => ?_) (fun h9 => ?_)
 ·obtain ⟨x, hx⟩ : ∃ x, W3[i]? = some x := ⟨_, List.getElem?_eq_getElem (show i < 3 by omega)⟩
  refine cK (e_K (hK5 _ _ _ _ (Cq fun K6 hK6 => cB (Cq fun K7 hK7 => Cr (Zm rfl (Sv (o_ix sl45 rfl rfl (by omega)) ?_))))))
  refine Sv (oL sc9 rfl (by rw [Int.toNat_natCast, Addr.add_lit, Nat.zero_add, Nat.mul_one]; exact Bg2.cell (v := S x) (by rw [show ([S JV.tNull, S JV.tTrue, S JV.tFalse] : List Value) = W3.map S from rfl, List.getElem?_map, hx]; rfl))) ?_
  refine tW 2 rfl (Ln (e_K (hK7 _ _ _ _ (Cq fun K8 hK8 => c_draw wide (by kernel_rfl) (tU 2 rfl rfl (tv (fun w_ E_ => (oA0 fd67_0 rfl)) rfl rfl (tv (fun w_ E_ => (oL sc9 rfl ((B.mod0 E_).cell rfl))) rfl rfl (tU 2 rfl rfl (tv (fun w_ E_ => (oA0 fd67_1 rfl)) rfl rfl (tv (fun w_ E_ => (oL sc3 rfl ((B.mod0 E_).cell rfl))) rfl rfl (tv (fun w_ E_ => (o_ssfrom Tryz.underlying9 rfl rfl hk)) rfl rfl (tv (fun w_ E_ => (oM rfl)) rfl rfl (tc (fun w_ E_ => oC ent177 rfl) (fun w_ E_ => c_hpre _ (s.drop k) x) rfl rfl ?_)))))))))))))
  refine tw_nil rfl fun w4 E_ => ?_
  replace B := B.mod0 E_
  replace Bg1 := Bg1.mod0 E_
  replace Bg2 := Bg2.mod0 E_
  replace E := E.then E_
  refine e_K (hK8 _ _ _ _ ?_)
  refine c_cond rfl (fun h23 => ?_) (fun h23 => ?_)
  ·rw [has_pre] at h23
   have hh : hasA s k x = true := h23
   have hln := hasA_len hh (by intro e; subst e; have := (List.mem_of_getElem? hx); simp [W3, JV.tNull, JV.tTrue, JV.tFalse] at this)
   refine Cq fun K9 hK9 => ?_
   by_cases hi0 : i = 0
   ·subst hi0
    obtain rfl : x = JV.tNull := by simpa [W3] using hx.symm
    refine Cr (tW 2 rfl (Sv (oA0 fd67_1 rfl) (Sv (oL sc3 rfl (B.cell rfl)) (Zm rfl (Sv (o_slen Tryz.underlying9 rfl) (Sv (o_addE (r := ((k + 4 : Nat) : Int)) rfl rfl (by rw [wrap64_in _ (by omega)]; first | rfl | (simp; done) | omega)) (Sv (o_nilc rfl) (Sv (oA0 fd67_1 rfl) (s_st sc3 B rfl rfl rfl (by simp) fun w5 P5 => ?_)))))))))
    replace Bg1 := Bg1.ne P5.mod hne
    replace Bg2 := Bg2.ne P5.mod hne2
    replace E := E.trans P5.mod
    replace B : Blk w5 g _ [_, _, _] := P5.blk
    refine Ln (e_K (hK9 _ _ _ _ (Cq fun K10 hK10 => Cr (Sv (o_build (cs := [_, _, _, _, _, _]) pl25 zv25 rfl rfl) (sc (oC ent22 rfl) (c_jbool _ true) rfl fun v_ w6 h_ => ?_)))))
    obtain ⟨rfl, E_⟩ := h_
    replace B := B.mod0 E_
    replace Bg1 := Bg1.mod0 E_
    replace Bg2 := Bg2.mod0 E_
    replace E := E.then E_
    refine sc (oC ent22 rfl) (c_jbool _ false) rfl fun v_ w7 h_ => ?_
    obtain ⟨rfl, E_⟩ := h_
    replace B := B.mod0 E_
    replace Bg1 := Bg1.mod0 E_
    replace Bg2 := Bg2.mod0 E_
    replace E := E.then E_
    refine s_bslice (cs := [_, _, _, _, _, _, _, _, _, _, _, _, _, _, _, _, _, _]) sl22 zv25 rfl rfl rfl (by decide) rfl fun g3 w8 N3 => ?_
    have Lg3_E := N3.le E
    have Dg_g3 := N3.ne B
    have Dg1_g3 := N3.ne Bg1
    have Dg2_g3 := N3.ne Bg2
    replace B := B.mod0 N3.mod
    replace Bg1 := Bg1.mod0 N3.mod
    replace Bg2 := Bg2.mod0 N3.mod
    replace E := E.then N3.mod
    have Bg3 := N3.blk
    refine Zm rfl (Sv (o_ix sl22 rfl rfl (by omega)) (Sv ((o_lda (vs := [_, _, _, _, _, _]) ag25 rfl rfl (Bg3.cs (o := 0) rfl))) (s_sta (vs := [_, _, _, _, _, _]) ag25 Bg1 rfl rfl rfl (by simp [Value.oneCell']) (by simp) fun w9 P9 => ?_)))
    replace B := B.ne P9.mod (Ne.symm hne)
    replace Bg2 := Bg2.ne P9.mod (Ne.symm hne3)
    replace Bg3 := Bg3.ne P9.mod (Ne.symm Dg1_g3)
    replace E := E.own P9.mod Lg1
    replace Bg1 : Blk w9 g1 _ [_, _, _, _, _, _] := P9.blk
    refine Za rfl (Ln (e_K (hK10 _ _ _ _ (cR (eI (by simp) (eT (by simp) (eT (by simp) (eI (by simp) (eT (by simp) ?_)))))))))
    have hwv : wordA s k = some (JV.nul, k + 4) := by unfold wordA; rw [if_pos hh]
    exact retct (vs := [_, _, _, _, _, _]) rfl ag25 rfl rfl (Bg1.cs rfl) rfl ⟨_, by rw [hwv]; rfl, ⟨fun _ => ⟨_, _, hwv, fun A w => JV.nul_reps, B⟩, fun h => (by rw [hwv] at h; cases h), E⟩⟩
   ·by_cases hi1 : i = 1
    ·subst hi1
     obtain rfl : x = JV.tTrue := by simpa [W3] using hx.symm
     refine Cr (tW 2 rfl (Sv (oA0 fd67_1 rfl) (Sv (oL sc3 rfl (B.cell rfl)) (Zm rfl (Sv (o_slen Tryz.underlying9 rfl) (Sv (o_addE (r := ((k + 4 : Nat) : Int)) rfl rfl (by rw [wrap64_in _ (by omega)]; first | rfl | (simp; done) | omega)) (Sv (o_nilc rfl) (Sv (oA0 fd67_1 rfl) (s_st sc3 B rfl rfl rfl (by simp) fun w10 P10 => ?_)))))))))
     replace Bg1 := Bg1.ne P10.mod hne
     replace Bg2 := Bg2.ne P10.mod hne2
     replace E := E.trans P10.mod
     replace B : Blk w10 g _ [_, _, _] := P10.blk
     refine Ln (e_K (hK9 _ _ _ _ (Cq fun K11 hK11 => Cr (Sv (o_build (cs := [_, _, _, _, _, _]) pl25 zv25 rfl rfl) (sc (oC ent22 rfl) (c_jbool _ true) rfl fun v_ w11 h_ => ?_)))))
     obtain ⟨rfl, E_⟩ := h_
     replace B := B.mod0 E_
     replace Bg1 := Bg1.mod0 E_
     replace Bg2 := Bg2.mod0 E_
     replace E := E.then E_
     refine sc (oC ent22 rfl) (c_jbool _ false) rfl fun v_ w12 h_ => ?_
     obtain ⟨rfl, E_⟩ := h_
     replace B := B.mod0 E_
     replace Bg1 := Bg1.mod0 E_
     replace Bg2 := Bg2.mod0 E_
     replace E := E.then E_
     refine s_bslice (cs := [_, _, _, _, _, _, _, _, _, _, _, _, _, _, _, _, _, _]) sl22 zv25 rfl rfl rfl (by decide) rfl fun g4 w13 N4 => ?_
     have Lg4_E := N4.le E
     have Dg_g4 := N4.ne B
     have Dg1_g4 := N4.ne Bg1
     have Dg2_g4 := N4.ne Bg2
     replace B := B.mod0 N4.mod
     replace Bg1 := Bg1.mod0 N4.mod
     replace Bg2 := Bg2.mod0 N4.mod
     replace E := E.then N4.mod
     have Bg4 := N4.blk
     refine Zm rfl (Sv (o_ix sl22 rfl rfl (by omega)) (Sv ((o_lda (vs := [_, _, _, _, _, _]) ag25 rfl rfl (Bg4.cs (o := 6) rfl))) (s_sta (vs := [_, _, _, _, _, _]) ag25 Bg1 rfl rfl rfl (by simp [Value.oneCell']) (by simp) fun w14 P14 => ?_)))
     replace B := B.ne P14.mod (Ne.symm hne)
     replace Bg2 := Bg2.ne P14.mod (Ne.symm hne3)
     replace Bg4 := Bg4.ne P14.mod (Ne.symm Dg1_g4)
     replace E := E.own P14.mod Lg1
     replace Bg1 : Blk w14 g1 _ [_, _, _, _, _, _] := P14.blk
     refine Za rfl (Ln (e_K (hK11 _ _ _ _ (cR (eI (by simp) (eT (by simp) (eT (by simp) (eI (by simp) (eT (by simp) ?_)))))))))
     have hwv : wordA s k = some (JV.mk 1 true 0 [] [] [], k + 4) := by unfold wordA; rw [if_neg (by rw [hfs 0 _ (by omega) rfl]; simp), if_pos hh]
     exact retct (vs := [_, _, _, _, _, _]) rfl ag25 rfl rfl (Bg1.cs rfl) rfl ⟨_, by rw [hwv]; rfl, ⟨fun _ => ⟨_, _, hwv, fun A w => JV.bool_reps, B⟩, fun h => (by rw [hwv] at h; cases h), E⟩⟩
    ·obtain rfl : i = 2 := by omega
     obtain rfl : x = JV.tFalse := by simpa [W3] using hx.symm
     refine Cr (tW 2 rfl (Sv (oA0 fd67_1 rfl) (Sv (oL sc3 rfl (B.cell rfl)) (Zm rfl (Sv (o_slen Tryz.underlying9 rfl) (Sv (o_addE (r := ((k + 5 : Nat) : Int)) rfl rfl (by rw [wrap64_in _ (by omega)]; first | rfl | (simp; done) | omega)) (Sv (o_nilc rfl) (Sv (oA0 fd67_1 rfl) (s_st sc3 B rfl rfl rfl (by simp) fun w15 P15 => ?_)))))))))
     replace Bg1 := Bg1.ne P15.mod hne
     replace Bg2 := Bg2.ne P15.mod hne2
     replace E := E.trans P15.mod
     replace B : Blk w15 g _ [_, _, _] := P15.blk
     refine Ln (e_K (hK9 _ _ _ _ (Cq fun K12 hK12 => Cr (Sv (o_build (cs := [_, _, _, _, _, _]) pl25 zv25 rfl rfl) (sc (oC ent22 rfl) (c_jbool _ true) rfl fun v_ w16 h_ => ?_)))))
     obtain ⟨rfl, E_⟩ := h_
     replace B := B.mod0 E_
     replace Bg1 := Bg1.mod0 E_
     replace Bg2 := Bg2.mod0 E_
     replace E := E.then E_
     refine sc (oC ent22 rfl) (c_jbool _ false) rfl fun v_ w17 h_ => ?_
     obtain ⟨rfl, E_⟩ := h_
     replace B := B.mod0 E_
     replace Bg1 := Bg1.mod0 E_
     replace Bg2 := Bg2.mod0 E_
     replace E := E.then E_
     refine s_bslice (cs := [_, _, _, _, _, _, _, _, _, _, _, _, _, _, _, _, _, _]) sl22 zv25 rfl rfl rfl (by decide) rfl fun g5 w18 N5 => ?_
     have Lg5_E := N5.le E
     have Dg_g5 := N5.ne B
     have Dg1_g5 := N5.ne Bg1
     have Dg2_g5 := N5.ne Bg2
     replace B := B.mod0 N5.mod
     replace Bg1 := Bg1.mod0 N5.mod
     replace Bg2 := Bg2.mod0 N5.mod
     replace E := E.then N5.mod
     have Bg5 := N5.blk
     refine Zm rfl (Sv (o_ix sl22 rfl rfl (by omega)) (Sv ((o_lda (vs := [_, _, _, _, _, _]) ag25 rfl rfl (Bg5.cs (o := 12) rfl))) (s_sta (vs := [_, _, _, _, _, _]) ag25 Bg1 rfl rfl rfl (by simp [Value.oneCell']) (by simp) fun w19 P19 => ?_)))
     replace B := B.ne P19.mod (Ne.symm hne)
     replace Bg2 := Bg2.ne P19.mod (Ne.symm hne3)
     replace Bg5 := Bg5.ne P19.mod (Ne.symm Dg1_g5)
     replace E := E.own P19.mod Lg1
     replace Bg1 : Blk w19 g1 _ [_, _, _, _, _, _] := P19.blk
     refine Za rfl (Ln (e_K (hK12 _ _ _ _ (cR (eI (by simp) (eT (by simp) (eT (by simp) (eI (by simp) (eT (by simp) ?_)))))))))
     have hwv : wordA s k = some (JV.mk 1 false 0 [] [] [], k + 5) := by unfold wordA; rw [if_neg (by rw [hfs 0 _ (by omega) rfl]; simp), if_neg (by rw [hfs 1 _ (by omega) rfl]; simp), if_pos hh]
     exact retct (vs := [_, _, _, _, _, _]) rfl ag25 rfl rfl (Bg1.cs rfl) rfl ⟨_, by rw [hwv]; rfl, ⟨fun _ => ⟨_, _, hwv, fun A w => JV.bool_reps, B⟩, fun h => (by rw [hwv] at h; cases h), E⟩⟩
  ·rw [has_pre] at h23
   have hh : hasA s k x = false := h23
   refine cK (eI (by simp) (e_K (hK6 _ _ _ _ (Cr (Sv (o_addN rfl rfl (by omega)) (Zm rfl (Ln ?_)))))))
   exact eR (σ := Nat) (s := i) (i + 1) ⟨rfl, rfl, rfl, rfl, rfl, trivial⟩ ⟨⟨by omega, fun j y h hy => by
    by_cases hj : j < i
    ·exact hfs j y hj hy
    ·obtain rfl : j = i := by omega
     rw [hx] at hy
     injection hy with hy
     subst hy
     exact hh⟩, Bg1, Bg2, B, E⟩ (by omega)
 ·obtain rfl : i = 3 := by omega
  have hwn : wordA s k = none := by unfold wordA; rw [if_neg (by rw [hfs 0 _ (by omega) rfl]; simp), if_neg (by rw [hfs 1 _ (by omega) rfl]; simp), if_neg (by rw [hfs 2 _ (by omega) rfl]; simp)]
  refine c_exit (eT (by simp) (eT (by simp) (e_hit (e_K (hK2 _ _ _ _ (Cq fun K13 hK13 => Cr (Sv (o_build (cs := [_, _, _, _, _, _]) pl25 zv25 rfl rfl) (s_sta (vs := [_, _, _, _, _, _]) ag25 Bg1 rfl rfl rfl (by simp [Value.oneCell']) (by simp) fun w20 P20 => ?_))))))))
  replace B := B.ne P20.mod (Ne.symm hne)
  replace Bg2 := Bg2.ne P20.mod (Ne.symm hne3)
  replace E := E.own P20.mod Lg1
  replace Bg1 : Blk w20 g1 _ [_, _, _, _, _, _] := P20.blk
  exact Za rfl (Ln (e_K (hK13 _ _ _ _ (cR (retct (vs := [_, _, _, _, _, _]) rfl ag25 rfl rfl (Bg1.cs rfl) rfl ⟨_, by rw [hwn]; rfl, ⟨fun h => (by rw [hwn] at h; cases h), fun _ => ⟨hwn, rfl, B⟩, E⟩⟩)))))
end Go.Proofs.YtknndpjacklkeaaGreatDoor.V

set_option linter.unusedVariables false
set_option linter.unusedSimpArgs false
namespace Go.Proofs.YtknndpjacklkeaaGreatDoor.V
open Go Go.Proofs Go.Sort
abbrev MRow := { x : (Str × JV) × List Value // x.2.length = 6 ∧ ∀ v ∈ x.2, v.oneCell' = true }
instance : Inhabited MRow := ⟨⟨(([], JV.nul), [.int .i64 0, .int .i64 0, .int .i64 0, .int .i64 0, .int .i64 0, .int .i64 0]), rfl, by decide⟩⟩
def MRow.key (x : MRow) : Str := x.1.1.1
def MRow.enc (x : MRow) : List Value := S x.key :: x.1.2
theorem MRow.enc_len (x : MRow) : x.enc.length = 7 := by simp [MRow.enc, x.2.1]
theorem MRow.enc_one (x : MRow) : ∀ v ∈ x.enc, v.oneCell' = true := fun v hv => by
 rcases List.mem_cons.1 hv with rfl | hv
 ·rfl
 ·exact x.2.2 v hv
def mcf (x y : MRow) : Int := Lib.compareBytes x.key y.key
theorem mcf_lt (x y : MRow) : ltOf mcf x y = bl x.key y.key := by
 unfold ltOf mcf
 rw [cmp_scmp, Bool.eq_iff_iff, decide_eq_true_eq, scmp_lt]
theorem bl_ntrans {a b c : Str} (h : bl a b = false) (k : bl b c = false) : bl a c = false := by
 cases hh : bl a c with
 | false => rfl
 | true =>
  rcases bl_total a b with h1 | h1 | h1
  ·rw [h1] at h; cases h
  ·subst h1; rw [hh] at k; cases k
  ·rw [bl_trans h1 hh] at k; cases k
theorem mcf_swo : SWO (ltOf mcf) := by
 refine ⟨fun x => ?_, fun x y z h k => ?_, fun x y z h k => ?_⟩
 ·rw [mcf_lt]; exact bl_irrefl _
 ·rw [mcf_lt] at h k ⊢; exact bl_trans h k
 ·rw [mcf_lt] at h k ⊢; exact bl_ntrans h k
theorem flatR_at {α : Type} (enc : α → List Value) {k : Nat} (hk : ∀ x, (enc x).length = k) (h0 : 0 < k) : ∀ (l : List α) (t : Nat), (l.map enc).flatten[t]? = (l[t / k]?).bind fun x => (enc x)[t % k]?
 | [], t => by simp
 | x :: l, t => by
  rw [List.map_cons, List.flatten_cons]
  rcases Nat.lt_or_ge t k with h | h
  ·rw [List.getElem?_append_left (by rw [hk]; exact h), Nat.div_eq_of_lt h, Nat.mod_eq_of_lt h]
   rfl
  ·rw [List.getElem?_append_right (by rw [hk]; exact h), hk, flatR_at enc hk h0 l (t - k)]
   obtain ⟨u, rfl⟩ : ∃ u, t = u + k := ⟨t - k, by omega⟩
   rw [Nat.add_sub_cancel, Nat.add_mod_right, Nat.add_div_right _ h0]
   rfl
theorem flatK_rows (d : Array MRow) : (flatK MRow.enc 7 d).toList = (d.toList.map MRow.enc).flatten := by
 apply List.ext_getElem?
 intro t
 rw [flatR_at MRow.enc MRow.enc_len (by decide)]
 rcases Nat.lt_or_ge t (d.size * 7) with h | h
 ·have h1 : t / 7 < d.size := by omega
  have h2 : t % 7 < 7 := Nat.mod_lt _ (by decide)
  have e := get_flatK MRow.enc 7 d t h
  rw [getElem!_pos (flatK MRow.enc 7 d) t (by rw [size_flatK]; exact h), getElem!_pos d _ h1] at e
  rw [Array.getElem?_toList, Array.getElem?_toList, Array.getElem?_eq_getElem (by rw [size_flatK]; exact h), e, Array.getElem?_eq_getElem h1]
  have h3 : t % 7 < (MRow.enc d[t / 7]).length := by rw [MRow.enc_len]; exact h2
  show _ = (MRow.enc d[t / 7])[t % 7]?
  rw [List.getElem?_eq_getElem h3, getElem!_pos (MRow.enc d[t / 7]) _ h3]
 ·rw [List.getElem?_eq_none (by simp; omega), List.getElem?_eq_none (by simp; omega)]
  rfl
theorem holdsK_own {w : World} {e n g o c : Nat} {d : Array MRow} (O : Own w e 7 (.slice (some ⟨g, o, none⟩) n c) n (d.toList.map MRow.enc).flatten) : HoldsK MRow.enc 7 w g o d ∧ g < w.heap.size ∧ d.size = n := by
 have hl := O.len
 rw [← flatK_rows, Array.length_toList, size_flatK] at hl
 rcases O.2 with ⟨h, _⟩ | ⟨g', o', c', cs, h, hB, h1, h2, h3, h4⟩
 ·cases h
 ·cases h
  refine ⟨fun j hj => ⟨?_, hB.frozen _⟩, hB.lt, by omega⟩
  rw [← flatK_rows] at h4
  apply hB.cell
  have hj' : (flatK MRow.enc 7 d).toList[j]? = some (flatK MRow.enc 7 d)[j]! := by rw [Array.getElem?_toList, Array.getElem?_eq_getElem hj, getElem!_pos (flatK MRow.enc 7 d) j hj]
  rw [size_flatK] at hj
  rw [← h4, List.getElem?_take, if_pos (by omega), List.getElem?_drop] at hj'
  exact hj'
theorem own_sorted {w : World} {e n g o c m : Nat} {d d' : Array MRow} {os : Array Obj} (O : Own w e 7 (.slice (some ⟨g, o, none⟩) n c) n (d.toList.map MRow.enc).flatten) (hs : d'.size = d.size) :
  Own (sortWorldK MRow.enc 7 w g o m d' os) e 7 (.slice (some ⟨g, o, none⟩) n c) n (d'.toList.map MRow.enc).flatten ∧ Mod [g] w (sortWorldK MRow.enc 7 w g o m d' os) := by
 have hd := (holdsK_own O).2.2
 have hl := O.len
 rcases O.2 with ⟨h, _⟩ | ⟨g', o', c', cs, h, hB, h1, h2, h3, h4⟩
 ·cases h
 ·cases h
  have hlt := hB.lt
  have hlt2 : g < (putRowK MRow.enc 7 (Sort.ahead w m) g o d').heap.size := by rw [size_putRowK]; exact hlt
  have hh : (putRowK MRow.enc 7 (Sort.ahead w m) g o d').heap = w.heap.modify g (onCells (putCells id o (flatK MRow.enc 7 d'))) := rfl
  have hmod : Mod [g] w (sortWorldK MRow.enc 7 w g o m d' os) := by
   refine ⟨rfl, rfl, rfl, ?_, fun i hi hx => ?_⟩
   ·unfold sortWorldK
    rw [size_grow, size_putRowK]
    exact Nat.le_add_right _ _
   ·unfold sortWorldK
    rw [heap_grow_old _ _ (by rw [size_putRowK]; exact hi), hh, Array.getElem?_modify, if_neg (fun e => hx (by simp [e]))]
  refine ⟨⟨by rw [← flatK_rows]; simp [hs, hd], .inr ⟨g, o, c, (putCells id o (flatK MRow.enc 7 d') cs.toArray).toList, rfl, ?_, h1, h2, ?_, ?_⟩⟩, hmod⟩
  ·unfold Blk sortWorldK
   rw [heap_grow_old _ _ hlt2, hh, Array.getElem?_modify, if_pos rfl, hB]
   rfl
  ·simp only [putCells, Array.toList_mapIdx, List.length_mapIdx]
   exact h3
  ·rw [← flatK_rows]
   apply List.ext_getElem?
   intro t
   rw [List.getElem?_take]
   rcases Nat.lt_or_ge t (n * 7) with h | h
   ·rw [if_pos h, List.getElem?_drop]
    have h5 : o + t < cs.length := by have := Nat.mul_le_mul_right 7 h1; omega
    have h6 : t < (flatK MRow.enc 7 d').size := by rw [size_flatK, hs, hd]; exact h
    rw [Array.getElem?_toList, Array.getElem?_toList, Array.getElem?_eq_getElem h6]
    simp only [putCells, Array.getElem?_mapIdx, List.getElem?_toArray, List.getElem?_eq_getElem h5, Option.map_some]
    rw [if_pos ⟨by omega, by omega⟩, Nat.add_sub_cancel_left, getElem!_pos (flatK MRow.enc 7 d') t h6]
    rfl
   ·rw [if_neg (by omega), List.getElem?_eq_none (by simp [hs, hd]; omega)]
theorem rows_of {A : List Nat} {w : World} : ∀ (acc : List (Str × JV)) (vs : List Value), Reps A w (acc.map JV.Dp).flatten vs → ∃ rows : List MRow, rows.map (·.1.1) = acc ∧ (rows.map MRow.enc).flatten = vs ∧ ∀ r ∈ rows, Reps A w (JV.Dp r.1.1) r.enc
 | [], vs, h => ⟨[], rfl, (List.eq_nil_of_length_eq_zero (by simpa using h.length)).symm, by simp⟩
 | p :: acc, vs, h => by
  rw [List.map_cons, List.flatten_cons] at h
  obtain ⟨h1, h2⟩ := h.cut
  rw [JV.Dp_len] at h1 h2
  obtain ⟨rows, e1, e2, e3⟩ := rows_of acc _ h2
  obtain ⟨u, us, e4, e5, e6⟩ := h1
  have hu : u = S p.1 := by simp only [Rep] at e5; exact e5.1
  subst hu
  refine ⟨⟨(p, us), JV.cells_one e6⟩ :: rows, by rw [List.map_cons, e1], ?_, fun r hr => ?_⟩
  ·rw [List.map_cons, List.flatten_cons, e2]
   show (S p.1 :: us) ++ _ = _
   rw [← e4, List.take_append_drop]
  ·rcases List.mem_cons.1 hr with rfl | hr
   ·exact ⟨_, us, rfl, e5, e6⟩
   ·exact e3 r hr
theorem rows_reps {A : List Nat} {w : World} : ∀ (rows : List MRow), (∀ r ∈ rows, Reps A w (JV.Dp r.1.1) r.enc) → Reps A w ((rows.map (·.1.1)).map JV.Dp).flatten (rows.map MRow.enc).flatten
 | [], _ => Reps.nil_
 | r :: rows, h => by
  simp only [List.map_cons, List.flatten_cons]
  exact (h r (List.mem_cons_self ..)).append (rows_reps rows fun x hx => h x (List.mem_cons_of_mem _ hx))
theorem look_sortM (k : Str) (x : JV) : ∀ acc : List (Str × JV), (acc.map (·.1)).Nodup → (look (sortM acc) k = some x ↔ (k, x) ∈ acc) := by
 intro acc
 rw [← List.reverse_reverse acc]
 generalize acc.reverse = l
 induction l with
 | nil => intro _; simp [sortM, look]
 | cons p l ih =>
  intro hn
  rw [List.reverse_cons, List.map_append, List.nodup_append] at hn
  rw [List.reverse_cons, sortM_snoc, look_put]
  by_cases h : k = p.1
  ·rw [if_pos h]
   have h2 : (k, x) ∉ l.reverse := fun hx => hn.2.2 k (List.mem_map.2 ⟨_, hx, rfl⟩) p.1 (by simp) h
   simp only [List.mem_append, h2, false_or, List.mem_singleton, Option.some.injEq]
   constructor
   ·rintro rfl; rw [h]
   ·rintro rfl; rfl
  ·rw [if_neg h, ih hn.1]
   simp only [List.mem_append, List.mem_singleton]
   constructor
   ·exact .inl
   ·rintro (hx | rfl)
    ·exact hx
    ·exact absurd rfl h
theorem sortM_asc (acc : List (Str × JV)) : ascM (sortM acc) := by
 rw [← List.reverse_reverse acc]
 generalize acc.reverse = l
 induction l with
 | nil => exact List.Pairwise.nil
 | cons p l ih => rw [List.reverse_cons, sortM_snoc]; exact ascM_put ih
theorem sortM_perm {acc m : List (Str × JV)} (hn : (acc.map (·.1)).Nodup) (hp : m.Perm acc) (ha : ascM m) : m = sortM acc := by
 refine ascM_ext ha (sortM_asc acc) fun k => ?_
 have h1 : ∀ x, look m k = some x ↔ look (sortM acc) k = some x := fun x => by
  rw [look_sortM k x acc hn, ← hp.mem_iff]
  exact ⟨look_some, fun h => look_mem ha h⟩
 cases h2 : look m k with
 | some x => exact ((h1 x).1 h2).symm
 | none =>
  cases h3 : look (sortM acc) k with
  | none => rfl
  | some x => rw [(h1 x).2 h3] at h2; cases h2
theorem rows_sorted {acc : List (Str × JV)} {rows : List MRow} {d' : Array MRow} (hn : (acc.map (·.1)).Nodup) (hr : rows.map (·.1.1) = acc) (hp : PermIn 0 rows.toArray.size rows.toArray d') (hs : SortedIn (ltOf mcf) 0 rows.toArray.size d') :
  d'.toList.Perm rows ∧ d'.toList.map (·.1.1) = sortM acc := by
 obtain ⟨h1, _, h3⟩ := hp
 have hperm : d'.toList.Perm rows := by
  have e1 : rows.toArray.extract 0 rows.toArray.size = rows.toArray := Array.extract_size
  have e2 : d'.extract 0 rows.toArray.size = d' := by rw [← h1]; exact Array.extract_size
  rw [e1, e2] at h3
  exact h3
 refine ⟨hperm, sortM_perm hn (hr ▸ hperm.map _) ?_⟩
 have hnd : (d'.toList.map MRow.key).Nodup := by
  rw [← hr, List.map_map] at hn
  exact ((hperm.map MRow.key).nodup_iff).2 hn
 unfold ascM
 rw [List.pairwise_map, List.pairwise_iff_getElem]
 intro i j hi hj hij
 have h4 := hs i j (Nat.zero_le _) hij (by rw [← h1]; simpa using hj)
 rw [mcf_lt, getElem!_pos _ _ (by simpa using hj), getElem!_pos _ _ (by simpa using hi)] at h4
 have h5 := (List.pairwise_iff_getElem.1 hnd) i j (by simpa using hi) (by simpa using hj) hij
 rw [List.getElem_map, List.getElem_map] at h5
 rcases bl_total (MRow.key d'.toList[i]) (MRow.key d'.toList[j]) with h | h | h
 ·exact h
 ·exact absurd h h5
 ·rw [Array.getElem_toList, Array.getElem_toList] at h
  rw [h] at h4; cases h4
end Go.Proofs.YtknndpjacklkeaaGreatDoor.V

set_option linter.unusedVariables false
set_option linter.unusedSimpArgs false
set_option maxRecDepth 10000
namespace Go.Proofs
open Go.Shelf
def Tryz.sortM_ren : Go.Shelf.Ren := ⟨fun | 6 => 145 | 15 => 181 | 14 => 180 | 28 => 214 | 29 => 215 | 20 => 206 | 21 => 207 | 22 => 208 | 23 => 209 | 24 => 210 | 25 => 211 | 26 => 212 | 27 => 213 | 46 => 236 | 47 => 237 | 48 => 238 | 49 => 239 | 50 => 240 | 57 => 253 | n => n, fun | 22 => 23 | 24 => 44 | 25 => 128 | 3 => 3 | 39 => 144 | 0 => 0 | 53 => 147 | 55 => 182 | 4 => 4 | 46 => 212 | 45 => 211 | 50 => 80 | 5 => 5 | 9 => 9 | 66 => 232 | 70 => 236 | 76 => 258 | 77 => 163 | n => n, fun | n => n⟩
theorem Tryz.sortM : Go.Proofs.SlLaysF0.n6 Tryz.prog Tryz.sortM_ren := {
 mixed := by kernel_rfl
 f6 := ⟨Tryz.f145.name, by decide, Tryz.func145.trans (congrArg some (by kernel_rfl))⟩
 f14 := ⟨Tryz.f180.name, by decide, Tryz.func180.trans (congrArg some (by kernel_rfl))⟩
 f15 := Tryz.func181.trans (congrArg some (by kernel_rfl))
 f20 := ⟨Tryz.f206.name, by decide, Tryz.func206.trans (congrArg some (by kernel_rfl))⟩
 f21 := ⟨Tryz.f207.name, by decide, Tryz.func207.trans (congrArg some (by kernel_rfl))⟩
 f22 := ⟨Tryz.f208.name, by decide, Tryz.func208.trans (congrArg some (by kernel_rfl))⟩
 f23 := ⟨Tryz.f209.name, by decide, Tryz.func209.trans (congrArg some (by kernel_rfl))⟩
 f24 := ⟨Tryz.f210.name, by decide, Tryz.func210.trans (congrArg some (by kernel_rfl))⟩
 f25 := ⟨Tryz.f211.name, by decide, Tryz.func211.trans (congrArg some (by kernel_rfl))⟩
 f26 := ⟨Tryz.f212.name, by decide, Tryz.func212.trans (congrArg some (by kernel_rfl))⟩
 f27 := ⟨Tryz.f213.name, by decide, Tryz.func213.trans (congrArg some (by kernel_rfl))⟩
 f28 := Tryz.func214.trans (congrArg some (by kernel_rfl))
 f29 := Tryz.func215.trans (congrArg some (by kernel_rfl))
 f46 := ⟨Tryz.f236.name, by decide, Tryz.func236.trans (congrArg some (by kernel_rfl))⟩
 f47 := Tryz.func237.trans (congrArg some (by kernel_rfl))
 f48 := Tryz.func238.trans (congrArg some (by kernel_rfl))
 f49 := ⟨Tryz.f239.name, by decide, Tryz.func239.trans (congrArg some (by kernel_rfl))⟩
 f50 := ⟨Tryz.f240.name, by decide, Tryz.func240.trans (congrArg some (by kernel_rfl))⟩
 f57 := ⟨Tryz.f253.name, by decide, Tryz.func253.trans (congrArg some (by kernel_rfl))⟩
 t0 := Tryz.underlying0
 a0 := Tryz.isAgg0
 z0 := Tryz.sizeOf0
 v0 := Tryz.zeroValue0
 t3 := Tryz.underlying3
 a3 := Tryz.isAgg3
 z3 := Tryz.sizeOf3
 v3 := Tryz.zeroValue3
 t4 := Tryz.underlying4
 a4 := Tryz.isAgg4
 z4 := Tryz.sizeOf4
 v4 := Tryz.zeroValue4
 t5 := Tryz.underlying5
 a5 := Tryz.isAgg5
 z5 := Tryz.sizeOf5
 v5 := Tryz.zeroValue5
 t9 := Tryz.underlying9
 a9 := Tryz.isAgg9
 z9 := Tryz.sizeOf9
 v9 := Tryz.zeroValue9
 t22 := Tryz.underlying23
 a22 := Tryz.isAgg23
 z22 := Tryz.sizeOf23
 v22 := Tryz.zeroValue23
 t25 := Tryz.underlying128
 a25 := Tryz.isAgg128
 z25 := Tryz.sizeOf128
 v25 := Tryz.zeroValue128
 t39 := Tryz.underlying144
 a39 := Tryz.isAgg144
 z39 := Tryz.sizeOf144
 v39 := Tryz.zeroValue144
 t45 := Tryz.underlying211
 a45 := Tryz.isAgg211
 z45 := Tryz.sizeOf211
 v45 := Tryz.zeroValue211
 t46 := Tryz.underlying212
 a46 := Tryz.isAgg212
 z46 := Tryz.sizeOf212
 v46 := Tryz.zeroValue212
 t50 := Tryz.underlying80
 a50 := Tryz.isAgg80
 z50 := Tryz.sizeOf80
 v50 := Tryz.zeroValue80
 t53 := Tryz.underlying147
 a53 := Tryz.isAgg147
 z53 := Tryz.sizeOf147
 v53 := Tryz.zeroValue147
 t55 := Tryz.underlying182
 a55 := Tryz.isAgg182
 z55 := Tryz.sizeOf182
 v55 := Tryz.zeroValue182
 t66 := Tryz.underlying232
 a66 := Tryz.isAgg232
 z66 := Tryz.sizeOf232
 v66 := Tryz.zeroValue232
 t70 := Tryz.underlying236
 a70 := Tryz.isAgg236
 z70 := Tryz.sizeOf236
 v70 := Tryz.zeroValue236
 t76 := Tryz.underlying258
 a76 := Tryz.isAgg258
 z76 := Tryz.sizeOf258
 v76 := Tryz.zeroValue258
 t77 := Tryz.underlying163
 a77 := Tryz.isAgg163
 z77 := Tryz.sizeOf163
 v77 := Tryz.zeroValue163 }
def Tryz.lays106_ren : Go.Shelf.Ren := ⟨fun | 106 => 155 | 213 => 190 | 265 => 226 | n => n, fun | 9 => 9 | 3 => 3 | n => n, fun | n => n⟩
theorem Tryz.lays106 : Go.Proofs.Lays.n106 Tryz.prog Tryz.lays106_ren := {
 mixed := by kernel_rfl
 f106 := Tryz.func155.trans (congrArg some (by kernel_rfl))
 f213 := Tryz.func190.trans (congrArg some (by kernel_rfl))
 f265 := Tryz.func226.trans (congrArg some (by kernel_rfl))
 t3 := Tryz.underlying3
 a3 := Tryz.isAgg3
 z3 := Tryz.sizeOf3
 v3 := Tryz.zeroValue3
 t9 := Tryz.underlying9
 a9 := Tryz.isAgg9
 z9 := Tryz.sizeOf9
 v9 := Tryz.zeroValue9 }
open Go.RowKit in
theorem Tryz.strings_Compare (a b : ByteArray) (w : World) :
  Calls Tryz.prog 155 #[.string a, .string b] w fun e w' => e = .returned (.int .i64 (Lib.compareBytes a.data.toList b.data.toList)) ∧ w' = w := Any.strings_Compare Tryz.lays106 a b w
end Go.Proofs

namespace Go.Proofs.YtknndpjacklkeaaGreatDoor.V
open Go Go.Proofs Go.Sort
theorem km_ent : Ent Tryz.prog 155 := Ent.of Tryz.func155 (by kernel_rfl) (by kernel_rfl)
theorem km_fd : fdB Tryz.prog 44 0 0 1 = true := by kernel_rfl
theorem c_cmpE (w : World) (a b : Str) : Calls Tryz.prog 155 [S a, S b].toArray w (Ret fun u w' => u = .int .i64 (Lib.compareBytes a b) ∧ w' = w) := by
 refine (Tryz.strings_Compare ⟨⟨a⟩⟩ ⟨⟨b⟩⟩ w).mono fun e w' he => ?_
 obtain ⟨rfl, rfl⟩ := he
 exact ⟨rfl, rfl⟩
theorem c_byKeyE (w : World) (a b : Str) (us vs : List Value) : Calls Tryz.prog 113 [.agg (S a :: us).toArray, .agg (S b :: vs).toArray].toArray w (Ret fun u w' => u = .int .i64 (Lib.compareBytes a b) ∧ w' = (w.alloc (.cells (S a :: us).toArray 44)).alloc (.cells (S b :: vs).toArray 44)) := by
 refine enter Tryz.func113 rfl rfl rfl (l := [(1, _), (0, _)]) ⟨rfl, rfl, trivial⟩ ?_
 refine Cq fun K1 hK1 => ?_
 refine Cr ?_
 refine sv (r_box rfl rfl) rfl ?_
 refine sv (r_box rfl rfl) rfl ?_
 refine sv (o_as rfl) rfl ?_
 refine Ln ?_
 refine e_K (hK1 _ _ _ _ ?_)
 have N1 := New.mk' w 44 (S a :: us)
 have N2 := New.mk' (w.alloc (.cells (S a :: us).toArray 44)) 44 (S b :: vs)
 have B1 := N1.blk.mod0 N2.mod
 have B2 := N2.blk
 refine Cq fun K2 hK2 => ?_
 refine Cr ?_
 refine sv (oA0 km_fd rfl) rfl ?_
 refine sv (oL sc9 rfl (B1.cell rfl)) rfl ?_
 refine sv (oA0 km_fd rfl) rfl ?_
 refine sv (oL sc9 rfl (B2.cell rfl)) rfl ?_
 refine sc (oC km_ent rfl) (c_cmpE _ a b) rfl fun v_ w1 h_ => ?_
 obtain ⟨rfl, rfl⟩ := h_
 refine sv (o_as rfl) rfl ?_
 refine Ln ?_
 refine e_K (hK2 _ _ _ _ ?_)
 refine cR ?_
 exact ret1 rfl rfl ⟨rfl, rfl⟩
theorem km_cmp {w : World} {g o n : Nat} : CmpLays Tryz.prog 113 #[] MRow.enc 7 mcf g o n w := by
 intro m os dk hd x y
 refine (c_byKeyE _ x.key y.key x.1.2 y.1.2).mono fun e w' he => ?_
 match e, he with
 | .returned u, ⟨h1, h2⟩ =>
  refine ⟨by rw [h1]; rfl, 0, #[.cells (S x.key :: x.1.2).toArray 44, .cells (S y.key :: y.1.2).toArray 44], h2.trans ?_⟩
  rw [alloc_eq_grow, alloc_eq_grow, grow_grow]
  rfl
theorem c_sortN (w : World) {wr : World} {e n c : Nat} {ad : Addr} {acc : List (Str × JV)} {vs : List Value} {A : List Nat} (O : Own w e 7 (.slice (some ad) n c) n vs) (hr : Reps A wr (acc.map JV.Dp).flatten vs) (hn : (acc.map (·.1)).Nodup) (hs : acc.length ≤ 1000000) :
  Calls Tryz.prog 145 [.slice (some ad) n c, .func (.func 113) #[] #[]].toArray w (Ret fun u w' => u = .tuple #[] ∧ Mod [ad.block] w w' ∧ ∃ vs', Own w' e 7 (.slice (some ad) n c) n vs' ∧ Reps A wr ((sortM acc).map JV.Dp).flatten vs' ∧ (sortM acc).length = n) := by
 obtain ⟨rows, e1, rfl, e3⟩ := rows_of acc vs hr
 obtain ⟨g, o, rfl⟩ : ∃ g o, ad = ⟨g, o, none⟩ := by
  rcases O.2 with ⟨h, _⟩ | ⟨g, o, _, _, h, _⟩
  ·cases h
  ·cases h; exact ⟨g, o, rfl⟩
 have O' : Own w e 7 (.slice (some ⟨g, o, none⟩) n c) n (rows.toArray.toList.map MRow.enc).flatten := O
 obtain ⟨hH, hlt, hsz⟩ := holdsK_own O'
 have hrl : rows.length = acc.length := by rw [← e1, List.length_map]
 subst hsz
 refine (AnyQ.slices_SortFunc Tryz.sortM 7 (fun w => Tryz.isAgg44 w) (fun w => Tryz.sizeOf44 w) MRow.enc MRow.enc_len MRow.enc_one mcf mcf_swo 113 #[] g o c rows.toArray w (enters_of Tryz.func113 (by kernel_rfl) rfl) km_cmp hH hlt (by rw [List.size_toArray]; omega)).mono fun e' w' he => ?_
 obtain ⟨rfl, d', m, os, hp, hs', rfl⟩ := he
 obtain ⟨h1, h2⟩ := rows_sorted hn e1 hp hs'
 obtain ⟨h3, h4⟩ := own_sorted (m := m) (os := os) O' hp.1
 refine ⟨rfl, h4, _, h3, ?_, ?_⟩
 ·rw [← h2]
  exact rows_reps _ fun r hr' => e3 r (h1.mem_iff.1 hr')
 ·rw [← h2, List.length_map, Array.length_toList, hp.1]
theorem c_sort0 (w : World) (p : Option Addr) (c : Nat) : Calls Tryz.prog 145 [.slice p 0 c, .func (.func 113) #[] #[]].toArray w (Ret fun u w' => u = .tuple #[] ∧ w' = w) := by
 refine (AnyF.slices_SortFunc_none Tryz.sortM p c (.func (.func 113) #[] #[]) w).mono fun e w' he => ?_
 obtain ⟨rfl, rfl⟩ := he
 exact ⟨rfl, rfl⟩
theorem c_sortA (w : World) {wr : World} {e n : Nat} {v : Value} {acc : List (Str × JV)} {vs : List Value} {A : List Nat} (O : Own w e 7 v n vs) (hr : Reps A wr (acc.map JV.Dp).flatten vs) (hn : (acc.map (·.1)).Nodup) (hs : acc.length ≤ 1000000) (hl : acc.length = n) :
  Calls Tryz.prog 145 [v, .func (.func 113) #[] #[]].toArray w (Ret fun u w' => u = .tuple #[] ∧ Mod (ob v) w w' ∧ ∃ vs', Own w' e 7 v n vs' ∧ Reps A wr ((sortM acc).map JV.Dp).flatten vs' ∧ (sortM acc).length = n) := by
 obtain ⟨ad, c, rfl, _, _⟩ := O.form
 cases n with
 | zero =>
  have : acc = [] := List.eq_nil_of_length_eq_zero hl
  subst this
  refine (c_sort0 w ad c).mono fun e' w' he => ?_
  match e', he with
  | .returned u, ⟨h1, h2⟩ => exact ⟨h1, h2 ▸ Mod.refl _ _, vs, h2 ▸ O, hr, rfl⟩
 | succ n =>
  obtain ⟨ad, rfl⟩ : ∃ a, ad = some a := by
   rcases O.2 with ⟨_, h⟩ | ⟨g, o, _, _, h, _⟩
   ·cases h
   ·cases h; exact ⟨_, rfl⟩
  exact c_sortN w O hr hn hs
end Go.Proofs.YtknndpjacklkeaaGreatDoor.V
