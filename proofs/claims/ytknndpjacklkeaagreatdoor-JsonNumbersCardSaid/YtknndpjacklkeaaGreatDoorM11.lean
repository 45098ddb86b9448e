/-
  A part of the proof: a map's size; its entries one by one, in whatever order; a method called through an interface; a type assertion that must hold; pointers held against nil; comparisons with nil of an interface, asserted types, results of functions that may panic; two events: one that can be, and the empty one; a slice of rows that was built anew is a list that may grow; an event is as its stripped one just if their texts are the same. No condition of its own.
-/
import Derived.Test.YtknndpjacklkeaaGreatDoorM10
import Derived.Test.YtknndpjacklkeaaGreatDoorM4
import Derived.Test.YtknndpjacklkeaaGreatDoorM5
import Derived.Test.YtknndpjacklkeaaGreatDoorM8
import Derived.Test.YtknndpjacklkeaaGreatDoorM6
import Derived.Test.YtknndpjacklkeaaGreatDoorM7
set_option linter.unusedVariables false
set_option linter.unusedSimpArgs false
set_option maxRecDepth 10000
namespace Go.Proofs.YtknndpjacklkeaaGreatDoor.V
open Go Go.Proofs
theorem ent108 : Ent Tryz.prog 108 := Ent.of Tryz.func108 (by kernel_rfl) (by kernel_rfl)
theorem ent110 : Ent Tryz.prog 110 := Ent.of Tryz.func110 (by kernel_rfl) (by kernel_rfl)
theorem ent111 : Ent Tryz.prog 111 := Ent.of Tryz.func111 (by kernel_rfl) (by kernel_rfl)
theorem ent57 : Ent Tryz.prog 57 := Ent.of Tryz.func57 (by kernel_rfl) (by kernel_rfl)
theorem ent106 : Ent Tryz.prog 106 := Ent.of Tryz.func106 (by kernel_rfl) (by kernel_rfl)
theorem c_wval_step (N : Nat) (ih : ∀ (w : World) (v : JV) (us : List Value) (deep : Nat) (b : Str) (u : Value) (g : Nat), v.sz ≤ N → WrB w g 76 u b → Reps (g :: ob u) w v.D us → deep ≤ 32 → Tab w → gT ∉ g :: ob u → Calls Tryz.prog 57 [.pointer (some ⟨g, 0, none⟩), .agg us.toArray, .int .i64 (deep : Int)].toArray w (WrP w g 76 110 u (v.wr deep b))) (w : World) (v : JV) (us : List Value) (deep : Nat) (b : Str) (u : Value) (g : Nat) (hN : v.sz ≤ N + 1) (HB : WrB w g 76 u b) (R : Reps (g :: ob u) w v.D us) (hd : deep ≤ 32) (hT : Tab w) (hgt : gT ∉ g :: ob u) : Calls Tryz.prog 57 [.pointer (some ⟨g, 0, none⟩), .agg us.toArray, .int .i64 (deep : Int)].toArray w (WrP w g 76 110 u (v.wr deep b)) := by
 refine enter Tryz.func57 rfl rfl rfl (l := [(0, _), (1, _), (2, _)]) ⟨rfl, rfl, rfl, trivial⟩ ?_
 obtain ⟨al, cl, am, cm, rfl, Rl, Rm⟩ := JV.cells_ R
 have R0 := (JV.reps_ Rl Rm).anti (A' := []) (by simp)
 refine Cq fun K1 hK1 => ?_
 have H := WrT.init HB
 refine Cr (s_box rfl rfl rfl fun g1 w1 N1 => ?_)
 replace H := H.mod0 N1.mod
 have Bg1 := N1.blk
 have K1 := WrK.of_ HB Bg1 (by have := N1.at_; omega)
 refine Ln (e_K (hK1 _ _ _ _ (Cq fun K2 hK2 => ?_)))
 have J2 : ∀  (w1 : World), v.bare = true ∧ (v.kind ≥ 4 → deep < 32) ∧ WrT w w1 u g 76 u b ∧ WrK w1 g u g1 25 [.int .i64 v.kind, .bool v.is, .int .i64 v.num, S v.str, .slice al v.list.length cl, .slice am v.map.length cm] → ∀ a, Has 128 [] [(0, .pointer (some ⟨g, 0, none⟩)), (2, .int .i64 (deep : Int)), (4, .pointer (some ⟨g1, 0, none⟩))] a → K2 a w1 := by
  intro  w2 hI
  obtain ⟨hbare, hdeep, H, K1⟩ := hI
  refine hK2 _ _ _ _ (Cq fun K3 hK3 => Cr (Sv (oA0 fd25_0 rfl) (Sv (oL sc3 rfl (K1.blk.cell rfl)) (Ln (e_K (hK3 _ _ _ _ (cB (Cq fun K4 hK4 => Cr (tW 2 rfl (Ln (e_K (hK4 _ _ _ _ ?_))))))))))))
  refine c_if rfl (fun h36 => ?_) (fun h36 => ?_)
  ·have hne : ¬ v.bare = false := by rw [hbare]; simp
   refine Cr (Zm rfl ?_)
   refine scp (oC ent107 rfl) (c_wput _ _ _ _ H.wb JV.tNull (by simp)) rfl (fun w_ h_ => h_.elim) (fun c_ w3 h_ => ?_) fun v_ w3 h_ => ?_
   ·have hp := H.panic (r := v.wr deep b) h_ (fun e he => by rw [JV.wr_eq, if_neg hne, if_pos h36]; exact he)
    exact eI (by simp) (endp hp)
   obtain ⟨u1, b1, hb1, H1, hm1, ho1⟩ := H.ret h_
   replace H := H1
   exact Ln (eI (by simp) (end0R rfl (H.fin (r := v.wr deep b) (by rw [JV.wr_eq, if_neg hne, if_pos h36]; exact hb1))))
  ·have hne : ¬ v.bare = false := by rw [hbare]; simp
   refine Cq fun K5 hK5 => Cr (tW 2 rfl (Ln (e_K (hK5 _ _ _ _ ?_))))
   refine c_if rfl (fun h40 => ?_) (fun h40 => ?_)
   ·refine Cr (Zm rfl (Sv (oA0 fd25_1 rfl) (Sv (oL sc4 rfl (K1.blk.cell rfl)) (sc (oC ent108 rfl) (c_fmtb _ _) rfl fun v_ w4 h_ => ?_))))
    obtain ⟨rfl, E_⟩ := h_
    replace H := H.mod0 E_
    replace K1 := K1.mod0 E_
    refine scp (oC ent107 rfl) (c_wput _ _ _ _ H.wb (if v.is then JV.tTrue else JV.tFalse) (by split <;> simp)) rfl (fun w_ h_ => h_.elim) (fun c_ w5 h_ => ?_) fun v_ w5 h_ => ?_
    ·have hp := H.panic (r := v.wr deep b) h_ (fun e he => by rw [JV.wr_eq, if_neg hne, if_neg h36, if_pos h40]; exact he)
     exact eI (by simp) (endp hp)
    obtain ⟨u1, b1, hb1, H1, hm1, ho1⟩ := H.ret h_
    replace H := H1
    exact Ln (eI (by simp) (end0R rfl (H.fin (r := v.wr deep b) (by rw [JV.wr_eq, if_neg hne, if_neg h36, if_pos h40]; exact hb1))))
   ·refine Cq fun K6 hK6 => Cr (tW 2 rfl (Ln (e_K (hK6 _ _ _ _ ?_))))
    refine c_if rfl (fun h47 => ?_) (fun h47 => ?_)
    ·refine Cr (Zm rfl (Sv (oA0 fd25_2 rfl) (Sv (oL sc3 rfl (K1.blk.cell rfl)) ?_)))
     obtain ⟨hn0, hn1⟩ := bare_num hbare h47
     have hil := Lib.itoa_length_le v.num (by omega) (by omega)
     refine sc (oC ent109 rfl) (c_itoa _ v.num (by omega) (by omega) (hT.mod H.mod hgt)) rfl fun v_ w6 h_ => ?_
     obtain ⟨rfl, E_⟩ := h_
     replace H := H.mod0 E_
     replace K1 := K1.mod0 E_
     refine scp (oC ent107 rfl) (c_wput _ _ _ _ H.wb (Lib.itoa v.num) (by omega)) rfl (fun w_ h_ => h_.elim) (fun c_ w7 h_ => ?_) fun v_ w7 h_ => ?_
     ·have hp := H.panic (r := v.wr deep b) h_ (fun e he => by rw [JV.wr_eq, if_neg hne, if_neg h36, if_neg h40, if_pos h47]; exact he)
      exact eI (by simp) (endp hp)
     obtain ⟨u1, b1, hb1, H1, hm1, ho1⟩ := H.ret h_
     replace H := H1
     exact Ln (eI (by simp) (end0R rfl (H.fin (r := v.wr deep b) (by rw [JV.wr_eq, if_neg hne, if_neg h36, if_neg h40, if_pos h47]; exact hb1))))
    ·refine Cq fun K7 hK7 => Cr (tW 2 rfl (Ln (e_K (hK7 _ _ _ _ ?_))))
     refine c_if rfl (fun h54 => ?_) (fun h54 => ?_)
     ·refine Cr (Zm rfl (Sv (oA0 fd25_3 rfl) (Sv (oL sc9 rfl (K1.blk.cell rfl)) ?_)))
      refine scp (oC ent110 rfl) (c_wtext _ _ _ _ H.wb v.str) rfl (fun w_ h_ => h_.elim) (fun c_ w8 h_ => ?_) fun v_ w8 h_ => ?_
      ·have hp := H.panic (r := v.wr deep b) h_ (fun e he => by rw [JV.wr_eq, if_neg hne, if_neg h36, if_neg h40, if_neg h47, if_pos h54]; exact he)
       exact eI (by simp) (endp hp)
      obtain ⟨u1, b1, hb1, H1, hm1, ho1⟩ := H.ret h_
      replace H := H1
      exact Ln (eI (by simp) (end0R rfl (H.fin (r := v.wr deep b) (by rw [JV.wr_eq, if_neg hne, if_neg h36, if_neg h40, if_neg h47, if_pos h54]; exact hb1))))
     ·refine Cq fun K8 hK8 => Cr (tW 2 rfl (Ln (e_K (hK8 _ _ _ _ ?_))))
      refine c_if rfl (fun h60 => ?_) (fun h60 => ?_)
      ·refine Cq fun K9 hK9 => ?_
       have hdp := hdeep (by omega)
       have hv_ : v.wr deep b = ((lng (b ++ [91])).bind fun b => JV.wrl v.list deep true b).bind fun b => lng (b ++ [93]) := by rw [JV.wr_eq, if_neg hne, if_neg h36, if_neg h40, if_neg h47, if_neg h54, if_neg (by omega), if_pos h60]; cases lng (b ++ [91]) <;> rfl
       refine Cr (Zm rfl ?_)
       refine scp (oC ent107 rfl) (c_wput _ _ _ _ H.wb [91] (by simp)) rfl (fun w_ h_ => h_.elim) (fun c_ w9 h_ => ?_) fun v_ w9 h_ => ?_
       ·have hp := H.panic (r := v.wr deep b) h_ (fun e he => by rw [hv_, he]; rfl)
        exact eT (by simp) (eI (by simp) (endp hp))
       obtain ⟨u1, b1, hb1, H1, hm1, ho1⟩ := H.ret h_
       replace H := H1
       replace K1 := K1.step hm1 ho1
       refine Ln (e_K (hK9 _ _ _ _ (Cq fun K10 hK10 => Cq fun K11 hK11 => Cr (Sv (oA0 fd25_4 rfl) (Sv (oL sc22 rfl (K1.blk.cell rfl)) (Sv (o_len Tryz.underlying22 rfl) (Zm rfl (Ln (e_K (hK11 _ _ _ _ (cB (c_loop (σ := Nat × Value × Str) (fun ⟨k, u2, b2⟩ => [(0, .pointer (some ⟨g, 0, none⟩)), (2, .int .i64 (deep : Int)), (4, .pointer (some ⟨g1, 0, none⟩)), (65, .slice al v.list.length cl), (66, .int .i64 (v.list.length : Int)), (67, .int .i64 (k : Int))]) (fun ⟨k, u2, b2⟩ w1 => k ≤ v.list.length ∧ JV.wrl (v.list.drop k) deep (decide (k = 0)) b2 = ((lng (b ++ [91])).bind fun b => JV.wrl v.list deep true b) ∧ WrT w w1 u g 76 u2 b2 ∧ WrK w1 g u2 g1 25 [.int .i64 v.kind, .bool v.is, .int .i64 v.num, S v.str, .slice al v.list.length cl, .slice am v.map.length cm]) (fun ⟨k, u2, b2⟩ => v.list.length - k) (⟨0, u1, b1⟩) ⟨rfl, rfl, rfl, rfl, rfl, rfl, trivial⟩ (⟨by omega, by rw [hb1]; rfl, H, K1⟩) ?_))))))))))))
       rintro ⟨k, u2, b2⟩ w10 ⟨hk, hinv, H, K1⟩
       refine Cq fun K12 hK12 => Cr (Sv (o_lss rfl rfl) (Ln (e_K (hK12 _ _ _ _ (Cq fun K13 hK13 => ?_)))))
       refine c_if rfl (fun h68 => ?_) (fun h68 => ?_)
       ·obtain ⟨x, hx_x⟩ : ∃ x, v.list[k]? = some x := ⟨_, List.getElem?_eq_getElem (by omega)⟩
        have hcp := JV.cap_l (H.rep Rl)
        refine cK (e_K (hK13 _ _ _ _ (Cq fun K14 hK14 => cB (Cq fun K15 hK15 => Cr (Zm rfl ?_)))))
        obtain ⟨a_x, us_x, ha_x, R_x, hcs_x⟩ := JV.at_l (H.rep Rl) hx_x
        obtain ⟨al_x, cl_x, am_x, cm_x, rfl, Rl_x, Rm_x⟩ := JV.cells_ R_x
        have hcap_x := JV.cap_l (H.rep Rl)
        cases ha_x
        refine Sv (o_ix sl22 rfl rfl (by omega)) (Sv (o_lda ag25 rfl rfl hcs_x) ?_)
        have Ea := Mod.refl [] w10
        refine s_alloc zv25 rfl fun g2 w11 N2 => ?_
        have Lg2_Ea := N2.le Ea
        replace Ea := Ea.then N2.mod
        have Bg2 := N2.blk
        refine Za rfl (s_sta (vs := [_, _, _, _, _, _]) ag25 Bg2 rfl rfl rfl (by simp [Value.oneCell']) (by simp) fun w12 P12 => ?_)
        replace Ea := Ea.own P12.mod Lg2_Ea
        replace Bg2 : Blk w12 g2 _ [_, _, _, _, _, _] := P12.blk
        have K7 := WrK.of_ H.wb Bg2 (Lg2_Ea)
        replace H := H.mod0 Ea
        replace K1 := K1.mod0 Ea
        replace R_x := R_x.mod0 Ea
        refine Ln (e_K (hK15 _ _ _ _ (Cq fun K16 hK16 => Cr (tW 2 rfl ?_))))
        refine scp (oC ent111 rfl) (c_wcomma _ _ _ _ H.wb k) rfl (fun w_ h_ => h_.elim) (fun c_ w13 h_ => ?_) fun v_ w13 h_ => ?_
        ·have hp := H.panic (r := v.wr deep b) h_ (fun e he => by rw [hv_, ← wl_c hx_x hinv, he]; rfl)
         exact eT (by simp) (eI (by simp) (eT (by simp) (eT (by simp) (eI (by simp) (eT (by simp) (eI (by simp) (endp hp)))))))
        obtain ⟨u3, b3, hb3, H3, hm3, ho3⟩ := H.ret h_
        replace H := H3
        replace K1 := K1.step hm3 ho3
        replace K7 := K7.step hm3 ho3
        replace R_x := R_x.wstep hm3 ho3
        have hinv3 := wl_c hx_x hinv
        rw [hb3] at hinv3
        replace hinv3 := okb hinv3
        refine Ln (e_K (hK16 _ _ _ _ (Cr (Zm rfl (Sv (o_lda (vs := [_, _, _, _, _, _]) ag25 rfl rfl (K7.blk.cs rfl)) (Zm rfl (Sv (o_addE (r := ((deep + 1 : Nat) : Int)) rfl rfl (by rw [wrap64_in _ (by omega)]; omega)) ?_)))))))
        refine scp (oC ent57 rfl) (ih _ x _ (deep + 1) _ _ _ (by have := JV.sz_in_list (List.mem_of_getElem? hx_x); omega) H.wb R_x (by omega) (hT.mod H.mod hgt) (fun h => (H.in_ _ h).elim hgt (fun h => by have := hT.lt; omega))) rfl (fun w_ h_ => h_.elim) (fun c_ w14 h_ => ?_) fun v_ w14 h_ => ?_
        ·have hp := H.panic (r := v.wr deep b) h_ (fun e he => by rw [hv_, ← hinv3, he]; rfl)
         exact eI (by simp) (eT (by simp) (eT (by simp) (eI (by simp) (eT (by simp) (eI (by simp) (endp hp))))))
        obtain ⟨u4, b4, hb4, H4, hm4, ho4⟩ := H.ret h_
        replace H := H4
        replace K1 := K1.step hm4 ho4
        have hinv4 := hinv3
        rw [hb4] at hinv4
        replace hinv4 := okb hinv4
        exact Ln (eI (by simp) (e_K (hK14 _ _ _ _ (Cr (Sv (o_addN rfl rfl (by omega)) (Zm rfl (Ln (eR (σ := Nat × Value × Str) (s := ⟨k, u2, b2⟩) (⟨k + 1, u4, b4⟩) ⟨rfl, rfl, rfl, rfl, rfl, rfl, trivial⟩ ⟨by omega, hinv4, H, K1⟩ (by dsimp only; omega)))))))))
       ·have hW : ((lng (b ++ [91])).bind fun b => JV.wrl v.list deep true b) = .ok b2 := by rw [← hinv, wrl_end (by omega)]
        refine c_exit (eT (by simp) (eT (by simp) (e_hit (e_K (hK10 _ _ _ _ (Cr (Zm rfl ?_)))))))
        refine scp (oC ent107 rfl) (c_wput _ _ _ _ H.wb [93] (by simp)) rfl (fun w_ h_ => h_.elim) (fun c_ w15 h_ => ?_) fun v_ w15 h_ => ?_
        ·have hp := H.panic (r := v.wr deep b) h_ (fun e he => by rw [hv_, hW]; exact he)
         exact eI (by simp) (endp hp)
        obtain ⟨u9, b9, hb9, H9, hm9, ho9⟩ := H.ret h_
        replace H := H9
        exact Ln (eI (by simp) (end0R rfl (H.fin (r := v.wr deep b) (by rw [hv_, hW]; exact hb9))))
      ·refine Cq fun K17 hK17 => Cr (tW 2 rfl (Ln (e_K (hK17 _ _ _ _ ?_))))
       refine c_if rfl (fun h83 => ?_) (fun h83 => ?_)
       ·refine Cq fun K18 hK18 => ?_
        have hdp := hdeep (by omega)
        have hv_ : v.wr deep b = ((lng (b ++ [123])).bind fun b => JV.wrm v.map deep none b).bind fun b => lng (b ++ [125]) := by rw [JV.wr_eq, if_neg hne, if_neg h36, if_neg h40, if_neg h47, if_neg h54, if_neg (by omega), if_neg h60]; cases lng (b ++ [123]) <;> rfl
        refine Cr (Zm rfl ?_)
        refine scp (oC ent107 rfl) (c_wput _ _ _ _ H.wb [123] (by simp)) rfl (fun w_ h_ => h_.elim) (fun c_ w16 h_ => ?_) fun v_ w16 h_ => ?_
        ·have hp := H.panic (r := v.wr deep b) h_ (fun e he => by rw [hv_, he]; rfl)
         exact eT (by simp) (eI (by simp) (endp hp))
        obtain ⟨u1, b1, hb1, H1, hm1, ho1⟩ := H.ret h_
        replace H := H1
        replace K1 := K1.step hm1 ho1
        refine Ln (e_K (hK18 _ _ _ _ (Cq fun K19 hK19 => Cq fun K20 hK20 => Cr (Sv (oA0 fd25_5 rfl) (Sv (oL sc23 rfl (K1.blk.cell rfl)) (Sv (o_len Tryz.underlying23 rfl) (Zm rfl (Ln (e_K (hK20 _ _ _ _ (cB (c_loop (σ := Nat × Value × Str) (fun ⟨k, u2, b2⟩ => [(0, .pointer (some ⟨g, 0, none⟩)), (2, .int .i64 (deep : Int)), (4, .pointer (some ⟨g1, 0, none⟩)), (88, .slice am v.map.length cm), (89, .int .i64 (v.map.length : Int)), (90, .int .i64 (k : Int))]) (fun ⟨k, u2, b2⟩ w1 => k ≤ v.map.length ∧ JV.wrm (v.map.drop k) deep (prevK v.map k) b2 = ((lng (b ++ [123])).bind fun b => JV.wrm v.map deep none b) ∧ WrT w w1 u g 76 u2 b2 ∧ WrK w1 g u2 g1 25 [.int .i64 v.kind, .bool v.is, .int .i64 v.num, S v.str, .slice al v.list.length cl, .slice am v.map.length cm]) (fun ⟨k, u2, b2⟩ => v.map.length - k) (⟨0, u1, b1⟩) ⟨rfl, rfl, rfl, rfl, rfl, rfl, trivial⟩ (⟨by omega, by rw [hb1]; rfl, H, K1⟩) ?_))))))))))))
        rintro ⟨k, u2, b2⟩ w17 ⟨hk, hinv, H, K1⟩
        refine Cq fun K21 hK21 => Cr (Sv (o_lss rfl rfl) (Ln (e_K (hK21 _ _ _ _ (Cq fun K22 hK22 => ?_)))))
        refine c_if rfl (fun h91 => ?_) (fun h91 => ?_)
        ·obtain ⟨x, hx_x⟩ : ∃ x, v.map[k]? = some x := ⟨_, List.getElem?_eq_getElem (by omega)⟩
         have hcp := JV.cap_m (H.rep Rm)
         refine cK (e_K (hK22 _ _ _ _ (Cq fun K23 hK23 => cB (Cq fun K24 hK24 => Cr (Zm rfl ?_)))))
         obtain ⟨a_x, us_x, ha_x, R_x, hcs_x⟩ := JV.at_m (H.rep Rm) hx_x
         obtain ⟨al_x, cl_x, am_x, cm_x, rfl, Rl_x, Rm_x⟩ := JV.cells_ R_x
         have hcap_x := JV.cap_m (H.rep Rm)
         cases ha_x
         refine Sv (o_ix sl23 rfl rfl (by omega)) (Sv (o_lda ag44 rfl rfl hcs_x) ?_)
         have Ea := Mod.refl [] w17
         refine s_alloc zv44 rfl fun g3 w18 N3 => ?_
         have Lg3_Ea := N3.le Ea
         replace Ea := Ea.then N3.mod
         have Bg3 := N3.blk
         refine Za rfl (s_sta (vs := [_, _, _, _, _, _, _]) ag44 Bg3 rfl rfl rfl (by simp [Value.oneCell']) (by simp) fun w19 P19 => ?_)
         replace Ea := Ea.own P19.mod Lg3_Ea
         replace Bg3 : Blk w19 g3 _ [_, _, _, _, _, _, _] := P19.blk
         have K9 := WrK.of_ H.wb Bg3 (Lg3_Ea)
         replace H := H.mod0 Ea
         replace K1 := K1.mod0 Ea
         replace R_x := R_x.mod0 Ea
         refine Ln (e_K (hK24 _ _ _ _ (Cq fun K25 hK25 => Cr (tW 2 rfl ?_))))
         refine scp (oC ent111 rfl) (c_wcomma _ _ _ _ H.wb k) rfl (fun w_ h_ => h_.elim) (fun c_ w20 h_ => ?_) fun v_ w20 h_ => ?_
         ·have hp := H.panic (r := v.wr deep b) h_ (fun e he => by rw [hv_, ← wm_c hx_x hinv, he]; rfl)
          exact eT (by simp) (eI (by simp) (eT (by simp) (eT (by simp) (eI (by simp) (eT (by simp) (eI (by simp) (endp hp)))))))
         obtain ⟨u3, b3, hb3, H3, hm3, ho3⟩ := H.ret h_
         replace H := H3
         replace K1 := K1.step hm3 ho3
         replace K9 := K9.step hm3 ho3
         replace R_x := R_x.wstep hm3 ho3
         have hinv3 := wm_c hx_x hinv
         rw [hb3] at hinv3
         replace hinv3 := okb hinv3
         refine Ln (e_K (hK25 _ _ _ _ (Cq fun K26 hK26 => Cq fun K27 hK27 => ?_)))
         by_cases hs29_0 : (k : Int) > 0
         ·obtain ⟨q, hx_q⟩ : ∃ q, v.map[k - 1]? = some q := ⟨_, List.getElem?_eq_getElem (by omega)⟩
          obtain ⟨a_q, us_q, ha_q, R_q, hcs_q⟩ := JV.at_m (H.rep Rm) hx_q
          obtain ⟨al_q, cl_q, am_q, cm_q, rfl, Rl_q, Rm_q⟩ := JV.cells_ R_q
          have hcap_q := JV.cap_m (H.rep Rm)
          cases ha_q
          by_cases hs29_1 : (!bl q.1 x.1) = true
          ·have hrise : riseK v.map k x = false := by rw [riseK_at hx_q (by omega)]; simpa using hs29_1
           refine c_draw wide (by kernel_rfl) (tU 3 rfl rfl (tvg rfl (dT hs29_0) (fun w_ E_ => (oA0 fd25_5 rfl)) rfl rfl (tvg rfl (dT hs29_0) (fun w_ E_ => (oL sc23 rfl ((K1.blk.mod0 E_).cell rfl))) rfl rfl (tvg rfl (dT hs29_0) (fun w_ E_ => (oM rfl)) rfl rfl (tvg rfl (dT hs29_0) (fun w_ E_ => (o_subE (r := ((k - 1 : Nat) : Int)) rfl rfl (by rw [wrap64_in _ (by omega)]; omega))) rfl rfl (tvg rfl (dT hs29_0) (fun w_ E_ => (o_ix sl23 rfl rfl (by omega))) rfl rfl (tvg rfl (dT hs29_0) (fun w_ E_ => (o_fad fd44_0 rfl)) rfl rfl (tvg rfl (dT hs29_0) (fun w_ E_ => (oL sc9 rfl ((hcs_q.mod0 E_) 0 _ rfl))) rfl rfl (tvg rfl (dT hs29_0) (fun w_ E_ => (oA0 fd44_0 rfl)) rfl rfl (tvg rfl (dT hs29_0) (fun w_ E_ => (oL sc9 rfl ((K9.blk.mod0 E_).cell rfl))) rfl rfl (tvg rfl (dT hs29_0) (fun w_ E_ => (o_sge rfl rfl)) rfl rfl (tv (fun w_ E_ => (oT (dT hs29_0) rfl rfl)) rfl rfl (tw_nil rfl fun w21 E_ => ?_)))))))))))))
           replace H := H.mod0 E_
           replace K1 := K1.mod0 E_
           replace R_x := R_x.mod0 E_
           replace K9 := K9.mod0 E_
           refine e_K (hK27 _ _ _ _ ?_)
           refine c_cond rfl (fun h111 => ?_) (fun h111 => absurd (hs29_1.symm.trans h111) (by decide))
           refine Cr ?_
           refine scp (oC ent53 rfl) (c_fail _ 1) rfl (fun w_ h_ => h_.elim) (fun c_ w22 h_ => ?_) fun v_ w22 h_ => ?_
           ·obtain ⟨rfl, rfl⟩ := h_
            exact eT (by simp) (eI (by simp) (eT (by simp) (eT (by simp) (eI (by simp) (eT (by simp) (eI (by simp) (endp (H.fail (by rw [hv_, ← hinv3, hrise]; rfl)))))))))
           ·exact h_.elim
          ·have hrise : riseK v.map k x = true := by rw [riseK_at hx_q (by omega)]; simpa using hs29_1
           refine c_draw wide (by kernel_rfl) (tU 3 rfl rfl (tvg rfl (dT hs29_0) (fun w_ E_ => (oA0 fd25_5 rfl)) rfl rfl (tvg rfl (dT hs29_0) (fun w_ E_ => (oL sc23 rfl ((K1.blk.mod0 E_).cell rfl))) rfl rfl (tvg rfl (dT hs29_0) (fun w_ E_ => (oM rfl)) rfl rfl (tvg rfl (dT hs29_0) (fun w_ E_ => (o_subE (r := ((k - 1 : Nat) : Int)) rfl rfl (by rw [wrap64_in _ (by omega)]; omega))) rfl rfl (tvg rfl (dT hs29_0) (fun w_ E_ => (o_ix sl23 rfl rfl (by omega))) rfl rfl (tvg rfl (dT hs29_0) (fun w_ E_ => (o_fad fd44_0 rfl)) rfl rfl (tvg rfl (dT hs29_0) (fun w_ E_ => (oL sc9 rfl ((hcs_q.mod0 E_) 0 _ rfl))) rfl rfl (tvg rfl (dT hs29_0) (fun w_ E_ => (oA0 fd44_0 rfl)) rfl rfl (tvg rfl (dT hs29_0) (fun w_ E_ => (oL sc9 rfl ((K9.blk.mod0 E_).cell rfl))) rfl rfl (tvg rfl (dT hs29_0) (fun w_ E_ => (o_sge rfl rfl)) rfl rfl (tv (fun w_ E_ => (oT (dT hs29_0) rfl rfl)) rfl rfl (tw_nil rfl fun w23 E_ => ?_)))))))))))))
           replace H := H.mod0 E_
           replace K1 := K1.mod0 E_
           replace R_x := R_x.mod0 E_
           replace K9 := K9.mod0 E_
           refine e_K (hK27 _ _ _ _ (c_cond rfl (fun h111 => absurd ((bF hs29_1).symm.trans h111) (by decide)) (fun h111 => cK (e_K (hK26 _ _ _ _ (Cq fun K28 hK28 => ?_))))))
           have hinv4 := hinv3
           rw [hrise] at hinv4
           replace hinv4 := okb hinv4
           refine Cr (Zm rfl (Sv (oA0 fd44_0 rfl) (Sv (oL sc9 rfl (K9.blk.cell rfl)) ?_)))
           refine scp (oC ent110 rfl) (c_wtext _ _ _ _ H.wb x.1) rfl (fun w_ h_ => h_.elim) (fun c_ w24 h_ => ?_) fun v_ w24 h_ => ?_
           ·have hp := H.panic (r := v.wr deep b) h_ (fun e he => by rw [hv_, ← hinv4, he]; rfl)
            exact eT (by simp) (eI (by simp) (eT (by simp) (eT (by simp) (eI (by simp) (eT (by simp) (eI (by simp) (endp hp)))))))
           obtain ⟨u4, b4, hb4, H4, hm4, ho4⟩ := H.ret h_
           replace H := H4
           replace K1 := K1.step hm4 ho4
           replace K9 := K9.step hm4 ho4
           replace R_x := R_x.wstep hm4 ho4
           have hinv5 := hinv4
           rw [hb4] at hinv5
           replace hinv5 := okb hinv5
           refine Ln (e_K (hK28 _ _ _ _ (Cq fun K29 hK29 => Cr (Zm rfl ?_))))
           refine scp (oC ent107 rfl) (c_wput _ _ _ _ H.wb [58] (by simp)) rfl (fun w_ h_ => h_.elim) (fun c_ w25 h_ => ?_) fun v_ w25 h_ => ?_
           ·have hp := H.panic (r := v.wr deep b) h_ (fun e he => by rw [hv_, ← hinv5, he]; rfl)
            exact eT (by simp) (eI (by simp) (eT (by simp) (eT (by simp) (eI (by simp) (eT (by simp) (eI (by simp) (endp hp)))))))
           obtain ⟨u5, b5, hb5, H5, hm5, ho5⟩ := H.ret h_
           replace H := H5
           replace K1 := K1.step hm5 ho5
           replace K9 := K9.step hm5 ho5
           replace R_x := R_x.wstep hm5 ho5
           have hinv6 := hinv5
           rw [hb5] at hinv6
           replace hinv6 := okb hinv6
           refine Ln (e_K (hK29 _ _ _ _ (Cr (Zm rfl (Sv (oA0 fd44_1 rfl) (Sv (o_lda (vs := [_, _, _, _, _, _]) ag25 rfl rfl (K9.blk.cs rfl)) (Zm rfl (Sv (o_addE (r := ((deep + 1 : Nat) : Int)) rfl rfl (by rw [wrap64_in _ (by omega)]; omega)) ?_))))))))
           refine scp (oC ent57 rfl) (ih _ x.2 _ (deep + 1) _ _ _ (by have := JV.sz_in_map (List.mem_of_getElem? hx_x); omega) H.wb R_x (by omega) (hT.mod H.mod hgt) (fun h => (H.in_ _ h).elim hgt (fun h => by have := hT.lt; omega))) rfl (fun w_ h_ => h_.elim) (fun c_ w26 h_ => ?_) fun v_ w26 h_ => ?_
           ·have hp := H.panic (r := v.wr deep b) h_ (fun e he => by rw [hv_, ← hinv6, he]; rfl)
            exact eI (by simp) (eT (by simp) (eT (by simp) (eI (by simp) (eT (by simp) (eI (by simp) (endp hp))))))
           obtain ⟨u6, b6, hb6, H6, hm6, ho6⟩ := H.ret h_
           replace H := H6
           replace K1 := K1.step hm6 ho6
           have hinv7 := hinv6
           rw [hb6] at hinv7
           replace hinv7 := okb hinv7
           exact Ln (eI (by simp) (e_K (hK23 _ _ _ _ (Cr (Sv (o_addN rfl rfl (by omega)) (Zm rfl (Ln (eR (σ := Nat × Value × Str) (s := ⟨k, u2, b2⟩) (⟨k + 1, u6, b6⟩) ⟨rfl, rfl, rfl, rfl, rfl, rfl, trivial⟩ ⟨by omega, hinv7, H, K1⟩ (by dsimp only; omega)))))))))
         ·have hrise := riseK_0 (m := v.map) (k := k) (x := x) (by omega)
          refine c_draw wide (by kernel_rfl) (tU 3 rfl rfl (Tx rfl (dF hs29_0) (Tx rfl (dF hs29_0) (Tx rfl (dF hs29_0) (Tx rfl (dF hs29_0) (Tx rfl (dF hs29_0) (Tx rfl (dF hs29_0) (Tx rfl (dF hs29_0) (Tx rfl (dF hs29_0) (Tx rfl (dF hs29_0) (Tx rfl (dF hs29_0) (tv (fun w_ E_ => (oF (dF hs29_0) rfl rfl)) rfl rfl (tw_nil rfl fun w27 E_ => ?_)))))))))))))
          replace H := H.mod0 E_
          replace K1 := K1.mod0 E_
          replace R_x := R_x.mod0 E_
          replace K9 := K9.mod0 E_
          refine e_K (hK27 _ _ _ _ (c_false rfl (cK (e_K (hK26 _ _ _ _ (Cq fun K30 hK30 => ?_))))))
          have hinv4 := hinv3
          rw [hrise] at hinv4
          replace hinv4 := okb hinv4
          refine Cr (Zm rfl (Sv (oA0 fd44_0 rfl) (Sv (oL sc9 rfl (K9.blk.cell rfl)) ?_)))
          refine scp (oC ent110 rfl) (c_wtext _ _ _ _ H.wb x.1) rfl (fun w_ h_ => h_.elim) (fun c_ w28 h_ => ?_) fun v_ w28 h_ => ?_
          ·have hp := H.panic (r := v.wr deep b) h_ (fun e he => by rw [hv_, ← hinv4, he]; rfl)
           exact eT (by simp) (eI (by simp) (eT (by simp) (eT (by simp) (eI (by simp) (eT (by simp) (eI (by simp) (endp hp)))))))
          obtain ⟨u4, b4, hb4, H4, hm4, ho4⟩ := H.ret h_
          replace H := H4
          replace K1 := K1.step hm4 ho4
          replace K9 := K9.step hm4 ho4
          replace R_x := R_x.wstep hm4 ho4
          have hinv5 := hinv4
          rw [hb4] at hinv5
          replace hinv5 := okb hinv5
          refine Ln (e_K (hK30 _ _ _ _ (Cq fun K31 hK31 => Cr (Zm rfl ?_))))
          refine scp (oC ent107 rfl) (c_wput _ _ _ _ H.wb [58] (by simp)) rfl (fun w_ h_ => h_.elim) (fun c_ w29 h_ => ?_) fun v_ w29 h_ => ?_
          ·have hp := H.panic (r := v.wr deep b) h_ (fun e he => by rw [hv_, ← hinv5, he]; rfl)
           exact eT (by simp) (eI (by simp) (eT (by simp) (eT (by simp) (eI (by simp) (eT (by simp) (eI (by simp) (endp hp)))))))
          obtain ⟨u5, b5, hb5, H5, hm5, ho5⟩ := H.ret h_
          replace H := H5
          replace K1 := K1.step hm5 ho5
          replace K9 := K9.step hm5 ho5
          replace R_x := R_x.wstep hm5 ho5
          have hinv6 := hinv5
          rw [hb5] at hinv6
          replace hinv6 := okb hinv6
          refine Ln (e_K (hK31 _ _ _ _ (Cr (Zm rfl (Sv (oA0 fd44_1 rfl) (Sv (o_lda (vs := [_, _, _, _, _, _]) ag25 rfl rfl (K9.blk.cs rfl)) (Zm rfl (Sv (o_addE (r := ((deep + 1 : Nat) : Int)) rfl rfl (by rw [wrap64_in _ (by omega)]; omega)) ?_))))))))
          refine scp (oC ent57 rfl) (ih _ x.2 _ (deep + 1) _ _ _ (by have := JV.sz_in_map (List.mem_of_getElem? hx_x); omega) H.wb R_x (by omega) (hT.mod H.mod hgt) (fun h => (H.in_ _ h).elim hgt (fun h => by have := hT.lt; omega))) rfl (fun w_ h_ => h_.elim) (fun c_ w30 h_ => ?_) fun v_ w30 h_ => ?_
          ·have hp := H.panic (r := v.wr deep b) h_ (fun e he => by rw [hv_, ← hinv6, he]; rfl)
           exact eI (by simp) (eT (by simp) (eT (by simp) (eI (by simp) (eT (by simp) (eI (by simp) (endp hp))))))
          obtain ⟨u6, b6, hb6, H6, hm6, ho6⟩ := H.ret h_
          replace H := H6
          replace K1 := K1.step hm6 ho6
          have hinv7 := hinv6
          rw [hb6] at hinv7
          replace hinv7 := okb hinv7
          exact Ln (eI (by simp) (e_K (hK23 _ _ _ _ (Cr (Sv (o_addN rfl rfl (by omega)) (Zm rfl (Ln (eR (σ := Nat × Value × Str) (s := ⟨k, u2, b2⟩) (⟨k + 1, u6, b6⟩) ⟨rfl, rfl, rfl, rfl, rfl, rfl, trivial⟩ ⟨by omega, hinv7, H, K1⟩ (by dsimp only; omega)))))))))
        ·have hW : ((lng (b ++ [123])).bind fun b => JV.wrm v.map deep none b) = .ok b2 := by rw [← hinv, wrm_end (by omega)]
         refine c_exit (eT (by simp) (eT (by simp) (e_hit (e_K (hK19 _ _ _ _ (Cr (Zm rfl ?_)))))))
         refine scp (oC ent107 rfl) (c_wput _ _ _ _ H.wb [125] (by simp)) rfl (fun w_ h_ => h_.elim) (fun c_ w31 h_ => ?_) fun v_ w31 h_ => ?_
         ·have hp := H.panic (r := v.wr deep b) h_ (fun e he => by rw [hv_, hW]; exact he)
          exact eI (by simp) (endp hp)
         obtain ⟨u9, b9, hb9, H9, hm9, ho9⟩ := H.ret h_
         replace H := H9
         exact Ln (eI (by simp) (end0R rfl (H.fin (r := v.wr deep b) (by rw [hv_, hW]; exact hb9))))
       ·exact absurd (show v.kind = 5 by have := JV.bare_kind hbare; omega) h83
 refine cB (Cq fun K32 hK32 => Cr (Sv (o_lda (vs := [_, _, _, _, _, _]) ag25 rfl rfl (K1.blk.cs rfl)) (sc (oC ent106 rfl) (c_plain _ v _ (R0.to0 N1.mod)) rfl fun v_ w32 h_ => ?_)))
 obtain ⟨rfl, E_⟩ := h_
 replace H := H.mod0 E_
 replace K1 := K1.mod0 E_
 refine Sv (o_not rfl) ?_
 refine bC (fun hs1_0 : ((!v.plain)) = true => ?_) (fun hs1_0 => ?_)
 ·refine tW 11 rfl (Ln (e_K (hK32 _ _ _ _ (c_true rfl ?_))))
  have hb0 : v.bare = false := by
   rw [JV.bare_plain, Bool.and_eq_false_iff]
   first | (left; simpa using hs1_0; done) | (right; exact dF (by omega))
  have hr : v.wr deep b = .error 1 := by rw [JV.wr_eq, if_pos hb0]
  refine Cr ?_
  refine scp (oC ent53 rfl) (c_fail _ 1) rfl (fun w_ h_ => h_.elim) (fun c_ w33 h_ => ?_) fun v_ w33 h_ => ?_
  ·obtain ⟨rfl, rfl⟩ := h_
   exact eI (by simp) (eT (by simp) (endp (H.fail (hr))))
  ·exact h_.elim
 ·refine Zm rfl (Sg rfl rfl (oA0 fd25_2 rfl) (Sg rfl rfl (oL sc3 rfl (K1.blk.cell rfl)) (Sg rfl rfl (o_gtr rfl rfl) ?_)))
  refine bD (fun hs1_1 : v.num > 9007199254740991 => ?_) (fun hs1_1 => ?_)
  ·refine tW 7 rfl (Ln (e_K (hK32 _ _ _ _ (c_true rfl ?_))))
   have hb0 : v.bare = false := by
    rw [JV.bare_plain, Bool.and_eq_false_iff]
    first | (left; simpa using hs1_0; done) | (right; exact dF (by omega))
   have hr : v.wr deep b = .error 1 := by rw [JV.wr_eq, if_pos hb0]
   refine Cr ?_
   refine scp (oC ent53 rfl) (c_fail _ 1) rfl (fun w_ h_ => h_.elim) (fun c_ w34 h_ => ?_) fun v_ w34 h_ => ?_
   ·obtain ⟨rfl, rfl⟩ := h_
    exact eI (by simp) (eT (by simp) (endp (H.fail (hr))))
   ·exact h_.elim
  ·refine tW 2 rfl (Sg rfl rfl (oA0 fd25_2 rfl) (Sg rfl rfl (oL sc3 rfl (K1.blk.cell rfl)) (Sg rfl rfl (o_lss rfl rfl) ?_)))
   refine bD (fun hs1_2 : v.num < -9007199254740991 => ?_) (fun hs1_2 => ?_)
   ·refine tW 2 rfl (Ln (e_K (hK32 _ _ _ _ (c_true rfl ?_))))
    have hb0 : v.bare = false := by
     rw [JV.bare_plain, Bool.and_eq_false_iff]
     first | (left; simpa using hs1_0; done) | (right; exact dF (by omega))
    have hr : v.wr deep b = .error 1 := by rw [JV.wr_eq, if_pos hb0]
    refine Cr ?_
    refine scp (oC ent53 rfl) (c_fail _ 1) rfl (fun w_ h_ => h_.elim) (fun c_ w35 h_ => ?_) fun v_ w35 h_ => ?_
    ·obtain ⟨rfl, rfl⟩ := h_
     exact eI (by simp) (eT (by simp) (endp (H.fail (hr))))
    ·exact h_.elim
   ·refine tW 2 rfl (Ln (e_K (hK32 _ _ _ _ (c_false rfl ?_))))
    have hbare : v.bare = true := by
     rw [JV.bare_plain, dT (show -9007199254740991 ≤ v.num ∧ v.num ≤ 9007199254740991 by omega), Bool.and_true]
     simpa using hs1_0
    refine Cq fun K33 hK33 => Cr (Sv (oA0 fd25_0 rfl) (Sv (oL sc3 rfl (K1.blk.cell rfl)) (Sv (o_geq rfl rfl) ?_)))
    refine bD (fun hs3_0 : v.kind ≥ 4 => ?_) (fun hs3_0 => ?_)
    ·refine tW 2 rfl (Sg rfl rfl (o_geq rfl rfl) ?_)
     refine bD (fun hs3_1 : (deep : Int) ≥ 32 => ?_) (fun hs3_1 => ?_)
     ·refine tW 2 rfl (Ln (e_K (hK33 _ _ _ _ (c_true rfl ?_))))
      have hr : v.wr deep b = .error 5 := by
       have hne : ¬ v.bare = false := by rw [hbare]; simp
       rw [JV.wr_eq, if_neg hne, if_neg (by omega), if_neg (by omega), if_neg (by omega), if_neg (by omega), if_pos (by omega)]
      refine Cr ?_
      refine scp (oC ent53 rfl) (c_fail _ 5) rfl (fun w_ h_ => h_.elim) (fun c_ w36 h_ => ?_) fun v_ w36 h_ => ?_
      ·obtain ⟨rfl, rfl⟩ := h_
       exact eI (by simp) (eT (by simp) (endp (H.fail (hr))))
      ·exact h_.elim
     ·refine tW 2 rfl (Ln (e_K (hK33 _ _ _ _ (c_false rfl (cK (eI (by simp) ?_))))))
      refine WE.sub (l' := [(0, _), (2, _), (4, _)]) ⟨rfl, rfl, rfl, trivial⟩ (e_K (J2  w32 ⟨hbare, by omega, H, K1⟩))
    ·refine tW 5 rfl (Ln (e_K (hK33 _ _ _ _ (c_false rfl (cK (eI (by simp) ?_))))))
     refine WE.sub (l' := [(0, _), (2, _), (4, _)]) ⟨rfl, rfl, rfl, trivial⟩ (e_K (J2  w32 ⟨hbare, by omega, H, K1⟩))

theorem c_wval (N : Nat) : ∀ (w : World) (v : JV) (us : List Value) (deep : Nat) (b : Str) (u : Value) (g : Nat), v.sz ≤ N → WrB w g 76 u b → Reps (g :: ob u) w v.D us → deep ≤ 32 → Tab w → gT ∉ g :: ob u → Calls Tryz.prog 57 [.pointer (some ⟨g, 0, none⟩), .agg us.toArray, .int .i64 (deep : Int)].toArray w (WrP w g 76 110 u (v.wr deep b)) := by
 induction N with
 | zero => intro w v us deep b u g hN; exact absurd (JV.sz_eq v) (by omega)
 | succ N ih => intro w v us deep b u g hN HB R hd hT hgt; exact c_wval_step N ih w v us deep b u g hN HB R hd hT hgt
end Go.Proofs.YtknndpjacklkeaaGreatDoor.V

set_option linter.unusedVariables false
set_option linter.unusedSimpArgs false
set_option maxRecDepth 10000
namespace Go.Proofs.YtknndpjacklkeaaGreatDoor.V
open Go Go.Proofs
theorem ifn20 : Tryz.prog.underlying 20 = some (.interface (Tryz.prog.methodsAt 20)) := by kernel_rfl
theorem ag110 : agB Tryz.prog 110 1 = true := by kernel_rfl
theorem fd110_0 : fdB Tryz.prog 110 0 0 1 = true := by kernel_rfl
theorem sc26 : scB Tryz.prog 26 = true := by kernel_rfl
theorem ent50 : Ent Tryz.prog 50 := Ent.of Tryz.func50 (by kernel_rfl) (by kernel_rfl)
theorem zv9 : zvB Tryz.prog 9 ([S []]) := by unfold zvB; kernel_rfl
theorem zv26 : zvB Tryz.prog 26 ([.int .i64 0]) := by unfold zvB; kernel_rfl
theorem pl76 : plB Tryz.prog 76 [(0, 1)] = true := by kernel_rfl
theorem zv76 : zvB Tryz.prog 76 ([.slice none 0 0]) := by unfold zvB; kernel_rfl
theorem ent56 : Ent Tryz.prog 56 := Ent.of Tryz.func56 (by kernel_rfl) (by kernel_rfl)
theorem c_caught0 (w : World) (p : Value) : Calls Tryz.prog 50 [.nilIface, p].toArray w (Ret fun u w' => True ∧ Mod [] w w') := by
 refine enter Tryz.func50 rfl rfl rfl (l := [(0, _), (1, _)]) ⟨rfl, rfl, trivial⟩ ?_
 have E := Mod.refl [] w
 exact Cq fun K1 hK1 => Cq fun K2 hK2 => Cr (Zm rfl (Sv (o_inn ifn20 rfl) (Ln (e_K (hK2 _ _ _ _ (c_true rfl (cR (eT (by simp) (ret0 rfl ⟨trivial, E⟩)))))))))

theorem c_caught1 (w : World) (ge : Nat) (z : Value) (e : Int) (B : Blk w ge 26 [z]) : Calls Tryz.prog 50 [.iface 110 (.agg #[.int .i64 e]), .pointer (some ⟨ge, 0, none⟩)].toArray w (Ret fun u w' => Blk w' ge 26 [.int .i64 e] ∧ Mod [ge] w w') := by
 refine enter Tryz.func50 rfl rfl rfl (l := [(0, _), (1, _)]) ⟨rfl, rfl, trivial⟩ (Cq fun K1 hK1 => Cq fun K2 hK2 => ?_)
 have E := Mod.refl [ge] w
 refine Cr (Zm rfl (Sv (o_ifn ifn20 rfl) (Ln (e_K (hK2 _ _ _ _ (c_false rfl (cK (e_K (hK1 _ _ _ _ (Cq fun K3 hK3 => Cr (Zm rfl (Sv (o_ta Tryz.underlying110 rfl rfl) (tW 3 rfl (s_alloc zv110 rfl fun g1 w1 N1 => ?_))))))))))))))
 have Lg1_E := N1.le E
 have Dge_g1 := N1.ne B
 replace B := B.mod0 N1.mod
 replace E := E.then N1.mod
 have Bg1 := N1.blk
 refine s_sta (vs := [_]) ag110 Bg1 rfl rfl rfl (by simp [Value.oneCell']) (by simp) fun w2 P2 => ?_
 replace B := B.ne P2.mod (Ne.symm (Ne.symm Dge_g1))
 replace E := E.own P2.mod Lg1_E
 replace Bg1 : Blk w2 g1 _ [_] := P2.blk
 refine Za rfl (Ln (e_K (hK3 _ _ _ _ (Cq fun K4 hK4 => Cq fun K5 hK5 => Cr (tW 2 rfl (Ln (e_K (hK5 _ _ _ _ ?_))))))))
 refine c_cond rfl (fun h14 => ?_) (fun h14 => ?_)
 ·cases h14
 ·refine cK (e_K (hK4 _ _ _ _ (Cr (Zm rfl (Sv (oA0 fd110_0 rfl) (Sv (oL sc26 rfl (Bg1.cell rfl)) (Sv (o_nilc rfl) (s_st sc26 B rfl rfl rfl (by simp) fun w3 P3 => ?_))))))))
  replace Bg1 := Bg1.ne P3.mod (Ne.symm Dge_g1)
  replace E := E.trans P3.mod
  replace B : Blk w3 ge _ [_] := P3.blk
  exact Ln (end0 rfl ⟨B, E⟩)

theorem c_can1r (w : World) (ge gs : Nat) (B : Blk w ge 26 [.int .i64 0]) : CallsD Tryz.prog 56 [.pointer (some ⟨ge, 0, none⟩), .pointer (some ⟨gs, 0, none⟩)].toArray .returning w (fun e u' w' => (∃ v, e = .returned v) ∧ u' = .returning ∧ Mod [] w w') := by
 refine rec_enter Tryz.func56 rfl rfl rfl (l := [(0, _), (1, _)]) ⟨rfl, rfl, trivial⟩ rfl rfl (.inl ⟨rfl, rfl, rfl⟩) (by rintro u w ⟨⟨v, hv⟩, _⟩; cases hv) fun K1 hK1 => ?_
 have E := Mod.refl [] w
 refine sc (oC ent50 rfl) (c_caught0 _ _) rfl fun v_ w1 h_ => ?_
 obtain ⟨_, E_⟩ := h_
 replace B := B.mod0 E_
 replace E := E.then E_
 refine Ln (e_K (hK1 _ _ _ _ (Cq fun K2 hK2 => Cr (Sv (oL sc26 rfl (B.cell rfl)) (Sv (o_neq rfl rfl) (Ln (e_K (hK2 _ _ _ _ ?_))))))))
 refine c_if rfl (fun h5 => ?_) (fun h5 => ?_)
 ·exact absurd rfl h5
 ·exact cK (end0R rfl ⟨⟨_, rfl⟩, rfl, E⟩)

theorem c_can1p (w : World) (ge gs : Nat) (z z2 : Value) (e : Int) (B : Blk w ge 26 [z]) (B2 : Blk w gs 9 [z2]) (hne : ge ≠ gs) (he : e ≠ 0) : CallsD Tryz.prog 56 [.pointer (some ⟨ge, 0, none⟩), .pointer (some ⟨gs, 0, none⟩)].toArray (.panicking (pEnt 110 e)) w (fun en u' w' => (∃ v, en = .returned v) ∧ u' = .panicking [{ v := .iface 110 (.agg #[.int .i64 e]), recovered := true }] ∧ Blk w' ge 26 [.int .i64 e] ∧ Blk w' gs 9 [S []] ∧ Mod [ge, gs] w w') := by
 refine rec_enter Tryz.func56 rfl rfl rfl (l := [(0, _), (1, _)]) ⟨rfl, rfl, trivial⟩ rfl rfl (.inr ⟨rfl, rfl⟩) (by rintro u w ⟨⟨v, hv⟩, _⟩; cases hv) fun K1 hK1 => ?_
 have E := Mod.refl [ge, gs] w
 refine sc (oC ent50 rfl) (c_caught1 _ ge z e B) rfl fun v_ w1 h_ => ?_
 obtain ⟨B9, E_⟩ := h_
 replace E := E.trans' E_ (fun x hx => .inl (by simp at hx; simp [hx]))
 replace B2 := B2.mod E_ (by simp; exact fun h => hne h.symm)
 clear B
 have B := B9
 refine Ln (e_K (hK1 _ _ _ _ (Cq fun K2 hK2 => Cr (Sv (oL sc26 rfl (B.cell rfl)) (Sv (o_neq rfl rfl) (Ln (e_K (hK2 _ _ _ _ ?_))))))))
 refine c_if rfl (fun h5 => ?_) (fun h5 => ?_)
 ·refine Cr (s_st sc9 B2 rfl rfl rfl (by simp) fun w9 P9 => ?_)
  replace E := E.trans' P9.mod (fun x hx => .inl (by simp at hx; simp [hx]))
  replace B := B.mod P9.mod (by simp; exact hne)
  replace B2 := P9.blk
  exact Ln (end0R rfl ⟨⟨_, rfl⟩, rfl, B, B2, E⟩)
 ·exact absurd he h5

theorem c_canon (w : World) (v : JV) (us : List Value) (R : Reps [] w v.D us) (hT : Tab w) : Calls Tryz.prog 19 [.agg us.toArray].toArray w (Ret fun u w' => u = .tuple #[S (bts (v.wr 0 [])), .int .i64 (ern (v.wr 0 []))] ∧ Mod [] w w') := by
 refine enterD Tryz.func19 rfl rfl rfl (l := [(0, _)]) ⟨rfl, trivial⟩ ?_
 have E := Mod.refl [] w
 obtain ⟨al, cl, am, cm, rfl, Rl, Rm⟩ := JV.cells_ R
 refine Cq fun K1 hK1 => Cr (s_box rfl rfl rfl fun g1 w1 N1 => ?_)
 have Lg1_E := N1.le E
 replace E := E.then N1.mod
 have Bg1 := N1.blk
 refine s_alloc zv9 rfl fun g2 w2 N2 => ?_
 have Lg2_E := N2.le E
 have Dg1_g2 := N2.ne Bg1
 replace Bg1 := Bg1.mod0 N2.mod
 replace E := E.then N2.mod
 have Bg2 := N2.blk
 refine s_alloc zv26 rfl fun g3 w3 N3 => ?_
 have Lg3_E := N3.le E
 have Dg1_g3 := N3.ne Bg1
 have Dg2_g3 := N3.ne Bg2
 replace Bg1 := Bg1.mod0 N3.mod
 replace Bg2 := Bg2.mod0 N3.mod
 replace E := E.then N3.mod
 have Bg3 := N3.blk
 refine Ln (e_K (hK1 _ _ _ _ (Cq fun K2 hK2 => Cr (Sv (o_mkf rfl rfl) (s_defer rfl (Ln (e_K (hK2 _ _ _ _ (Cq fun K3 hK3 => Cr (Sv (o_build (cs := [_]) pl76 zv76 rfl rfl) (s_box rfl rfl rfl fun g4 w4 N4 => ?_)))))))))))
 have Lg4_E := N4.le E
 have Dg1_g4 := N4.ne Bg1
 have Dg2_g4 := N4.ne Bg2
 have Dg3_g4 := N4.ne Bg3
 replace Bg1 := Bg1.mod0 N4.mod
 replace Bg2 := Bg2.mod0 N4.mod
 replace Bg3 := Bg3.mod0 N4.mod
 replace E := E.then N4.mod
 have Bg4 := N4.blk
 refine Za rfl (Ln (e_K (hK3 _ _ _ _ (Cq fun K4 hK4 => ?_))))
 have HB : WrB w4 g4 76 (.slice none 0 0) [] := ⟨Bg4, Own.nil _ 5 1, by simp [ob], by simp⟩
 refine Cr (Zm rfl (Sv (o_lda (vs := [_, _, _, _, _, _]) ag25 rfl rfl (Bg1.cs rfl)) ?_))
 refine scp (oC ent57 rfl) (c_wval v.sz _ v _ 0 [] _ g4 (Nat.le_refl _) HB (Reps.to E (by simp) (fun x hx => .inr (by simp [ob] at hx; subst hx; exact Lg4_E)) _ _ R) (by omega) (hT.mod E (by simp)) (by simp [ob]; intro h; have := hT.lt; omega)) rfl (fun w_ h_ => h_.elim) (fun c_ w5 h_ => ?_) fun v_ w5 h_ => ?_
 ·obtain ⟨e, hre, he0, rfl, hm⟩ := h_
  have hm9 : Mod [g4] w4 _ := hm
  replace Bg2 := Bg2.mod hm9 (by simp; exact fun h => Dg2_g4 h)
  replace Bg3 := Bg3.mod hm9 (by simp; exact fun h => Dg3_g4 h)
  replace E := E.own hm9 Lg4_E
  refine eT (by simp) (we_panic fun a ha => leavesD (by simp) ent56 (c_can1p _ g3 g2 _ _ e Bg3 Bg2 (fun h => Dg2_g3 h.symm) he0) fun en u9 w9 h9 => ?_)
  obtain ⟨⟨v9, rfl⟩, rfl, B3, B2, E9⟩ := h9
  exact ⟨v9, rfl, rfl, _, results_cc ha rfl sc9 sc26 rfl rfl (B2.cell rfl) (B3.cell rfl), ⟨by rw [hre]; simp [bts, ern, he0], E.trans' E9 (fun x hx => .inr (by simp at hx; rcases hx with rfl | rfl <;> first | exact Lg3_E | exact Lg2_E))⟩⟩
 obtain ⟨u1, b1, hb1, H1, hm1, ho1⟩ := h_
 have hm9 : Mod [g4] w4 _ := hm1
 replace Bg2 := Bg2.mod hm9 (by simp; exact fun h => Dg2_g4 h)
 replace Bg3 := Bg3.mod hm9 (by simp; exact fun h => Dg3_g4 h)
 replace E := E.own hm9 Lg4_E
 refine Ln (e_K (hK4 _ _ _ _ (Cq fun K5 hK5 => Cr (tW 2 rfl (Sv (oA0 fd76_0 rfl) (Sv (oL sc74 rfl (H1.blk.cell rfl)) (Sv (o_b2s_own (u := b1) Tryz.underlying74 Tryz.underlying5 Tryz.underlying9 rfl (H1.own.same rfl (cells_b8 _))) (s_st sc9 Bg2 rfl rfl rfl (by simp) fun w6 P6 => ?_))))))))
 replace Bg3 := Bg3.ne P6.mod (Ne.symm Dg2_g3)
 replace E := E.own P6.mod Lg2_E
 replace Bg2 : Blk w6 g2 _ [_] := P6.blk
 refine s_st sc26 Bg3 rfl rfl rfl (by simp) fun w7 P7 => ?_
 replace Bg2 := Bg2.ne P7.mod (Ne.symm (Ne.symm Dg2_g3))
 replace E := E.own P7.mod Lg3_E
 replace Bg3 : Blk w7 g3 _ [_] := P7.blk
 refine Ln (e_K (hK5 _ _ _ _ (cR (we_ret fun a ha => leavesD (by simp) ent56 (c_can1r _ g3 g2 Bg3) fun en u9 w9 h9 => ?_))))
 obtain ⟨⟨v9, rfl⟩, rfl, E9⟩ := h9
 exact ⟨v9, rfl, rfl, _, results_cc ha rfl sc9 sc26 rfl rfl ((Bg2.mod0 E9).cell rfl) ((Bg3.mod0 E9).cell rfl), ⟨by rw [hb1]; rfl, E.then E9⟩⟩
end Go.Proofs.YtknndpjacklkeaaGreatDoor.V

set_option linter.unusedVariables false
set_option linter.unusedSimpArgs false
namespace Go.Proofs.YtknndpjacklkeaaGreatDoor.V
open Go
open Go.ChangeMaps (setBlock)
structure MIt (w : World) (g b : Nat) (m : List (Str × Value)) (L : List Str) (last : Option (Str × Value)) : Prop where
 at_ : ∃ es clock since seen c0, w.heap[g]? = some (.mapIter (some b) since seen c0) ∧ w.heap[b]? = some (.map es clock) ∧ ents es = rows m ∧ (∀ e ∈ es.toList, e.born < since) ∧ since ≤ c0 ∧ c0 = clock ∧ (es.toList.map (·.born)).Nodup ∧
  L.map S = (leftOf es seen).toList.map (·.key) ∧ (∀ p, last = some p → ∃ (e : MapEntry) (s0 : Array Nat), e ∈ es.toList ∧ seen = s0.push e.born ∧ e.key = S p.1 ∧ e.val = p.2)
 keys : (m.map (·.1)).Nodup
section
variable {P : Program} {w w' : World} {g b : Nat} {m : List (Str × Value)} {k : Str} {M : List Nat} {L : List Str} {last : Option (Str × Value)}
variable {ops : Array Oper} {Q : Exit → Act → World → Prop} {n : Nat} {ds : List Deferred} {l : List (Nat × Value)} {rest : List Oper} {d : Nat} {ty : TypeId} {pos : String} {af : Array Edge} {dd : Option Nat} {gg : Option (Nat × Bool)} {x y z : Operand} {t kt et : TypeId} {v : Value}
theorem MIt.lt (h : MIt w g b m L last) : g < w.heap.size := by
 obtain ⟨_, _, _, _, _, h1, _⟩ := h.at_
 exact (Array.getElem?_eq_some_iff.1 h1).1
theorem MIt.mod (h : MIt w g b m L last) (k : Mod M w w') (hg : g ∉ M) (hb : b ∉ M) : MIt w' g b m L last := by
 obtain ⟨es, clock, since, seen, c0, h1, h2, h3⟩ := h.at_
 have l1 := (Array.getElem?_eq_some_iff.1 h1).1
 have l2 := (Array.getElem?_eq_some_iff.1 h2).1
 exact ⟨⟨es, clock, since, seen, c0, (k.block g l1 hg).trans h1, (k.block b l2 hb).trans h2, h3⟩, h.keys⟩
theorem MIt.mod0 (h : MIt w g b m L last) (k : Mod [] w w') : MIt w' g b m L last := h.mod k (by simp) (by simp)
end
end Go.Proofs.YtknndpjacklkeaaGreatDoor.V

set_option linter.unusedVariables false
set_option linter.unusedSimpArgs false
namespace Go.Proofs.YtknndpjacklkeaaGreatDoor.V
open Go
section
variable {P : Program} {ops : Array Oper} {Q : Exit → Act → World → Prop} {n : Nat} {ds : List Deferred} {l : List (Nat × Value)} {w w' : World} {rest : List Oper} {d : Nat} {ty : TypeId} {pos : String} {af : Array Edge} {dd : Option Nat} {gg : Option (Nat × Bool)} {x y z : Operand} {t t' kt et T e : TypeId} {v : Value} {f : FuncId} {name : String}
theorem o_taN {t0 : TypeId} {d0 : TypeDesc} (hT : P.underlying T = some d0) (hn : (match d0 with | .interface _ => false | _ => true) = true) (hx : evO l x = some (.iface T v)) : Runs P l ⟨dd, .typeAssert x t0 T false, ty, pos, af, gg⟩ w v w := fun ρ h => by
 cases d0 <;> first | (simp at hn; done) | simp [execOp, Instr.typeAssert, h _ _ hx, run_underlying hT]
end
end Go.Proofs.YtknndpjacklkeaaGreatDoor.V

set_option linter.unusedVariables false
set_option linter.unusedSimpArgs false
namespace Go.Proofs.YtknndpjacklkeaaGreatDoor.V
open Go
section
variable {P : Program} {ops : Array Oper} {Q : Exit → Act → World → Prop} {n : Nat} {ds : List Deferred} {l : List (Nat × Value)} {w w' : World} {fn : Func} {R : Ending → World → Prop} {v v' : Value}
variable {rest : List Oper} {d : Nat} {op : Op} {ty : TypeId} {pos : String} {af : Array Edge} {x y : Operand} {t t' : TypeId} {dd : Option Nat} {gg : Option (Nat × Bool)}
theorem o_nnn (hi : P.underlying t = some (.interface (P.methodsAt t))) (hx : evO l x = some .nilIface) : Runs P l ⟨dd, .binOp .neq t x (.const .nilIface) t', ty, pos, af, gg⟩ w (.bool false) w := fun ρ h => by
 have h1 : ρ (.const .nilIface) = .nilIface := h _ _ rfl
 have hg : eqGuard .neq t x (.const .nilIface) .nilIface .nilIface = pure () := by cases x <;> rfl
 simp [execOp, h _ _ hx, h1, binOp, hg, run_equal_nil_nil w t hi]
theorem o_nnf {T : TypeId} {v : Value} (hi : P.underlying t = some (.interface (P.methodsAt t))) (hx : evO l x = some (.iface T v)) : Runs P l ⟨dd, .binOp .neq t x (.const .nilIface) t', ty, pos, af, gg⟩ w (.bool true) w := fun ρ h => by
 have h1 : ρ (.const .nilIface) = .nilIface := h _ _ rfl
 have hg : eqGuard .neq t x (.const .nilIface) (.iface T v) .nilIface = pure () := by rfl
 simp [execOp, h _ _ hx, h1, binOp, hg, run_equal_held_nil w t _ _ hi]
theorem o_taF {T T' t0 : TypeId} {v z : Value} {e : TypeId} (hT : P.underlying T = some (.pointer e)) (hne : ¬ T' = T) (hz : (P.info? T).bind (·.zero) = some z) (hx : evO l x = some (.iface T' v)) : Runs P l ⟨dd, .typeAssert x t0 T true, ty, pos, af, gg⟩ w (.tuple #[z, .bool false]) w := fun ρ h => by
 simp [execOp, Instr.typeAssert, h _ _ hx, run_underlying hT, hne, run_zero hz]
theorem ret1R (hr : fn.results = #[.tmp t]) (hv : lk t l = some v) (h : R (.returned v) w) : WE (bodyPost P fn R) .ret n [] l w := fun a ha => ⟨ha.defers, _, results_tmp hr _ _ _, by rw [getD_lk ha hv]; exact h⟩
theorem retcR {ad : Addr} {vs : List Value} {T c : Nat} (hr : fn.results = #[.cell t T]) (ht : agB P T c = true) (hv : lk t l = some (.pointer (some ad))) (hc : vs.length = c) (hcs : Cs w ad vs) (h : R (.returned (.agg vs.toArray)) w) : WE (bodyPost P fn R) .ret n [] l w := fun a ha =>
 ⟨ha.defers, .agg vs.toArray, by simp [results, hr, ha.get _ _ hv, asAddr, run_loadVar_ag ht hc hcs], h⟩
theorem retctR {ad : Addr} {vs : List Value} {T c : Nat} (hr : fn.results = #[.cell t T, .tmp t']) (ht : agB P T c = true) (hv : lk t l = some (.pointer (some ad))) (hc : vs.length = c) (hcs : Cs w ad vs) (hv' : lk t' l = some v') (h : R (.returned (.tuple #[.agg vs.toArray, v'])) w) : WE (bodyPost P fn R) .ret n [] l w := fun a ha =>
 ⟨ha.defers, .tuple #[.agg vs.toArray, v'], by simp [results, hr, ha.get _ _ hv, ha.get _ _ hv', asAddr, run_loadVar_ag ht hc hcs], h⟩
end
end Go.Proofs.YtknndpjacklkeaaGreatDoor.V

set_option linter.unusedVariables false
set_option linter.unusedSimpArgs false
set_option maxRecDepth 10000
namespace Go.Proofs.YtknndpjacklkeaaGreatDoor.V
open Go Go.Proofs
theorem ent196 : Ent Tryz.prog 196 := Ent.of Tryz.func196 (by kernel_rfl) (by kernel_rfl)
end Go.Proofs.YtknndpjacklkeaaGreatDoor.V

set_option linter.unusedVariables false
set_option linter.unusedSimpArgs false
set_option maxRecDepth 10000
namespace Go.Proofs.YtknndpjacklkeaaGreatDoor.V
open Go Go.Proofs
end Go.Proofs.YtknndpjacklkeaaGreatDoor.V

set_option linter.unusedVariables false
set_option linter.unusedSimpArgs false
set_option maxRecDepth 10000
namespace Go.Proofs.YtknndpjacklkeaaGreatDoor.V
open Go Go.Proofs
end Go.Proofs.YtknndpjacklkeaaGreatDoor.V

set_option linter.unusedVariables false
set_option linter.unusedSimpArgs false
set_option maxRecDepth 10000
namespace Go.Proofs.YtknndpjacklkeaaGreatDoor.V
open Go Go.Proofs
end Go.Proofs.YtknndpjacklkeaaGreatDoor.V

set_option linter.unusedVariables false
set_option linter.unusedSimpArgs false
set_option maxRecDepth 10000
namespace Go.Proofs.YtknndpjacklkeaaGreatDoor.V
open Go Go.Proofs
end Go.Proofs.YtknndpjacklkeaaGreatDoor.V

set_option linter.unusedVariables false
set_option linter.unusedSimpArgs false
set_option maxRecDepth 10000
namespace Go.Proofs.YtknndpjacklkeaaGreatDoor.V
open Go Go.Proofs

def JV.seven : JV := .mk 2 false 7 [] [] []
end Go.Proofs.YtknndpjacklkeaaGreatDoor.V

set_option linter.unusedVariables false
set_option linter.unusedSimpArgs false
set_option maxRecDepth 10000
namespace Go.Proofs.YtknndpjacklkeaaGreatDoor.V
open Go Go.Proofs
theorem sl45 : slB Tryz.prog 45 9 1 16 = true := by kernel_rfl
end Go.Proofs.YtknndpjacklkeaaGreatDoor.V

set_option linter.unusedVariables false
set_option linter.unusedSimpArgs false
set_option maxRecDepth 10000
namespace Go.Proofs.YtknndpjacklkeaaGreatDoor.V
open Go Go.Proofs
theorem ent19 : Ent Tryz.prog 19 := Ent.of Tryz.func19 (by kernel_rfl) (by kernel_rfl)
end Go.Proofs.YtknndpjacklkeaaGreatDoor.V

set_option linter.unusedVariables false
set_option linter.unusedSimpArgs false
namespace Go.Proofs.YtknndpjacklkeaaGreatDoor.V
open Go
theorem EV.reps_ {A : List Nat} {w : World} {e : EV} {cs : List Value} {up ua uS : Value} (Rc : Reps A w e.con.D cs) (Rp : Rep A w (strD e.prev) up) (Ra : Rep A w (strD e.auth) ua) (Rs : Rep A w (flat 3 Sig3.cells e.sigs) uS) :
  Reps A w e.D ([S e.room, S e.snd, S e.ty, .bool e.st, S e.key] ++ (cs ++ [up, ua, .int .i64 e.dep, .int .i64 e.time, S e.hash, uS])) := by
 unfold EV.D
 refine Reps.append (Reps.cons_ (Rep.v_ rfl) (Reps.cons_ (Rep.v_ rfl) (Reps.cons_ (Rep.v_ rfl) (Reps.cons_ (Rep.v_ rfl) (Reps.cons_ (Rep.v_ rfl) Reps.nil_))))) (Reps.append Rc ?_)
 exact Reps.cons_ Rp (Reps.cons_ Ra (Reps.cons_ (Rep.v_ rfl) (Reps.cons_ (Rep.v_ rfl) (Reps.cons_ (Rep.v_ rfl) (Reps.cons_ Rs Reps.nil_)))))
def JV.five : JV := .mk 5 false 0 [] [] []
abbrev as43 : Str := List.replicate 43 65
def EV.plain : EV := { room := [33, 114, 58, 97], snd := [64, 117, 58, 97], ty := [116], st := false, key := [], con := JV.five, prev := [36 :: as43], auth := [], dep := 0, time := 0, hash := as43, sigs := [] }
def EV.nul : EV := { room := [], snd := [], ty := [], st := false, key := [], con := JV.nul, prev := [], auth := [], dep := 0, time := 0, hash := [], sigs := [] }
theorem EV.nul_reps {A : List Nat} {w : World} : Reps A w EV.nul.D [S [], S [], S [], .bool false, S [], .int .i64 0, .bool false, .int .i64 0, S [], .slice none 0 0, .slice none 0 0, .slice none 0 0, .slice none 0 0, .int .i64 0, .int .i64 0, S [], .slice none 0 0] :=
 EV.reps_ (e := EV.nul) JV.nul_reps Rep.sl_nil Rep.sl_nil Rep.sl_nil
end Go.Proofs.YtknndpjacklkeaaGreatDoor.V

set_option linter.unusedVariables false
set_option linter.unusedSimpArgs false
set_option maxRecDepth 10000
namespace Go.Proofs.YtknndpjacklkeaaGreatDoor.V
open Go Go.Proofs
end Go.Proofs.YtknndpjacklkeaaGreatDoor.V

set_option linter.unusedVariables false
set_option linter.unusedSimpArgs false
set_option maxRecDepth 10000
namespace Go.Proofs.YtknndpjacklkeaaGreatDoor.V
open Go Go.Proofs
end Go.Proofs.YtknndpjacklkeaaGreatDoor.V

set_option linter.unusedVariables false
set_option linter.unusedSimpArgs false
set_option maxRecDepth 10000
namespace Go.Proofs.YtknndpjacklkeaaGreatDoor.V
open Go Go.Proofs
end Go.Proofs.YtknndpjacklkeaaGreatDoor.V

set_option linter.unusedVariables false
set_option linter.unusedSimpArgs false
set_option maxRecDepth 10000
namespace Go.Proofs.YtknndpjacklkeaaGreatDoor.V
open Go Go.Proofs
end Go.Proofs.YtknndpjacklkeaaGreatDoor.V

set_option linter.unusedVariables false
set_option linter.unusedSimpArgs false
set_option maxRecDepth 10000
namespace Go.Proofs.YtknndpjacklkeaaGreatDoor.V
open Go Go.Proofs

end Go.Proofs.YtknndpjacklkeaaGreatDoor.V

set_option linter.unusedVariables false
set_option linter.unusedSimpArgs false
set_option maxRecDepth 10000
namespace Go.Proofs.YtknndpjacklkeaaGreatDoor.V
open Go Go.Proofs
end Go.Proofs.YtknndpjacklkeaaGreatDoor.V

set_option linter.unusedVariables false
set_option linter.unusedSimpArgs false
set_option maxRecDepth 10000
namespace Go.Proofs.YtknndpjacklkeaaGreatDoor.V
open Go Go.Proofs

end Go.Proofs.YtknndpjacklkeaaGreatDoor.V

set_option linter.unusedVariables false
set_option linter.unusedSimpArgs false
set_option maxRecDepth 10000
namespace Go.Proofs.YtknndpjacklkeaaGreatDoor.V
open Go Go.Proofs
end Go.Proofs.YtknndpjacklkeaaGreatDoor.V

set_option linter.unusedVariables false
set_option linter.unusedSimpArgs false
set_option maxRecDepth 10000
namespace Go.Proofs.YtknndpjacklkeaaGreatDoor.V
open Go Go.Proofs
end Go.Proofs.YtknndpjacklkeaaGreatDoor.V

set_option linter.unusedVariables false
set_option linter.unusedSimpArgs false
set_option maxRecDepth 10000
namespace Go.Proofs.YtknndpjacklkeaaGreatDoor.V
open Go Go.Proofs
end Go.Proofs.YtknndpjacklkeaaGreatDoor.V

set_option linter.unusedVariables false
set_option linter.unusedSimpArgs false
set_option maxRecDepth 10000
namespace Go.Proofs.YtknndpjacklkeaaGreatDoor.V
open Go Go.Proofs
theorem ent21 : Ent Tryz.prog 21 := Ent.of Tryz.func21 (by kernel_rfl) (by kernel_rfl)
theorem c_jtext (w : World) (s : Str) : Calls Tryz.prog 75 [S s].toArray w (Ret fun u w' => u = .agg #[.int .i64 3, .bool false, .int .i64 0, S s, .slice none 0 0, .slice none 0 0] ∧ Mod [] w w') := by
 refine enter Tryz.func75 rfl rfl rfl (l := [(0, _)]) ⟨rfl, trivial⟩ ?_
 have E := Mod.refl [] w
 refine Cq fun K1 hK1 => Cr (s_alloc zv25 rfl fun g1 w1 N1 => ?_)
 have Lg1_E := N1.le E
 replace E := E.then N1.mod
 have Bg1 := N1.blk
 refine Ln (e_K (hK1 _ _ _ _ (Cq fun K2 hK2 => Cr (Zm rfl (Sv (o_build (cs := [_, _, _, _, _, _]) pl25 zv25 rfl rfl) (s_sta (vs := [_, _, _, _, _, _]) ag25 Bg1 rfl rfl rfl (by simp [Value.oneCell']) (by simp) fun w2 P2 => ?_))))))
 replace E := E.own P2.mod Lg1_E
 replace Bg1 : Blk w2 g1 _ [_, _, _, _, _, _] := P2.blk
 exact Ln (e_K (hK2 _ _ _ _ (cR (retc (vs := [_, _, _, _, _, _]) rfl ag25 rfl rfl (Bg1.cs rfl) ⟨rfl, E⟩))))

theorem c_jnum (w : World) (n : Int) : Calls Tryz.prog 20 [.int .i64 n].toArray w (Ret fun u w' => u = .agg #[.int .i64 2, .bool false, .int .i64 n, S [], .slice none 0 0, .slice none 0 0] ∧ Mod [] w w') := by
 refine enter Tryz.func20 rfl rfl rfl (l := [(0, _)]) ⟨rfl, trivial⟩ ?_
 have E := Mod.refl [] w
 refine Cq fun K1 hK1 => Cr (s_alloc zv25 rfl fun g1 w1 N1 => ?_)
 have Lg1_E := N1.le E
 replace E := E.then N1.mod
 have Bg1 := N1.blk
 refine Ln (e_K (hK1 _ _ _ _ (Cq fun K2 hK2 => Cr (Zm rfl (Sv (o_build (cs := [_, _, _, _, _, _]) pl25 zv25 rfl rfl) (s_sta (vs := [_, _, _, _, _, _]) ag25 Bg1 rfl rfl rfl (by simp [Value.oneCell']) (by simp) fun w2 P2 => ?_))))))
 replace E := E.own P2.mod Lg1_E
 replace Bg1 : Blk w2 g1 _ [_, _, _, _, _, _] := P2.blk
 exact Ln (e_K (hK2 _ _ _ _ (cR (retc (vs := [_, _, _, _, _, _]) rfl ag25 rfl rfl (Bg1.cs rfl) ⟨rfl, E⟩))))

theorem c_jlist (A : List Nat) (w : World) (hA : ∀ a ∈ A, a < w.heap.size) (l : List JV) (v : Value) (R : Rep A w (.sl 6 (l.map JV.D)) v) (hn : l.length ≤ 1000000) : Calls Tryz.prog 21 [v].toArray w (Ret fun u w' => ∃ us', u = .agg us'.toArray ∧ Reps A w' (JV.lst l).D us' ∧ Mod [] w w') := by
 refine enter Tryz.func21 rfl rfl rfl (l := [(0, _)]) ⟨rfl, trivial⟩ ?_
 have E := Mod.refl [] w
 obtain ⟨ad, c, rfl, hc1, hc2⟩ : ∃ ad c, v = .slice ad l.length c ∧ l.length ≤ c ∧ c ≤ 9223372036854775807 := by
  obtain ⟨ad, c, h1, h2, h3⟩ := R.sl_
  rw [List.length_map] at h1 h2
  exact ⟨ad, c, h1, h2, h3⟩
 obtain ⟨vs, hvs, hvl, hsrc⟩ := Src.rep0 (P := Tryz.prog) Tryz.underlying22 R
 rw [List.length_map] at hvl hsrc
 refine Cq fun K1 hK1 => Cr (s_alloc zv25 rfl fun g1 w1 N1 => ?_)
 have Lg1_E := N1.le E
 replace E := E.then N1.mod
 have Bg1 := N1.blk
 refine Ln (e_K (hK1 _ _ _ _ (Cq fun K2 hK2 => Cr (s_bslice (cs := []) sl22 zv25 rfl rfl rfl (by decide) rfl fun g2 w2 N2 => ?_))))
 have Lg2_E := N2.le E
 have Dg1_g2 := N2.ne Bg1
 replace Bg1 := Bg1.mod0 N2.mod
 replace E := E.then N2.mod
 have Bg2 := N2.blk
 refine Zm rfl (s_append sl22 rfl rfl (Own.all (c := 0) (cs := []) Bg2 rfl (by omega)) (hsrc _ E) (by decide) (by omega) (by omega) rfl fun v1 w3 A1 => ?_)
 have L1 : ∀ x ∈ ob v1, w.heap.size ≤ x := fun x hx => (A1.ob_ x hx).elim (fun h => by simp [ob] at h; subst h; exact Lg2_E) (fun h => Nat.le_trans (Nat.le_trans Lg2_E (Nat.le_of_lt Bg2.lt)) h)
 have D1 : ∀ x ∈ ob v1, x ≠ g1 := fun x hx => (A1.ob_ x hx).elim (fun h => by simp [ob] at h; subst h; exact Dg1_g2.symm) (fun h e => by have := Bg1.lt; omega)
 replace Bg1 := Bg1.mod A1.mod (fun h => by simp [ob] at h; exact Dg1_g2 h)
 replace E := E.trans' A1.mod (fun x hx => .inr (by simp [ob] at hx; subst hx; exact Lg2_E))
 have O1 : Own w3 25 6 v1 l.length vs := A1.own.same (by simp) (by simp)
 obtain ⟨ad2, c2, rfl, hd1, hd2⟩ := O1.form
 refine Sv (o_build (cs := [_, _, _, _, _, _]) pl25 zv25 rfl rfl) (s_sta (vs := [_, _, _, _, _, _]) ag25 Bg1 rfl rfl rfl (by simp [Value.oneCell']) (by simp) fun w4 P4 => ?_)
 replace E := E.own P4.mod Lg1_E
 replace O1 := O1.put P4.mod D1
 replace Bg1 : Blk w4 g1 _ [_, _, _, _, _, _] := P4.blk
 exact Ln (e_K (hK2 _ _ _ _ (cR (retc (vs := [_, _, _, _, _, _]) rfl ag25 rfl rfl (Bg1.cs rfl) ⟨_, rfl, JV.lst_reps (Own.rep O1 (hvs.to0 E) (fun r hr => by obtain ⟨x_, _, rfl⟩ := List.mem_map.1 hr; exact JV.D_len _) (by simp) (fun x hx h => by have := L1 x hx; have := hA x h; omega)), E⟩))))

end Go.Proofs.YtknndpjacklkeaaGreatDoor.V

set_option linter.unusedVariables false
set_option linter.unusedSimpArgs false
namespace Go.Proofs.YtknndpjacklkeaaGreatDoor.V
open Go
theorem GL.new {A : List Nat} {w0 w1 w2 : World} {g e sz n : Nat} {cs : List Value} {rows : List (List D)} (N : New w1 w2 g e cs) (R : Reps A w1 rows.flatten cs) (hA : ∀ a ∈ A, a < w1.heap.size) (h0 : w0.heap.size ≤ w1.heap.size) (hl : cs.length = n * sz) (hn : n ≤ 9223372036854775807) : GL A w0 w2 e sz (.slice (some ⟨g, 0, none⟩) n n) n rows cs := by
 have hg := N.at_
 refine ⟨Own.all N.blk hl hn, Reps.to N.mod (by simp) (fun x hx => ?_) _ _ R, fun y hy => ?_, fun y hy ha => ?_, fun a ha => Nat.lt_of_lt_of_le (hA a ha) N.mod.size⟩
 ·rcases List.mem_append.1 hx with h | h
  ·exact .inl h
  ·simp only [ob, List.mem_singleton] at h
   exact .inr (by omega)
 ·simp only [ob, List.mem_singleton] at hy
  omega
 ·simp only [ob, List.mem_singleton] at hy
  have := hA y ha
  omega
theorem GL.bs {P : Program} {l : List (Nat × Value)} {dd : Option Nat} {t : TypeId} {ty : TypeId} {pos : String} {af : Array Edge} {gg : Option (Nat × Bool)} {ps : List (Nat × Operand)} {us : List (Nat × Value)} {e c sz by_ : Nat} {zs cs : List Value} {A : List Nat} {w0 w : World} {rows : List (List D)} (ht : slB P t e sz by_ = true) (hz : zvB P e zs) (hx : evP l ps = some us)
  (hf : fillF (fun i => some (i * sz, sz)) ((List.replicate c zs).flatten) us = some cs) (hzl : zs.length = sz) (hc : c * sz ≤ 16777216) (R : Reps A w rows.flatten cs) (hA : ∀ a ∈ A, a < w.heap.size) (h0 : w0.heap.size ≤ w.heap.size) (hl : cs.length = c * sz) (hn : c ≤ 9223372036854775807) :
  ∃ v w2, Runs P l ⟨dd, .buildSlice t c ps.toArray, ty, pos, af, gg⟩ w v w2 ∧ Mod [] w w2 ∧ ∃ vs, GL A w0 w2 e sz v c rows vs := by
 have N := New.mk' w e cs
 exact ⟨_, _, r_bslice ht hz hx hf hzl hc, N.mod, cs, GL.new N R hA h0 hl hn⟩
theorem GL.toM {A M : List Nat} {w0 w w' : World} {e sz n : Nat} {wv : Value} {rows : List (List D)} {vs : List Value} (G : GL A w0 w e sz wv n rows vs) (k : Mod M w w') (hM : ∀ x ∈ M, x ∈ A) : GL A w0 w' e sz wv n rows vs :=
 ⟨G.own.mod k (fun x hx h => G.dj x hx (hM x h)), G.rd.toM k (fun x hx => List.mem_append_left _ (hM x hx)), G.fr, G.dj, fun a ha => Nat.lt_of_lt_of_le (G.al a ha) k.size⟩
end Go.Proofs.YtknndpjacklkeaaGreatDoor.V

set_option linter.unusedVariables false
set_option linter.unusedSimpArgs false
set_option maxRecDepth 10000
namespace Go.Proofs.YtknndpjacklkeaaGreatDoor.V
open Go Go.Proofs
theorem ent20 : Ent Tryz.prog 20 := Ent.of Tryz.func20 (by kernel_rfl) (by kernel_rfl)
end Go.Proofs.YtknndpjacklkeaaGreatDoor.V

set_option linter.unusedVariables false
set_option linter.unusedSimpArgs false
set_option maxRecDepth 10000
namespace Go.Proofs.YtknndpjacklkeaaGreatDoor.V
open Go Go.Proofs
end Go.Proofs.YtknndpjacklkeaaGreatDoor.V

set_option linter.unusedVariables false
set_option linter.unusedSimpArgs false
set_option maxRecDepth 10000
namespace Go.Proofs.YtknndpjacklkeaaGreatDoor.V
open Go Go.Proofs
end Go.Proofs.YtknndpjacklkeaaGreatDoor.V

set_option linter.unusedVariables false
set_option linter.unusedSimpArgs false
set_option maxRecDepth 10000
namespace Go.Proofs.YtknndpjacklkeaaGreatDoor.V
open Go Go.Proofs
end Go.Proofs.YtknndpjacklkeaaGreatDoor.V

set_option linter.unusedVariables false
set_option linter.unusedSimpArgs false
namespace Go.Proofs.YtknndpjacklkeaaGreatDoor.V
open Go
namespace JV
end JV
namespace EV
open JV
def rest (e : EV) : List (Str × JV) := if e.st then putM (e.mem10.drop 2) kState (txtV e.key) else e.mem10.drop 2
end EV
end Go.Proofs.YtknndpjacklkeaaGreatDoor.V

set_option linter.unusedVariables false
set_option linter.unusedSimpArgs false
set_option maxRecDepth 10000
namespace Go.Proofs.YtknndpjacklkeaaGreatDoor.V
open Go Go.Proofs
end Go.Proofs.YtknndpjacklkeaaGreatDoor.V

set_option linter.unusedVariables false
set_option linter.unusedSimpArgs false
set_option maxRecDepth 10000
namespace Go.Proofs.YtknndpjacklkeaaGreatDoor.V
open Go Go.Proofs
end Go.Proofs.YtknndpjacklkeaaGreatDoor.V
