/-
  A part of the proof: the writing of lists and maps, step by step. No condition of its own.
-/
import Derived.Test.YtkhbnhdlelmbnaaDoorM9
import Derived.Test.YtkhbnhdlelmbnaaDoorM10
set_option linter.unusedVariables false
set_option linter.unusedSimpArgs false
namespace Go.Proofs.YtkhbnhdlelmbnaaDoor.V
open Go
section
variable {w w' : World} {g : Nat} {u u1 : Value} {ds : List D} {us : List Value} {A : List Nat}
theorem Reps.mod0 (R : Reps A w ds us) (k : Mod [] w w') : Reps A w' ds us := R.to0 k
theorem Reps.wstep (R : Reps (g :: ob u) w ds us) (k : Mod (g :: ob u) w w') (ho : ∀ x ∈ ob u1, x ∈ ob u ∨ w.heap.size ≤ x) : Reps (g :: ob u1) w' ds us :=
  Reps.to k (fun x hx => hx) (fun x hx => by
    rcases List.mem_cons.1 hx with rfl | h
    · exact .inl (by simp)
    · exact (ho x h).imp (fun h => by simp [h]) id) ds us R
end
theorem wl_c {l : List JV} {k deep : Nat} {x : JV} {b : Str} {W : Except Int Str} (hx : l[k]? = some x) (hinv : JV.wrl (l.drop k) deep (decide (k = 0)) b = W) :
    ((if k = 0 then Except.ok b else lng (b ++ [44])).bind fun b => (JV.wr x (deep + 1) b).bind fun b => JV.wrl (l.drop (k + 1)) deep (decide (k + 1 = 0)) b) = W := by
  rw [wrl_at hx] at hinv
  rw [show decide (k + 1 = 0) = false by simp, ← hinv]
  by_cases h : k = 0 <;> simp [h]
/-- does a key rise from the one ahead of it? -/
def riseK (m : List (Str × JV)) (k : Nat) (x : Str × JV) : Bool := match prevK m k with
  | none => true
  | some q => bl q x.1
theorem riseK_0 {m : List (Str × JV)} {k : Nat} {x : Str × JV} (h : k = 0) : riseK m k x = true := by subst h; rfl
theorem riseK_at {m : List (Str × JV)} {k : Nat} {x q : Str × JV} (hq : m[k - 1]? = some q) (h0 : 0 < k) : riseK m k x = bl q.1 x.1 := by
  unfold riseK prevK
  rw [if_neg (by omega), hq]
  rfl
theorem wm_c {m : List (Str × JV)} {k deep : Nat} {x : Str × JV} {b : Str} {W : Except Int Str} (hx : m[k]? = some x) (hinv : JV.wrm (m.drop k) deep (prevK m k) b = W) :
    ((if k = 0 then Except.ok b else lng (b ++ [44])).bind fun b => (if riseK m k x then Except.ok b else Except.error 1).bind fun b => (txtW b x.1).bind fun b => (lng (b ++ [58])).bind fun b => (JV.wr x.2 (deep + 1) b).bind fun b => JV.wrm (m.drop (k + 1)) deep (prevK m (k + 1)) b) = W := by
  by_cases h : k = 0
  · rw [riseK_0 h, if_pos h]
    exact wrm_step0 hx h hinv
  · obtain ⟨q, hq⟩ : ∃ q, m[k - 1]? = some q := ⟨_, List.getElem?_eq_getElem (by have := (List.getElem?_eq_some_iff.1 hx).1; omega)⟩
    have := wrm_step hx hq (by omega) hinv
    rw [riseK_at hq (by omega), if_neg h, ← this]
    cases lng (b ++ [44]) <;> rfl
theorem JV.bare_kind {v : JV} (h : v.bare = true) : 0 ≤ v.kind ∧ v.kind ≤ 5 := by
  unfold JV.bare at h
  simp only [Bool.and_eq_true, decide_eq_true_eq] at h
  omega
end Go.Proofs.YtkhbnhdlelmbnaaDoor.V

set_option linter.unusedVariables false
set_option linter.unusedSimpArgs false
set_option maxRecDepth 10000
namespace Go.Proofs.YtkhbnhdlelmbnaaDoor.V
open Go Go.Proofs
theorem ent45 : Ent Tryd.prog 45 := Ent.of Tryd.func45 (by kernel_rfl) (by kernel_rfl)
theorem ent47 : Ent Tryd.prog 47 := Ent.of Tryd.func47 (by kernel_rfl) (by kernel_rfl)
theorem ent48 : Ent Tryd.prog 48 := Ent.of Tryd.func48 (by kernel_rfl) (by kernel_rfl)
theorem ent20 : Ent Tryd.prog 20 := Ent.of Tryd.func20 (by kernel_rfl) (by kernel_rfl)
theorem ent42 : Ent Tryd.prog 42 := Ent.of Tryd.func42 (by kernel_rfl) (by kernel_rfl)
theorem c_wval_step (N : Nat) (ih : ∀ (w : World) (v : JV) (us : List Value) (deep : Nat) (b : Str) (u : Value) (g : Nat), v.sz ≤ N → WrB w g 47 u b → Reps (g :: ob u) w v.D us → deep ≤ 32 → Tab w → gT ∉ g :: ob u → Calls Tryd.prog 20 [.pointer (some ⟨g, 0, none⟩), .agg us.toArray, .int .i64 (deep : Int)].toArray w (WrP w g 47 66 u (v.wr deep b))) (w : World) (v : JV) (us : List Value) (deep : Nat) (b : Str) (u : Value) (g : Nat) (hN : v.sz ≤ N + 1) (HB : WrB w g 47 u b) (R : Reps (g :: ob u) w v.D us) (hd : deep ≤ 32) (hT : Tab w) (hgt : gT ∉ g :: ob u) : Calls Tryd.prog 20 [.pointer (some ⟨g, 0, none⟩), .agg us.toArray, .int .i64 (deep : Int)].toArray w (WrP w g 47 66 u (v.wr deep b)) := by
  refine enter Tryd.func20 rfl rfl rfl (l := [(0, _), (1, _), (2, _)]) ⟨rfl, rfl, rfl, trivial⟩ ?_
  obtain ⟨al, cl, am, cm, rfl, Rl, Rm⟩ := JV.cells_ R
  have R0 := (JV.reps_ Rl Rm).anti (A' := []) (by simp)
  refine c_seq fun K1 hK1 => ?_
  have H := WrT.init HB
  refine c_region ?_
  refine s_box rfl rfl rfl fun g1 w1 N1 => ?_
  replace H := H.mod0 N1.mod
  have Bg1 := N1.blk
  have K1 := WrK.of_ HB Bg1 (by have := N1.at_; omega)
  refine l_nil ?_
  refine e_K (hK1 _ _ _ _ ?_)
  refine c_seq fun K2 hK2 => ?_
  have J2 : ∀  (w1 : World), v.bare = true ∧ (v.kind ≥ 4 → deep < 32) ∧ WrT w w1 u g 47 u b ∧ WrK w1 g u g1 25 [.int .i64 v.kind, .bool v.is, .int .i64 v.num, S v.str, .slice al v.list.length cl, .slice am v.map.length cm] → ∀ a, Has 128 [] [(0, .pointer (some ⟨g, 0, none⟩)), (2, .int .i64 (deep : Int)), (4, .pointer (some ⟨g1, 0, none⟩))] a → K2 a w1 := by
    intro  w2 hI
    obtain ⟨hbare, hdeep, H, K1⟩ := hI
    refine hK2 _ _ _ _ ?_
    refine c_seq fun K3 hK3 => ?_
    refine c_region ?_
    refine sv (o_fa0 fd25_0 rfl) rfl ?_
    refine sv (o_ld sc3 rfl (K1.blk.cell rfl)) rfl ?_
    refine l_nil ?_
    refine e_K (hK3 _ _ _ _ ?_)
    refine c_block ?_
    refine c_seq fun K4 hK4 => ?_
    refine c_region ?_
    refine sv (o_eql rfl rfl) rfl ?_
    refine sv (o_as rfl) rfl ?_
    refine l_nil ?_
    refine e_K (hK4 _ _ _ _ ?_)
    refine c_if rfl (fun h36 => ?_) (fun h36 => ?_)
    · skip
      have hne : ¬ v.bare = false := by rw [hbare]; simp
      refine c_region ?_
      refine sv (o_mv rfl) rfl ?_
      refine scp (o_call ent44 rfl) (c_wput _ _ _ _ H.wb JV.tNull (by simp)) rfl (fun w_ h_ => h_.elim) (fun c_ w3 h_ => ?_) fun v_ w3 h_ => ?_
      · skip
        have hp := H.panic (r := v.wr deep b) h_ (fun e he => by rw [JV.wr_eq, if_neg hne, if_pos h36]; exact he)
        refine e_in (by simp) ?_
        exact endp hp
      obtain ⟨u1, b1, hb1, H1, hm1, ho1⟩ := H.ret h_
      replace H := H1
      refine l_nil ?_
      refine e_in (by simp) ?_
      exact end0R rfl (H.fin (r := v.wr deep b) (by rw [JV.wr_eq, if_neg hne, if_pos h36]; exact hb1))
    · skip
      have hne : ¬ v.bare = false := by rw [hbare]; simp
      refine c_seq fun K5 hK5 => ?_
      refine c_region ?_
      refine sv (o_eql rfl rfl) rfl ?_
      refine sv (o_as rfl) rfl ?_
      refine l_nil ?_
      refine e_K (hK5 _ _ _ _ ?_)
      refine c_if rfl (fun h40 => ?_) (fun h40 => ?_)
      · skip
        refine c_region ?_
        refine sv (o_mv rfl) rfl ?_
        refine sv (o_fa0 fd25_1 rfl) rfl ?_
        refine sv (o_ld sc4 rfl (K1.blk.cell rfl)) rfl ?_
        refine sc (o_call ent45 rfl) (c_fmtb _ _) rfl fun v_ w4 h_ => ?_
        obtain ⟨rfl, E_⟩ := h_
        replace H := H.mod0 E_
        replace K1 := K1.mod0 E_
        refine scp (o_call ent44 rfl) (c_wput _ _ _ _ H.wb (if v.is then JV.tTrue else JV.tFalse) (by split <;> simp)) rfl (fun w_ h_ => h_.elim) (fun c_ w5 h_ => ?_) fun v_ w5 h_ => ?_
        · skip
          have hp := H.panic (r := v.wr deep b) h_ (fun e he => by rw [JV.wr_eq, if_neg hne, if_neg h36, if_pos h40]; exact he)
          refine e_in (by simp) ?_
          exact endp hp
        obtain ⟨u1, b1, hb1, H1, hm1, ho1⟩ := H.ret h_
        replace H := H1
        refine l_nil ?_
        refine e_in (by simp) ?_
        exact end0R rfl (H.fin (r := v.wr deep b) (by rw [JV.wr_eq, if_neg hne, if_neg h36, if_pos h40]; exact hb1))
      · skip
        refine c_seq fun K6 hK6 => ?_
        refine c_region ?_
        refine sv (o_eql rfl rfl) rfl ?_
        refine sv (o_as rfl) rfl ?_
        refine l_nil ?_
        refine e_K (hK6 _ _ _ _ ?_)
        refine c_if rfl (fun h47 => ?_) (fun h47 => ?_)
        · skip
          refine c_region ?_
          refine sv (o_mv rfl) rfl ?_
          refine sv (o_fa0 fd25_2 rfl) rfl ?_
          refine sv (o_ld sc3 rfl (K1.blk.cell rfl)) rfl ?_
          obtain ⟨hn0, hn1⟩ := bare_num hbare h47
          have hil := Lib.itoa_length_le v.num (by omega) (by omega)
          refine sc (o_call ent46 rfl) (c_itoa _ v.num (by omega) (by omega) (hT.mod H.mod hgt)) rfl fun v_ w6 h_ => ?_
          obtain ⟨rfl, E_⟩ := h_
          replace H := H.mod0 E_
          replace K1 := K1.mod0 E_
          refine scp (o_call ent44 rfl) (c_wput _ _ _ _ H.wb (Lib.itoa v.num) (by omega)) rfl (fun w_ h_ => h_.elim) (fun c_ w7 h_ => ?_) fun v_ w7 h_ => ?_
          · skip
            have hp := H.panic (r := v.wr deep b) h_ (fun e he => by rw [JV.wr_eq, if_neg hne, if_neg h36, if_neg h40, if_pos h47]; exact he)
            refine e_in (by simp) ?_
            exact endp hp
          obtain ⟨u1, b1, hb1, H1, hm1, ho1⟩ := H.ret h_
          replace H := H1
          refine l_nil ?_
          refine e_in (by simp) ?_
          exact end0R rfl (H.fin (r := v.wr deep b) (by rw [JV.wr_eq, if_neg hne, if_neg h36, if_neg h40, if_pos h47]; exact hb1))
        · skip
          refine c_seq fun K7 hK7 => ?_
          refine c_region ?_
          refine sv (o_eql rfl rfl) rfl ?_
          refine sv (o_as rfl) rfl ?_
          refine l_nil ?_
          refine e_K (hK7 _ _ _ _ ?_)
          refine c_if rfl (fun h54 => ?_) (fun h54 => ?_)
          · skip
            refine c_region ?_
            refine sv (o_mv rfl) rfl ?_
            refine sv (o_fa0 fd25_3 rfl) rfl ?_
            refine sv (o_ld sc9 rfl (K1.blk.cell rfl)) rfl ?_
            refine scp (o_call ent47 rfl) (c_wtext _ _ _ _ H.wb v.str) rfl (fun w_ h_ => h_.elim) (fun c_ w8 h_ => ?_) fun v_ w8 h_ => ?_
            · skip
              have hp := H.panic (r := v.wr deep b) h_ (fun e he => by rw [JV.wr_eq, if_neg hne, if_neg h36, if_neg h40, if_neg h47, if_pos h54]; exact he)
              refine e_in (by simp) ?_
              exact endp hp
            obtain ⟨u1, b1, hb1, H1, hm1, ho1⟩ := H.ret h_
            replace H := H1
            refine l_nil ?_
            refine e_in (by simp) ?_
            exact end0R rfl (H.fin (r := v.wr deep b) (by rw [JV.wr_eq, if_neg hne, if_neg h36, if_neg h40, if_neg h47, if_pos h54]; exact hb1))
          · skip
            refine c_seq fun K8 hK8 => ?_
            refine c_region ?_
            refine sv (o_eql rfl rfl) rfl ?_
            refine sv (o_as rfl) rfl ?_
            refine l_nil ?_
            refine e_K (hK8 _ _ _ _ ?_)
            refine c_if rfl (fun h60 => ?_) (fun h60 => ?_)
            · skip
              refine c_seq fun K9 hK9 => ?_
              have hdp := hdeep (by omega)
              have hv_ : v.wr deep b = ((lng (b ++ [91])).bind fun b => JV.wrl v.list deep true b).bind fun b => lng (b ++ [93]) := by rw [JV.wr_eq, if_neg hne, if_neg h36, if_neg h40, if_neg h47, if_neg h54, if_neg (by omega), if_pos h60]; cases lng (b ++ [91]) <;> rfl
              refine c_region ?_
              refine sv (o_mv rfl) rfl ?_
              refine scp (o_call ent44 rfl) (c_wput _ _ _ _ H.wb [91] (by simp)) rfl (fun w_ h_ => h_.elim) (fun c_ w9 h_ => ?_) fun v_ w9 h_ => ?_
              · skip
                have hp := H.panic (r := v.wr deep b) h_ (fun e he => by rw [hv_, he]; rfl)
                refine e_then (by simp) ?_
                refine e_in (by simp) ?_
                exact endp hp
              obtain ⟨u1, b1, hb1, H1, hm1, ho1⟩ := H.ret h_
              replace H := H1
              replace K1 := K1.step hm1 ho1
              refine l_nil ?_
              refine e_K (hK9 _ _ _ _ ?_)
              refine c_seq fun K10 hK10 => ?_
              refine c_seq fun K11 hK11 => ?_
              refine c_region ?_
              refine sv (o_fa0 fd25_4 rfl) rfl ?_
              refine sv (o_ld sc22 rfl (K1.blk.cell rfl)) rfl ?_
              refine sv (o_len Tryd.underlying22 rfl) rfl ?_
              refine sv (o_mv rfl) rfl ?_
              refine l_nil ?_
              refine e_K (hK11 _ _ _ _ ?_)
              refine c_block ?_
              refine c_loop (σ := Nat × Value × Str) (fun ⟨k, u2, b2⟩ => [(0, .pointer (some ⟨g, 0, none⟩)), (2, .int .i64 (deep : Int)), (4, .pointer (some ⟨g1, 0, none⟩)), (65, .slice al v.list.length cl), (66, .int .i64 (v.list.length : Int)), (67, .int .i64 (k : Int))]) (fun ⟨k, u2, b2⟩ w1 => k ≤ v.list.length ∧ JV.wrl (v.list.drop k) deep (decide (k = 0)) b2 = ((lng (b ++ [91])).bind fun b => JV.wrl v.list deep true b) ∧ WrT w w1 u g 47 u2 b2 ∧ WrK w1 g u2 g1 25 [.int .i64 v.kind, .bool v.is, .int .i64 v.num, S v.str, .slice al v.list.length cl, .slice am v.map.length cm]) (fun ⟨k, u2, b2⟩ => v.list.length - k) (⟨0, u1, b1⟩) ⟨rfl, rfl, rfl, rfl, rfl, rfl, trivial⟩ (⟨by omega, by rw [hb1]; rfl, H, K1⟩) ?_
              rintro ⟨k, u2, b2⟩ w10 ⟨hk, hinv, H, K1⟩
              refine c_seq fun K12 hK12 => ?_
              refine c_region ?_
              refine sv (o_lss rfl rfl) rfl ?_
              refine l_nil ?_
              refine e_K (hK12 _ _ _ _ ?_)
              refine c_seq fun K13 hK13 => ?_
              refine c_if rfl (fun h68 => ?_) (fun h68 => ?_)
              · skip
                obtain ⟨x, hx_x⟩ : ∃ x, v.list[k]? = some x := ⟨_, List.getElem?_eq_getElem (by omega)⟩
                have hcp := JV.cap_l (H.rep Rl)
                refine c_skip ?_
                refine e_K (hK13 _ _ _ _ ?_)
                refine c_seq fun K14 hK14 => ?_
                refine c_block ?_
                refine c_seq fun K15 hK15 => ?_
                refine c_region ?_
                refine sv (o_mv rfl) rfl ?_
                obtain ⟨a_x, us_x, ha_x, R_x, hcs_x⟩ := JV.at_l (H.rep Rl) hx_x
                obtain ⟨al_x, cl_x, am_x, cm_x, rfl, Rl_x, Rm_x⟩ := JV.cells_ R_x
                have hcap_x := JV.cap_l (H.rep Rl)
                cases ha_x
                refine sv (o_ix sl22 rfl rfl (by omega)) rfl ?_
                refine sv (o_lda ag25 rfl rfl hcs_x) rfl ?_
                have Ea := Mod.refl [] w10
                refine s_alloc zv25 rfl fun g2 w11 N2 => ?_
                have Lg2_Ea := N2.le Ea
                replace Ea := Ea.then N2.mod
                have Bg2 := N2.blk
                refine sv (o_as rfl) rfl ?_
                refine s_sta (vs := [_, _, _, _, _, _]) ag25 Bg2 rfl rfl rfl (by simp [Value.oneCell']) (by simp) fun w12 P12 => ?_
                replace Ea := Ea.own P12.mod Lg2_Ea
                replace Bg2 : Blk w12 g2 _ [_, _, _, _, _, _] := P12.blk
                have K7 := WrK.of_ H.wb Bg2 (Lg2_Ea)
                replace H := H.mod0 Ea
                replace K1 := K1.mod0 Ea
                replace R_x := R_x.mod0 Ea
                refine l_nil ?_
                refine e_K (hK15 _ _ _ _ ?_)
                refine c_seq fun K16 hK16 => ?_
                refine c_region ?_
                refine sv (o_mv rfl) rfl ?_
                refine sv (o_mv rfl) rfl ?_
                refine scp (o_call ent48 rfl) (c_wcomma _ _ _ _ H.wb k) rfl (fun w_ h_ => h_.elim) (fun c_ w13 h_ => ?_) fun v_ w13 h_ => ?_
                · skip
                  have hp := H.panic (r := v.wr deep b) h_ (fun e he => by rw [hv_, ← wl_c hx_x hinv, he]; rfl)
                  refine e_then (by simp) ?_
                  refine e_in (by simp) ?_
                  refine e_then (by simp) ?_
                  refine e_then (by simp) ?_
                  refine e_in (by simp) ?_
                  refine e_then (by simp) ?_
                  refine e_in (by simp) ?_
                  exact endp hp
                obtain ⟨u3, b3, hb3, H3, hm3, ho3⟩ := H.ret h_
                replace H := H3
                replace K1 := K1.step hm3 ho3
                replace K7 := K7.step hm3 ho3
                replace R_x := R_x.wstep hm3 ho3
                have hinv3 := wl_c hx_x hinv
                rw [hb3] at hinv3
                replace hinv3 := okb hinv3
                refine l_nil ?_
                refine e_K (hK16 _ _ _ _ ?_)
                refine c_region ?_
                refine sv (o_mv rfl) rfl ?_
                refine sv (o_lda (vs := [_, _, _, _, _, _]) ag25 rfl rfl (K7.blk.cs rfl)) rfl ?_
                refine sv (o_mv rfl) rfl ?_
                refine sv (o_addE (r := ((deep + 1 : Nat) : Int)) rfl rfl (by rw [wrap64_in _ (by omega)]; omega)) rfl ?_
                refine scp (o_call ent20 rfl) (ih _ x _ (deep + 1) _ _ _ (by have := JV.sz_in_list (List.mem_of_getElem? hx_x); omega) H.wb R_x (by omega) (hT.mod H.mod hgt) (fun h => (H.in_ _ h).elim hgt (fun h => by have := hT.lt; omega))) rfl (fun w_ h_ => h_.elim) (fun c_ w14 h_ => ?_) fun v_ w14 h_ => ?_
                · skip
                  have hp := H.panic (r := v.wr deep b) h_ (fun e he => by rw [hv_, ← hinv3, he]; rfl)
                  refine e_in (by simp) ?_
                  refine e_then (by simp) ?_
                  refine e_then (by simp) ?_
                  refine e_in (by simp) ?_
                  refine e_then (by simp) ?_
                  refine e_in (by simp) ?_
                  exact endp hp
                obtain ⟨u4, b4, hb4, H4, hm4, ho4⟩ := H.ret h_
                replace H := H4
                replace K1 := K1.step hm4 ho4
                have hinv4 := hinv3
                rw [hb4] at hinv4
                replace hinv4 := okb hinv4
                refine l_nil ?_
                refine e_in (by simp) ?_
                refine e_K (hK14 _ _ _ _ ?_)
                refine c_region ?_
                refine sv (o_addN rfl rfl (by omega)) rfl ?_
                refine sv (o_mv rfl) rfl ?_
                refine l_nil ?_
                exact e_round (σ := Nat × Value × Str) (s := ⟨k, u2, b2⟩) (⟨k + 1, u4, b4⟩) ⟨rfl, rfl, rfl, rfl, rfl, rfl, trivial⟩ ⟨by omega, hinv4, H, K1⟩ (by dsimp only; omega)
              · skip
                have hW : ((lng (b ++ [91])).bind fun b => JV.wrl v.list deep true b) = .ok b2 := by rw [← hinv, wrl_end (by omega)]
                refine c_exit ?_
                refine e_then (by simp) ?_
                refine e_then (by simp) ?_
                refine e_hit ?_
                refine e_K (hK10 _ _ _ _ ?_)
                refine c_region ?_
                refine sv (o_mv rfl) rfl ?_
                refine scp (o_call ent44 rfl) (c_wput _ _ _ _ H.wb [93] (by simp)) rfl (fun w_ h_ => h_.elim) (fun c_ w15 h_ => ?_) fun v_ w15 h_ => ?_
                · skip
                  have hp := H.panic (r := v.wr deep b) h_ (fun e he => by rw [hv_, hW]; exact he)
                  refine e_in (by simp) ?_
                  exact endp hp
                obtain ⟨u9, b9, hb9, H9, hm9, ho9⟩ := H.ret h_
                replace H := H9
                refine l_nil ?_
                refine e_in (by simp) ?_
                exact end0R rfl (H.fin (r := v.wr deep b) (by rw [hv_, hW]; exact hb9))
            · skip
              refine c_seq fun K17 hK17 => ?_
              refine c_region ?_
              refine sv (o_eql rfl rfl) rfl ?_
              refine sv (o_as rfl) rfl ?_
              refine l_nil ?_
              refine e_K (hK17 _ _ _ _ ?_)
              refine c_if rfl (fun h83 => ?_) (fun h83 => ?_)
              · skip
                refine c_seq fun K18 hK18 => ?_
                have hdp := hdeep (by omega)
                have hv_ : v.wr deep b = ((lng (b ++ [123])).bind fun b => JV.wrm v.map deep none b).bind fun b => lng (b ++ [125]) := by rw [JV.wr_eq, if_neg hne, if_neg h36, if_neg h40, if_neg h47, if_neg h54, if_neg (by omega), if_neg h60]; cases lng (b ++ [123]) <;> rfl
                refine c_region ?_
                refine sv (o_mv rfl) rfl ?_
                refine scp (o_call ent44 rfl) (c_wput _ _ _ _ H.wb [123] (by simp)) rfl (fun w_ h_ => h_.elim) (fun c_ w16 h_ => ?_) fun v_ w16 h_ => ?_
                · skip
                  have hp := H.panic (r := v.wr deep b) h_ (fun e he => by rw [hv_, he]; rfl)
                  refine e_then (by simp) ?_
                  refine e_in (by simp) ?_
                  exact endp hp
                obtain ⟨u1, b1, hb1, H1, hm1, ho1⟩ := H.ret h_
                replace H := H1
                replace K1 := K1.step hm1 ho1
                refine l_nil ?_
                refine e_K (hK18 _ _ _ _ ?_)
                refine c_seq fun K19 hK19 => ?_
                refine c_seq fun K20 hK20 => ?_
                refine c_region ?_
                refine sv (o_fa0 fd25_5 rfl) rfl ?_
                refine sv (o_ld sc23 rfl (K1.blk.cell rfl)) rfl ?_
                refine sv (o_len Tryd.underlying23 rfl) rfl ?_
                refine sv (o_mv rfl) rfl ?_
                refine l_nil ?_
                refine e_K (hK20 _ _ _ _ ?_)
                refine c_block ?_
                refine c_loop (σ := Nat × Value × Str) (fun ⟨k, u2, b2⟩ => [(0, .pointer (some ⟨g, 0, none⟩)), (2, .int .i64 (deep : Int)), (4, .pointer (some ⟨g1, 0, none⟩)), (88, .slice am v.map.length cm), (89, .int .i64 (v.map.length : Int)), (90, .int .i64 (k : Int))]) (fun ⟨k, u2, b2⟩ w1 => k ≤ v.map.length ∧ JV.wrm (v.map.drop k) deep (prevK v.map k) b2 = ((lng (b ++ [123])).bind fun b => JV.wrm v.map deep none b) ∧ WrT w w1 u g 47 u2 b2 ∧ WrK w1 g u2 g1 25 [.int .i64 v.kind, .bool v.is, .int .i64 v.num, S v.str, .slice al v.list.length cl, .slice am v.map.length cm]) (fun ⟨k, u2, b2⟩ => v.map.length - k) (⟨0, u1, b1⟩) ⟨rfl, rfl, rfl, rfl, rfl, rfl, trivial⟩ (⟨by omega, by rw [hb1]; rfl, H, K1⟩) ?_
                rintro ⟨k, u2, b2⟩ w17 ⟨hk, hinv, H, K1⟩
                refine c_seq fun K21 hK21 => ?_
                refine c_region ?_
                refine sv (o_lss rfl rfl) rfl ?_
                refine l_nil ?_
                refine e_K (hK21 _ _ _ _ ?_)
                refine c_seq fun K22 hK22 => ?_
                refine c_if rfl (fun h91 => ?_) (fun h91 => ?_)
                · skip
                  obtain ⟨x, hx_x⟩ : ∃ x, v.map[k]? = some x := ⟨_, List.getElem?_eq_getElem (by omega)⟩
                  have hcp := JV.cap_m (H.rep Rm)
                  refine c_skip ?_
                  refine e_K (hK22 _ _ _ _ ?_)
                  refine c_seq fun K23 hK23 => ?_
                  refine c_block ?_
                  refine c_seq fun K24 hK24 => ?_
                  refine c_region ?_
                  refine sv (o_mv rfl) rfl ?_
                  obtain ⟨a_x, us_x, ha_x, R_x, hcs_x⟩ := JV.at_m (H.rep Rm) hx_x
                  obtain ⟨al_x, cl_x, am_x, cm_x, rfl, Rl_x, Rm_x⟩ := JV.cells_ R_x
                  have hcap_x := JV.cap_m (H.rep Rm)
                  cases ha_x
                  refine sv (o_ix sl23 rfl rfl (by omega)) rfl ?_
                  refine sv (o_lda ag62 rfl rfl hcs_x) rfl ?_
                  have Ea := Mod.refl [] w17
                  refine s_alloc zv62 rfl fun g3 w18 N3 => ?_
                  have Lg3_Ea := N3.le Ea
                  replace Ea := Ea.then N3.mod
                  have Bg3 := N3.blk
                  refine sv (o_as rfl) rfl ?_
                  refine s_sta (vs := [_, _, _, _, _, _, _]) ag62 Bg3 rfl rfl rfl (by simp [Value.oneCell']) (by simp) fun w19 P19 => ?_
                  replace Ea := Ea.own P19.mod Lg3_Ea
                  replace Bg3 : Blk w19 g3 _ [_, _, _, _, _, _, _] := P19.blk
                  have K9 := WrK.of_ H.wb Bg3 (Lg3_Ea)
                  replace H := H.mod0 Ea
                  replace K1 := K1.mod0 Ea
                  replace R_x := R_x.mod0 Ea
                  refine l_nil ?_
                  refine e_K (hK24 _ _ _ _ ?_)
                  refine c_seq fun K25 hK25 => ?_
                  refine c_region ?_
                  refine sv (o_mv rfl) rfl ?_
                  refine sv (o_mv rfl) rfl ?_
                  refine scp (o_call ent48 rfl) (c_wcomma _ _ _ _ H.wb k) rfl (fun w_ h_ => h_.elim) (fun c_ w20 h_ => ?_) fun v_ w20 h_ => ?_
                  · skip
                    have hp := H.panic (r := v.wr deep b) h_ (fun e he => by rw [hv_, ← wm_c hx_x hinv, he]; rfl)
                    refine e_then (by simp) ?_
                    refine e_in (by simp) ?_
                    refine e_then (by simp) ?_
                    refine e_then (by simp) ?_
                    refine e_in (by simp) ?_
                    refine e_then (by simp) ?_
                    refine e_in (by simp) ?_
                    exact endp hp
                  obtain ⟨u3, b3, hb3, H3, hm3, ho3⟩ := H.ret h_
                  replace H := H3
                  replace K1 := K1.step hm3 ho3
                  replace K9 := K9.step hm3 ho3
                  replace R_x := R_x.wstep hm3 ho3
                  have hinv3 := wm_c hx_x hinv
                  rw [hb3] at hinv3
                  replace hinv3 := okb hinv3
                  refine l_nil ?_
                  refine e_K (hK25 _ _ _ _ ?_)
                  refine c_seq fun K26 hK26 => ?_
                  refine c_seq fun K27 hK27 => ?_
                  by_cases hs29_0 : (k : Int) > 0
                  · skip
                    obtain ⟨q, hx_q⟩ : ∃ q, v.map[k - 1]? = some q := ⟨_, List.getElem?_eq_getElem (by omega)⟩
                    obtain ⟨a_q, us_q, ha_q, R_q, hcs_q⟩ := JV.at_m (H.rep Rm) hx_q
                    obtain ⟨al_q, cl_q, am_q, cm_q, rfl, Rl_q, Rm_q⟩ := JV.cells_ R_q
                    have hcap_q := JV.cap_m (H.rep Rm)
                    cases ha_q
                    by_cases hs29_1 : (!bl q.1 x.1) = true
                    · skip
                      have hrise : riseK v.map k x = false := by rw [riseK_at hx_q (by omega)]; simpa using hs29_1
                      refine c_draw wide (by kernel_rfl) ?_
                      refine tv (fun w_ E_ => (o_mv rfl)) rfl rfl ?_
                      refine tv (fun w_ E_ => (o_gtr rfl rfl)) rfl rfl ?_
                      refine tv (fun w_ E_ => (o_mv rfl)) rfl rfl ?_
                      refine tvg rfl (decide_eq_true hs29_0) (fun w_ E_ => (o_fa0 fd25_5 rfl)) rfl rfl ?_
                      refine tvg rfl (decide_eq_true hs29_0) (fun w_ E_ => (o_ld sc23 rfl ((K1.blk.mod0 E_).cell rfl))) rfl rfl ?_
                      refine tvg rfl (decide_eq_true hs29_0) (fun w_ E_ => (o_mv rfl)) rfl rfl ?_
                      refine tvg rfl (decide_eq_true hs29_0) (fun w_ E_ => (o_subE (r := ((k - 1 : Nat) : Int)) rfl rfl (by rw [wrap64_in _ (by omega)]; omega))) rfl rfl ?_
                      refine tvg rfl (decide_eq_true hs29_0) (fun w_ E_ => (o_ix sl23 rfl rfl (by omega))) rfl rfl ?_
                      refine tvg rfl (decide_eq_true hs29_0) (fun w_ E_ => (o_fad fd62_0 rfl)) rfl rfl ?_
                      refine tvg rfl (decide_eq_true hs29_0) (fun w_ E_ => (o_ld sc9 rfl ((hcs_q.mod0 E_) 0 _ rfl))) rfl rfl ?_
                      refine tvg rfl (decide_eq_true hs29_0) (fun w_ E_ => (o_fa0 fd62_0 rfl)) rfl rfl ?_
                      refine tvg rfl (decide_eq_true hs29_0) (fun w_ E_ => (o_ld sc9 rfl ((K9.blk.mod0 E_).cell rfl))) rfl rfl ?_
                      refine tvg rfl (decide_eq_true hs29_0) (fun w_ E_ => (o_sge rfl rfl)) rfl rfl ?_
                      refine tv (fun w_ E_ => (o_pickT (decide_eq_true hs29_0) rfl rfl)) rfl rfl ?_
                      refine tw_nil rfl fun w21 E_ => ?_
                      replace H := H.mod0 E_
                      replace K1 := K1.mod0 E_
                      replace R_x := R_x.mod0 E_
                      replace K9 := K9.mod0 E_
                      refine e_K (hK27 _ _ _ _ ?_)
                      refine c_cond rfl (fun h111 => ?_) (fun h111 => absurd ((hs29_1).symm.trans h111) (by decide))
                      refine c_region ?_
                      refine scp (o_call ent43 rfl) (c_fail _ 1) rfl (fun w_ h_ => h_.elim) (fun c_ w22 h_ => ?_) fun v_ w22 h_ => ?_
                      · skip
                        obtain ⟨rfl, rfl⟩ := h_
                        refine e_then (by simp) ?_
                        refine e_in (by simp) ?_
                        refine e_then (by simp) ?_
                        refine e_then (by simp) ?_
                        refine e_in (by simp) ?_
                        refine e_then (by simp) ?_
                        refine e_in (by simp) ?_
                        exact endp (H.fail (by rw [hv_, ← hinv3, hrise]; rfl))
                      · exact h_.elim
                    · skip
                      have hrise : riseK v.map k x = true := by rw [riseK_at hx_q (by omega)]; simpa using hs29_1
                      refine c_draw wide (by kernel_rfl) ?_
                      refine tv (fun w_ E_ => (o_mv rfl)) rfl rfl ?_
                      refine tv (fun w_ E_ => (o_gtr rfl rfl)) rfl rfl ?_
                      refine tv (fun w_ E_ => (o_mv rfl)) rfl rfl ?_
                      refine tvg rfl (decide_eq_true hs29_0) (fun w_ E_ => (o_fa0 fd25_5 rfl)) rfl rfl ?_
                      refine tvg rfl (decide_eq_true hs29_0) (fun w_ E_ => (o_ld sc23 rfl ((K1.blk.mod0 E_).cell rfl))) rfl rfl ?_
                      refine tvg rfl (decide_eq_true hs29_0) (fun w_ E_ => (o_mv rfl)) rfl rfl ?_
                      refine tvg rfl (decide_eq_true hs29_0) (fun w_ E_ => (o_subE (r := ((k - 1 : Nat) : Int)) rfl rfl (by rw [wrap64_in _ (by omega)]; omega))) rfl rfl ?_
                      refine tvg rfl (decide_eq_true hs29_0) (fun w_ E_ => (o_ix sl23 rfl rfl (by omega))) rfl rfl ?_
                      refine tvg rfl (decide_eq_true hs29_0) (fun w_ E_ => (o_fad fd62_0 rfl)) rfl rfl ?_
                      refine tvg rfl (decide_eq_true hs29_0) (fun w_ E_ => (o_ld sc9 rfl ((hcs_q.mod0 E_) 0 _ rfl))) rfl rfl ?_
                      refine tvg rfl (decide_eq_true hs29_0) (fun w_ E_ => (o_fa0 fd62_0 rfl)) rfl rfl ?_
                      refine tvg rfl (decide_eq_true hs29_0) (fun w_ E_ => (o_ld sc9 rfl ((K9.blk.mod0 E_).cell rfl))) rfl rfl ?_
                      refine tvg rfl (decide_eq_true hs29_0) (fun w_ E_ => (o_sge rfl rfl)) rfl rfl ?_
                      refine tv (fun w_ E_ => (o_pickT (decide_eq_true hs29_0) rfl rfl)) rfl rfl ?_
                      refine tw_nil rfl fun w23 E_ => ?_
                      replace H := H.mod0 E_
                      replace K1 := K1.mod0 E_
                      replace R_x := R_x.mod0 E_
                      replace K9 := K9.mod0 E_
                      refine e_K (hK27 _ _ _ _ ?_)
                      refine c_cond rfl (fun h111 => absurd ((Bool.eq_false_iff.2 hs29_1).symm.trans h111) (by decide)) (fun h111 => ?_)
                      refine c_skip ?_
                      refine e_K (hK26 _ _ _ _ ?_)
                      refine c_seq fun K28 hK28 => ?_
                      have hinv4 := hinv3
                      rw [hrise] at hinv4
                      replace hinv4 := okb hinv4
                      refine c_region ?_
                      refine sv (o_mv rfl) rfl ?_
                      refine sv (o_fa0 fd62_0 rfl) rfl ?_
                      refine sv (o_ld sc9 rfl (K9.blk.cell rfl)) rfl ?_
                      refine scp (o_call ent47 rfl) (c_wtext _ _ _ _ H.wb x.1) rfl (fun w_ h_ => h_.elim) (fun c_ w24 h_ => ?_) fun v_ w24 h_ => ?_
                      · skip
                        have hp := H.panic (r := v.wr deep b) h_ (fun e he => by rw [hv_, ← hinv4, he]; rfl)
                        refine e_then (by simp) ?_
                        refine e_in (by simp) ?_
                        refine e_then (by simp) ?_
                        refine e_then (by simp) ?_
                        refine e_in (by simp) ?_
                        refine e_then (by simp) ?_
                        refine e_in (by simp) ?_
                        exact endp hp
                      obtain ⟨u4, b4, hb4, H4, hm4, ho4⟩ := H.ret h_
                      replace H := H4
                      replace K1 := K1.step hm4 ho4
                      replace K9 := K9.step hm4 ho4
                      replace R_x := R_x.wstep hm4 ho4
                      have hinv5 := hinv4
                      rw [hb4] at hinv5
                      replace hinv5 := okb hinv5
                      refine l_nil ?_
                      refine e_K (hK28 _ _ _ _ ?_)
                      refine c_seq fun K29 hK29 => ?_
                      refine c_region ?_
                      refine sv (o_mv rfl) rfl ?_
                      refine scp (o_call ent44 rfl) (c_wput _ _ _ _ H.wb [58] (by simp)) rfl (fun w_ h_ => h_.elim) (fun c_ w25 h_ => ?_) fun v_ w25 h_ => ?_
                      · skip
                        have hp := H.panic (r := v.wr deep b) h_ (fun e he => by rw [hv_, ← hinv5, he]; rfl)
                        refine e_then (by simp) ?_
                        refine e_in (by simp) ?_
                        refine e_then (by simp) ?_
                        refine e_then (by simp) ?_
                        refine e_in (by simp) ?_
                        refine e_then (by simp) ?_
                        refine e_in (by simp) ?_
                        exact endp hp
                      obtain ⟨u5, b5, hb5, H5, hm5, ho5⟩ := H.ret h_
                      replace H := H5
                      replace K1 := K1.step hm5 ho5
                      replace K9 := K9.step hm5 ho5
                      replace R_x := R_x.wstep hm5 ho5
                      have hinv6 := hinv5
                      rw [hb5] at hinv6
                      replace hinv6 := okb hinv6
                      refine l_nil ?_
                      refine e_K (hK29 _ _ _ _ ?_)
                      refine c_region ?_
                      refine sv (o_mv rfl) rfl ?_
                      refine sv (o_fa0 fd62_1 rfl) rfl ?_
                      refine sv (o_lda (vs := [_, _, _, _, _, _]) ag25 rfl rfl (K9.blk.cs rfl)) rfl ?_
                      refine sv (o_mv rfl) rfl ?_
                      refine sv (o_addE (r := ((deep + 1 : Nat) : Int)) rfl rfl (by rw [wrap64_in _ (by omega)]; omega)) rfl ?_
                      refine scp (o_call ent20 rfl) (ih _ x.2 _ (deep + 1) _ _ _ (by have := JV.sz_in_map (List.mem_of_getElem? hx_x); omega) H.wb R_x (by omega) (hT.mod H.mod hgt) (fun h => (H.in_ _ h).elim hgt (fun h => by have := hT.lt; omega))) rfl (fun w_ h_ => h_.elim) (fun c_ w26 h_ => ?_) fun v_ w26 h_ => ?_
                      · skip
                        have hp := H.panic (r := v.wr deep b) h_ (fun e he => by rw [hv_, ← hinv6, he]; rfl)
                        refine e_in (by simp) ?_
                        refine e_then (by simp) ?_
                        refine e_then (by simp) ?_
                        refine e_in (by simp) ?_
                        refine e_then (by simp) ?_
                        refine e_in (by simp) ?_
                        exact endp hp
                      obtain ⟨u6, b6, hb6, H6, hm6, ho6⟩ := H.ret h_
                      replace H := H6
                      replace K1 := K1.step hm6 ho6
                      have hinv7 := hinv6
                      rw [hb6] at hinv7
                      replace hinv7 := okb hinv7
                      refine l_nil ?_
                      refine e_in (by simp) ?_
                      refine e_K (hK23 _ _ _ _ ?_)
                      refine c_region ?_
                      refine sv (o_addN rfl rfl (by omega)) rfl ?_
                      refine sv (o_mv rfl) rfl ?_
                      refine l_nil ?_
                      exact e_round (σ := Nat × Value × Str) (s := ⟨k, u2, b2⟩) (⟨k + 1, u6, b6⟩) ⟨rfl, rfl, rfl, rfl, rfl, rfl, trivial⟩ ⟨by omega, hinv7, H, K1⟩ (by dsimp only; omega)
                  · skip
                    have hrise := riseK_0 (m := v.map) (k := k) (x := x) (by omega)
                    refine c_draw wide (by kernel_rfl) ?_
                    refine tv (fun w_ E_ => (o_mv rfl)) rfl rfl ?_
                    refine tv (fun w_ E_ => (o_gtr rfl rfl)) rfl rfl ?_
                    refine tv (fun w_ E_ => (o_mv rfl)) rfl rfl ?_
                    refine tn rfl (fun e_ => absurd ((decide_eq_false hs29_0).symm.trans e_) (by decide)) rfl ?_
                    refine tn rfl (fun e_ => absurd ((decide_eq_false hs29_0).symm.trans e_) (by decide)) rfl ?_
                    refine tn rfl (fun e_ => absurd ((decide_eq_false hs29_0).symm.trans e_) (by decide)) rfl ?_
                    refine tn rfl (fun e_ => absurd ((decide_eq_false hs29_0).symm.trans e_) (by decide)) rfl ?_
                    refine tn rfl (fun e_ => absurd ((decide_eq_false hs29_0).symm.trans e_) (by decide)) rfl ?_
                    refine tn rfl (fun e_ => absurd ((decide_eq_false hs29_0).symm.trans e_) (by decide)) rfl ?_
                    refine tn rfl (fun e_ => absurd ((decide_eq_false hs29_0).symm.trans e_) (by decide)) rfl ?_
                    refine tn rfl (fun e_ => absurd ((decide_eq_false hs29_0).symm.trans e_) (by decide)) rfl ?_
                    refine tn rfl (fun e_ => absurd ((decide_eq_false hs29_0).symm.trans e_) (by decide)) rfl ?_
                    refine tn rfl (fun e_ => absurd ((decide_eq_false hs29_0).symm.trans e_) (by decide)) rfl ?_
                    refine tv (fun w_ E_ => (o_pickF (decide_eq_false hs29_0) rfl rfl)) rfl rfl ?_
                    refine tw_nil rfl fun w27 E_ => ?_
                    replace H := H.mod0 E_
                    replace K1 := K1.mod0 E_
                    replace R_x := R_x.mod0 E_
                    replace K9 := K9.mod0 E_
                    refine e_K (hK27 _ _ _ _ ?_)
                    refine c_false rfl ?_
                    refine c_skip ?_
                    refine e_K (hK26 _ _ _ _ ?_)
                    refine c_seq fun K30 hK30 => ?_
                    have hinv4 := hinv3
                    rw [hrise] at hinv4
                    replace hinv4 := okb hinv4
                    refine c_region ?_
                    refine sv (o_mv rfl) rfl ?_
                    refine sv (o_fa0 fd62_0 rfl) rfl ?_
                    refine sv (o_ld sc9 rfl (K9.blk.cell rfl)) rfl ?_
                    refine scp (o_call ent47 rfl) (c_wtext _ _ _ _ H.wb x.1) rfl (fun w_ h_ => h_.elim) (fun c_ w28 h_ => ?_) fun v_ w28 h_ => ?_
                    · skip
                      have hp := H.panic (r := v.wr deep b) h_ (fun e he => by rw [hv_, ← hinv4, he]; rfl)
                      refine e_then (by simp) ?_
                      refine e_in (by simp) ?_
                      refine e_then (by simp) ?_
                      refine e_then (by simp) ?_
                      refine e_in (by simp) ?_
                      refine e_then (by simp) ?_
                      refine e_in (by simp) ?_
                      exact endp hp
                    obtain ⟨u4, b4, hb4, H4, hm4, ho4⟩ := H.ret h_
                    replace H := H4
                    replace K1 := K1.step hm4 ho4
                    replace K9 := K9.step hm4 ho4
                    replace R_x := R_x.wstep hm4 ho4
                    have hinv5 := hinv4
                    rw [hb4] at hinv5
                    replace hinv5 := okb hinv5
                    refine l_nil ?_
                    refine e_K (hK30 _ _ _ _ ?_)
                    refine c_seq fun K31 hK31 => ?_
                    refine c_region ?_
                    refine sv (o_mv rfl) rfl ?_
                    refine scp (o_call ent44 rfl) (c_wput _ _ _ _ H.wb [58] (by simp)) rfl (fun w_ h_ => h_.elim) (fun c_ w29 h_ => ?_) fun v_ w29 h_ => ?_
                    · skip
                      have hp := H.panic (r := v.wr deep b) h_ (fun e he => by rw [hv_, ← hinv5, he]; rfl)
                      refine e_then (by simp) ?_
                      refine e_in (by simp) ?_
                      refine e_then (by simp) ?_
                      refine e_then (by simp) ?_
                      refine e_in (by simp) ?_
                      refine e_then (by simp) ?_
                      refine e_in (by simp) ?_
                      exact endp hp
                    obtain ⟨u5, b5, hb5, H5, hm5, ho5⟩ := H.ret h_
                    replace H := H5
                    replace K1 := K1.step hm5 ho5
                    replace K9 := K9.step hm5 ho5
                    replace R_x := R_x.wstep hm5 ho5
                    have hinv6 := hinv5
                    rw [hb5] at hinv6
                    replace hinv6 := okb hinv6
                    refine l_nil ?_
                    refine e_K (hK31 _ _ _ _ ?_)
                    refine c_region ?_
                    refine sv (o_mv rfl) rfl ?_
                    refine sv (o_fa0 fd62_1 rfl) rfl ?_
                    refine sv (o_lda (vs := [_, _, _, _, _, _]) ag25 rfl rfl (K9.blk.cs rfl)) rfl ?_
                    refine sv (o_mv rfl) rfl ?_
                    refine sv (o_addE (r := ((deep + 1 : Nat) : Int)) rfl rfl (by rw [wrap64_in _ (by omega)]; omega)) rfl ?_
                    refine scp (o_call ent20 rfl) (ih _ x.2 _ (deep + 1) _ _ _ (by have := JV.sz_in_map (List.mem_of_getElem? hx_x); omega) H.wb R_x (by omega) (hT.mod H.mod hgt) (fun h => (H.in_ _ h).elim hgt (fun h => by have := hT.lt; omega))) rfl (fun w_ h_ => h_.elim) (fun c_ w30 h_ => ?_) fun v_ w30 h_ => ?_
                    · skip
                      have hp := H.panic (r := v.wr deep b) h_ (fun e he => by rw [hv_, ← hinv6, he]; rfl)
                      refine e_in (by simp) ?_
                      refine e_then (by simp) ?_
                      refine e_then (by simp) ?_
                      refine e_in (by simp) ?_
                      refine e_then (by simp) ?_
                      refine e_in (by simp) ?_
                      exact endp hp
                    obtain ⟨u6, b6, hb6, H6, hm6, ho6⟩ := H.ret h_
                    replace H := H6
                    replace K1 := K1.step hm6 ho6
                    have hinv7 := hinv6
                    rw [hb6] at hinv7
                    replace hinv7 := okb hinv7
                    refine l_nil ?_
                    refine e_in (by simp) ?_
                    refine e_K (hK23 _ _ _ _ ?_)
                    refine c_region ?_
                    refine sv (o_addN rfl rfl (by omega)) rfl ?_
                    refine sv (o_mv rfl) rfl ?_
                    refine l_nil ?_
                    exact e_round (σ := Nat × Value × Str) (s := ⟨k, u2, b2⟩) (⟨k + 1, u6, b6⟩) ⟨rfl, rfl, rfl, rfl, rfl, rfl, trivial⟩ ⟨by omega, hinv7, H, K1⟩ (by dsimp only; omega)
                · skip
                  have hW : ((lng (b ++ [123])).bind fun b => JV.wrm v.map deep none b) = .ok b2 := by rw [← hinv, wrm_end (by omega)]
                  refine c_exit ?_
                  refine e_then (by simp) ?_
                  refine e_then (by simp) ?_
                  refine e_hit ?_
                  refine e_K (hK19 _ _ _ _ ?_)
                  refine c_region ?_
                  refine sv (o_mv rfl) rfl ?_
                  refine scp (o_call ent44 rfl) (c_wput _ _ _ _ H.wb [125] (by simp)) rfl (fun w_ h_ => h_.elim) (fun c_ w31 h_ => ?_) fun v_ w31 h_ => ?_
                  · skip
                    have hp := H.panic (r := v.wr deep b) h_ (fun e he => by rw [hv_, hW]; exact he)
                    refine e_in (by simp) ?_
                    exact endp hp
                  obtain ⟨u9, b9, hb9, H9, hm9, ho9⟩ := H.ret h_
                  replace H := H9
                  refine l_nil ?_
                  refine e_in (by simp) ?_
                  exact end0R rfl (H.fin (r := v.wr deep b) (by rw [hv_, hW]; exact hb9))
              · skip
                exact absurd (show v.kind = 5 by have := JV.bare_kind hbare; omega) h83
  refine c_block ?_
  refine c_seq fun K32 hK32 => ?_
  rcases hs1_0 : (!v.plain) with _ | _
  · skip
    by_cases hs1_1 : v.num > 9007199254740991
    · skip
      refine c_region ?_
      refine sv (o_lda (vs := [_, _, _, _, _, _]) ag25 rfl rfl (K1.blk.cs rfl)) rfl ?_
      refine sc (o_call ent42 rfl) (c_plain _ v _ (R0.to0 N1.mod)) rfl fun v_ w32 h_ => ?_
      obtain ⟨rfl, E_⟩ := h_
      replace H := H.mod0 E_
      replace K1 := K1.mod0 E_
      refine sv (o_not rfl) rfl ?_
      refine sv (o_mv rfl) rfl ?_
      refine sg rfl (hs1_0) (o_fa0 fd25_2 rfl) rfl ?_
      refine sg rfl (hs1_0) (o_ld sc3 rfl (K1.blk.cell rfl)) rfl ?_
      refine sg rfl (hs1_0) (o_gtr rfl rfl) rfl ?_
      refine sv (o_pickF (hs1_0) rfl rfl) rfl ?_
      refine sv (o_mv rfl) rfl ?_
      refine sn rfl (fun e_ => absurd ((decide_eq_true hs1_1).symm.trans e_) (by decide)) rfl ?_
      refine sn rfl (fun e_ => absurd ((decide_eq_true hs1_1).symm.trans e_) (by decide)) rfl ?_
      refine sn rfl (fun e_ => absurd ((decide_eq_true hs1_1).symm.trans e_) (by decide)) rfl ?_
      refine sv (o_pickT (decide_eq_true hs1_1) rfl rfl) rfl ?_
      refine sv (o_as rfl) rfl ?_
      refine l_nil ?_
      refine e_K (hK32 _ _ _ _ ?_)
      refine c_true rfl ?_
      have hb0 : v.bare = false := by
        rw [JV.bare_plain, Bool.and_eq_false_iff]
        first | (left; simpa using hs1_0; done) | (right; exact decide_eq_false (by omega))
      have hr : v.wr deep b = .error 1 := by rw [JV.wr_eq, if_pos hb0]
      refine c_region ?_
      refine scp (o_call ent43 rfl) (c_fail _ 1) rfl (fun w_ h_ => h_.elim) (fun c_ w33 h_ => ?_) fun v_ w33 h_ => ?_
      · skip
        obtain ⟨rfl, rfl⟩ := h_
        refine e_in (by simp) ?_
        refine e_then (by simp) ?_
        exact endp (H.fail (hr))
      · exact h_.elim
    · skip
      by_cases hs1_2 : v.num < -9007199254740991
      · skip
        refine c_region ?_
        refine sv (o_lda (vs := [_, _, _, _, _, _]) ag25 rfl rfl (K1.blk.cs rfl)) rfl ?_
        refine sc (o_call ent42 rfl) (c_plain _ v _ (R0.to0 N1.mod)) rfl fun v_ w34 h_ => ?_
        obtain ⟨rfl, E_⟩ := h_
        replace H := H.mod0 E_
        replace K1 := K1.mod0 E_
        refine sv (o_not rfl) rfl ?_
        refine sv (o_mv rfl) rfl ?_
        refine sg rfl (hs1_0) (o_fa0 fd25_2 rfl) rfl ?_
        refine sg rfl (hs1_0) (o_ld sc3 rfl (K1.blk.cell rfl)) rfl ?_
        refine sg rfl (hs1_0) (o_gtr rfl rfl) rfl ?_
        refine sv (o_pickF (hs1_0) rfl rfl) rfl ?_
        refine sv (o_mv rfl) rfl ?_
        refine sg rfl (decide_eq_false hs1_1) (o_fa0 fd25_2 rfl) rfl ?_
        refine sg rfl (decide_eq_false hs1_1) (o_ld sc3 rfl (K1.blk.cell rfl)) rfl ?_
        refine sg rfl (decide_eq_false hs1_1) (o_lss rfl rfl) rfl ?_
        refine sv (o_pickF (decide_eq_false hs1_1) rfl rfl) rfl ?_
        refine sv (o_as rfl) rfl ?_
        refine l_nil ?_
        refine e_K (hK32 _ _ _ _ ?_)
        refine c_if rfl (fun h10 => ?_) (fun h10 => absurd hs1_2 h10)
        have hb0 : v.bare = false := by
          rw [JV.bare_plain, Bool.and_eq_false_iff]
          first | (left; simpa using hs1_0; done) | (right; exact decide_eq_false (by omega))
        have hr : v.wr deep b = .error 1 := by rw [JV.wr_eq, if_pos hb0]
        refine c_region ?_
        refine scp (o_call ent43 rfl) (c_fail _ 1) rfl (fun w_ h_ => h_.elim) (fun c_ w35 h_ => ?_) fun v_ w35 h_ => ?_
        · skip
          obtain ⟨rfl, rfl⟩ := h_
          refine e_in (by simp) ?_
          refine e_then (by simp) ?_
          exact endp (H.fail (hr))
        · exact h_.elim
      · skip
        refine c_region ?_
        refine sv (o_lda (vs := [_, _, _, _, _, _]) ag25 rfl rfl (K1.blk.cs rfl)) rfl ?_
        refine sc (o_call ent42 rfl) (c_plain _ v _ (R0.to0 N1.mod)) rfl fun v_ w36 h_ => ?_
        obtain ⟨rfl, E_⟩ := h_
        replace H := H.mod0 E_
        replace K1 := K1.mod0 E_
        refine sv (o_not rfl) rfl ?_
        refine sv (o_mv rfl) rfl ?_
        refine sg rfl (hs1_0) (o_fa0 fd25_2 rfl) rfl ?_
        refine sg rfl (hs1_0) (o_ld sc3 rfl (K1.blk.cell rfl)) rfl ?_
        refine sg rfl (hs1_0) (o_gtr rfl rfl) rfl ?_
        refine sv (o_pickF (hs1_0) rfl rfl) rfl ?_
        refine sv (o_mv rfl) rfl ?_
        refine sg rfl (decide_eq_false hs1_1) (o_fa0 fd25_2 rfl) rfl ?_
        refine sg rfl (decide_eq_false hs1_1) (o_ld sc3 rfl (K1.blk.cell rfl)) rfl ?_
        refine sg rfl (decide_eq_false hs1_1) (o_lss rfl rfl) rfl ?_
        refine sv (o_pickF (decide_eq_false hs1_1) rfl rfl) rfl ?_
        refine sv (o_as rfl) rfl ?_
        refine l_nil ?_
        refine e_K (hK32 _ _ _ _ ?_)
        refine c_if rfl (fun h10 => absurd h10 hs1_2) (fun h10 => ?_)
        have hbare : v.bare = true := by
          rw [JV.bare_plain, decide_eq_true (show -9007199254740991 ≤ v.num ∧ v.num ≤ 9007199254740991 by omega), Bool.and_true]
          simpa using hs1_0
        refine c_seq fun K33 hK33 => ?_
        by_cases hs3_0 : v.kind ≥ 4
        · skip
          by_cases hs3_1 : (deep : Int) ≥ 32
          · skip
            refine c_region ?_
            refine sv (o_fa0 fd25_0 rfl) rfl ?_
            refine sv (o_ld sc3 rfl (K1.blk.cell rfl)) rfl ?_
            refine sv (o_geq rfl rfl) rfl ?_
            refine sv (o_mv rfl) rfl ?_
            refine sg rfl (decide_eq_true hs3_0) (o_mv rfl) rfl ?_
            refine sg rfl (decide_eq_true hs3_0) (o_geq rfl rfl) rfl ?_
            refine sv (o_pickT (decide_eq_true hs3_0) rfl rfl) rfl ?_
            refine sv (o_as rfl) rfl ?_
            refine l_nil ?_
            refine e_K (hK33 _ _ _ _ ?_)
            refine c_if rfl (fun h25 => ?_) (fun h25 => absurd hs3_1 h25)
            have hr : v.wr deep b = .error 5 := by
              have hne : ¬ v.bare = false := by rw [hbare]; simp
              rw [JV.wr_eq, if_neg hne, if_neg (by omega), if_neg (by omega), if_neg (by omega), if_neg (by omega), if_pos (by omega)]
            refine c_region ?_
            refine scp (o_call ent43 rfl) (c_fail _ 5) rfl (fun w_ h_ => h_.elim) (fun c_ w37 h_ => ?_) fun v_ w37 h_ => ?_
            · skip
              obtain ⟨rfl, rfl⟩ := h_
              refine e_in (by simp) ?_
              refine e_then (by simp) ?_
              exact endp (H.fail (hr))
            · exact h_.elim
          · skip
            refine c_region ?_
            refine sv (o_fa0 fd25_0 rfl) rfl ?_
            refine sv (o_ld sc3 rfl (K1.blk.cell rfl)) rfl ?_
            refine sv (o_geq rfl rfl) rfl ?_
            refine sv (o_mv rfl) rfl ?_
            refine sg rfl (decide_eq_true hs3_0) (o_mv rfl) rfl ?_
            refine sg rfl (decide_eq_true hs3_0) (o_geq rfl rfl) rfl ?_
            refine sv (o_pickT (decide_eq_true hs3_0) rfl rfl) rfl ?_
            refine sv (o_as rfl) rfl ?_
            refine l_nil ?_
            refine e_K (hK33 _ _ _ _ ?_)
            refine c_if rfl (fun h25 => absurd h25 hs3_1) (fun h25 => ?_)
            refine c_skip ?_
            refine e_in (by simp) ?_
            refine WE.sub (l' := [(0, _), (2, _), (4, _)]) ⟨rfl, rfl, rfl, trivial⟩ (e_K (J2  w36 ⟨hbare, by omega, H, K1⟩))
        · skip
          refine c_region ?_
          refine sv (o_fa0 fd25_0 rfl) rfl ?_
          refine sv (o_ld sc3 rfl (K1.blk.cell rfl)) rfl ?_
          refine sv (o_geq rfl rfl) rfl ?_
          refine sv (o_mv rfl) rfl ?_
          refine sn rfl (fun e_ => absurd ((decide_eq_false hs3_0).symm.trans e_) (by decide)) rfl ?_
          refine sn rfl (fun e_ => absurd ((decide_eq_false hs3_0).symm.trans e_) (by decide)) rfl ?_
          refine sv (o_pickF (decide_eq_false hs3_0) rfl rfl) rfl ?_
          refine sv (o_as rfl) rfl ?_
          refine l_nil ?_
          refine e_K (hK33 _ _ _ _ ?_)
          refine c_false rfl ?_
          refine c_skip ?_
          refine e_in (by simp) ?_
          refine WE.sub (l' := [(0, _), (2, _), (4, _)]) ⟨rfl, rfl, rfl, trivial⟩ (e_K (J2  w36 ⟨hbare, by omega, H, K1⟩))
  · skip
    refine c_region ?_
    refine sv (o_lda (vs := [_, _, _, _, _, _]) ag25 rfl rfl (K1.blk.cs rfl)) rfl ?_
    refine sc (o_call ent42 rfl) (c_plain _ v _ (R0.to0 N1.mod)) rfl fun v_ w38 h_ => ?_
    obtain ⟨rfl, E_⟩ := h_
    replace H := H.mod0 E_
    replace K1 := K1.mod0 E_
    refine sv (o_not rfl) rfl ?_
    refine sv (o_mv rfl) rfl ?_
    refine sn rfl (fun e_ => absurd ((hs1_0).symm.trans e_) (by decide)) rfl ?_
    refine sn rfl (fun e_ => absurd ((hs1_0).symm.trans e_) (by decide)) rfl ?_
    refine sn rfl (fun e_ => absurd ((hs1_0).symm.trans e_) (by decide)) rfl ?_
    refine sv (o_pickT (hs1_0) rfl rfl) rfl ?_
    refine sv (o_mv rfl) rfl ?_
    refine sn rfl (fun e_ => absurd ((rfl).symm.trans e_) (by decide)) rfl ?_
    refine sn rfl (fun e_ => absurd ((rfl).symm.trans e_) (by decide)) rfl ?_
    refine sn rfl (fun e_ => absurd ((rfl).symm.trans e_) (by decide)) rfl ?_
    refine sv (o_pickT (rfl) rfl rfl) rfl ?_
    refine sv (o_as rfl) rfl ?_
    refine l_nil ?_
    refine e_K (hK32 _ _ _ _ ?_)
    refine c_true rfl ?_
    have hb0 : v.bare = false := by
      rw [JV.bare_plain, Bool.and_eq_false_iff]
      first | (left; simpa using hs1_0; done) | (right; exact decide_eq_false (by omega))
    have hr : v.wr deep b = .error 1 := by rw [JV.wr_eq, if_pos hb0]
    refine c_region ?_
    refine scp (o_call ent43 rfl) (c_fail _ 1) rfl (fun w_ h_ => h_.elim) (fun c_ w39 h_ => ?_) fun v_ w39 h_ => ?_
    · skip
      obtain ⟨rfl, rfl⟩ := h_
      refine e_in (by simp) ?_
      refine e_then (by simp) ?_
      exact endp (H.fail (hr))
    · exact h_.elim

theorem c_wval (N : Nat) : ∀ (w : World) (v : JV) (us : List Value) (deep : Nat) (b : Str) (u : Value) (g : Nat), v.sz ≤ N → WrB w g 47 u b → Reps (g :: ob u) w v.D us → deep ≤ 32 → Tab w → gT ∉ g :: ob u → Calls Tryd.prog 20 [.pointer (some ⟨g, 0, none⟩), .agg us.toArray, .int .i64 (deep : Int)].toArray w (WrP w g 47 66 u (v.wr deep b)) := by
  induction N with
  | zero => intro w v us deep b u g hN; exact absurd (JV.sz_eq v) (by omega)
  | succ N ih => intro w v us deep b u g hN HB R hd hT hgt; exact c_wval_step N ih w v us deep b u g hN HB R hd hT hgt
end Go.Proofs.YtkhbnhdlelmbnaaDoor.V
