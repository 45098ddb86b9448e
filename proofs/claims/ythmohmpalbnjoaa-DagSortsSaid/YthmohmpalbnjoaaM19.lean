/-
  A part of the proof: a slice cut to its length, and what is appended to it: always a new one; what the law of sorted graphs asks: an order that no past breaks; the order of coming. No condition of its own.
-/
import Derived.Test.YthmohmpalbnjoaaM18
import Derived.Test.YthmohmpalbnjoaaM3
import Derived.Test.YthmohmpalbnjoaaM2
import Derived.Test.YthmohmpalbnjoaaM17
import Derived.Test.YthmohmpalbnjoaaM6
set_option linter.unusedVariables false
set_option linter.unusedSimpArgs false
set_option maxRecDepth 10000
namespace Go.Proofs.Ythmohmpalbnjoaa.V
open Go Go.Proofs
theorem ar59 : arB Try.prog 59 3 23 1 = true := by kernel_rfl
theorem zv59 : zvB Try.prog 59 ([.slice none 0 0, .slice none 0 0, .slice none 0 0]) := by unfold zvB; kernel_rfl
set_option maxHeartbeats 1000000 in
theorem c_DagKeeps (w : World) (cs : Gm) (v0 : Value) (R : Rep [] w (ndD cs) v0) (hC : CSm cs) (s : Str) (hs : s.length ≤ 140737488351232) : Calls Try.prog 8 [v0, S s].toArray w (Ret fun u w' => u = .bool true ∧ Mod [] w w') := by
  refine enter Try.func8 rfl rfl rfl (l := [(0, _), (1, _)]) ⟨rfl, rfl, trivial⟩ ?_
  have E := Mod.refl [] w
  obtain ⟨ad, c, rfl, hc1, hc2⟩ := ndD_len R
  have W := bm_wf cs
  refine c_seq fun K1 hK1 => ?_
  refine c_region ?_
  refine sv (o_as rfl) rfl ?_
  refine l_nil ?_
  refine e_K (hK1 _ _ _ _ ?_)
  refine c_seq fun K2 hK2 => ?_
  refine c_seq fun K3 hK3 => ?_
  refine c_region ?_
  refine sc (o_call ent10 rfl) (c_alive _) rfl fun v_ w1 h_ => ?_
  obtain ⟨rfl, E_⟩ := h_
  replace E := E.then E_
  refine sv ((o_not rfl).to (v' := .bool false) rfl) rfl ?_
  refine l_nil ?_
  refine e_K (hK3 _ _ _ _ ?_)
  refine c_false rfl ?_
  refine c_skip ?_
  refine e_K (hK2 _ _ _ _ ?_)
  refine c_seq fun K4 hK4 => ?_
  refine c_seq fun K5 hK5 => ?_
  by_cases hk19 : greatC cs = true
  · skip
    refine c_region ?_
    refine sv (o_mv rfl) rfl ?_
    refine sc (o_call ent11 rfl) (c_great _ cs _ (R.to0 E) hC) rfl fun v_ w2 h_ => ?_
    obtain ⟨rfl, E_⟩ := h_
    replace E := E.then E_
    refine sv (o_mv rfl) rfl ?_
    refine sn rfl (fun e_ => absurd ((hk19).symm.trans e_) (by decide)) rfl ?_
    refine sn rfl (fun e_ => absurd ((hk19).symm.trans e_) (by decide)) rfl ?_
    refine sn rfl (fun e_ => absurd ((hk19).symm.trans e_) (by decide)) rfl ?_
    refine sv (o_pickT (hk19) rfl rfl) rfl ?_
    refine l_nil ?_
    refine e_K (hK5 _ _ _ _ ?_)
    refine c_true rfl ?_
    refine c_seq fun K6 hK6 => ?_
    refine c_region ?_
    refine sv (o_as rfl) rfl ?_
    refine l_nil ?_
    refine e_K (hK6 _ _ _ _ ?_)
    refine c_ret ?_
    refine e_then (by simp) ?_
    exact ret1 rfl rfl ⟨rfl, E⟩
  · skip
    by_cases hk23 : ((s.length : Nat) : Int) > 1024
    · skip
      refine c_region ?_
      refine sv (o_mv rfl) rfl ?_
      refine sc (o_call ent11 rfl) (c_great _ cs _ (R.to0 E) hC) rfl fun v_ w3 h_ => ?_
      obtain ⟨rfl, E_⟩ := h_
      replace E := E.then E_
      refine sv (o_mv rfl) rfl ?_
      refine sg rfl (Bool.eq_false_iff.2 hk19) (o_mv rfl) rfl ?_
      refine sg rfl (Bool.eq_false_iff.2 hk19) (o_slen Try.underlying9 rfl) rfl ?_
      refine sg rfl (Bool.eq_false_iff.2 hk19) (o_gtr rfl rfl) rfl ?_
      refine sv (o_pickF (Bool.eq_false_iff.2 hk19) rfl rfl) rfl ?_
      refine l_nil ?_
      refine e_K (hK5 _ _ _ _ ?_)
      refine c_if rfl (fun h24 => ?_) (fun h24 => absurd hk23 h24)
      refine c_seq fun K7 hK7 => ?_
      refine c_region ?_
      refine sv (o_as rfl) rfl ?_
      refine l_nil ?_
      refine e_K (hK7 _ _ _ _ ?_)
      refine c_ret ?_
      refine e_then (by simp) ?_
      exact ret1 rfl rfl ⟨rfl, E⟩
    · skip
      refine c_region ?_
      refine sv (o_mv rfl) rfl ?_
      refine sc (o_call ent11 rfl) (c_great _ cs _ (R.to0 E) hC) rfl fun v_ w4 h_ => ?_
      obtain ⟨rfl, E_⟩ := h_
      replace E := E.then E_
      refine sv (o_mv rfl) rfl ?_
      refine sg rfl (Bool.eq_false_iff.2 hk19) (o_mv rfl) rfl ?_
      refine sg rfl (Bool.eq_false_iff.2 hk19) (o_slen Try.underlying9 rfl) rfl ?_
      refine sg rfl (Bool.eq_false_iff.2 hk19) (o_gtr rfl rfl) rfl ?_
      refine sv (o_pickF (Bool.eq_false_iff.2 hk19) rfl rfl) rfl ?_
      refine l_nil ?_
      refine e_K (hK5 _ _ _ _ ?_)
      refine c_if rfl (fun h24 => absurd h24 hk23) (fun h24 => ?_)
      refine c_skip ?_
      refine e_K (hK4 _ _ _ _ ?_)
      refine c_seq fun K8 hK8 => ?_
      refine c_region ?_
      have hsz0 := E.size
      have hCF := great_no (Bool.eq_false_iff.2 hk19)
      have hCl := hCF.len
      refine sc (o_call ent26 rfl) (c_new [] _ (by simp)) rfl fun v_ w5 h_ => ?_
      obtain ⟨g, bA, bB, rfl, G, Lg, LA, LB, E_⟩ := h_
      replace E := E.then E_
      have hsz := E.size
      have LA0 : w.heap.size ≤ bA := by omega
      have LB0 : w.heap.size ≤ bB := by omega
      refine sv (o_as rfl) rfl ?_
      refine l_nil ?_
      refine e_K (hK8 _ _ _ _ ?_)
      refine c_seq fun K9 hK9 => ?_
      refine c_region ?_
      refine sv (o_as rfl) rfl ?_
      refine l_nil ?_
      refine e_K (hK9 _ _ _ _ ?_)
      refine c_seq fun K10 hK10 => ?_
      refine c_seq fun K11 hK11 => ?_
      refine c_region ?_
      refine sv (o_mv rfl) rfl ?_
      refine sv (o_len Try.underlying22 rfl) rfl ?_
      refine sv (o_mv rfl) rfl ?_
      refine l_nil ?_
      refine e_K (hK11 _ _ _ _ ?_)
      refine c_block ?_
      refine c_loop (σ := Nat × Value) (fun ⟨k, v⟩ => [(1, S s), (5, .pointer (some ⟨g, 0, none⟩)), (6, v), (26, .slice ad cs.length c), (27, .int .i64 cs.length), (28, .int .i64 (k : Int))]) (fun ⟨k, v⟩ w1 => k ≤ cs.length ∧ GN 83 [] w1 g bA bB (bm (cs.take k)) (v) ∧ Mod [] w w1) (fun ⟨k, v⟩ => cs.length - k) (⟨0, .slice none 0 0⟩) ⟨rfl, rfl, rfl, rfl, rfl, rfl, trivial⟩ (⟨by omega, ⟨G, Rep.sl_nil⟩, E⟩) ?_
      rintro ⟨k, v⟩ w6 ⟨hk, GG, E⟩
      refine c_seq fun K12 hK12 => ?_
      refine c_region ?_
      refine sv (o_lss rfl rfl) rfl ?_
      refine l_nil ?_
      refine e_K (hK12 _ _ _ _ ?_)
      refine c_seq fun K13 hK13 => ?_
      refine c_if rfl (fun h29 => ?_) (fun h29 => ?_)
      · skip
        have hlt : k < cs.length := by omega
        obtain ⟨x, hx_x⟩ : ∃ x, (cs)[k]? = some x := ⟨_, List.getElem?_eq_getElem (by omega)⟩
        obtain ⟨a_x, u_x, ha_x, hcs_x, R_x⟩ := ndD_at R hx_x
        replace hcs_x := hcs_x.mod0 E
        obtain rfl := ha_x
        obtain ⟨a1_x, c1_x, rfl, h1_x, h2_x⟩ := flat_len R_x
        obtain ⟨hs1, hs2, hs3⟩ := hCF.one x (List.mem_of_getElem? hx_x)
        have hlg := GG.gr.lt
        have hksz := E.size
        obtain ⟨wk, hwk⟩ : ∃ x, x = w6 := ⟨_, rfl⟩
        subst hwk
        have Ek := Mod.refl [] wk
        refine c_skip ?_
        refine e_K (hK13 _ _ _ _ ?_)
        refine c_seq fun K14 hK14 => ?_
        refine c_block ?_
        refine c_seq fun K15 hK15 => ?_
        refine c_region ?_
        refine sv (o_ix sl22 rfl rfl (by omega)) rfl ?_
        refine sv (o_lda ag28 rfl rfl hcs_x) rfl ?_
        refine s_alloc zv28 rfl fun g1 w7 N1 => ?_
        have Lg1_E := N1.le E
        have Lg1_Ek := N1.le Ek
        replace E := E.then N1.mod
        replace Ek := Ek.then N1.mod
        have Bg1 := N1.blk
        refine s_sta (vs := [_, _]) ag28 Bg1 rfl rfl rfl (by simp [Value.oneCell']) (by simp) fun w8 P8 => ?_
        replace E := E.own P8.mod Lg1_E
        replace Ek := Ek.own P8.mod Lg1_Ek
        replace Bg1 : Blk w8 g1 _ [_, _] := P8.blk
        refine l_nil ?_
        refine e_K (hK15 _ _ _ _ ?_)
        refine c_seq fun K16 hK16 => ?_
        refine c_region ?_
        refine s_bslice (cs := []) sl23 zv9 rfl rfl rfl (by decide) rfl fun g2 w9 N2 => ?_
        have Lg2_E := N2.le E
        have Lg2_Ek := N2.le Ek
        have Dg1_g2 := N2.ne Bg1
        replace Bg1 := Bg1.mod0 N2.mod
        replace E := E.then N2.mod
        replace Ek := Ek.then N2.mod
        have Bg2 := N2.blk
        refine sv (o_fa0 fd28_1 rfl) rfl ?_
        refine sv (o_ld sc23 rfl (Bg1.cell rfl)) rfl ?_
        refine s_append sl23 rfl rfl (Own.all (sz := 1) (c := 0) (cs := []) Bg2 rfl (by omega)) (Src.flat Try.underlying23 (R_x.to0 E)) (by decide) (by omega) (by omega) rfl fun v9 w10 AL => ?_
        have O9 : OwnS w10 9 v9 x.2 := OwnS.to AL.own (by simp) (by simp)
        have L9 : ∀ y ∈ ob v9, wk.heap.size ≤ y := fun y hy => by
          rcases AL.ob_ y hy with h | h
          · simp [ob] at h; subst h; exact Lg2_Ek
          · have := Ek.size; omega
        have Ek2 := Ek.trans' AL.mod (fun y hy => .inr (by simp [ob] at hy; subst hy; exact Lg2_Ek))
        replace E := E.trans' AL.mod (fun y hy => .inr (by simp [ob] at hy; subst hy; exact Lg2_E))
        have G1 := GG.new Ek2 L9
        have hB1 : wk.heap.size ≤ g1 := Lg1_Ek
        replace Bg1 := Bg1.mod AL.mod (by simp [ob]; first | exact Dg1_g2 | exact Ne.symm Dg1_g2)
        clear Ek Ek2 Bg2
        obtain ⟨ad9, c9, rfl, h91, h92⟩ := Own.form O9
        refine sv (o_as rfl) rfl ?_
        refine l_nil ?_
        refine e_K (hK16 _ _ _ _ ?_)
        refine c_seq fun K17 hK17 => ?_
        refine c_region ?_
        refine sv (o_mv rfl) rfl ?_
        refine sv (o_fa0 fd28_0 rfl) rfl ?_
        refine sv (o_ld sc9 rfl (Bg1.cell rfl)) rfl ?_
        refine sv (o_mv rfl) rfl ?_
        refine sc (o_call ent24 rfl) (c_addG (ob (.slice ad9 x.2.length c9)) _ g bA bB _ G1.gr x.1 x.2 _ (OwnS.rep [] O9 (by simp)) (by have := (hCF.one x (List.mem_of_getElem? hx_x)).2.1; omega) (by have := (hCF.one x (List.mem_of_getElem? hx_x)).1; omega) (fun y hy => Own.lt O9 y hy)) rfl fun v_ w11 h_ => ?_
        obtain ⟨rfl, G2, E_⟩ := h_
        have R2 := G1.rf.toM E_ (by simp)
        have O9b := Own.mod O9 E_ (fun y hy hy' => by have := L9 y hy; simp at hy'; omega)
        replace E := E.trans' E_ (fun y hy => .inr (by simp at hy; rcases hy with rfl | rfl <;> omega))
        replace Bg1 := Bg1.mod E_ (fun hy => by simp at hy; omega)
        
        have E10 := Mod.refl [] w11
        refine l_nil ?_
        refine e_K (hK17 _ _ _ _ ?_)
        refine c_seq fun K18 hK18 => ?_
        refine c_region ?_
        refine sv (o_mv rfl) rfl ?_
        refine sv (o_fa0 fd28_0 rfl) rfl ?_
        refine sv (o_ld sc9 rfl (Bg1.cell rfl)) rfl ?_
        refine sv (o_fa0 fd28_1 rfl) rfl ?_
        refine sv (o_ld sc23 rfl (Bg1.cell rfl)) rfl ?_
        refine sc (o_call ent27 rfl) (g_addR (g :: bA :: bB :: ob (.slice ad9 x.2.length c9)) _ _ _ R2 x.1 x.2 _ (R_x.to0 E) (by have := bm_len (cs.take k); have := List.length_take_le k cs; omega) (by have := (hCF.one x (List.mem_of_getElem? hx_x)).2.1; omega) (fun y hy => by have h8 := G2.lt; have h9 := Own.lt O9b; simp only [List.mem_cons] at hy; rcases hy with rfl | rfl | rfl | hy; omega; omega; omega; exact h9 y hy)) rfl fun v_ w12 h_ => ?_
        obtain ⟨v3, rfl, R3, E_⟩ := h_
        replace Bg1 := Bg1.mod0 E_
        replace E := E.then E_
        replace E10 := E10.then E_
        obtain ⟨ad3, c3, rfl, h31, h32⟩ := ndD_len R3
        have E11 := Mod.refl [] w12
        refine sv (o_mv rfl) rfl ?_
        refine sv (o_ext rfl rfl) rfl ?_
        refine sv (o_ext rfl rfl) rfl ?_
        refine sv (o_as rfl) rfl ?_
        refine l_nil ?_
        refine e_K (hK18 _ _ _ _ ?_)
        refine c_seq fun K19 hK19 => ?_
        refine c_seq fun K20 hK20 => ?_
        refine c_region ?_
        refine sv (o_mv rfl) rfl ?_
        refine sv (o_fa0 fd28_1 rfl) rfl ?_
        refine sv (o_ld sc23 rfl (Bg1.cell rfl)) rfl ?_
        refine sc (o_call ent15 rfl) (g_same _ x.2 x.2 _ _ (OwnS.rep [] (Own.mod0 O9b E10) (by simp)) (R_x.to0 E)) rfl fun v_ w13 h_ => ?_
        obtain ⟨h53, E_⟩ := h_
        replace Bg1 := Bg1.mod0 E_
        replace E := E.then E_
        replace E10 := E10.then E_
        replace E11 := E11.then E_
        obtain rfl : v_ = .bool true := h53.trans (by simp)
        refine sv ((o_not rfl).to (v' := .bool false) rfl) rfl ?_
        refine l_nil ?_
        refine e_K (hK20 _ _ _ _ ?_)
        refine c_false rfl ?_
        refine c_skip ?_
        refine e_K (hK19 _ _ _ _ ?_)
        refine c_seq fun K21 hK21 => ?_
        refine c_region ?_
        refine sv (o_mv rfl) rfl ?_
        refine sv (o_len Try.underlying23 rfl) rfl ?_
        refine sv (o_mv rfl) rfl ?_
        refine l_nil ?_
        refine e_K (hK21 _ _ _ _ ?_)
        refine c_block ?_
        refine c_loop (σ := Nat) (fun j => [(1, S s), (5, .pointer (some ⟨g, 0, none⟩)), (6, .slice ad3 (addG (bm (cs.take k)) x.1 x.2).1.length c3), (9, .slice ad9 x.2.length c9), (26, .slice (some a_x) cs.length c), (27, .int .i64 cs.length), (28, .int .i64 (k : Int)), (55, .slice ad9 x.2.length c9), (56, .int .i64 x.2.length), (57, .int .i64 (j : Int))]) (fun j w1 => j ≤ x.2.length ∧ GN 83 (ob (.slice ad9 x.2.length c9)) w1 g bA bB (addG (bm (cs.take k)) x.1 x.2).1 (.slice ad3 (addG (bm (cs.take k)) x.1 x.2).1.length c3) ∧ (∃ l : List Str, OwnS w1 9 (.slice ad9 x.2.length c9) l ∧ l.length = x.2.length) ∧ Mod [] w w1) (fun j => x.2.length - j) (0) ⟨rfl, rfl, rfl, rfl, rfl, rfl, rfl, rfl, rfl, rfl, trivial⟩ (⟨by omega, ⟨G2.mod0 E10, R3.to0 E11⟩, ⟨_, Own.mod0 O9b E10, rfl⟩, E⟩) ?_
        rintro j w14 ⟨hj, GG2, hO9, E⟩
        refine c_seq fun K22 hK22 => ?_
        refine c_region ?_
        refine sv (o_lss rfl rfl) rfl ?_
        refine l_nil ?_
        refine e_K (hK22 _ _ _ _ ?_)
        refine c_seq fun K23 hK23 => ?_
        refine c_if rfl (fun h58 => ?_) (fun h58 => ?_)
        · skip
          have hlt2 : j < x.2.length := by omega
          obtain ⟨l9, O9c, hl9⟩ := hO9
          obtain ⟨y, hx_y⟩ : ∃ y, l9[j]? = some y := ⟨_, List.getElem?_eq_getElem (by omega)⟩
          obtain ⟨a9, ha9, _, _⟩ := flat_at (OwnS.rep [] O9c (by simp)) hx_y
          subst ha9
          have O9e := O9c
          unfold OwnS at O9e
          rw [hl9] at O9e
          refine c_skip ?_
          refine e_K (hK23 _ _ _ _ ?_)
          refine c_seq fun K24 hK24 => ?_
          refine c_block ?_
          refine c_seq fun K25 hK25 => ?_
          refine c_region ?_
          refine sv (o_mv rfl) rfl ?_
          refine sv (o_as rfl) rfl ?_
          refine l_nil ?_
          refine e_K (hK25 _ _ _ _ ?_)
          refine c_region ?_
          refine sv (o_mv rfl) rfl ?_
          refine sv (o_mv rfl) rfl ?_
          refine sv (o_ix sl23 rfl rfl (by omega)) rfl ?_
          refine s_stw1 sc9 O9e rfl rfl rfl (i := j) (by omega) fun w15 O9d ES hzS => ?_
          have O9f : OwnS w15 9 _ (l9.set j [63]) := OwnS.to O9d (by rw [List.length_set]; exact hl9.symm) (strs_set (s := [63]))
          have hL9 : ∀ y ∈ [a9.block], wk.heap.size ≤ y := fun y hy => L9 y (by simpa [ob] using hy)
          replace E := E.trans' ES (fun y hy => .inr (by have := hL9 y hy; omega))
          replace GG2 := GG2.own ES (fun y hy => by simpa [ob] using hy)
          refine l_nil ?_
          refine e_in (by simp) ?_
          refine e_K (hK24 _ _ _ _ ?_)
          refine c_region ?_
          refine sv (o_addN rfl rfl (by omega)) rfl ?_
          refine sv (o_mv rfl) rfl ?_
          refine l_nil ?_
          exact e_round (σ := Nat) (s := j) (j + 1) ⟨rfl, rfl, rfl, rfl, rfl, rfl, rfl, rfl, rfl, rfl, trivial⟩ ⟨by omega, GG2, ⟨_, O9f, by rw [List.length_set]; exact hl9⟩, E⟩ (by first | omega | (dsimp only; omega))
        · skip
          refine c_exit ?_
          refine e_then (by simp) ?_
          refine e_then (by simp) ?_
          refine e_hit ?_
          refine e_in (by simp) ?_
          refine e_K (hK14 _ _ _ _ ?_)
          refine c_region ?_
          refine sv (o_addN rfl rfl (by omega)) rfl ?_
          refine sv (o_mv rfl) rfl ?_
          refine l_nil ?_
          exact e_round (σ := Nat × Value) (s := ⟨k, v⟩) (⟨k + 1, .slice ad3 (addG (bm (cs.take k)) x.1 x.2).1.length c3⟩) ⟨rfl, rfl, rfl, rfl, rfl, rfl, trivial⟩ ⟨by omega, by rw [bm_succ hx_x]; exact GG2.free, E⟩ (by first | omega | (dsimp only; omega))
      · skip
        have hkk : cs.take k = cs := List.take_of_length_le (by omega)
        rw [hkk] at GG
        have hqsz := E.size
        obtain ⟨wq, hwq⟩ : ∃ x, x = w6 := ⟨_, rfl⟩
        subst hwq
        have Eq := Mod.refl [] wq
        refine c_exit ?_
        refine e_then (by simp) ?_
        refine e_then (by simp) ?_
        refine e_hit ?_
        refine e_K (hK10 _ _ _ _ ?_)
        refine c_seq fun K26 hK26 => ?_
        refine c_seq fun K27 hK27 => ?_
        refine c_region ?_
        refine sv (o_mv rfl) rfl ?_
        refine sv (o_mv rfl) rfl ?_
        refine sc (o_call ent21 rfl) (c_ahead [] _ g bA bB _ (GG.gr.mod0 Eq) s) rfl fun v_ w16 h_ => ?_
        obtain ⟨O1, L1, E_⟩ := h_
        replace E := E.then E_
        replace Eq := Eq.then E_
        obtain ⟨ad1, c1, rfl, h11, h12⟩ := Own.form O1
        have hq1 := Eq.size
        have E1 := Mod.refl [] w16
        refine sv (o_mv rfl) rfl ?_
        refine sc (o_call ent22 rfl) (c_headsG [] _ g bA bB _ (GG.gr.mod0 Eq)) rfl fun v_ w17 h_ => ?_
        obtain ⟨O2, L2, E_⟩ := h_
        replace E := E.then E_
        replace Eq := Eq.then E_
        replace E1 := E1.then E_
        obtain ⟨ad2, c2, rfl, h21, h22⟩ := Own.form O2
        have k12 := E1
        have E2 := Mod.refl [] w17
        refine sv (o_mv rfl) rfl ?_
        refine sv (o_mv rfl) rfl ?_
        refine s_bslice (cs := [_]) sl23 zv9 rfl rfl rfl (by decide) rfl fun g3 w18 N3 => ?_
        have Lg3_E := N3.le E
        have Lg3_Eq := N3.le Eq
        have Lg3_E1 := N3.le E1
        have Lg3_E2 := N3.le E2
        replace E := E.then N3.mod
        replace Eq := Eq.then N3.mod
        replace E1 := E1.then N3.mod
        replace E2 := E2.then N3.mod
        have Bg3 := N3.blk
        have hs23 := E2.size
        have hq2 := Eq.size
        refine sc (o_call ent16 rfl) (c_Past [] _ g bA bB _ (GG.gr.mod0 Eq) [s] _ (OwnS.rep [] (OwnS.to (l' := [s]) (Own.all (sz := 1) (c := 1) (cs := [_]) Bg3 rfl (by omega)) rfl rfl) (by simp [ob])) (by simp)) rfl fun v_ w19 h_ => ?_
        obtain ⟨O3, L3, E_⟩ := h_
        replace Bg3 := Bg3.mod0 E_
        replace E := E.then E_
        replace Eq := Eq.then E_
        replace E1 := E1.then E_
        replace E2 := E2.then E_
        obtain ⟨ad3, c3, rfl, h31, h32⟩ := Own.form O3
        obtain ⟨us, hus⟩ : ∃ z : List Value, z = [.slice ad1 ((bm cs).ahd s).length c1, .slice ad2 (heads (bm cs)).length c2, .slice ad3 (past (bm cs) [s]).length c3] := ⟨_, rfl⟩
        obtain ⟨ns, hns⟩ : ∃ z : List Nat, z = [((bm cs).ahd s).length, (heads (bm cs)).length, (past (bm cs) [s]).length] := ⟨_, rfl⟩
        have T3 : Tri 9 w19 us ns := by rw [hus, hns]; exact Tri.three O1 k12 O2 L2 E2 O3 (fun x hx => by have := L3 x hx; omega)
        have hLq : ∀ y ∈ us.flatMap ob, wq.heap.size ≤ y := fun y hy => by
          rw [hus] at hy
          simp only [List.flatMap_cons, List.flatMap_nil, List.append_nil, List.mem_append] at hy
          rcases hy with hy | hy | hy
          · exact L1 y hy
          · have := L2 y hy; omega
          · have := L3 y hy; omega
        have hLw : ∀ y ∈ us.flatMap ob, w.heap.size ≤ y := fun y hy => by have := hLq y hy; omega
        replace GG := GG.new Eq hLq
        have hu3 : us.length = 3 := by rw [hus]; rfl
        refine sv ((o_builda (cs := [_, _, _]) ar59 zv59 rfl rfl).to (v' := .agg us.toArray) (by rw [hus])) rfl ?_
        refine sv (o_mv rfl) rfl ?_
        refine l_nil ?_
        refine e_K (hK27 _ _ _ _ ?_)
        refine c_block ?_
        refine c_loop (σ := Nat) (fun j => [(1, S s), (5, .pointer (some ⟨g, 0, none⟩)), (6, v), (74, .agg us.toArray), (75, .int .i64 (j : Int))]) (fun j w1 => j ≤ 3 ∧ GN 83 (us.flatMap ob) w1 g bA bB (bm cs) (v) ∧ Tri 9 w1 us ns ∧ Mod [] w w1) (fun j => 3 - j) (0) ⟨rfl, rfl, rfl, rfl, rfl, trivial⟩ (⟨by omega, GG, T3, E⟩) ?_
        rintro j w20 ⟨hj, GG, T3, E⟩
        refine c_seq fun K28 hK28 => ?_
        refine c_region ?_
        refine sv (o_lss rfl rfl) rfl ?_
        refine l_nil ?_
        refine e_K (hK28 _ _ _ _ ?_)
        refine c_seq fun K29 hK29 => ?_
        refine c_if rfl (fun h76 => ?_) (fun h76 => ?_)
        · skip
          have hlt : j < 3 := by omega
          obtain ⟨u, hu⟩ : ∃ u, us[j]? = some u := ⟨_, List.getElem?_eq_getElem (by omega)⟩
          obtain ⟨lu, Ou, hlu⟩ := T3.own j u hu
          obtain ⟨adu, cu, rfl, h1u, h2u⟩ := Own.form Ou
          refine c_skip ?_
          refine e_K (hK29 _ _ _ _ ?_)
          refine c_seq fun K30 hK30 => ?_
          refine c_block ?_
          refine c_seq fun K31 hK31 => ?_
          refine c_region ?_
          refine sv (o_aidx ar59 sc23 rfl rfl (by omega) hu) rfl ?_
          refine sv (o_as rfl) rfl ?_
          refine l_nil ?_
          refine e_K (hK31 _ _ _ _ ?_)
          refine c_seq fun K32 hK32 => ?_
          refine c_region ?_
          refine sv (o_mv rfl) rfl ?_
          refine sv (o_len Try.underlying23 rfl) rfl ?_
          refine sv (o_mv rfl) rfl ?_
          refine l_nil ?_
          refine e_K (hK32 _ _ _ _ ?_)
          refine c_block ?_
          refine c_loop (σ := Nat) (fun i => [(1, S s), (5, .pointer (some ⟨g, 0, none⟩)), (6, v), (12, .slice adu lu.length cu), (74, .agg us.toArray), (75, .int .i64 (j : Int)), (78, .slice adu lu.length cu), (79, .int .i64 lu.length), (80, .int .i64 (i : Int))]) (fun i w1 => i ≤ lu.length ∧ GN 83 (us.flatMap ob) w1 g bA bB (bm cs) (v) ∧ Tri 9 w1 us ns ∧ Mod [] w w1) (fun i => lu.length - i) (0) ⟨rfl, rfl, rfl, rfl, rfl, rfl, rfl, rfl, rfl, trivial⟩ (⟨by omega, GG, T3, E⟩) ?_
          rintro i w21 ⟨hi, GG, T3, E⟩
          refine c_seq fun K33 hK33 => ?_
          refine c_region ?_
          refine sv (o_lss rfl rfl) rfl ?_
          refine l_nil ?_
          refine e_K (hK33 _ _ _ _ ?_)
          refine c_seq fun K34 hK34 => ?_
          refine c_if rfl (fun h81 => ?_) (fun h81 => ?_)
          · skip
            have hlt2 : i < lu.length := by omega
            obtain ⟨l9, O9c, hl9'⟩ := T3.own j _ hu
            have hl9 : l9.length = lu.length := by rw [hlu] at hl9'; injection hl9' with h; exact h.symm
            obtain ⟨y, hx_y⟩ : ∃ y, l9[i]? = some y := ⟨_, List.getElem?_eq_getElem (by omega)⟩
            obtain ⟨a9, ha9, _, _⟩ := flat_at (OwnS.rep [] O9c (by simp)) hx_y
            subst ha9
            have O9e := O9c
            unfold OwnS at O9e
            rw [hl9] at O9e
            refine c_skip ?_
            refine e_K (hK34 _ _ _ _ ?_)
            refine c_seq fun K35 hK35 => ?_
            refine c_block ?_
            refine c_seq fun K36 hK36 => ?_
            refine c_region ?_
            refine sv (o_mv rfl) rfl ?_
            refine sv (o_as rfl) rfl ?_
            refine l_nil ?_
            refine e_K (hK36 _ _ _ _ ?_)
            refine c_region ?_
            refine sv (o_mv rfl) rfl ?_
            refine sv (o_mv rfl) rfl ?_
            refine sv (o_ix sl23 rfl rfl (by omega)) rfl ?_
            refine s_stw1 sc9 O9e rfl rfl rfl (i := i) (by omega) fun w22 O9d ES hzS => ?_
            have O9f : OwnS w22 9 _ (l9.set i [63]) := OwnS.to O9d (by rw [List.length_set]; exact hl9.symm) (strs_set (s := [63]))
            have hm9 : ∀ y ∈ [a9.block], y ∈ us.flatMap ob := fun y hy => ob_mem3 hu y (by simpa [ob] using hy)
            replace E := E.trans' ES (fun y hy => .inr (hLw y (hm9 y hy)))
            have GG3 := GG.own ES hm9
            have T4 := T3.set hu (show Mod (ob (.slice (some a9) lu.length cu)) _ _ from ES) O9f (by rw [List.length_set]; exact hl9')
            refine l_nil ?_
            refine e_in (by simp) ?_
            refine e_K (hK35 _ _ _ _ ?_)
            refine c_region ?_
            refine sv (o_addN rfl rfl (by omega)) rfl ?_
            refine sv (o_mv rfl) rfl ?_
            refine l_nil ?_
            exact e_round (σ := Nat) (s := i) (i + 1) ⟨rfl, rfl, rfl, rfl, rfl, rfl, rfl, rfl, rfl, trivial⟩ ⟨by omega, GG3, T4, E⟩ (by first | omega | (dsimp only; omega))
          · skip
            refine c_exit ?_
            refine e_then (by simp) ?_
            refine e_then (by simp) ?_
            refine e_hit ?_
            refine e_in (by simp) ?_
            refine e_K (hK30 _ _ _ _ ?_)
            refine c_region ?_
            refine sv (o_addN rfl rfl (by omega)) rfl ?_
            refine sv (o_mv rfl) rfl ?_
            refine l_nil ?_
            exact e_round (σ := Nat) (s := j) (j + 1) ⟨rfl, rfl, rfl, rfl, rfl, trivial⟩ ⟨by omega, GG, T3, E⟩ (by first | omega | (dsimp only; omega))
        · skip
          have G := GG.gr
          have RV0 := GG.rf.anti (A' := []) (by simp)
          obtain ⟨wG, hwG⟩ : ∃ x, x = w20 := ⟨_, rfl⟩
          subst hwG
          have Eg := Mod.refl [] wG
          refine c_exit ?_
          refine e_then (by simp) ?_
          refine e_then (by simp) ?_
          refine e_hit ?_
          refine e_K (hK26 _ _ _ _ ?_)
          refine c_seq fun K37 hK37 => ?_
          refine c_region ?_
          refine sv (o_mv rfl) rfl ?_
          refine sv (o_mv rfl) rfl ?_
          refine sc (o_call ent19 rfl) (g_get [] _ (bm cs) _ (RV0.to0 Eg) s) rfl fun v_ w23 h_ => ?_
          obtain ⟨lv, rfl, RL, E_⟩ := h_
          replace E := E.then E_
          replace Eg := Eg.then E_
          have Ek := Mod.refl [] w23
          obtain ⟨adl, cl, rfl, _, _⟩ := flat_len RL
          refine sv (o_mv rfl) rfl ?_
          refine sv (o_ext rfl rfl) rfl ?_
          refine sv (o_ext rfl rfl) rfl ?_
          refine s_alloc zv42 rfl fun g4 w24 N4 => ?_
          have Lg4_E := N4.le E
          have Lg4_Eg := N4.le Eg
          have Lg4_Ek := N4.le Ek
          replace E := E.then N4.mod
          replace Eg := Eg.then N4.mod
          replace Ek := Ek.then N4.mod
          have Bg4 := N4.blk
          refine s_sta (vs := [_, _]) ag42 Bg4 rfl rfl rfl (by simp [Value.oneCell']) (by simp) fun w25 P25 => ?_
          replace E := E.own P25.mod Lg4_E
          replace Eg := Eg.own P25.mod Lg4_Eg
          replace Ek := Ek.own P25.mod Lg4_Ek
          replace Bg4 : Blk w25 g4 _ [_, _] := P25.blk
          refine sv (o_as rfl) rfl ?_
          refine l_nil ?_
          refine e_K (hK37 _ _ _ _ ?_)
          refine c_seq fun K38 hK38 => ?_
          refine c_draw wide (by kernel_rfl) ?_
          refine tv (fun w_ E_ => (o_mv rfl)) rfl rfl ?_
          refine tv (fun w_ E_ => (o_mv rfl)) rfl rfl ?_
          refine tcr (fun u w2 => OwnS w2 9 u ((bm cs).ahd s)) (fun v w1 w2 k h => Own.mod0 h k) (fun w_ E_ => o_call ent21 rfl) (fun w_ E_ => Calls.imp (c_ahead _ _ g bA bB _ (G.mod0 (Eg.then E_)) s) fun u w' h => ⟨h.1, h.2.2⟩) rfl rfl rfl ?_
          refine tv (fun w_ E_ => (o_fa0 fd42_1 rfl)) rfl rfl ?_
          refine tv (fun w_ E_ => (o_ld sc23 rfl ((Bg4.mod0 E_).cell rfl))) rfl rfl ?_
          refine tc1 (args := fun u_ => [u_, .slice adl ((bm cs).ahd s).length cl].toArray) (v := .bool true) 96 rfl rfl ⟨_, List.Mem.tail _ (List.Mem.head _), rfl⟩ (fun w_ u E_ h => o_call ent15 rfl) (fun w_ u E_ h => Calls.imp (g_same _ ((bm cs).ahd s) ((bm cs).ahd s) _ _ (OwnS.rep [] h (by simp)) (RL.to0 (Ek.then E_))) fun r w' hr => ⟨hr.1.trans (by simp), hr.2⟩) rfl rfl ?_
          refine tv (fun w_ E_ => (o_mv rfl)) rfl rfl ?_
          refine tvg rfl (rfl) (fun w_ E_ => (o_mv rfl)) rfl rfl ?_
          refine tcrg (fun u w2 => OwnS w2 9 u (heads (bm cs))) (fun v w1 w2 k h => Own.mod0 h k) rfl rfl (fun w_ E_ => o_call ent22 rfl) (fun w_ E_ => Calls.imp (c_headsG _ _ g bA bB _ (G.mod0 (Eg.then E_))) fun u w' h => ⟨h.1, h.2.2⟩) rfl rfl rfl ?_
          refine tvg rfl (rfl) (fun w_ E_ => (o_mv rfl)) rfl rfl ?_
          refine tcrg (fun u w2 => Rep [] w2 (strD (heads (bm cs))) u) (fun v w1 w2 k h => Rep.to0 h k) rfl rfl (fun w_ E_ => o_call ent23 rfl) (fun w_ E_ => g_headsR _ (bm cs) _ (RV0.to0 (Eg.then E_)) (by have := bm_len cs; have := hCF.len; omega)) rfl rfl rfl ?_
          refine tc2g (v := .bool true) 102 104 rfl rfl rfl rfl ⟨_, List.Mem.tail _ (List.Mem.head _), rfl⟩ rfl rfl ⟨_, List.Mem.tail _ (List.Mem.tail _ (List.Mem.head _)), rfl⟩ (fun w_ u u' E_ h h' => o_call ent15 rfl) (fun w_ u u' E_ h h' => Calls.imp (g_same _ (heads (bm cs)) (heads (bm cs)) _ _ (OwnS.rep [] h (by simp)) h') fun r w' hr => ⟨hr.1.trans (by simp), hr.2⟩) rfl rfl ?_
          refine tv (fun w_ E_ => (o_pickT (rfl) rfl rfl)) rfl rfl ?_
          refine tv (fun w_ E_ => (o_mv rfl)) rfl rfl ?_
          refine tvg rfl (rfl) (fun w_ E_ => (o_mv rfl)) rfl rfl ?_
          refine tvg rfl (rfl) (fun w_ E_ => (o_mv rfl)) rfl rfl ?_
          refine t_bsliceg (cs := [_]) (fun u w2 => OwnS w2 9 u [s]) (fun v w1 w2 k h => Own.mod0 h k) rfl rfl sl23 zv9 rfl rfl rfl (by decide) (fun w_ g w2_ E_ N_ => OwnS.to (Own.all (sz := 1) (c := 1) N_.blk rfl (by omega)) rfl rfl) rfl rfl ?_
          refine tcr1g (args := fun u_ => [.pointer (some ⟨g, 0, none⟩), u_].toArray) (fun u w2 => OwnS w2 9 u (past (bm cs) [s])) (fun v w1 w2 k h => Own.mod0 h k) 110 rfl rfl rfl rfl ⟨_, List.Mem.tail _ (List.Mem.tail _ (List.Mem.head _)), rfl⟩ (fun w_ u E_ h => o_call ent16 rfl) (fun w_ u E_ h => by have h2 : OwnS w_ 9 u [s] := h; exact Calls.imp (c_Past _ w_ g bA bB _ (G.mod0 (Eg.then E_)) [s] u (OwnS.rep [] h2 (by simp)) (by rw [List.length_singleton]; omega)) fun r w' hr => ⟨hr.1, hr.2.2⟩) rfl rfl rfl ?_
          refine tvg rfl (rfl) (fun w_ E_ => (o_mv rfl)) rfl rfl ?_
          refine tvg rfl (rfl) (fun w_ E_ => (o_mv rfl)) rfl rfl ?_
          refine t_bsliceg (cs := [_]) (fun u w2 => OwnS w2 9 u [s]) (fun v w1 w2 k h => Own.mod0 h k) rfl rfl sl23 zv9 rfl rfl rfl (by decide) (fun w_ g w2_ E_ N_ => OwnS.to (Own.all (sz := 1) (c := 1) N_.blk rfl (by omega)) rfl rfl) rfl rfl ?_
          refine tcr1g (args := fun u_ => [v, u_].toArray) (fun u w2 => Rep [] w2 (strD (past (bm cs) [s])) u) (fun v w1 w2 k h => Rep.to0 h k) 114 rfl rfl rfl rfl ⟨_, List.Mem.tail _ (List.Mem.tail _ (List.Mem.head _)), rfl⟩ (fun w_ u E_ h => o_call ent17 rfl) (fun w_ u E_ h => by have h2 : OwnS w_ 9 u [s] := h; exact g_pastR [] w_ (bm cs) _ (RV0.to0 (Eg.then E_)) [s] u (OwnS.rep [] h2 (by simp)) (by have := bm_len cs; have := hCF.len; omega) (by simp)) rfl rfl rfl ?_
          refine tc2g (v := .bool true) 111 115 rfl rfl rfl rfl ⟨_, List.Mem.tail _ (List.Mem.head _), rfl⟩ rfl rfl ⟨_, List.Mem.tail _ (List.Mem.tail _ (List.Mem.head _)), rfl⟩ (fun w_ u u' E_ h h' => o_call ent15 rfl) (fun w_ u u' E_ h h' => Calls.imp (g_same _ (past (bm cs) [s]) (past (bm cs) [s]) _ _ (OwnS.rep [] h (by simp)) h') fun r w' hr => ⟨hr.1.trans (by simp), hr.2⟩) rfl rfl ?_
          refine tv (fun w_ E_ => (o_pickT (rfl) rfl rfl)) rfl rfl ?_
          refine tv (fun w_ E_ => (o_as rfl)) rfl rfl ?_
          refine tw_nil rfl fun w26 E_ => ?_
          replace Bg4 := Bg4.mod0 E_
          replace E := E.then E_
          replace Eg := Eg.then E_
          replace Ek := Ek.then E_
          refine e_K (hK38 _ _ _ _ ?_)
          refine c_ret ?_
          exact ret1 rfl rfl ⟨rfl, E⟩
end Go.Proofs.Ythmohmpalbnjoaa.V

set_option linter.unusedVariables false
set_option linter.unusedSimpArgs false
namespace Go.Proofs.Ythmohmpalbnjoaa.V
open Go
section
variable {P : Program} {ops : Array Oper} {Q : Exit → Act → World → Prop} {n : Nat} {ds : List Deferred} {l : List (Nat × Value)} {w w' : World} {a : Act}
variable {rest : List Oper} {d : Nat} {op : Op} {ty : TypeId} {pos : String} {af : Array Edge}
variable {dd : Option Nat} {gg : Option (Nat × Bool)} {x y z : Operand} {t t' : TypeId}
theorem o_sl3 {ad : Option Addr} {c c' e sz by_ : Nat} {h h' : Operand} (ht : slB P t e sz by_ = true) (hx : evO l x = some (.slice ad c c')) (hh : evO l h = some (.int .i64 (c : Int))) (hm : evO l h' = some (.int .i64 (c : Int))) (hc : c ≤ c') :
    Runs P l ⟨dd, .slice t x none (some h) (some h'), ty, pos, af, gg⟩ w (.slice ad c c) w := fun ρ hρ => by
  obtain ⟨i, z, h1, h2, h3, h4, h5, h6⟩ := slB_spec ht
  subst h3
  have ha : (if c = 0 then ad else ad.map fun x => x.add (0 * i.size)) = ad := adS_zero ad c i.size
  have hci : (0 : Int) ≤ (c : Int) ∧ (c : Int) ≤ (c' : Int) := by omega
  have hcc : (0 : Int) ≤ (c : Int) ∧ (c : Int) ≤ (c : Int) := by omega
  have s1 := run_sliceBound (P := P) (w := w) .i64 (c : Int) c' .slice3Acap (by omega) (by omega)
  have s2 := run_sliceBound (P := P) (w := w) .i64 (c : Int) c .slice3B (by omega) (by omega)
  simp [execOp, Instr.sliceAt, Instr.slice, hρ _ _ hx, hρ _ _ hh, hρ _ _ hm, run_underlying h1, run_sizeOf_of h2, Instr.sliceBounds, s1, s2]
  simpa using ha
theorem append_full {t tx tb e sz by_ c c' cap : Nat} {base : Option Addr} {u : Value} {vs news : List Value} (ht : slB P t e sz by_ = true) (O : Src P sz tb (.slice base c cap) c vs w) (hs : Src P sz tx u c' news w)
    (hcap : cap < c + c') (hb : (c + c') * by_ ≤ 140737488355328) (hb1 : c + c' ≤ 9223372036854775807) (ty : Nat) :
    ∃ v' w', (Builtin.append_ #[t, tx] ty #[.slice base c cap, u]).run P w = .ok v' w' ∧ Own w' e sz v' (c + c') (vs ++ news) ∧ (∀ x ∈ ob v', w.heap.size ≤ x) ∧ Mod [] w w' := by
  obtain ⟨i, z, h1, h2, h3, h4, h5, h6⟩ := slB_spec ht
  subst h3; subst h4
  have hlen : (vs ++ news).length = (c + c') * i.size := by rw [List.length_append, O.newsLen, hs.newsLen, Nat.add_mul]
  have hr := run_append_grow_src (P := P) w t tx ty e i z h1 h2 h5 base c cap vs O.cellsD u c' news hs hcap (by omega) (growslice_fits hcap hb)
  have hge := grownCap_ge w (c + c') cap e
  have hB : Blk (w.drew.alloc (.cells ((vs ++ news).toArray ++ Builtin.zeroCells z.cells (grownCap w (c + c') cap e - (c + c'))) e)) w.heap.size e ((vs ++ news) ++ (Builtin.zeroCells z.cells (grownCap w (c + c') cap e - (c + c'))).toList) := by
    have := heap_alloc_new w.drew (.cells ((vs ++ news).toArray ++ Builtin.zeroCells z.cells (grownCap w (c + c') cap e - (c + c'))) e)
    unfold Blk
    refine this.trans ?_
    congr 2
    apply Array.toList_inj.1
    simp
  refine ⟨_, _, hr, ⟨hlen, .inr ⟨w.heap.size, 0, _, _, rfl, hB, hge, grownCap_le_maxLen w (c + c') cap e (by simp only [maxLen]; omega), ?_, ?_⟩⟩, ?_, ?_⟩
  · have hzl : (Builtin.zeroCells z.cells (grownCap w (c + c') cap e - (c + c'))).toList.length = (grownCap w (c + c') cap e - (c + c')) * i.size := by
      rw [Array.length_toList, size_zeroCells, h6]
    rw [List.length_append, hlen, hzl, ← Nat.add_mul]
    have : c + c' + (grownCap w (c + c') cap e - (c + c')) = grownCap w (c + c') cap e := by omega
    rw [this]
    omega
  · rw [List.drop_zero, ← hlen]
    exact List.take_left
  · intro x hx
    simp [ob] at hx
    omega
  · exact ⟨rfl, rfl, rfl, by simp, fun j hj _ => RowKit.Below.heap_alloc w.drew _ j hj⟩
theorem s_appfull {tx tb e sz by_ c c' cap : Nat} {base : Option Addr} {u : Value} {vs news : List Value} (ht : slB P t e sz by_ = true) (hx : evO l x = some (.slice base c cap)) (hy : evO l y = some u) (O : Src P sz tb (.slice base c cap) c vs w) (hs : Src P sz tx u c' news w)
    (hcap : cap < c + c') (hb : (c + c') * by_ ≤ 140737488355328) (hb1 : c + c' ≤ 9223372036854775807) (hd : Nat.blt d n = true)
    (h : ∀ v' w', Own w' e sz v' (c + c') (vs ++ news) → (∀ x ∈ ob v', w.heap.size ≤ x) → Mod [] w w' → WL P ops Q rest n ds ((d, v') :: l) w') :
    WL P ops Q (⟨some d, .call { callee := .builtin .append, args := #[x, y], argTypes := #[t, tx] }, ty, pos, af, none⟩ :: rest) n ds l w := by
  obtain ⟨v', w', hr, h1, h2, h3⟩ := append_full (P := P) ht O hs hcap hb hb1 ty
  refine sv (v := v') (w' := w') (fun ρ hρ => ?_) hd (h v' w' h1 h2 h3)
  simp [execOp, resolve, invoke, builtin, hρ _ _ hx, hρ _ _ hy, hr]
end
/-- a slice cut to its length reads as before -/
theorem Rep.full {A : List Nat} {w : World} {sz n c : Nat} {rows : List (List D)} {ad : Option Addr} (h : Rep A w (.sl sz rows) (.slice ad n c)) : Rep A w (.sl sz rows) (.slice ad n n) := by
  simp only [Rep] at h ⊢
  obtain ⟨ad', c', h1, h2, h3, h4⟩ := h
  injection h1 with e1 e2 e3
  subst e1; subst e2; subst e3
  exact ⟨ad, _, rfl, Nat.le_refl _, Nat.le_trans h2 h3, h4⟩
/-- .. and so do its first elements -/
theorem Rep.top {A : List Nat} {w : World} {sz n c k : Nat} {rows : List (List D)} {ad : Option Addr} (h : Rep A w (.sl sz rows) (.slice ad n c)) (hk : k ≤ rows.length) : Rep A w (.sl sz (rows.take k)) (.slice ad k c) := by
  simp only [Rep] at h ⊢
  obtain ⟨ad', c', h1, h2, h3, h4⟩ := h
  injection h1 with e1 e2 e3
  subst e1; subst e2; subst e3
  have hl : (rows.take k).length = k := by rw [List.length_take]; omega
  refine ⟨ad, c, by rw [hl], by omega, h3, fun hne => ?_⟩
  obtain ⟨a, ha, hA, hb, hr⟩ := h4 (fun e => hne (by simp [e]))
  refine ⟨a, ha, hA, hb, ?_⟩
  clear h2 h4 hne hk hl
  have go : ∀ (i k : Nat) (rws : List (List D)), RepRows A w sz a i rws → RepRows A w sz a i (rws.take k) := by
    intro i k rws
    induction rws generalizing i k with
    | nil => intro h; simpa using h
    | cons r rs ih =>
      intro h
      cases k with
      | zero => simp [RepRows]
      | succ k =>
        simp only [RepRows] at h
        simp only [List.take_succ_cons, RepRows]
        exact ⟨h.1, h.2.1, ih _ _ h.2.2⟩
  exact go 0 k rows hr
end Go.Proofs.Ythmohmpalbnjoaa.V

set_option linter.unusedVariables false
set_option linter.unusedSimpArgs false
namespace Go.Proofs.Ythmohmpalbnjoaa.V
open Go
section
variable {lt pr : Nat → Nat → Bool} {n : Nat}
theorem ord_prefix (A : Acyc pr n) : ∀ d j, j + d ≤ n → (ordI lt pr n (j + d)).take j = ordI lt pr n j
  | 0, j, h => by
    have := ordI_len (lt := lt) A j h
    rw [Nat.add_zero, List.take_of_length_le (by omega)]
  | d + 1, j, h => by
    have hl := ordI_len (lt := lt) A (j + d) (by omega)
    have ih := ord_prefix A d j (by omega)
    obtain ⟨b, hb, _⟩ := ordI_step (lt := lt) A hl (by omega)
    have e : ordI lt pr n (j + d + 1) = ordI lt pr n (j + d) ++ [b] := by rw [ordI, hb]
    rw [← Nat.add_assoc, e, List.take_append_of_le_length (by omega), ih]
end
theorem ordG_all {m : Gm} (h : GWf m) {rks : List Rk} (hr : rks.length = m.length) : ordG m m.keys rks = ((ordI (ltG m.keys rks) (prG m m.keys) m.keys.length m.keys.length).map (nm m.keys), 0) := by
  have hk : m.keys.length = m.length := by simp [Gm.keys]
  unfold ordG
  rw [if_neg (by omega), if_neg (fun hn => hn h.nodup), if_neg (fun ⟨x, hx, hx'⟩ => hx' hx)]
theorem ordG_len {m : Gm} (h : GWf m) {rks : List Rk} (hr : rks.length = m.length) : (ordG m m.keys rks).1.length = m.keys.length := by
  rw [ordG_all h hr, List.length_map]
  exact ordI_len (prG_acyc h h.nodup) _ (Nat.le_refl _)
theorem ordG_good {m : Gm} (h : GWf m) {rks : List Rk} (hr : rks.length = m.length) {i j : Nat} {x y : Str} (hx : (ordG m m.keys rks).1[i]? = some x) (hy : (ordG m m.keys rks).1[j]? = some y) (hij : i < j) : y ≠ x ∧ y ∉ past m [x] := by
  have A := prG_acyc h h.nodup
  rw [ordG_all h hr] at hx hy
  simp only [List.getElem?_map, Option.map_eq_some_iff] at hx hy
  obtain ⟨a, ha, rfl⟩ := hx
  obtain ⟨b, hb, rfl⟩ := hy
  have C := ordI_came (n := m.keys.length) (pr := prG m m.keys) (ltG m.keys rks) m.keys.length
  have hil := (List.getElem?_eq_some_iff.1 ha).1
  rw [ordI_len A _ (Nat.le_refl _)] at hil
  have hp := ord_prefix (lt := ltG m.keys rks) A (m.keys.length - (i + 1)) (i + 1) (by omega)
  rw [show i + 1 + (m.keys.length - (i + 1)) = m.keys.length by omega] at hp
  have C1 := ordI_came (n := m.keys.length) (pr := prG m m.keys) (ltG m.keys rks) (i + 1)
  rw [← hp] at C1
  have hain : a ∈ (ordI (ltG m.keys rks) (prG m m.keys) m.keys.length m.keys.length).take (i + 1) := List.mem_of_getElem? (i := i) (by rw [List.getElem?_take]; simp [ha])
  have hbn : b ∉ (ordI (ltG m.keys rks) (prG m m.keys) m.keys.length m.keys.length).take (i + 1) := fun hb' => by
    obtain ⟨k, hk⟩ := List.mem_iff_getElem?.1 hb'
    rw [List.getElem?_take] at hk
    split at hk
    · have hjl := (List.getElem?_eq_some_iff.1 hb)
      have hkl := (List.getElem?_eq_some_iff.1 hk)
      have := (List.nodup_iff_pairwise_ne.1 C.nd)
      have e := (List.getElem_inj (h₀ := hkl.1) (h₁ := hjl.1) C.nd).1 (hkl.2.trans hjl.2.symm)
      omega
    · cases hk
  have hba : b ≠ a := fun e => hbn (e ▸ hain)
  have hal := C.lt a (List.mem_of_getElem? ha)
  have hbl := C.lt b (List.mem_of_getElem? hb)
  refine ⟨fun e => hba (nm_inj h.nodup hbl hal e), fun hpast => hbn (C1.cl a hain b hbl hba (decide_eq_true hpast))⟩
def incR (n : Nat) : List Rk := (List.range n).map fun i : Nat => ⟨(i : Int), 0, []⟩
theorem incR_len (n : Nat) : (incR n).length = n := by simp [incR]
theorem incR_succ (n : Nat) : incR (n + 1) = incR n ++ [⟨(n : Int), 0, []⟩] := by simp [incR, List.range_succ]
theorem incR_at {n i : Nat} (h : i < n) : rnk (incR n) i = ⟨(i : Int), 0, []⟩ := by simp [rnk, incR, h]
theorem pos_nm {m : Gm} (h : GWf m) {i : Nat} (hi : i < m.keys.length) : posG m (nm m.keys i) = i := by
  have e : nm m.keys i = m.keys[i] := by simp [nm, hi]
  have hin : nm m.keys i ∈ m.keys := e ▸ List.getElem_mem hi
  have h1 : m.keys.idxOf (nm m.keys i) < m.keys.length := List.idxOf_lt_length_of_mem hin
  have h2 : m.keys[m.keys.idxOf (nm m.keys i)]? = some (nm m.keys i) := by rw [List.getElem?_eq_getElem h1, List.getElem_idxOf h1]
  exact nodup_at h.nodup h2 (by simp [nm, hi])
theorem ordI_inc {m : Gm} (h : GWf m) : ∀ j, j ≤ m.keys.length → ordI (ltG m.keys (incR m.length)) (prG m m.keys) m.keys.length j = List.range j
  | 0, _ => rfl
  | j + 1, hj => by
    have hk : m.keys.length = m.length := by simp [Gm.keys]
    have ih := ordI_inc h j (by omega)
    rw [List.range_succ, ← ih]
    refine ordI_next (prG_acyc h h.nodup) (ltG_so h.nodup) (x := j) (by omega) ⟨by rw [ih]; simp, fun k hkl => ?_⟩ fun y hy hok => ?_
    · rw [ih]
      rcases Nat.lt_trichotomy k j with hlt | rfl | hgt
      · exact .inr (.inl (List.mem_range.2 hlt))
      · exact .inl rfl
      · refine .inr (.inr (decide_eq_false fun hp => ?_))
        rcases reach_pos h ((past_mem h).1 hp) with e | e
        · have := nm_inj h.nodup hkl (by omega) e; omega
        · rw [pos_nm h hkl, pos_nm h (by omega)] at e; omega
    · have hyj : j ≤ y := by
        have := hok.1
        rw [ih] at this
        simpa using this
      show rlt _ _ _ _ = false
      rw [incR_at (by omega), incR_at (by omega)]
      rcases Nat.eq_or_lt_of_le hyj with e | e
      · subst e
        exact rlt_irrefl _ _
      · unfold rlt
        rw [if_pos (by simp only; omega)]
        exact decide_eq_false (by simp only; omega)
theorem ordG_inc {m : Gm} (h : GWf m) : ordG m m.keys (incR m.length) = (m.keys, 0) := by
  rw [ordG_all h (incR_len _), ordI_inc h _ (Nat.le_refl _)]
  congr 1
  apply List.ext_getElem?
  intro i
  rw [List.getElem?_map]
  rcases Nat.lt_or_ge i m.keys.length with hi | hi
  · simp [hi, nm]
  · simp [hi]
/-- two own slices that grow side by side -/
structure Two (T8 T9 b : Nat) (w : World) (v8 v9 : Value) (l8 : List Str) (l9 : List Rk) : Prop where
  o8 : OwnS w T8 v8 l8
  o9 : Own w T9 3 v9 l9.length ((l9.map Rk.cells).flatten)
  g8 : ∀ x ∈ ob v8, b ≤ x
  g9 : ∀ x ∈ ob v9, b ≤ x
  dj : ∀ x ∈ ob v8, x ∉ ob v9
section
variable {T8 T9 b : Nat} {w w' : World} {v8 v9 : Value} {l8 : List Str} {l9 : List Rk}
theorem Two.mod0 (h : Two T8 T9 b w v8 v9 l8 l9) (k : Mod [] w w') : Two T8 T9 b w' v8 v9 l8 l9 := ⟨Own.mod0 h.o8 k, h.o9.mod0 k, h.g8, h.g9, h.dj⟩
theorem Two.nil : Two T8 T9 b w (.slice none 0 0) (.slice none 0 0) [] [] := ⟨OwnS.nil _ _, Own.nil _ _ _, by simp [ob], by simp [ob], by simp [ob]⟩
theorem Two.app8 {v' : Value} {s : Str} {vs : List Value} (h : Two T8 T9 b w v8 v9 l8 l9) (A : App w w' T8 1 v8 v' (l8.length + 1) vs) (hv : vs = ((l8 ++ [s]).map fun s => [S s]).flatten) (hb : b ≤ w.heap.size) : Two T8 T9 b w' v' v9 (l8 ++ [s]) l9 :=
  ⟨OwnS.to A.own (by simp) hv, Own.mod h.o9 A.mod (fun x hx hx' => h.dj x hx' hx), fun x hx => (A.ob_ x hx).elim (h.g8 x) (fun h => Nat.le_trans hb h), h.g9,
    fun x hx hx' => (A.ob_ x hx).elim (fun h1 => h.dj x h1 hx') (fun h1 => by have := Own.lt h.o9 x hx'; omega)⟩
theorem Two.app9 {v' : Value} {r : Rk} {vs : List Value} (h : Two T8 T9 b w v8 v9 l8 l9) (A : App w w' T9 3 v9 v' (l9.length + 1) vs) (hv : vs = ((l9 ++ [r]).map Rk.cells).flatten) (hb : b ≤ w.heap.size) : Two T8 T9 b w' v8 v' l8 (l9 ++ [r]) :=
  ⟨Own.mod h.o8 A.mod (fun x hx hx' => h.dj x hx hx'), by have := A.own; rw [hv] at this; simpa using this, h.g8, fun x hx => (A.ob_ x hx).elim (h.g9 x) (fun h => Nat.le_trans hb h),
    fun x hx hx' => (A.ob_ x hx').elim (fun h1 => h.dj x hx h1) (fun h1 => by have := Own.lt h.o8 x hx; omega)⟩
end
end Go.Proofs.Ythmohmpalbnjoaa.V
