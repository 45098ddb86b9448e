/-
  A part of the proof: walks of functions, and the plain laws of what they compute. No condition of its own.
-/
import Derived.Test.YtccjjkdogljmpaaDoorDA
import Derived.Test.YtccjjkdogljmpaaDoorTS
set_option linter.unusedVariables false
set_option linter.unusedSimpArgs false
set_option maxRecDepth 10000
namespace Go.Proofs.YtccjjkdogljmpaaDoor.V
open Go Go.Proofs

theorem c_DigestEnds (w : World) (m : Int) (c : UInt8) (hT : Cs w ⟨0, 0, none⟩ (numsK.map W4)) (hw0 : 0 < w.heap.size) : Calls Tryd.prog 4 [.int .i64 m, B8 c].toArray w (Ret fun u w' => u = .bool true ∧ Mod [] w w') := by
  refine enter Tryd.func4 rfl rfl rfl (l := [(0, _), (1, _)]) ⟨rfl, rfl, trivial⟩ ?_
  have E := Mod.refl [] w
  refine c_seq fun K1 hK1 => ?_
  refine c_region ?_
  refine sv (o_as rfl) rfl ?_
  refine l_nil ?_
  refine e_K (hK1 _ _ _ _ ?_)
  refine c_seq fun K2 hK2 => ?_
  refine c_seq fun K3 hK3 => ?_
  refine c_region ?_
  refine sc (o_call ent8 rfl) (c_alive _ (hT.mod0 E) (Nat.lt_of_lt_of_le hw0 E.size)) rfl fun v_ w1 h_ => ?_
  obtain ⟨rfl, E_⟩ := h_
  replace E := E.then E_
  refine sv (o_not rfl) rfl ?_
  refine l_nil ?_
  refine e_K (hK3 _ _ _ _ ?_)
  refine c_false rfl ?_
  refine c_skip ?_
  refine e_K (hK2 _ _ _ _ ?_)
  refine c_seq fun K4 hK4 => ?_
  refine c_seq fun K5 hK5 => ?_
  by_cases hs3_0 : m < 0
  · skip
    refine c_region ?_
    refine sv (o_mv rfl) rfl ?_
    refine sv (o_lss rfl rfl) rfl ?_
    refine sv (o_mv rfl) rfl ?_
    refine sn rfl (fun e_ => absurd ((decide_eq_true hs3_0).symm.trans e_) (by decide)) rfl ?_
    refine sn rfl (fun e_ => absurd ((decide_eq_true hs3_0).symm.trans e_) (by decide)) rfl ?_
    refine sv (o_pickT (decide_eq_true hs3_0) rfl rfl) rfl ?_
    refine l_nil ?_
    refine e_K (hK5 _ _ _ _ ?_)
    refine c_true rfl ?_
    refine c_seq fun K6 hK6 => ?_
    refine c_region ?_
    refine sv (o_as rfl) rfl ?_
    refine l_nil ?_
    refine e_K (hK6 _ _ _ _ ?_)
    refine c_ret ?_
    refine e_then (by simp) ?_
    exact ret1 rfl rfl ⟨rfl, E⟩
  · skip
    refine c_region ?_
    refine sv (o_mv rfl) rfl ?_
    refine sv (o_lss rfl rfl) rfl ?_
    refine sv (o_mv rfl) rfl ?_
    refine sg rfl (decide_eq_false hs3_0) (o_mv rfl) rfl ?_
    refine sg rfl (decide_eq_false hs3_0) (o_gtr rfl rfl) rfl ?_
    refine sv (o_pickF (decide_eq_false hs3_0) rfl rfl) rfl ?_
    refine l_nil ?_
    refine e_K (hK5 _ _ _ _ ?_)
    refine c_if rfl (fun h15 => ?_) (fun h15 => ?_)
    · skip
      refine c_seq fun K7 hK7 => ?_
      refine c_region ?_
      refine sv (o_as rfl) rfl ?_
      refine l_nil ?_
      refine e_K (hK7 _ _ _ _ ?_)
      refine c_ret ?_
      refine e_then (by simp) ?_
      exact ret1 rfl rfl ⟨rfl, E⟩
    · skip
      refine c_skip ?_
      refine e_K (hK4 _ _ _ _ ?_)
      refine c_seq fun K8 hK8 => ?_
      refine c_region ?_
      refine sv (o_mv rfl) rfl ?_
      obtain ⟨N, rfl⟩ : ∃ N : Nat, m = (N : Int) := ⟨m.toNat, by omega⟩
      refine s_make sl22 zv5 rfl rfl rfl (by omega) rfl fun gm w2 Nm => ?_
      have Lgm := Nm.le E
      replace E := E.then Nm.mod
      have Og : Own w2 5 1 (.slice (some ⟨gm, 0, none⟩) N N) N (((List.replicate 0 c ++ List.replicate (N - 0) 0).map bcells).flatten) := (Own.all (c := N) (sz := 1) Nm.blk (by simp) (by omega)).as rfl (by rw [flat_B8]; simp [B8])
      refine sv (o_as rfl) rfl ?_
      refine l_nil ?_
      refine e_K (hK8 _ _ _ _ ?_)
      refine c_seq fun K9 hK9 => ?_
      refine c_seq fun K10 hK10 => ?_
      refine c_region ?_
      refine sv (o_mv rfl) rfl ?_
      refine sv (o_len Tryd.underlying22 rfl) rfl ?_
      refine sv (o_mv rfl) rfl ?_
      refine l_nil ?_
      refine e_K (hK10 _ _ _ _ ?_)
      refine c_block ?_
      refine c_loop (σ := Nat) (fun k => [(1, B8 c), (5, .slice (some ⟨gm, 0, none⟩) N N), (19, .int .i64 (N : Int)), (20, .int .i64 (k : Int))]) (fun k w1 => k ≤ N ∧ Own w1 5 1 (.slice (some ⟨gm, 0, none⟩) N N) N (((List.replicate k c ++ List.replicate (N - k) 0).map bcells).flatten) ∧ Mod [] w w1) (fun k => N - k) (0) ⟨rfl, rfl, rfl, rfl, trivial⟩ (⟨by omega, Og, E⟩) ?_
      rintro k w3 ⟨hk, Og, E⟩
      refine c_seq fun K11 hK11 => ?_
      refine c_region ?_
      refine sv (o_lss rfl rfl) rfl ?_
      refine l_nil ?_
      refine e_K (hK11 _ _ _ _ ?_)
      refine c_seq fun K12 hK12 => ?_
      refine c_if rfl (fun h21 => ?_) (fun h21 => ?_)
      · skip
        refine c_skip ?_
        refine e_K (hK12 _ _ _ _ ?_)
        refine c_seq fun K13 hK13 => ?_
        refine c_block ?_
        refine c_seq fun K14 hK14 => ?_
        refine c_region ?_
        refine sv (o_mv rfl) rfl ?_
        refine sv (o_as rfl) rfl ?_
        refine l_nil ?_
        refine e_K (hK14 _ _ _ _ ?_)
        refine c_region ?_
        refine sv (o_mv rfl) rfl ?_
        refine sv (o_mv rfl) rfl ?_
        refine sv (o_mv rfl) rfl ?_
        refine sv (o_ix sl22 rfl rfl (by omega)) rfl ?_
        refine s_stown1 (i := k) sc5 Og rfl rfl rfl (by omega) fun wS Og2 ES hzS => ?_
        replace E := E.own ES Lgm
        rw [fill_set (by omega)] at Og2
        refine l_nil ?_
        refine e_in (by simp) ?_
        refine e_K (hK13 _ _ _ _ ?_)
        refine c_region ?_
        refine sv (o_addN rfl rfl (by omega)) rfl ?_
        refine sv (o_mv rfl) rfl ?_
        refine l_nil ?_
        exact e_round (σ := Nat) (s := k) (k + 1) ⟨rfl, rfl, rfl, rfl, trivial⟩ ⟨by omega, Og2, E⟩ (by omega)
      · skip
        have hkN : N = k := by omega
        subst hkN
        rw [Nat.sub_self, List.replicate_zero, List.append_nil] at Og
        refine c_exit ?_
        refine e_then (by simp) ?_
        refine e_then (by simp) ?_
        refine e_hit ?_
        refine e_K (hK9 _ _ _ _ ?_)
        refine c_seq fun K15 hK15 => ?_
        refine c_region ?_
        refine sv (o_mv rfl) rfl ?_
        have RB : Rep [] _ (byD (List.replicate N c)) _ := Own.byts [] Og (by simp) (by simp)
        have hb : (List.replicate N c).length ≤ 1000000 := by simp; omega
        refine sc (o_call ent9 rfl) (c_of [] _ (List.replicate N c) _ RB (hT.mod0 E) (Nat.lt_of_lt_of_le hw0 E.size) hb) rfl fun v_ w4 h_ => ?_
        obtain ⟨rfl, E_⟩ := h_
        replace E := E.then E_
        replace Og := Og.mod0 E_
        refine s_alloc zv24 rfl fun g1 w5 N1 => ?_
        have Lg1_E := N1.le E
        have Dog_g1 := N1.own_ne Og
        replace E := E.then N1.mod
        replace Og := Og.mod0 N1.mod
        have Bg1 := N1.blk
        have hsl : (sha (List.replicate N c)).length = 32 := outB_len _ _
        refine s_sta (vs := (sha (List.replicate N c)).map B8) ag24 Bg1 rfl rfl (by rw [List.length_map, hsl]) (by intro v hv; obtain ⟨x, _, rfl⟩ := List.mem_map.1 hv; rfl) (by simp [hsl]) fun wS P1 => ?_
        replace E := E.own P1.mod Lg1_E
        replace Bg1 := P1.blk
        rw [splice, List.take_zero, List.nil_append, List.drop_eq_nil_of_le (by simp [hsl]), List.append_nil] at Bg1
        replace Og := Og.put P1.mod Dog_g1
        refine l_nil ?_
        refine e_K (hK15 _ _ _ _ ?_)
        refine c_seq fun K16 hK16 => ?_
        have RB2 : Rep [] _ (byD (List.replicate N c)) _ := Own.byts [] Og (by simp) (by simp)
        refine c_draw wide (by kernel_rfl) ?_
        refine tv (fun w_ E_ => (o_slar ar24 rfl)) rfl rfl ?_
        refine tv (fun w_ E_ => (o_b2s_own (u := sha (List.replicate N c)) Tryd.underlying22 Tryd.underlying5 Tryd.underlying9 rfl (((Own.all (c := 32) (sz := 1) Bg1 (by rw [List.length_map, hsl]) (by omega)).mod0 E_).as hsl.symm rfl))) rfl rfl ?_
        refine tv (fun w_ E_ => (o_mv rfl)) rfl rfl ?_
        refine tc (fun w_ E_ => o_call ent10 rfl) (fun w_ E_ => c_ofR [] _ (List.replicate N c) _ (RB2.to0 E_) hb) rfl rfl ?_
        refine tv (fun w_ E_ => ((o_seq rfl rfl).to (by rw [decide_eq_true rfl]))) rfl rfl ?_
        refine tv (fun w_ E_ => (o_as rfl)) rfl rfl ?_
        refine tw_nil rfl fun w6 E_ => ?_
        replace Bg1 := Bg1.mod0 E_
        replace E := E.then E_
        replace Og := Og.mod0 E_
        refine e_K (hK16 _ _ _ _ ?_)
        refine c_ret ?_
        exact ret1 rfl rfl ⟨rfl, E⟩

end Go.Proofs.YtccjjkdogljmpaaDoor.V
