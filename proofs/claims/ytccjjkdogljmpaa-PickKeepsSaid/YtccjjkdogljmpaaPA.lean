/-
  A part of the proof: walks of functions, and the plain laws of what they compute. No condition of its own.
-/
import Derived.Test.YtccjjkdogljmpaaP9
import Derived.Test.YtccjjkdogljmpaaTD
set_option linter.unusedVariables false
set_option linter.unusedSimpArgs false
set_option maxRecDepth 10000
namespace Go.Proofs.Ytccjjkdogljmpaa.V
open Go Go.Proofs
theorem fd69_2 : fdB Try.prog 69 2 2 1 = true := by kernel_rfl
theorem fd69_1 : fdB Try.prog 69 1 1 1 = true := by kernel_rfl
theorem ent50 : Ent Try.prog 50 := Ent.of Try.func50 (by kernel_rfl) (by kernel_rfl)
theorem ent51 : Ent Try.prog 51 := Ent.of Try.func51 (by kernel_rfl) (by kernel_rfl)
theorem pl69 : plB Try.prog 69 [(0, 1), (1, 1), (2, 1), (3, 1), (4, 1), (5, 6), (11, 1), (12, 1), (13, 1), (14, 1), (15, 1), (16, 1)] = true := by kernel_rfl
theorem zv69 : zvB Try.prog 69 ([S [], S [], S [], .bool false, S [], .int .i64 0, .bool false, .int .i64 0, S [], .slice none 0 0, .slice none 0 0, .slice none 0 0, .slice none 0 0, .int .i64 0, .int .i64 0, S [], .slice none 0 0]) := by unfold zvB; kernel_rfl
theorem ent38 : Ent Try.prog 38 := Ent.of Try.func38 (by kernel_rfl) (by kernel_rfl)
theorem c_needed0 (w : World) (snd ty : Str) (z0 z3 z4 z5 z6 z7 z8 z9 z10 z11 z12 z13 z14 z15 z16 : Value) (h1 : ty ≠ crS) (h2 : ty ≠ mbS) (hap : apartP (isortP (ndP snd) 3)) : Calls Try.prog 38 [.agg [z0, S snd, S ty, z3, z4, z5, z6, z7, z8, z9, z10, z11, z12, z13, z14, z15, z16].toArray].toArray w (Ret fun u w' => Own w' 28 2 u 3 (((isortP (ndP snd) 3).map Pair.cells).flatten) ∧ (∀ x ∈ ob u, w.heap.size ≤ x) ∧ Mod [] w w') := by
  refine enter Try.func38 rfl rfl rfl (l := [(0, _)]) ⟨rfl, trivial⟩ ?_
  have E := Mod.refl [] w
  refine c_seq fun K1 hK1 => ?_
  refine c_region ?_
  refine s_box rfl rfl rfl fun g1 w1 N1 => ?_
  have Lg1_E := N1.le E
  replace E := E.then N1.mod
  have Bg1 := N1.blk
  refine sv (o_as rfl) rfl ?_
  refine l_nil ?_
  refine e_K (hK1 _ _ _ _ ?_)
  refine c_seq fun K2 hK2 => ?_
  refine c_seq fun K3 hK3 => ?_
  refine c_region ?_
  refine sv (o_fa0 fd69_2 rfl) rfl ?_
  refine sv (o_ld sc9 rfl (Bg1.cell rfl)) rfl ?_
  refine sv (o_seq rfl rfl) rfl ?_
  refine l_nil ?_
  refine e_K (hK3 _ _ _ _ ?_)
  refine c_if rfl (fun h9 => ?_) (fun h9 => ?_)
  · skip
    exact absurd h9 h1
  · skip
    refine c_skip ?_
    refine e_K (hK2 _ _ _ _ ?_)
    refine c_seq fun K4 hK4 => ?_
    refine c_region ?_
    refine sv (o_build (cs := [_, _]) pl28 zv28 rfl rfl) rfl ?_
    refine sv (o_build (cs := [_, _]) pl28 zv28 rfl rfl) rfl ?_
    refine sv (o_fa0 fd69_1 rfl) rfl ?_
    refine sv (o_ld sc9 rfl (Bg1.cell rfl)) rfl ?_
    refine sv (o_build (cs := [_, _]) pl28 zv28 rfl rfl) rfl ?_
    refine s_bslice (cs := [_, _, _, _, _, _]) sl65 zv28 rfl rfl rfl (by decide) rfl fun g2 w2 N2 => ?_
    have Lg2_E := N2.le E
    have Dg1_g2 := N2.ne Bg1
    replace Bg1 := Bg1.mod0 N2.mod
    replace E := E.then N2.mod
    have Bg2 := N2.blk
    refine sv (o_as rfl) rfl ?_
    refine l_nil ?_
    refine e_K (hK4 _ _ _ _ ?_)
    refine c_seq fun K5 hK5 => ?_
    refine c_seq fun K6 hK6 => ?_
    refine c_region ?_
    refine sv (o_fa0 fd69_2 rfl) rfl ?_
    refine sv (o_ld sc9 rfl (Bg1.cell rfl)) rfl ?_
    refine sv (o_seq rfl rfl) rfl ?_
    refine l_nil ?_
    refine e_K (hK6 _ _ _ _ ?_)
    refine c_if rfl (fun h18 => ?_) (fun h18 => ?_)
    · skip
      exact absurd h18 h2
    · skip
      refine c_skip ?_
      refine e_K (hK5 _ _ _ _ ?_)
      refine c_seq fun K7 hK7 => ?_
      refine c_region ?_
      refine sv (o_mv rfl) rfl ?_
      have Os0 : Own _ 28 2 (.slice (some ⟨g2, 0, none⟩) 3 3) 3 (((ndP snd).map Pair.cells).flatten) := Own.all (cs := [_, _, _, _, _, _]) Bg2 rfl (by omega)
      refine sc (o_call ent50 rfl) (c_sort _ (ndP snd) _ Os0 (by simp [ndP])) rfl fun v_ w3 h_ => ?_
      obtain ⟨Os, Es⟩ := h_
      replace E := E.own Es Lg2_E
      have RO := Own.pairsN [] Os (isortP_len (Nat.le_refl _)) (by simp)
      refine l_nil ?_
      refine e_K (hK7 _ _ _ _ ?_)
      refine c_seq fun K8 hK8 => ?_
      refine c_region ?_
      refine sv (o_mv rfl) rfl ?_
      refine sc (o_call ent51 rfl) (c_compact0 _ (isortP (ndP snd) 3) _ RO hap) rfl fun v_ w4 h_ => ?_
      obtain ⟨rfl, E_⟩ := h_
      replace E := E.then E_
      replace Os := Os.mod0 E_
      refine sv (o_as rfl) rfl ?_
      refine l_nil ?_
      refine e_K (hK8 _ _ _ _ ?_)
      refine c_ret ?_
      exact ret1 rfl rfl ⟨Os, fun x hx => by simp [ob] at hx; subst hx; exact Lg2_E, E⟩

theorem c_alive (w : World) : Calls Try.prog 25 [].toArray w (Ret fun u w' => u = .bool true ∧ Mod [] w w') := by
  refine enter Try.func25 rfl rfl rfl (l := []) trivial ?_
  have E := Mod.refl [] w
  refine c_seq fun K1 hK1 => ?_
  refine c_region ?_
  refine sv (o_as rfl) rfl ?_
  refine l_nil ?_
  refine e_K (hK1 _ _ _ _ ?_)
  refine c_seq fun K2 hK2 => ?_
  refine c_region ?_
  refine sv (o_build (cs := [_, _, _, _, _, _, _, _, _, _, _, _, _, _, _, _, _]) pl69 zv69 rfl rfl) rfl ?_
  refine sc (o_call ent38 rfl) (c_needed0 _ [64, 97, 58, 120] msS _ _ _ _ _ _ _ _ _ _ _ _ _ _ _ (by decide) (by decide) nd_apart) rfl fun v_ w1 h_ => ?_
  obtain ⟨On, Ln, E_⟩ := h_
  replace E := E.then E_
  rw [nd_alive] at On
  obtain ⟨adn, cn, rfl, hn1, hn2⟩ := On.form
  have RO := Own.pairsN [] On rfl (by simp)
  obtain ⟨an, han, hcs1, _⟩ := flat_at (i := 1) RO rfl
  obtain ⟨an2, han2, hcs2, _⟩ := flat_at (i := 2) RO rfl
  subst han
  injection han2 with han2
  subst han2
  refine sv (o_as rfl) rfl ?_
  refine l_nil ?_
  refine e_K (hK2 _ _ _ _ ?_)
  refine c_seq fun K3 hK3 => ?_
  refine c_region ?_
  refine sv (o_mv rfl) rfl ?_
  refine sv (o_len Try.underlying65 rfl) rfl ?_
  refine sv (o_eql rfl rfl) rfl ?_
  refine sv (o_mv rfl) rfl ?_
  refine sg rfl (rfl) (o_mv rfl) rfl ?_
  refine sg rfl (rfl) (o_ix sl65 rfl rfl (by omega)) rfl ?_
  refine sg rfl (rfl) (o_lda ag28 rfl rfl hcs1) rfl ?_
  refine sg rfl (rfl) (o_build (cs := [_, _]) pl28 zv28 rfl rfl) rfl ?_
  refine sg rfl (rfl) (o_steq (se28 ..) rfl rfl rfl) rfl ?_
  refine sv (o_pickT (rfl) rfl rfl) rfl ?_
  refine sv (o_mv rfl) rfl ?_
  refine sg rfl (rfl) (o_mv rfl) rfl ?_
  refine sg rfl (rfl) (o_ix sl65 rfl rfl (by omega)) rfl ?_
  refine sg rfl (rfl) (o_lda ag28 rfl rfl hcs2) rfl ?_
  refine sg rfl (rfl) (o_build (cs := [_, _]) pl28 zv28 rfl rfl) rfl ?_
  refine sg rfl (rfl) (o_steq (se28 ..) rfl rfl rfl) rfl ?_
  refine sv (o_pickT (rfl) rfl rfl) rfl ?_
  refine sv (o_as rfl) rfl ?_
  refine l_nil ?_
  refine e_K (hK3 _ _ _ _ ?_)
  refine c_ret ?_
  exact ret1 rfl rfl ⟨rfl, E⟩

end Go.Proofs.Ytccjjkdogljmpaa.V
