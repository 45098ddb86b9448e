/-
  A part of the proof: walks of functions, and the plain laws of what they compute. No condition of its own.
-/
import Derived.Test.YtccjjkdogljmpaaDoorDA
import Derived.Test.YtccjjkdogljmpaaDoorTS
set_option linter.unusedVariables false
set_option linter.unusedSimpArgs false
set_option maxRecDepth 10000
namespace Go.Proofs.YtccjjkdogljmpaaDoor.V
open Go Go.Proofs

theorem c_writenil (w : World) (v : Value) : Calls Tryd.prog 12 [.pointer none, v].toArray w (Ret fun _ w' => Mod [] w w') := by
  refine enter Tryd.func12 rfl rfl rfl (l := [(0, _), (1, _)]) ⟨rfl, rfl, trivial⟩ ?_
  have E := Mod.refl [] w
  refine c_seq fun K1 hK1 => ?_
  refine c_seq fun K2 hK2 => ?_
  refine c_region ?_
  refine sv (o_mv rfl) rfl ?_
  refine sv (o_peq Tryd.underlying30 rfl rfl) rfl ?_
  refine l_nil ?_
  refine e_K (hK2 _ _ _ _ ?_)
  refine c_true rfl ?_
  refine c_ret ?_
  refine e_then (by simp) ?_
  exact ret0 rfl E

theorem c_sumnil (w : World) : Calls Tryd.prog 13 [.pointer none].toArray w (Ret fun u w' => u = .agg ((List.replicate 32 (0 : UInt8)).map B8).toArray ∧ Mod [] w w') := by
  refine enter Tryd.func13 rfl rfl rfl (l := [(0, _)]) ⟨rfl, trivial⟩ ?_
  have E := Mod.refl [] w
  refine c_seq fun K1 hK1 => ?_
  refine c_region ?_
  refine s_alloc zv24 rfl fun g1 w1 N1 => ?_
  have Lg1_E := N1.le E
  replace E := E.then N1.mod
  have Bg1 := N1.blk
  refine l_nil ?_
  refine e_K (hK1 _ _ _ _ ?_)
  refine c_seq fun K2 hK2 => ?_
  refine c_region ?_
  refine s_alloc zv24 rfl fun g2 w2 N2 => ?_
  have Lg2_E := N2.le E
  have Dg1_g2 := N2.ne Bg1
  replace Bg1 := Bg1.mod0 N2.mod
  replace E := E.then N2.mod
  have Bg2 := N2.blk
  refine l_nil ?_
  refine e_K (hK2 _ _ _ _ ?_)
  refine c_seq fun K3 hK3 => ?_
  refine c_seq fun K4 hK4 => ?_
  refine c_region ?_
  refine sv (o_mv rfl) rfl ?_
  refine sv (o_peq Tryd.underlying30 rfl rfl) rfl ?_
  refine l_nil ?_
  refine e_K (hK4 _ _ _ _ ?_)
  refine c_true rfl ?_
  refine c_seq fun K5 hK5 => ?_
  refine c_region ?_
  refine sv (o_lda (vs := List.replicate 32 (.int .u8 0)) ag24 rfl rfl (Bg2.cs (o := 0) rfl)) rfl ?_
  refine s_sta (vs := List.replicate 32 (.int .u8 0)) ag24 Bg1 rfl rfl rfl (by intro v hv; rw [List.eq_of_mem_replicate hv]; rfl) (by simp) fun wS P1 => ?_
  replace E := E.own P1.mod Lg1_E
  have Bg1 := P1.blk
  refine l_nil ?_
  refine e_K (hK5 _ _ _ _ ?_)
  refine c_ret ?_
  refine e_then (by simp) ?_
  exact retc (vs := List.replicate 32 (.int .u8 0)) rfl ag24 rfl rfl (Bg1.cs (o := 0) rfl) ⟨rfl, E⟩

end Go.Proofs.YtccjjkdogljmpaaDoor.V
