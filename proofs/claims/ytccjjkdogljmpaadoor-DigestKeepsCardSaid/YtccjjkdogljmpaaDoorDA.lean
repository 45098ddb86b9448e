/-
  A part of the proof: walks of functions, and the plain laws of what they compute. No condition of its own.
-/
import Derived.Test.YtccjjkdogljmpaaDoorD9
set_option linter.unusedVariables false
set_option linter.unusedSimpArgs false
set_option maxRecDepth 10000
namespace Go.Proofs.YtccjjkdogljmpaaDoor.V
open Go Go.Proofs
theorem ent8 : Ent Tryd.prog 8 := Ent.of Tryd.func8 (by kernel_rfl) (by kernel_rfl)
theorem ent10 : Ent Tryd.prog 10 := Ent.of Tryd.func10 (by kernel_rfl) (by kernel_rfl)
theorem c_DigestIs (A : List Nat) (w : World) (b : List UInt8) (v : Value) (R : Rep A w (byD b) v) (hT : Cs w ⟨0, 0, none⟩ (numsK.map W4)) (hw0 : 0 < w.heap.size) : Calls Tryd.prog 3 [v].toArray w (Ret fun u w' => u = .bool true ∧ Mod [] w w') := by
  refine enter Tryd.func3 rfl rfl rfl (l := [(0, _)]) ⟨rfl, trivial⟩ ?_
  have E := Mod.refl [] w
  obtain ⟨ad, c, rfl, hc1, hc2⟩ := flat_len R
  refine c_seq fun K1 hK1 => ?_
  refine c_region ?_
  refine sv (o_as rfl) rfl ?_
  refine l_nil ?_
  refine e_K (hK1 _ _ _ _ ?_)
  refine c_seq fun K2 hK2 => ?_
  refine c_seq fun K3 hK3 => ?_
  refine c_region ?_
  refine sc (o_call ent8 rfl) (c_alive _ (hT.mod0 E) (Nat.lt_of_lt_of_le hw0 E.size)) rfl fun v_ w1 h_ => ?_
  obtain ⟨rfl, E_⟩ := h_
  replace E := E.then E_
  refine sv (o_not rfl) rfl ?_
  refine l_nil ?_
  refine e_K (hK3 _ _ _ _ ?_)
  refine c_false rfl ?_
  refine c_skip ?_
  refine e_K (hK2 _ _ _ _ ?_)
  refine c_seq fun K4 hK4 => ?_
  refine c_seq fun K5 hK5 => ?_
  refine c_region ?_
  refine sv (o_mv rfl) rfl ?_
  refine sv (o_len Tryd.underlying22 rfl) rfl ?_
  refine sv (o_gtr rfl rfl) rfl ?_
  refine l_nil ?_
  refine e_K (hK5 _ _ _ _ ?_)
  refine c_if rfl (fun h8 => ?_) (fun h8 => ?_)
  · skip
    refine c_seq fun K6 hK6 => ?_
    refine c_region ?_
    refine sv (o_as rfl) rfl ?_
    refine l_nil ?_
    refine e_K (hK6 _ _ _ _ ?_)
    refine c_ret ?_
    refine e_then (by simp) ?_
    exact ret1 rfl rfl ⟨rfl, E⟩
  · skip
    have hb : b.length ≤ 1000000 := by omega
    refine c_skip ?_
    refine e_K (hK4 _ _ _ _ ?_)
    refine c_seq fun K7 hK7 => ?_
    refine c_region ?_
    refine sv (o_mv rfl) rfl ?_
    refine sc (o_call ent9 rfl) (c_of A _ b _ (R.to0 E) (hT.mod0 E) (Nat.lt_of_lt_of_le hw0 E.size) hb) rfl fun v_ w2 h_ => ?_
    obtain ⟨rfl, E_⟩ := h_
    replace E := E.then E_
    refine s_alloc zv24 rfl fun g1 w3 N1 => ?_
    have Lg1_E := N1.le E
    replace E := E.then N1.mod
    have Bg1 := N1.blk
    have hsl : (sha b).length = 32 := outB_len _ _
    refine s_sta (vs := (sha b).map B8) ag24 Bg1 rfl rfl (by rw [List.length_map, hsl]) (by intro v hv; obtain ⟨x, _, rfl⟩ := List.mem_map.1 hv; rfl) (by simp [hsl]) fun wS P1 => ?_
    replace E := E.own P1.mod Lg1_E
    replace Bg1 := P1.blk
    rw [splice, List.take_zero, List.nil_append, List.drop_eq_nil_of_le (by simp [hsl]), List.append_nil] at Bg1
    refine l_nil ?_
    refine e_K (hK7 _ _ _ _ ?_)
    refine c_seq fun K8 hK8 => ?_
    refine c_draw wide (by kernel_rfl) ?_
    refine tv (fun w_ E_ => (o_slar ar24 rfl)) rfl rfl ?_
    refine tv (fun w_ E_ => (o_b2s_own (u := sha b) Tryd.underlying22 Tryd.underlying5 Tryd.underlying9 rfl (((Own.all (c := 32) (sz := 1) Bg1 (by rw [List.length_map, hsl]) (by omega)).mod0 E_).as hsl.symm rfl))) rfl rfl ?_
    refine tv (fun w_ E_ => (o_mv rfl)) rfl rfl ?_
    refine tc (fun w_ E_ => o_call ent10 rfl) (fun w_ E_ => c_ofR A _ b _ (R.to0 (E.then E_)) hb) rfl rfl ?_
    refine tv (fun w_ E_ => ((o_seq rfl rfl).to (by rw [decide_eq_true rfl]))) rfl rfl ?_
    refine tv (fun w_ E_ => (o_as rfl)) rfl rfl ?_
    refine tw_nil rfl fun w4 E_ => ?_
    replace Bg1 := Bg1.mod0 E_
    replace E := E.then E_
    refine e_K (hK8 _ _ _ _ ?_)
    refine c_ret ?_
    exact ret1 rfl rfl ⟨rfl, E⟩

end Go.Proofs.YtccjjkdogljmpaaDoor.V
