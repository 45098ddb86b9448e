/-
  A part of the proof: walks of functions, and the plain laws of what they compute. No condition of its own.
-/
import Derived.Test.YtccjjkdogljmpaaDoorD8
import Derived.Test.YtccjjkdogljmpaaDoorTU
set_option linter.unusedVariables false
set_option linter.unusedSimpArgs false
set_option maxRecDepth 10000
namespace Go.Proofs.YtccjjkdogljmpaaDoor.V
open Go Go.Proofs
theorem ent9 : Ent Tryd.prog 9 := Ent.of Tryd.func9 (by kernel_rfl) (by kernel_rfl)
theorem c_alive (w : World) (hT : Cs w ⟨0, 0, none⟩ (numsK.map W4)) (hw0 : 0 < w.heap.size) : Calls Tryd.prog 8 [].toArray w (Ret fun u w' => u = .bool true ∧ Mod [] w w') := by
  refine enter Tryd.func8 rfl rfl rfl (l := []) trivial ?_
  have E := Mod.refl [] w
  refine c_seq fun K1 hK1 => ?_
  refine c_region ?_
  refine sv (o_as rfl) rfl ?_
  refine l_nil ?_
  refine e_K (hK1 _ _ _ _ ?_)
  refine c_seq fun K2 hK2 => ?_
  refine c_region ?_
  refine s_bslice (cs := [_, _, _]) sl22 zv5 rfl rfl rfl (by decide) rfl fun g1 w1 N1 => ?_
  have Lg1_E := N1.le E
  replace E := E.then N1.mod
  have Bg1 := N1.blk
  refine s_convB Tryd.underlying22 Tryd.underlying5 rfl Bg1 rfl fun wF EF hF hlF => ?_
  replace E := E.own EF Lg1_E
  have RA : Rep [] wF (byD [97, 98, 99]) (.slice (some ⟨g1, 0, none⟩) 3 3) := Rep.sl_mk rfl (by omega) (by simp [maxLen]) (by simp) hlF (fun i r hi => by
    rw [List.getElem?_map] at hi
    obtain ⟨x, hx, rfl⟩ := Option.map_eq_some_iff.1 hi
    refine ⟨rfl, bcells x, reps_v_mk (by simp [B8, Value.oneCell']), fun j v hv => ?_⟩
    have hj := (List.getElem?_eq_some_iff.1 hv).1
    simp at hj
    subst hj
    rw [Addr.add_lit, Addr.add_lit, hF]
    simp at hv
    subst hv
    match i, hx with
    | 0, hx => simp at hx; subst hx; rfl
    | 1, hx => simp at hx; subst hx; rfl
    | 2, hx => simp at hx; subst hx; rfl
    | i + 3, hx => simp at hx)
  refine sc (o_call ent9 rfl) (c_of [] _ [97, 98, 99] _ RA (hT.mod0 E) (Nat.lt_of_lt_of_le hw0 E.size) (by decide)) rfl fun v_ w2 h_ => ?_
  obtain ⟨rfl, E_⟩ := h_
  replace E := E.then E_
  refine s_alloc zv24 rfl fun g2 w3 N2 => ?_
  have Lg2_E := N2.le E
  replace E := E.then N2.mod
  have Bg2 := N2.blk
  have hsl : (sha [97, 98, 99]).length = 32 := outB_len _ _
  refine s_sta (vs := (sha [97, 98, 99]).map B8) ag24 Bg2 rfl rfl (by rw [List.length_map, hsl]) (by intro v hv; obtain ⟨x, _, rfl⟩ := List.mem_map.1 hv; rfl) (by simp [hsl]) fun wS P1 => ?_
  replace E := E.own P1.mod Lg2_E
  replace Bg2 := P1.blk
  rw [splice, List.take_zero, List.nil_append, List.drop_eq_nil_of_le (by simp [hsl]), List.append_nil] at Bg2
  refine l_nil ?_
  refine e_K (hK2 _ _ _ _ ?_)
  refine c_seq fun K3 hK3 => ?_
  refine c_region ?_
  refine sv (o_slart (hi := 8) ar24 rfl rfl (by omega) (by omega)) rfl ?_
  refine sv ((o_b2s_own (u := (sha [97, 98, 99]).take 8) Tryd.underlying22 Tryd.underlying5 Tryd.underlying9 rfl ((Own.all (c := 32) (sz := 1) Bg2 (by rw [List.length_map, hsl]) (by omega)).take (m := 8) (by omega) |>.as (by rw [List.length_take, hsl]; rfl) (by rw [List.map_take]))).to (v' := S [186, 120, 22, 191, 143, 1, 207, 234]) (by rw [sha_abc])) rfl ?_
  refine sv ((o_seq rfl rfl).to (by rw [decide_eq_true]; rfl)) rfl ?_
  refine sv (o_mv rfl) rfl ?_
  refine sv (o_pickT (rfl) rfl rfl) rfl ?_
  refine sv (o_mv rfl) rfl ?_
  refine sv (o_pickT (rfl) rfl rfl) rfl ?_
  refine sv (o_as rfl) rfl ?_
  refine l_nil ?_
  refine e_K (hK3 _ _ _ _ ?_)
  refine c_ret ?_
  exact ret1 rfl rfl ⟨rfl, E⟩

end Go.Proofs.YtccjjkdogljmpaaDoor.V
