/-
  A part of the proof: walks of functions, and the plain laws of what they compute. No condition of its own.
-/
import Derived.Test.YtccjjkdogljmpaaDoorD5
import Derived.Test.YtccjjkdogljmpaaDoorTW
set_option linter.unusedVariables false
set_option linter.unusedSimpArgs false
set_option maxRecDepth 10000
namespace Go.Proofs.YtccjjkdogljmpaaDoor.V
open Go Go.Proofs
theorem ent11 : Ent Tryd.prog 11 := Ent.of Tryd.func11 (by kernel_rfl) (by kernel_rfl)
theorem ent12 : Ent Tryd.prog 12 := Ent.of Tryd.func12 (by kernel_rfl) (by kernel_rfl)
theorem ent13 : Ent Tryd.prog 13 := Ent.of Tryd.func13 (by kernel_rfl) (by kernel_rfl)
theorem c_of (A : List Nat) (w : World) (b : List UInt8) (v : Value) (R : Rep A w (byD b) v) (hT : Cs w ⟨0, 0, none⟩ (numsK.map W4)) (hw0 : 0 < w.heap.size) (hb : b.length ≤ 1000000) : Calls Tryd.prog 9 [v].toArray w (Ret fun u w' => u = .agg ((sha b).map B8).toArray ∧ Mod [] w w') := by
  refine enter Tryd.func9 rfl rfl rfl (l := [(0, _)]) ⟨rfl, trivial⟩ ?_
  have E := Mod.refl [] w
  refine c_seq fun K1 hK1 => ?_
  refine c_region ?_
  refine s_alloc zv24 rfl fun g1 w1 N1 => ?_
  have Lg1_E := N1.le E
  replace E := E.then N1.mod
  have Bg1 := N1.blk
  refine l_nil ?_
  refine e_K (hK1 _ _ _ _ ?_)
  refine c_seq fun K2 hK2 => ?_
  have Bg1_lt := Bg1.lt
  refine c_region ?_
  have hszA := E.size
  refine sc (o_call ent11 rfl) (c_new _) rfl fun v_ w2 h_ => ?_
  obtain ⟨gh, rfl, Bgh, Lgh, E_⟩ := h_
  replace Bg1 := Bg1.mod0 E_
  replace E := E.then E_
  have hghw : w.heap.size ≤ gh := by omega
  have hgh0 : gh ≠ 0 := by omega
  have Dg : g1 ≠ gh := fun e => by have := Bg1_lt; omega
  refine sv (o_as rfl) rfl ?_
  refine l_nil ?_
  refine e_K (hK2 _ _ _ _ ?_)
  refine c_seq fun K3 hK3 => ?_
  refine c_region ?_
  refine sv (o_mv rfl) rfl ?_
  refine sv (o_mv rfl) rfl ?_
  refine sc (o_call ent12 rfl) (c_write [gh] _ s8of [] b 0 gh _ _ Bgh (Own.nil _ 5 1) (by simp [ob]) (by simp [ob]) (hT.mod0 E) hgh0 ((R.more (A' := [gh]) (fun x hx => .inr (by simp at hx; subst hx; exact hghw))).to0 E) (by simp [ob]) (by simp; omega) (by omega) Bgh.lt) rfl fun v_ w3 h_ => ?_
  obtain ⟨k, wv, hk1, hk2, Bgh2, Ow, Dw, Hw, Ew⟩ := h_
  rw [List.nil_append] at hk1 hk2 Bgh2 Ow
  have hk : k = b.length / 64 := by omega
  replace Bg1 := Bg1.mod Ew (by simp [ob]; exact Dg)
  replace E := E.trans' Ew (fun x hx => .inr (by simp [ob] at hx; subst hx; exact hghw))
  refine l_nil ?_
  refine e_K (hK3 _ _ _ _ ?_)
  refine c_seq fun K4 hK4 => ?_
  refine c_region ?_
  refine sv (o_mv rfl) rfl ?_
  refine sc (o_call ent13 rfl) (c_sum _ (abs64 s8of b k) (b.drop (64 * k)) b.length gh wv (by have := Bgh2; rw [Int.zero_add] at this; exact this) (Ow.as (by rw [List.length_drop]) rfl) (hT.mod0 E) (Nat.lt_of_lt_of_le hw0 E.size) (by rw [List.length_drop]; omega) hb) rfl fun v_ w4 h_ => ?_
  obtain ⟨rfl, E_⟩ := h_
  replace Bg1 := Bg1.mod0 E_
  replace E := E.then E_
  rw [hk, show outB (fin64 (abs64 s8of b (b.length / 64)) (b.drop (64 * (b.length / 64))) b.length) 32 = sha b from rfl]
  have hsl : (sha b).length = 32 := outB_len _ _
  refine s_sta (vs := (sha b).map B8) ag24 Bg1 rfl rfl (by rw [List.length_map, hsl]) (by intro v hv; obtain ⟨x, _, rfl⟩ := List.mem_map.1 hv; rfl) (by simp [hsl]) fun wS P1 => ?_
  replace E := E.own P1.mod Lg1_E
  replace Bg1 := P1.blk
  rw [splice, List.take_zero, List.nil_append, List.drop_eq_nil_of_le (by simp [hsl]), List.append_nil] at Bg1
  refine l_nil ?_
  refine e_K (hK4 _ _ _ _ ?_)
  refine c_ret ?_
  exact retc (vs := (sha b).map B8) rfl ag24 rfl (by rw [List.length_map, hsl]) (Bg1.cs (o := 0) (by rw [List.drop_zero, List.take_length])) ⟨rfl, E⟩

end Go.Proofs.YtccjjkdogljmpaaDoor.V
