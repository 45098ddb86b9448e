/-
  A part of the proof: a text between quotes, rune by rune: what each round adds; a writer in memory: what its functions leave, whether they return or panic. No condition of its own.
-/
import Derived.Test.YtkhbnhdlelmbnaaGreatDoorM9
import Derived.Test.YtkhbnhdlelmbnaaGreatDoorM7
import Derived.Recover
set_option linter.unusedVariables false
set_option linter.unusedSimpArgs false
namespace Go.Proofs.YtkhbnhdlelmbnaaGreatDoor.V
open Go
section
variable {P : Program} {l : List (Nat × Value)} {w w' : World} {ty : TypeId} {pos : String} {af : Array Edge} {dd : Option Nat} {gg : Option (Nat × Bool)} {x y : Operand} {t t' : TypeId}
theorem o_a15 {m : Nat} (hx : evO l x = some (.int .i32 (m : Int))) (hy : evO l y = some (.int .i32 15)) (h : m < 32) : Runs P l ⟨dd, .binOp .and t x y t', ty, pos, af, gg⟩ w (.int .i32 ((m % 16 : Nat) : Int)) w :=
  (o_and hx hy).to (by rw [and15 h])
end
section
variable {s : Str} {p : Nat}
theorem valid_go (h : p < s.length) (h0 : (runeR (s.drop p)).2 ≠ 0) (hv : validR (s.drop p) = true) : validR (s.drop (p + (runeR (s.drop p)).2)) = true := by
  rw [← List.drop_drop, ← validR_go (dec_at h) h0]
  exact hv
theorem put_t1 (h : p < s.length) (h0 : (runeR (s.drop p)).2 ≠ 0) (hq : (shq (runeR (s.drop p)).1 : Int) ≠ 0) : ∃ t, escs (s.take (p + (runeR (s.drop p)).2)) = escs (s.take p) ++ t ∧ t.map B8 = [.int .u8 92, .int .u8 (shq (runeR (s.drop p)).1 : Int)] ∧ t.length = 2 := by
  have hc : (runeR (s.drop p)).1 < 128 := by
    rcases Nat.lt_or_ge (runeR (s.drop p)).1 128 with h1 | h1
    · exact h1
    · rw [shq_big h1] at hq
      exact absurd rfl hq
  obtain ⟨b, hb, hbc⟩ := rune_byte (dec_at h) h0 hc
  have hm := shq_esc (c := b) (by rw [hbc]; omega)
  rw [hbc] at hm
  refine ⟨escQ b, by rw [escs_add, hb]; simp [escs], hm, ?_⟩
  have := congrArg List.length hm
  simpa using this
theorem put_t2 (h : p < s.length) (h0 : (runeR (s.drop p)).2 ≠ 0) (hq : ¬ (shq (runeR (s.drop p)).1 : Int) ≠ 0) (hc : ((runeR (s.drop p)).1 : Int) < 32) : escs (s.take (p + (runeR (s.drop p)).2)) = escs (s.take p) ++ [92, 117, 48, 48, hexD.getD ((runeR (s.drop p)).1 / 16) 0, hexD.getD ((runeR (s.drop p)).1 % 16) 0] := by
  obtain ⟨b, hb, hbc⟩ := rune_byte (dec_at h) h0 (by omega)
  have hm := shq_none (c := b) (by rw [hbc]; omega)
  rw [if_pos (by omega), hbc] at hm
  rw [escs_add, hb]
  simp only [escs, List.map_cons, List.map_nil, List.flatten_cons, List.flatten_nil, hm]
  rfl
theorem put_t3 (h : p < s.length) (h0 : (runeR (s.drop p)).2 ≠ 0) (hq : ¬ (shq (runeR (s.drop p)).1 : Int) ≠ 0) (hc : ¬ ((runeR (s.drop p)).1 : Int) < 32) : escs (s.take (p + (runeR (s.drop p)).2)) = escs (s.take p) ++ encB (runeR (s.drop p)).1 := by
  rw [escs_add, encB_take (dec_at h) h0]
  congr 1
  rcases Nat.lt_or_ge (runeR (s.drop p)).1 128 with h1 | h1
  · obtain ⟨b, hb, hbc⟩ := rune_byte (dec_at h) h0 h1
    have hm := shq_none (c := b) (by rw [hbc]; omega)
    rw [if_neg (by omega)] at hm
    rw [hb]
    simp only [escs, List.map_cons, List.map_nil, List.flatten_cons, List.flatten_nil, hm]
    rfl
  · exact escs_big (rune_bytes (dec_at h) h0 h1)
theorem put_own {w : World} {v : Value} {n q : Nat} {vs : List Value} {t : Str} (O : Own w 5 1 v n vs) (ht : escs (s.take q) = escs (s.take p) ++ t) (hn : n = (34 :: escs (s.take p)).length + t.length) (hvs : vs = ((34 :: escs (s.take p)).map b8c).flatten ++ t.map B8) : OwB w v (34 :: escs (s.take q)) := by
  refine O.same (by rw [hn, ht]; simp; omega) ?_
  rw [hvs, ht]
  simp [cells_b8]
end
end Go.Proofs.YtkhbnhdlelmbnaaGreatDoor.V

set_option linter.unusedVariables false
set_option linter.unusedSimpArgs false
set_option maxRecDepth 10000
namespace Go.Proofs.YtkhbnhdlelmbnaaGreatDoor.V
open Go Go.Proofs
theorem ent123 : Ent Tryz.prog 123 := Ent.of Tryz.func123 (by kernel_rfl) (by kernel_rfl)
theorem ent143 : Ent Tryz.prog 143 := Ent.of Tryz.func143 (by kernel_rfl) (by kernel_rfl)
theorem ent144 : Ent Tryz.prog 144 := Ent.of Tryz.func144 (by kernel_rfl) (by kernel_rfl)
theorem c_qput (w : World) (s : Str) (hs : s.length ≤ 65536) : Calls Tryz.prog 132 [S s].toArray w (Ret fun u w' => u = .tuple #[S (if validR s then putQ s else []), .bool (validR s)] ∧ Mod [] w w') := by
 refine enter Tryz.func132 rfl rfl rfl (l := [(0, _)]) ⟨rfl, trivial⟩ ?_
 have E := Mod.refl [] w
 refine Cq fun K1 hK1 => Cr (Za rfl (Za rfl (Ln (e_K (hK1 _ _ _ _ (Cq fun K2 hK2 => Cq fun K3 hK3 => Cr (Zm rfl (sc (oC ent123 rfl) (c_qvalid _ s) rfl fun v_ w1 h_ => ?_))))))))
 obtain ⟨rfl, E_⟩ := h_
 replace E := E.then E_
 refine Sv (o_not rfl) (Ln (e_K (hK3 _ _ _ _ ?_)))
 refine c_cond rfl (fun h10 => ?_) (fun h10 => ?_)
 ·have hV : validR s = false := by simpa using h10
  exact Cq fun K4 hK4 => Cr (Za rfl (Za rfl (Ln (e_K (hK4 _ _ _ _ (cR (eT (by simp) (ret2 rfl rfl rfl ⟨by rw [hV]; rfl, E⟩))))))))
 ·have hV : validR s = true := by simpa using h10
  refine cK (e_K (hK2 _ _ _ _ (Cq fun K5 hK5 => Cr (s_bslice (cs := [_]) sl53 zv5 rfl rfl rfl (by decide) rfl fun g1 w2 N1 => ?_))))
  have Lg1_E := N1.le E
  replace E := E.then N1.mod
  have Bg1 := N1.blk
  refine Za rfl (Ln (e_K (hK5 _ _ _ _ (Cq fun K6 hK6 => Cq fun K7 hK7 => Cr (Zm rfl (s_range Tryz.underlying9 rfl rfl fun gi w3 IT hgi EI => ?_))))))
  have Lgi : w.heap.size ≤ gi := by have := E.size; omega
  have DI0 : g1 ≠ gi := by have := Bg1.lt; omega
  replace E := E.then EI
  replace Bg1 := Bg1.mod0 EI
  refine Ln (e_K (hK7 _ _ _ _ (cB (c_loop (σ := Nat × Value) (fun ⟨p, v⟩ => [(0, S s), (4, v), (13, .pointer (some ⟨gi, 0, none⟩))]) (fun ⟨p, v⟩ w1 => p ≤ s.length ∧ validR (s.drop p) = true ∧ It w1 gi s p ∧ OwB w1 v (34 :: escs (s.take p)) ∧ (∀ x ∈ ob v, w.heap.size ≤ x) ∧ (∀ x ∈ ob v, x ≠ gi) ∧ Mod [] w w1) (fun ⟨p, v⟩ => s.length - p) (⟨0, .slice (some ⟨g1, 0, none⟩) 1 1⟩) ⟨rfl, rfl, rfl, trivial⟩ (⟨by omega, by simpa using hV, IT, (Own.all (c := 1) Bg1 rfl (by omega)).same rfl rfl, by simp only [ob, List.mem_singleton]; intro x hx; subst hx; exact Lg1_E, by simp only [ob, List.mem_singleton]; intro x hx; subst hx; exact DI0, E⟩) ?_))))
  rintro ⟨p, v⟩ w4 ⟨hp, hv, IT, O, L0, DI, E⟩
  refine Cq fun K8 hK8 => ?_
  by_cases hplt : p < s.length
  ·have hz := valid_pos (dec_at hplt) hv
   obtain ⟨_, _, hc1, hc2⟩ := enc_take (dec_at hplt) hz
   have hle := runeR_le (s.drop p)
   have hdl : (s.drop p).length = s.length - p := List.length_drop ..
   have hql := escs_len (s.take p)
   have htl : (s.take p).length = p := by rw [List.length_take]; omega
   have hq2 : (34 :: escs (s.take p)).length = (escs (s.take p)).length + 1 := rfl
   refine Cr (s_next rfl IT hplt (dec_ok hplt hz) rfl fun w5 IT2 EN hzN => ?_)
   replace E := E.trans' EN (fun x hx => .inr (by simp at hx; subst hx; exact Lgi))
   replace O := O.mod EN (fun x hx hm => DI x hx (by simpa using hm))
   clear IT
   have IT := IT2
   refine Sv (o_ext rfl rfl) (Ln (e_K (hK8 _ _ _ _ (Cq fun K9 hK9 => ?_))))
   refine c_cond rfl (fun h15 => ?_) (fun h15 => ?_)
   ·skip
    refine cK (e_K (hK9 _ _ _ _ (cB (Cq fun K10 hK10 => Cr (Sv (o_ext rfl rfl) (Za rfl (Ln (e_K (hK10 _ _ _ _ (Cq fun K11 hK11 => Cr (Zm rfl (sc (oC ent143 rfl) (c_short _ (runeR (s.drop p)).1 hc1) rfl fun v_ w6 h_ => ?_))))))))))))
    obtain ⟨rfl, E_⟩ := h_
    replace IT := IT.mod0 E_
    replace E := E.then E_
    replace O := O.mod0 E_
    refine Za rfl (Ln (e_K (hK11 _ _ _ _ (cB (Cq fun K12 hK12 => Cr (Zm rfl (Sv (o_neq rfl rfl) (Za rfl (Ln (e_K (hK12 _ _ _ _ ?_)))))))))))
    refine c_if rfl (fun h22 => ?_) (fun h22 => ?_)
    ·refine Cr (Zm rfl (Zm rfl (s_bslice (cs := [_, _]) sl53 zv5 rfl rfl rfl (by decide) rfl fun g2 w7 N2 => ?_)))
     have Lg2_E := N2.le E
     have Da0_g2 := N2.own_ne O
     replace IT := IT.mod0 N2.mod
     replace E := E.then N2.mod
     replace O := O.mod0 N2.mod
     have Bg2 := N2.blk
     refine s_append sl53 rfl rfl O (Src.own Tryz.underlying53 (Own.all (cs := [_, _]) Bg2 rfl (by omega)) (by simp [Value.oneCell'])) (by decide) (by omega) (by omega) rfl fun v1 w8 A1 => ?_
     have Dv1_g2 := A1.ne Da0_g2 Bg2
     have Lv1_E := A1.ge L0 E
     replace Bg2 := Bg2.mod A1.mod (fun hx => Da0_g2 _ hx rfl)
     replace E := E.trans' A1.mod (fun x hx => .inr (L0 x hx))
     replace O := A1.own
     have DI1 := A1.neI DI IT
     replace IT := IT.mod A1.mod (fun hx => DI _ hx rfl)
     refine Za rfl (Ln (eI (by simp) (eI (by simp) ?_)))
     have hvn := valid_go hplt hz hv
     obtain ⟨t, ht1, ht2, ht3⟩ := put_t1 hplt hz h22
     exact eR (σ := Nat × Value) (s := ⟨p, v⟩) (⟨p + (runeR (s.drop p)).2, v1⟩) ⟨rfl, rfl, rfl, trivial⟩ ⟨by omega, hvn, IT, put_own O ht1 (by rw [ht3]) (by rw [ht2]), Lv1_E, DI1, E⟩ (by dsimp only; omega)
    ·refine Cq fun K13 hK13 => Cr (Zm rfl (Sv (o_lss rfl rfl) (Za rfl (Ln (e_K (hK13 _ _ _ _ ?_))))))
     refine c_if rfl (fun h29 => ?_) (fun h29 => ?_)
     ·refine c_drawp [0] [1, 2, 3, 4, 5, 6] 7 [8, 9] wide (by kernel_rfl) (fun _ _ _ h => h.2) (pw (fun _ => (oM rfl)) rfl rfl (pw_nil (tv (fun w_ E_ => (oM rfl)) rfl rfl (tv (fun w_ E_ => (o_shE 4 16 rfl rfl (by decide) (by decide))) rfl rfl (tv (fun w_ E_ => (o_sidx Tryz.underlying9 rfl rfl (by omega) (by rw [Int.toNat_natCast]; exact hex_at (by omega)))) rfl rfl (tv (fun w_ E_ => (oM rfl)) rfl rfl (tv (fun w_ E_ => (o_a15 rfl rfl (by omega))) rfl rfl (tv (fun w_ E_ => (o_sidx Tryz.underlying9 rfl rfl (by omega) (by rw [Int.toNat_natCast]; exact hex_at (by omega)))) rfl rfl (tw_tail rfl fun w9 E_ => ?_)))))))))
      replace IT := IT.mod0 E_
      replace E := E.then E_
      replace O := O.mod0 E_
      refine s_bslice (cs := [_, _, _, _, _, _]) sl53 zv5 rfl rfl rfl (by decide) rfl fun g3 w10 N3 => ?_
      have Lg3_E := N3.le E
      have Da0_g3 := N3.own_ne O
      replace IT := IT.mod0 N3.mod
      replace E := E.then N3.mod
      replace O := O.mod0 N3.mod
      have Bg3 := N3.blk
      refine s_append sl53 rfl rfl O (Src.own Tryz.underlying53 (Own.all (cs := [_, _, _, _, _, _]) Bg3 rfl (by omega)) (by simp [Value.oneCell'])) (by decide) (by omega) (by omega) rfl fun v2 w11 A2 => ?_
      have Dv2_g3 := A2.ne Da0_g3 Bg3
      have Lv2_E := A2.ge L0 E
      replace Bg3 := Bg3.mod A2.mod (fun hx => Da0_g3 _ hx rfl)
      replace E := E.trans' A2.mod (fun x hx => .inr (L0 x hx))
      replace O := A2.own
      have DI2 := A2.neI DI IT
      replace IT := IT.mod A2.mod (fun hx => DI _ hx rfl)
      refine Za rfl (Ln (eI (by simp) (eI (by simp) ?_)))
      have hvn := valid_go hplt hz hv
      have ht1 := put_t2 hplt hz h22 h29
      exact eR (σ := Nat × Value) (s := ⟨p, v⟩) (⟨p + (runeR (s.drop p)).2, v2⟩) ⟨rfl, rfl, rfl, trivial⟩ ⟨by omega, hvn, IT, put_own O ht1 (by simp) (by simp [B8]), Lv2_E, DI2, E⟩ (by dsimp only; omega)
     ·refine Cr (Zm rfl (Zm rfl (sc (oC ent144 rfl) (c_apr _ v (34 :: escs (s.take p)) (runeR (s.drop p)).1 O hc1 hc2 (by omega)) rfl fun v_ w12 h_ => ?_)))
      obtain ⟨hO3, hob3, hm3⟩ := h_
      have L3 : ∀ x ∈ ob v_, w.heap.size ≤ x := fun x hx => (hob3 x hx).elim (L0 x) (Nat.le_trans E.size)
      have DI3 : ∀ x ∈ ob v_, x ≠ gi := fun x hx => (hob3 x hx).elim (DI x) (fun h e => by have := IT.lt; omega)
      replace E := E.trans' hm3 (fun x hx => .inr (L0 x hx))
      replace IT := IT.mod hm3 (fun hx => DI _ hx rfl)
      refine Za rfl (Ln (eI (by simp) (eI (by simp) ?_)))
      have hvn := valid_go hplt hz hv
      have ht1 := put_t3 hplt hz h22 h29
      exact eR (σ := Nat × Value) (s := ⟨p, v⟩) (⟨p + (runeR (s.drop p)).2, v_⟩) ⟨rfl, rfl, rfl, trivial⟩ ⟨by omega, hvn, IT, hO3.same (by rw [ht1]; rfl) (by rw [ht1]; rfl), L3, DI3, E⟩ (by dsimp only; omega)
   ·cases h15
  ·have hs_end := hplt
   have htk : s.take p = s := List.take_of_length_le (by omega)
   refine Cr (s_next_end rfl IT hs_end rfl (Sv (o_ext rfl rfl) (Ln (e_K (hK8 _ _ _ _ (Cq fun K14 hK14 => ?_))))))
   refine c_cond rfl (fun h15 => ?_) (fun h15 => ?_)
   ·cases h15
   ·skip
    refine c_exit (eT (by simp) (eT (by simp) (e_hit (e_K (hK6 _ _ _ _ (Cq fun K15 hK15 => Cr (Zm rfl (s_bslice (cs := [_]) sl53 zv5 rfl rfl rfl (by decide) rfl fun g4 w13 N4 => ?_))))))))
    have Lg4_E := N4.le E
    have Da0_g4 := N4.own_ne O
    replace IT := IT.mod0 N4.mod
    replace E := E.then N4.mod
    replace O := O.mod0 N4.mod
    have Bg4 := N4.blk
    have hql := escs_len s
    have hq2 : (34 :: escs (s.take p)).length = (escs s).length + 1 := by rw [htk]; rfl
    refine s_append sl53 rfl rfl O (Src.own Tryz.underlying53 (Own.all (cs := [_]) Bg4 rfl (by omega)) (by simp [Value.oneCell'])) (by decide) (by omega) (by omega) rfl fun v3 w14 A3 => ?_
    have Dv3_g4 := A3.ne Da0_g4 Bg4
    have Lv3_E := A3.ge L0 E
    replace Bg4 := Bg4.mod A3.mod (fun hx => Da0_g4 _ hx rfl)
    replace E := E.trans' A3.mod (fun x hx => .inr (L0 x hx))
    replace O := A3.own
    exact Sv (o_b2s_own (u := putQ s) Tryz.underlying53 Tryz.underlying5 Tryz.underlying9 rfl (O.same (by rw [htk]; simp [putQ]) (by rw [htk]; simp [putQ, B8, cells_b8]))) (Za rfl (Za rfl (Ln (e_K (hK15 _ _ _ _ (cR (ret2 rfl rfl rfl ⟨by rw [hV]; rfl, E⟩)))))))
end Go.Proofs.YtkhbnhdlelmbnaaGreatDoor.V

set_option linter.unusedVariables false
set_option linter.unusedSimpArgs false
namespace Go.Proofs.YtkhbnhdlelmbnaaGreatDoor.V
open Go
/-- what is given up with -/
def pEnt (T : TypeId) (e : Int) : List PanicEntry := [{ v := .iface T (.agg #[.int .i64 e]), recovered := false }]
def WrF (T : TypeId) (e : Int) (w : World) : Ending → World → Prop
  | .panicked c, w' => c = pEnt T e ∧ w' = w
  | _, _ => False
structure WrB (w : World) (g V : Nat) (u : Value) (b : Str) : Prop where
  blk : Blk w g V [u]
  own : OwB w u b
  ne : ∀ x ∈ ob u, x ≠ g
  len : b.length ≤ 65536
def WrP (w : World) (g V T : Nat) (u : Value) (r : Except Int Str) : Ending → World → Prop
  | .returned _, w' => ∃ u' b, r = .ok b ∧ WrB w' g V u' b ∧ Mod (g :: ob u) w w' ∧ ∀ x ∈ ob u', x ∈ ob u ∨ w.heap.size ≤ x
  | .panicked c, w' => ∃ e, r = .error e ∧ e ≠ 0 ∧ c = pEnt T e ∧ Mod (g :: ob u) w w'
  | .outgrown, _ => False
structure WrT (w0 w : World) (u0 : Value) (g V : Nat) (u : Value) (b : Str) : Prop where
  wb : WrB w g V u b
  hob : ∀ x ∈ ob u, x ∈ ob u0 ∨ w0.heap.size ≤ x
  mod : Mod (g :: ob u0) w0 w
section
variable {w0 w wA w' : World} {u0 u u1 x : Value} {g V T : Nat} {b t : Str} {r r1 : Except Int Str} {c : List PanicEntry} {e : Int}
theorem WrB.mod0 (H : WrB w g V u b) (k : Mod [] w w') : WrB w' g V u b := ⟨H.blk.mod0 k, H.own.mod0 k, H.ne, H.len⟩
theorem WrT.init (H : WrB w g V u b) : WrT w w u g V u b := ⟨H, fun x hx => .inl hx, Mod.refl _ _⟩
theorem WrT.mod0 (H : WrT w0 w u0 g V u b) (k : Mod [] w w') : WrT w0 w' u0 g V u b := ⟨H.wb.mod0 k, H.hob, H.mod.then k⟩
theorem WrT.in_ (H : WrT w0 w u0 g V u b) : ∀ x ∈ g :: ob u, x ∈ g :: ob u0 ∨ w0.heap.size ≤ x := fun x hx => by
  rcases List.mem_cons.1 hx with rfl | h
  · exact .inl (by simp)
  · exact (H.hob x h).imp (fun h => by simp [h]) id
theorem WrT.rep {d : D} {v : Value} (H : WrT w0 w u0 g V u b) (R : Rep (g :: ob u0) w0 d v) : Rep (g :: ob u) w d v := Rep.to H.mod (fun x hx => hx) H.in_ d v R
theorem WrT.ret (H : WrT w0 w u0 g V u b) (h : WrP w g V T u r1 (.returned x) w') : ∃ u' b', r1 = .ok b' ∧ WrT w0 w' u0 g V u' b' ∧ Mod (g :: ob u) w w' ∧ ∀ x ∈ ob u', x ∈ ob u ∨ w.heap.size ≤ x := by
  obtain ⟨u', b', h1, h2, h3, h4⟩ := h
  exact ⟨u', b', h1, ⟨h2, fun x hx => (h4 x hx).elim (H.hob x) (fun h => .inr (Nat.le_trans H.mod.size h)), H.mod.trans' h3 H.in_⟩, h3, h4⟩
theorem WrT.panic (H : WrT w0 w u0 g V u b) (h : WrP w g V T u r1 (.panicked c) w') (hr : ∀ e, r1 = .error e → r = .error e) : WrP w0 g V T u0 r (.panicked c) w' := by
  obtain ⟨e, h1, h0, h2, h3⟩ := h
  exact ⟨e, hr e h1, h0, h2, H.mod.trans' h3 H.in_⟩
theorem WrT.fail (H : WrT w0 w u0 g V u b) (hr : r = .error e) (h0 : e ≠ 0 := by decide) : WrP w0 g V T u0 r (.panicked (pEnt T e)) w := ⟨e, hr, h0, rfl, H.mod⟩
theorem WrT.fin (H : WrT w0 w u0 g V u b) (hr : r = .ok b) : WrP w0 g V T u0 r (.returned x) w := ⟨u, b, hr, H.wb, H.mod, H.hob⟩
/-- a piece behind the bytes, as it stands in the writer; how long it may be is not asked yet -/
theorem WrT.app {n : Nat} {vs : List Value} (H : WrT w0 w u0 g V u b) (AA : App w wA 5 1 u u1 n vs) (k : Mod [g] wA w') : Mod (g :: ob u0) w0 w' :=
  (H.mod.trans' AA.mod (fun x hx => H.in_ x (by simp [hx]))).trans' k (fun x hx => .inl (by simp at hx; simp [hx]))
theorem WrT.app' {n : Nat} {vs : List Value} (H : WrT w0 w u0 g V u b) (AA : App w wA 5 1 u u1 n vs) (O1 : OwB wA u1 (b ++ t)) (k : Mod [g] wA w') (B : Blk w' g V [u1]) (hl : (b ++ t).length ≤ 65536) : WrT w0 w' u0 g V u1 (b ++ t) := by
  have hne : ∀ x ∈ ob u1, x ≠ g := fun x hx => (AA.ob_ x hx).elim (H.wb.ne x) (fun h e => by have := H.wb.blk.lt; omega)
  refine ⟨⟨B, O1.mod k (fun x hx hm => hne x hx (by simpa using hm)), hne, hl⟩, fun x hx => ?_, H.app AA k⟩
  exact (AA.ob_ x hx).elim (H.hob x) (fun h => .inr (Nat.le_trans H.mod.size h))
/-- a variable of the call's own beside the writer -/
structure WrK (w : World) (g : Nat) (u : Value) (h W : Nat) (cells : List Value) : Prop where
  blk : Blk w h W cells
  ne : h ≠ g
  dis : ∀ x ∈ ob u, x ≠ h
variable {h W : Nat} {cells : List Value}
theorem WrK.mod0 (K : WrK w g u h W cells) (k : Mod [] w w') : WrK w' g u h W cells := ⟨K.blk.mod0 k, K.ne, K.dis⟩
theorem WrK.step (K : WrK w g u h W cells) (k : Mod (g :: ob u) w w') (ho : ∀ x ∈ ob u1, x ∈ ob u ∨ w.heap.size ≤ x) : WrK w' g u1 h W cells :=
  ⟨K.blk.mod k (fun hx => by
    rcases List.mem_cons.1 hx with h1 | h1
    · exact K.ne h1
    · exact K.dis _ h1 rfl), K.ne, fun x hx => (ho x hx).elim (K.dis x) (fun h e => by have := K.blk.lt; omega)⟩
theorem WrK.of_ (H : WrB w g V u b) (B : Blk w' h W cells) (hh : w.heap.size ≤ h) : WrK w' g u h W cells :=
  ⟨B, fun e => by have := H.blk.lt; omega, fun x hx e => by have := H.own.lt x hx; omega⟩
end
/-- has a value nothing but what its kind has? (its number may be however great) -/
def JV.plain (v : JV) : Bool := decide (0 ≤ v.kind ∧ v.kind ≤ 5) && (decide (v.kind = 1) || !v.is) && (decide (v.kind = 2) || decide (v.num = 0)) && (decide (v.kind = 3) || decide (v.str = [])) && (decide (v.kind = 4) || decide (v.list.length = 0)) && (decide (v.kind = 5) || decide (v.map.length = 0))
theorem JV.bare_plain (v : JV) : v.bare = (v.plain && decide (-9007199254740991 ≤ v.num ∧ v.num ≤ 9007199254740991)) := by
  unfold JV.bare JV.plain
  rw [Bool.eq_iff_iff]
  simp only [Bool.and_eq_true, Bool.or_eq_true, Bool.not_eq_true', decide_eq_true_eq, decide_eq_false_iff_not]
  constructor
  · rintro ⟨⟨⟨⟨⟨⟨h1, h2⟩, h3⟩, h4⟩, h5⟩, h6⟩, h7⟩
    refine ⟨⟨⟨⟨⟨⟨h1, h2⟩, h3⟩, h4⟩, h5⟩, h6⟩, ?_⟩
    rcases h7 with h7 | h7
    · rcases h3 with h3 | h3
      · exact absurd h3 h7
      · omega
    · exact h7
  · rintro ⟨⟨⟨⟨⟨⟨h1, h2⟩, h3⟩, h4⟩, h5⟩, h6⟩, h7⟩
    exact ⟨⟨⟨⟨⟨⟨h1, h2⟩, h3⟩, h4⟩, h5⟩, h6⟩, .inr h7⟩
end Go.Proofs.YtkhbnhdlelmbnaaGreatDoor.V
