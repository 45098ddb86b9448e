/-
  A part of the proof: a text between quotes, rune by rune: what each round adds; a writer in memory: what its functions leave, whether they return or panic; the writing of lists and maps, step by step. No condition of its own.
-/
import Derived.Test.YtknndpjacklkeaaGreatDoorM8
import Derived.Test.YtknndpjacklkeaaGreatDoorM4
import Derived.Test.YtknndpjacklkeaaGreatDoorM6
import Derived.Recover
set_option linter.unusedVariables false
set_option linter.unusedSimpArgs false
namespace Go.Proofs.YtknndpjacklkeaaGreatDoor.V
open Go
section
variable {P : Program} {l : List (Nat × Value)} {w w' : World} {ty : TypeId} {pos : String} {af : Array Edge} {dd : Option Nat} {gg : Option (Nat × Bool)} {x y : Operand} {t t' : TypeId}
theorem o_a15 {m : Nat} (hx : evO l x = some (.int .i32 (m : Int))) (hy : evO l y = some (.int .i32 15)) (h : m < 32) : Runs P l ⟨dd, .binOp .and t x y t', ty, pos, af, gg⟩ w (.int .i32 ((m % 16 : Nat) : Int)) w :=
 (o_and hx hy).to (by rw [and15 h])
end
section
variable {s : Str} {p : Nat}
theorem valid_go (h : p < s.length) (h0 : (runeR (s.drop p)).2 ≠ 0) (hv : validR (s.drop p) = true) : validR (s.drop (p + (runeR (s.drop p)).2)) = true := by
 rw [← List.drop_drop, ← validR_go (dec_at h) h0]
 exact hv
theorem put_t1 (h : p < s.length) (h0 : (runeR (s.drop p)).2 ≠ 0) (hq : (shq (runeR (s.drop p)).1 : Int) ≠ 0) : ∃ t, escs (s.take (p + (runeR (s.drop p)).2)) = escs (s.take p) ++ t ∧ t.map B8 = [.int .u8 92, .int .u8 (shq (runeR (s.drop p)).1 : Int)] ∧ t.length = 2 := by
 have hc : (runeR (s.drop p)).1 < 128 := by
  rcases Nat.lt_or_ge (runeR (s.drop p)).1 128 with h1 | h1
  ·exact h1
  ·rw [shq_big h1] at hq
   exact absurd rfl hq
 obtain ⟨b, hb, hbc⟩ := rune_byte (dec_at h) h0 hc
 have hm := shq_esc (c := b) (by rw [hbc]; omega)
 rw [hbc] at hm
 refine ⟨escQ b, by rw [escs_add, hb]; simp [escs], hm, ?_⟩
 have := congrArg List.length hm
 simpa using this
theorem put_t2 (h : p < s.length) (h0 : (runeR (s.drop p)).2 ≠ 0) (hq : ¬ (shq (runeR (s.drop p)).1 : Int) ≠ 0) (hc : ((runeR (s.drop p)).1 : Int) < 32) : escs (s.take (p + (runeR (s.drop p)).2)) = escs (s.take p) ++ [92, 117, 48, 48, hexD.getD ((runeR (s.drop p)).1 / 16) 0, hexD.getD ((runeR (s.drop p)).1 % 16) 0] := by
 obtain ⟨b, hb, hbc⟩ := rune_byte (dec_at h) h0 (by omega)
 have hm := shq_none (c := b) (by rw [hbc]; omega)
 rw [if_pos (by omega), hbc] at hm
 rw [escs_add, hb]
 simp only [escs, List.map_cons, List.map_nil, List.flatten_cons, List.flatten_nil, hm]
 rfl
theorem put_t3 (h : p < s.length) (h0 : (runeR (s.drop p)).2 ≠ 0) (hq : ¬ (shq (runeR (s.drop p)).1 : Int) ≠ 0) (hc : ¬ ((runeR (s.drop p)).1 : Int) < 32) : escs (s.take (p + (runeR (s.drop p)).2)) = escs (s.take p) ++ encB (runeR (s.drop p)).1 := by
 rw [escs_add, encB_take (dec_at h) h0]
 congr 1
 rcases Nat.lt_or_ge (runeR (s.drop p)).1 128 with h1 | h1
 ·obtain ⟨b, hb, hbc⟩ := rune_byte (dec_at h) h0 h1
  have hm := shq_none (c := b) (by rw [hbc]; omega)
  rw [if_neg (by omega)] at hm
  rw [hb]
  simp only [escs, List.map_cons, List.map_nil, List.flatten_cons, List.flatten_nil, hm]
  rfl
 ·exact escs_big (rune_bytes (dec_at h) h0 h1)
theorem put_own {w : World} {v : Value} {n q : Nat} {vs : List Value} {t : Str} (O : Own w 5 1 v n vs) (ht : escs (s.take q) = escs (s.take p) ++ t) (hn : n = (34 :: escs (s.take p)).length + t.length) (hvs : vs = ((34 :: escs (s.take p)).map b8c).flatten ++ t.map B8) : OwB w v (34 :: escs (s.take q)) := by
 refine O.same (by rw [hn, ht]; simp; omega) ?_
 rw [hvs, ht]
 simp [cells_b8]
end
end Go.Proofs.YtknndpjacklkeaaGreatDoor.V

set_option linter.unusedVariables false
set_option linter.unusedSimpArgs false
set_option maxRecDepth 10000
namespace Go.Proofs.YtknndpjacklkeaaGreatDoor.V
open Go Go.Proofs
theorem ent166 : Ent Tryz.prog 166 := Ent.of Tryz.func166 (by kernel_rfl) (by kernel_rfl)
theorem ent188 : Ent Tryz.prog 188 := Ent.of Tryz.func188 (by kernel_rfl) (by kernel_rfl)
theorem ent189 : Ent Tryz.prog 189 := Ent.of Tryz.func189 (by kernel_rfl) (by kernel_rfl)
theorem c_qput (w : World) (s : Str) (hs : s.length ≤ 65536) : Calls Tryz.prog 154 [S s].toArray w (Ret fun u w' => u = .tuple #[S (if validR s then putQ s else []), .bool (validR s)] ∧ Mod [] w w') := by
 refine enter Tryz.func154 rfl rfl rfl (l := [(0, _)]) ⟨rfl, trivial⟩ ?_
 have E := Mod.refl [] w
 refine Cq fun K1 hK1 => Cr (tW 2 rfl (Ln (e_K (hK1 _ _ _ _ (Cq fun K2 hK2 => Cq fun K3 hK3 => Cr (Zm rfl (sc (oC ent166 rfl) (c_qvalid _ s) rfl fun v_ w1 h_ => ?_)))))))
 obtain ⟨rfl, E_⟩ := h_
 replace E := E.then E_
 refine Sv (o_not rfl) (Ln (e_K (hK3 _ _ _ _ ?_)))
 refine c_cond rfl (fun h10 => ?_) (fun h10 => ?_)
 ·have hV : validR s = false := by simpa using h10
  exact Cq fun K4 hK4 => Cr (tW 2 rfl (Ln (e_K (hK4 _ _ _ _ (cR (eT (by simp) (ret2 rfl rfl rfl ⟨by rw [hV]; rfl, E⟩)))))))
 ·have hV : validR s = true := by simpa using h10
  refine cK (e_K (hK2 _ _ _ _ (Cq fun K5 hK5 => Cr (s_bslice (cs := [_]) sl74 zv5 rfl rfl rfl (by decide) rfl fun g1 w2 N1 => ?_))))
  have Lg1_E := N1.le E
  replace E := E.then N1.mod
  have Bg1 := N1.blk
  refine Za rfl (Ln (e_K (hK5 _ _ _ _ (Cq fun K6 hK6 => Cq fun K7 hK7 => Cr (Zm rfl (s_range Tryz.underlying9 rfl rfl fun gi w3 IT hgi EI => ?_))))))
  have Lgi : w.heap.size ≤ gi := by have := E.size; omega
  have DI0 : g1 ≠ gi := by have := Bg1.lt; omega
  replace E := E.then EI
  replace Bg1 := Bg1.mod0 EI
  refine Ln (e_K (hK7 _ _ _ _ (cB (c_loop (σ := Nat × Value) (fun ⟨p, v⟩ => [(0, S s), (4, v), (13, .pointer (some ⟨gi, 0, none⟩))]) (fun ⟨p, v⟩ w1 => p ≤ s.length ∧ validR (s.drop p) = true ∧ It w1 gi s p ∧ OwB w1 v (34 :: escs (s.take p)) ∧ (∀ x ∈ ob v, w.heap.size ≤ x) ∧ (∀ x ∈ ob v, x ≠ gi) ∧ Mod [] w w1) (fun ⟨p, v⟩ => s.length - p) (⟨0, .slice (some ⟨g1, 0, none⟩) 1 1⟩) ⟨rfl, rfl, rfl, trivial⟩ (⟨by omega, by simpa using hV, IT, (Own.all (c := 1) Bg1 rfl (by omega)).same rfl rfl, by simp only [ob, List.mem_singleton]; intro x hx; subst hx; exact Lg1_E, by simp only [ob, List.mem_singleton]; intro x hx; subst hx; exact DI0, E⟩) ?_))))
  rintro ⟨p, v⟩ w4 ⟨hp, hv, IT, O, L0, DI, E⟩
  refine Cq fun K8 hK8 => ?_
  by_cases hplt : p < s.length
  ·have hz := valid_pos (dec_at hplt) hv
   obtain ⟨_, _, hc1, hc2⟩ := enc_take (dec_at hplt) hz
   have hle := runeR_le (s.drop p)
   have hdl : (s.drop p).length = s.length - p := List.length_drop ..
   have hql := escs_len (s.take p)
   have htl : (s.take p).length = p := by rw [List.length_take]; omega
   have hq2 : (34 :: escs (s.take p)).length = (escs (s.take p)).length + 1 := rfl
   refine Cr (s_next rfl IT hplt (dec_ok hplt hz) rfl fun w5 IT2 EN hzN => ?_)
   replace E := E.trans' EN (fun x hx => .inr (by simp at hx; subst hx; exact Lgi))
   replace O := O.mod EN (fun x hx hm => DI x hx (by simpa using hm))
   clear IT
   have IT := IT2
   refine Sv (o_ext rfl rfl) (Ln (e_K (hK8 _ _ _ _ (Cq fun K9 hK9 => ?_))))
   refine c_cond rfl (fun h15 => ?_) (fun h15 => ?_)
   ·skip
    refine cK (e_K (hK9 _ _ _ _ (cB (Cq fun K10 hK10 => Cr (tW 2 rfl (Ln (e_K (hK10 _ _ _ _ (Cq fun K11 hK11 => Cr (Zm rfl (sc (oC ent188 rfl) (c_short _ (runeR (s.drop p)).1 hc1) rfl fun v_ w6 h_ => ?_)))))))))))
    obtain ⟨rfl, E_⟩ := h_
    replace IT := IT.mod0 E_
    replace E := E.then E_
    replace O := O.mod0 E_
    refine Za rfl (Ln (e_K (hK11 _ _ _ _ (cB (Cq fun K12 hK12 => Cr (tW 3 rfl (Ln (e_K (hK12 _ _ _ _ ?_)))))))))
    refine c_if rfl (fun h22 => ?_) (fun h22 => ?_)
    ·refine Cr (tW 2 rfl (s_bslice (cs := [_, _]) sl74 zv5 rfl rfl rfl (by decide) rfl fun g2 w7 N2 => ?_))
     have Lg2_E := N2.le E
     have Da0_g2 := N2.own_ne O
     replace IT := IT.mod0 N2.mod
     replace E := E.then N2.mod
     replace O := O.mod0 N2.mod
     have Bg2 := N2.blk
     refine s_append sl74 rfl rfl O (Src.own Tryz.underlying74 (Own.all (cs := [_, _]) Bg2 rfl (by omega)) (by simp [Value.oneCell'])) (by decide) (by omega) (by omega) rfl fun v1 w8 A1 => ?_
     have Dv1_g2 := A1.ne Da0_g2 Bg2
     have Lv1_E := A1.ge L0 E
     replace Bg2 := Bg2.mod A1.mod (fun hx => Da0_g2 _ hx rfl)
     replace E := E.trans' A1.mod (fun x hx => .inr (L0 x hx))
     replace O := A1.own
     have DI1 := A1.neI DI IT
     replace IT := IT.mod A1.mod (fun hx => DI _ hx rfl)
     refine Za rfl (Ln (eI (by simp) (eI (by simp) ?_)))
     have hvn := valid_go hplt hz hv
     obtain ⟨t, ht1, ht2, ht3⟩ := put_t1 hplt hz h22
     exact eR (σ := Nat × Value) (s := ⟨p, v⟩) (⟨p + (runeR (s.drop p)).2, v1⟩) ⟨rfl, rfl, rfl, trivial⟩ ⟨by omega, hvn, IT, put_own O ht1 (by rw [ht3]) (by rw [ht2]), Lv1_E, DI1, E⟩ (by dsimp only; omega)
    ·refine Cq fun K13 hK13 => Cr (tW 3 rfl (Ln (e_K (hK13 _ _ _ _ ?_))))
     refine c_if rfl (fun h29 => ?_) (fun h29 => ?_)
     ·refine c_drawp [0] [1, 2, 3, 4, 5, 6] 7 [8, 9] wide (by kernel_rfl) (fun _ _ _ h => h.2) (pw (fun _ => (oM rfl)) rfl rfl (pw_nil (tv (fun w_ E_ => (oM rfl)) rfl rfl (tv (fun w_ E_ => (o_shE 4 16 rfl rfl (by decide) (by decide))) rfl rfl (tv (fun w_ E_ => (o_sidx Tryz.underlying9 rfl rfl (by omega) (by rw [Int.toNat_natCast]; exact hex_at (by omega)))) rfl rfl (tv (fun w_ E_ => (oM rfl)) rfl rfl (tv (fun w_ E_ => (o_a15 rfl rfl (by omega))) rfl rfl (tv (fun w_ E_ => (o_sidx Tryz.underlying9 rfl rfl (by omega) (by rw [Int.toNat_natCast]; exact hex_at (by omega)))) rfl rfl (tw_tail rfl fun w9 E_ => ?_)))))))))
      replace IT := IT.mod0 E_
      replace E := E.then E_
      replace O := O.mod0 E_
      refine s_bslice (cs := [_, _, _, _, _, _]) sl74 zv5 rfl rfl rfl (by decide) rfl fun g3 w10 N3 => ?_
      have Lg3_E := N3.le E
      have Da0_g3 := N3.own_ne O
      replace IT := IT.mod0 N3.mod
      replace E := E.then N3.mod
      replace O := O.mod0 N3.mod
      have Bg3 := N3.blk
      refine s_append sl74 rfl rfl O (Src.own Tryz.underlying74 (Own.all (cs := [_, _, _, _, _, _]) Bg3 rfl (by omega)) (by simp [Value.oneCell'])) (by decide) (by omega) (by omega) rfl fun v2 w11 A2 => ?_
      have Dv2_g3 := A2.ne Da0_g3 Bg3
      have Lv2_E := A2.ge L0 E
      replace Bg3 := Bg3.mod A2.mod (fun hx => Da0_g3 _ hx rfl)
      replace E := E.trans' A2.mod (fun x hx => .inr (L0 x hx))
      replace O := A2.own
      have DI2 := A2.neI DI IT
      replace IT := IT.mod A2.mod (fun hx => DI _ hx rfl)
      refine Za rfl (Ln (eI (by simp) (eI (by simp) ?_)))
      have hvn := valid_go hplt hz hv
      have ht1 := put_t2 hplt hz h22 h29
      exact eR (σ := Nat × Value) (s := ⟨p, v⟩) (⟨p + (runeR (s.drop p)).2, v2⟩) ⟨rfl, rfl, rfl, trivial⟩ ⟨by omega, hvn, IT, put_own O ht1 (by simp) (by simp [B8]), Lv2_E, DI2, E⟩ (by dsimp only; omega)
     ·refine Cr (tW 2 rfl (sc (oC ent189 rfl) (c_apr _ v (34 :: escs (s.take p)) (runeR (s.drop p)).1 O hc1 hc2 (by omega)) rfl fun v_ w12 h_ => ?_))
      obtain ⟨hO3, hob3, hm3⟩ := h_
      have L3 : ∀ x ∈ ob v_, w.heap.size ≤ x := fun x hx => (hob3 x hx).elim (L0 x) (Nat.le_trans E.size)
      have DI3 : ∀ x ∈ ob v_, x ≠ gi := fun x hx => (hob3 x hx).elim (DI x) (fun h e => by have := IT.lt; omega)
      replace E := E.trans' hm3 (fun x hx => .inr (L0 x hx))
      replace IT := IT.mod hm3 (fun hx => DI _ hx rfl)
      refine Za rfl (Ln (eI (by simp) (eI (by simp) ?_)))
      have hvn := valid_go hplt hz hv
      have ht1 := put_t3 hplt hz h22 h29
      exact eR (σ := Nat × Value) (s := ⟨p, v⟩) (⟨p + (runeR (s.drop p)).2, v_⟩) ⟨rfl, rfl, rfl, trivial⟩ ⟨by omega, hvn, IT, hO3.same (by rw [ht1]; rfl) (by rw [ht1]; rfl), L3, DI3, E⟩ (by dsimp only; omega)
   ·cases h15
  ·have hs_end := hplt
   have htk : s.take p = s := List.take_of_length_le (by omega)
   refine Cr (s_next_end rfl IT hs_end rfl (Sv (o_ext rfl rfl) (Ln (e_K (hK8 _ _ _ _ (Cq fun K14 hK14 => ?_))))))
   refine c_cond rfl (fun h15 => ?_) (fun h15 => ?_)
   ·cases h15
   ·skip
    refine c_exit (eT (by simp) (eT (by simp) (e_hit (e_K (hK6 _ _ _ _ (Cq fun K15 hK15 => Cr (Zm rfl (s_bslice (cs := [_]) sl74 zv5 rfl rfl rfl (by decide) rfl fun g4 w13 N4 => ?_))))))))
    have Lg4_E := N4.le E
    have Da0_g4 := N4.own_ne O
    replace IT := IT.mod0 N4.mod
    replace E := E.then N4.mod
    replace O := O.mod0 N4.mod
    have Bg4 := N4.blk
    have hql := escs_len s
    have hq2 : (34 :: escs (s.take p)).length = (escs s).length + 1 := by rw [htk]; rfl
    refine s_append sl74 rfl rfl O (Src.own Tryz.underlying74 (Own.all (cs := [_]) Bg4 rfl (by omega)) (by simp [Value.oneCell'])) (by decide) (by omega) (by omega) rfl fun v3 w14 A3 => ?_
    have Dv3_g4 := A3.ne Da0_g4 Bg4
    have Lv3_E := A3.ge L0 E
    replace Bg4 := Bg4.mod A3.mod (fun hx => Da0_g4 _ hx rfl)
    replace E := E.trans' A3.mod (fun x hx => .inr (L0 x hx))
    replace O := A3.own
    exact Sv (o_b2s_own (u := putQ s) Tryz.underlying74 Tryz.underlying5 Tryz.underlying9 rfl (O.same (by rw [htk]; simp [putQ]) (by rw [htk]; simp [putQ, B8, cells_b8]))) (tW 2 rfl (Ln (e_K (hK15 _ _ _ _ (cR (ret2 rfl rfl rfl ⟨by rw [hV]; rfl, E⟩))))))
end Go.Proofs.YtknndpjacklkeaaGreatDoor.V

set_option linter.unusedVariables false
set_option linter.unusedSimpArgs false
namespace Go.Proofs.YtknndpjacklkeaaGreatDoor.V
open Go
def pEnt (T : TypeId) (e : Int) : List PanicEntry := [{ v := .iface T (.agg #[.int .i64 e]), recovered := false }]
def WrF (T : TypeId) (e : Int) (w : World) : Ending → World → Prop
 | .panicked c, w' => c = pEnt T e ∧ w' = w
 | _, _ => False
structure WrB (w : World) (g V : Nat) (u : Value) (b : Str) : Prop where
 blk : Blk w g V [u]
 own : OwB w u b
 ne : ∀ x ∈ ob u, x ≠ g
 len : b.length ≤ 65536
def WrP (w : World) (g V T : Nat) (u : Value) (r : Except Int Str) : Ending → World → Prop
 | .returned _, w' => ∃ u' b, r = .ok b ∧ WrB w' g V u' b ∧ Mod (g :: ob u) w w' ∧ ∀ x ∈ ob u', x ∈ ob u ∨ w.heap.size ≤ x
 | .panicked c, w' => ∃ e, r = .error e ∧ e ≠ 0 ∧ c = pEnt T e ∧ Mod (g :: ob u) w w'
 | .outgrown, _ => False
structure WrT (w0 w : World) (u0 : Value) (g V : Nat) (u : Value) (b : Str) : Prop where
 wb : WrB w g V u b
 hob : ∀ x ∈ ob u, x ∈ ob u0 ∨ w0.heap.size ≤ x
 mod : Mod (g :: ob u0) w0 w
section
variable {w0 w wA w' : World} {u0 u u1 x : Value} {g V T : Nat} {b t : Str} {r r1 : Except Int Str} {c : List PanicEntry} {e : Int}
theorem WrB.mod0 (H : WrB w g V u b) (k : Mod [] w w') : WrB w' g V u b := ⟨H.blk.mod0 k, H.own.mod0 k, H.ne, H.len⟩
theorem WrT.init (H : WrB w g V u b) : WrT w w u g V u b := ⟨H, fun x hx => .inl hx, Mod.refl _ _⟩
theorem WrT.mod0 (H : WrT w0 w u0 g V u b) (k : Mod [] w w') : WrT w0 w' u0 g V u b := ⟨H.wb.mod0 k, H.hob, H.mod.then k⟩
theorem WrT.in_ (H : WrT w0 w u0 g V u b) : ∀ x ∈ g :: ob u, x ∈ g :: ob u0 ∨ w0.heap.size ≤ x := fun x hx => by
 rcases List.mem_cons.1 hx with rfl | h
 ·exact .inl (by simp)
 ·exact (H.hob x h).imp (fun h => by simp [h]) id
theorem WrT.rep {d : D} {v : Value} (H : WrT w0 w u0 g V u b) (R : Rep (g :: ob u0) w0 d v) : Rep (g :: ob u) w d v := Rep.to H.mod (fun x hx => hx) H.in_ d v R
theorem WrT.ret (H : WrT w0 w u0 g V u b) (h : WrP w g V T u r1 (.returned x) w') : ∃ u' b', r1 = .ok b' ∧ WrT w0 w' u0 g V u' b' ∧ Mod (g :: ob u) w w' ∧ ∀ x ∈ ob u', x ∈ ob u ∨ w.heap.size ≤ x := by
 obtain ⟨u', b', h1, h2, h3, h4⟩ := h
 exact ⟨u', b', h1, ⟨h2, fun x hx => (h4 x hx).elim (H.hob x) (fun h => .inr (Nat.le_trans H.mod.size h)), H.mod.trans' h3 H.in_⟩, h3, h4⟩
theorem WrT.panic (H : WrT w0 w u0 g V u b) (h : WrP w g V T u r1 (.panicked c) w') (hr : ∀ e, r1 = .error e → r = .error e) : WrP w0 g V T u0 r (.panicked c) w' := by
 obtain ⟨e, h1, h0, h2, h3⟩ := h
 exact ⟨e, hr e h1, h0, h2, H.mod.trans' h3 H.in_⟩
theorem WrT.fail (H : WrT w0 w u0 g V u b) (hr : r = .error e) (h0 : e ≠ 0 := by decide) : WrP w0 g V T u0 r (.panicked (pEnt T e)) w := ⟨e, hr, h0, rfl, H.mod⟩
theorem WrT.fin (H : WrT w0 w u0 g V u b) (hr : r = .ok b) : WrP w0 g V T u0 r (.returned x) w := ⟨u, b, hr, H.wb, H.mod, H.hob⟩
theorem WrT.app {n : Nat} {vs : List Value} (H : WrT w0 w u0 g V u b) (AA : App w wA 5 1 u u1 n vs) (k : Mod [g] wA w') : Mod (g :: ob u0) w0 w' :=
 (H.mod.trans' AA.mod (fun x hx => H.in_ x (by simp [hx]))).trans' k (fun x hx => .inl (by simp at hx; simp [hx]))
theorem WrT.app' {n : Nat} {vs : List Value} (H : WrT w0 w u0 g V u b) (AA : App w wA 5 1 u u1 n vs) (O1 : OwB wA u1 (b ++ t)) (k : Mod [g] wA w') (B : Blk w' g V [u1]) (hl : (b ++ t).length ≤ 65536) : WrT w0 w' u0 g V u1 (b ++ t) := by
 have hne : ∀ x ∈ ob u1, x ≠ g := fun x hx => (AA.ob_ x hx).elim (H.wb.ne x) (fun h e => by have := H.wb.blk.lt; omega)
 refine ⟨⟨B, O1.mod k (fun x hx hm => hne x hx (by simpa using hm)), hne, hl⟩, fun x hx => ?_, H.app AA k⟩
 exact (AA.ob_ x hx).elim (H.hob x) (fun h => .inr (Nat.le_trans H.mod.size h))
structure WrK (w : World) (g : Nat) (u : Value) (h W : Nat) (cells : List Value) : Prop where
 blk : Blk w h W cells
 ne : h ≠ g
 dis : ∀ x ∈ ob u, x ≠ h
variable {h W : Nat} {cells : List Value}
theorem WrK.mod0 (K : WrK w g u h W cells) (k : Mod [] w w') : WrK w' g u h W cells := ⟨K.blk.mod0 k, K.ne, K.dis⟩
theorem WrK.step (K : WrK w g u h W cells) (k : Mod (g :: ob u) w w') (ho : ∀ x ∈ ob u1, x ∈ ob u ∨ w.heap.size ≤ x) : WrK w' g u1 h W cells :=
 ⟨K.blk.mod k (fun hx => by
  rcases List.mem_cons.1 hx with h1 | h1
  ·exact K.ne h1
  ·exact K.dis _ h1 rfl), K.ne, fun x hx => (ho x hx).elim (K.dis x) (fun h e => by have := K.blk.lt; omega)⟩
theorem WrK.of_ (H : WrB w g V u b) (B : Blk w' h W cells) (hh : w.heap.size ≤ h) : WrK w' g u h W cells :=
 ⟨B, fun e => by have := H.blk.lt; omega, fun x hx e => by have := H.own.lt x hx; omega⟩
end
def JV.plain (v : JV) : Bool := decide (0 ≤ v.kind ∧ v.kind ≤ 5) && (decide (v.kind = 1) || !v.is) && (decide (v.kind = 2) || decide (v.num = 0)) && (decide (v.kind = 3) || decide (v.str = [])) && (decide (v.kind = 4) || decide (v.list.length = 0)) && (decide (v.kind = 5) || decide (v.map.length = 0))
theorem JV.bare_plain (v : JV) : v.bare = (v.plain && decide (-9007199254740991 ≤ v.num ∧ v.num ≤ 9007199254740991)) := by
 unfold JV.bare JV.plain
 rw [Bool.eq_iff_iff]
 simp only [Bool.and_eq_true, Bool.or_eq_true, Bool.not_eq_true', decide_eq_true_eq, decide_eq_false_iff_not]
 constructor
 ·rintro ⟨⟨⟨⟨⟨⟨h1, h2⟩, h3⟩, h4⟩, h5⟩, h6⟩, h7⟩
  refine ⟨⟨⟨⟨⟨⟨h1, h2⟩, h3⟩, h4⟩, h5⟩, h6⟩, ?_⟩
  rcases h7 with h7 | h7
  ·rcases h3 with h3 | h3
   ·exact absurd h3 h7
   ·omega
  ·exact h7
 ·rintro ⟨⟨⟨⟨⟨⟨h1, h2⟩, h3⟩, h4⟩, h5⟩, h6⟩, h7⟩
  exact ⟨⟨⟨⟨⟨⟨h1, h2⟩, h3⟩, h4⟩, h5⟩, h6⟩, .inr h7⟩
end Go.Proofs.YtknndpjacklkeaaGreatDoor.V

set_option linter.unusedVariables false
set_option linter.unusedSimpArgs false
set_option maxRecDepth 10000
namespace Go.Proofs.YtknndpjacklkeaaGreatDoor.V
open Go Go.Proofs
theorem ent152 : Ent Tryz.prog 152 := Ent.of Tryz.func152 (by kernel_rfl) (by kernel_rfl)
theorem pl110 : plB Tryz.prog 110 [(0, 1)] = true := by kernel_rfl
theorem zv110 : zvB Tryz.prog 110 ([.int .i64 0]) := by unfold zvB; kernel_rfl
theorem fd76_0 : fdB Tryz.prog 76 0 0 1 = true := by kernel_rfl
theorem sc74 : scB Tryz.prog 74 = true := by kernel_rfl
theorem ent53 : Ent Tryz.prog 53 := Ent.of Tryz.func53 (by kernel_rfl) (by kernel_rfl)
theorem ent154 : Ent Tryz.prog 154 := Ent.of Tryz.func154 (by kernel_rfl) (by kernel_rfl)
theorem ent107 : Ent Tryz.prog 107 := Ent.of Tryz.func107 (by kernel_rfl) (by kernel_rfl)
theorem c_plain (w : World) (v : JV) (us : List Value) (R : Reps [] w v.D us) : Calls Tryz.prog 106 [.agg us.toArray].toArray w (Ret fun u w' => u = .bool v.plain ∧ Mod [] w w') := by
 refine enter Tryz.func106 rfl rfl rfl (l := [(0, _)]) ⟨rfl, trivial⟩ ?_
 have E := Mod.refl [] w
 obtain ⟨al, cl, am, cm, rfl, Rl, Rm⟩ := JV.cells_ R
 refine Cq fun K1 hK1 => Cr (s_box rfl rfl rfl fun g1 w1 N1 => ?_)
 have Lg1_E := N1.le E
 replace E := E.then N1.mod
 have Bg1 := N1.blk
 refine Za rfl (Ln (e_K (hK1 _ _ _ _ (Cq fun K2 hK2 => Cr (Sv (oA0 fd25_0 rfl) (Sv (oL sc3 rfl (Bg1.cell rfl)) (Za rfl (Ln (e_K (hK2 _ _ _ _ (Cq fun K3 hK3 => Cr (Zm rfl (Sv (o_geq rfl rfl) ?_)))))))))))))
 refine bD (fun hge : v.kind ≥ 0 => ?_) (fun hge => ?_)
 ·refine tW 3 rfl ?_
  refine bD (fun hle : v.kind ≤ 5 => ?_) (fun hle => ?_)
  ·refine tW 4 rfl ?_
   refine bD (fun hk1 : v.kind = 1 => ?_) (fun hk1 => ?_)
   ·refine tW 9 rfl (bE (dF (by omega)) (Sg rfl rfl (oM rfl) (Sg rfl rfl (oA0 fd25_2 rfl) (Sg rfl rfl (oL sc3 rfl (Bg1.cell rfl)) (Sg rfl rfl (oE rfl rfl) ?_)))))
    refine bD (fun hnum : v.num = 0 => ?_) (fun hnum => ?_)
    ·refine tW 5 rfl (bE (dF (by omega)) (Sg rfl rfl (oM rfl) (Sg rfl rfl (oA0 fd25_3 rfl) (Sg rfl rfl (oL sc9 rfl (Bg1.cell rfl)) (Sg rfl rfl (o_seq rfl rfl) ?_)))))
     refine bD (fun hstr : v.str = [] => ?_) (fun hstr => ?_)
     ·refine tW 5 rfl (bE (dF (by omega)) (Sg rfl rfl (oM rfl) (Sg rfl rfl (oA0 fd25_4 rfl) (Sg rfl rfl (oL sc22 rfl (Bg1.cell rfl)) (Sg rfl rfl (o_len Tryz.underlying22 rfl) (Sg rfl rfl (oE rfl rfl) ?_))))))
      refine bD (fun hlist : (v.list.length : Int) = 0 => ?_) (fun hlist => ?_)
      ·refine tW 5 rfl (bE (dF (by omega)) (Sg rfl rfl (oM rfl) (Sg rfl rfl (oA0 fd25_5 rfl) (Sg rfl rfl (oL sc23 rfl (Bg1.cell rfl)) (Sg rfl rfl (o_len Tryz.underlying23 rfl) (Sg rfl rfl (oE rfl rfl) ?_))))))
       refine bD (fun hmap : (v.map.length : Int) = 0 => ?_) (fun hmap => ?_)
       ·exact tW 3 rfl (Ln (e_K (hK3 _ _ _ _ (cR (ret1 rfl rfl ⟨congrArg Value.bool (by simp only [JV.plain]; clear E R Rl Rm Bg1; simp_all <;> omega), E⟩)))))
       ·exact tW 3 rfl (Ln (e_K (hK3 _ _ _ _ (cR (ret1 rfl rfl ⟨congrArg Value.bool (by simp only [JV.plain]; clear E R Rl Rm Bg1; simp_all <;> omega), E⟩)))))
      ·exact tW 13 rfl (Ln (e_K (hK3 _ _ _ _ (cR (ret1 rfl rfl ⟨congrArg Value.bool (by simp only [JV.plain]; clear E R Rl Rm Bg1; simp_all <;> omega), E⟩)))))
     ·exact tW 23 rfl (Ln (e_K (hK3 _ _ _ _ (cR (ret1 rfl rfl ⟨congrArg Value.bool (by simp only [JV.plain]; clear E R Rl Rm Bg1; simp_all <;> omega), E⟩)))))
    ·exact tW 32 rfl (Ln (e_K (hK3 _ _ _ _ (cR (ret1 rfl rfl ⟨congrArg Value.bool (by simp only [JV.plain]; clear E R Rl Rm Bg1; simp_all <;> omega), E⟩)))))
   ·refine Sg rfl rfl (oM rfl) (Sg rfl rfl (oA0 fd25_1 rfl) (Sg rfl rfl (oL sc4 rfl (Bg1.cell rfl)) (Sg rfl rfl (o_not rfl) ?_)))
    refine bB (fun his : (!v.is) = true => ?_) (fun his => ?_)
    ·refine tW 5 rfl ?_
     refine bD (fun hk2 : v.kind = 2 => ?_) (fun hk2 => ?_)
     ·refine tW 9 rfl (bE (dF (by omega)) (Sg rfl rfl (oM rfl) (Sg rfl rfl (oA0 fd25_3 rfl) (Sg rfl rfl (oL sc9 rfl (Bg1.cell rfl)) (Sg rfl rfl (o_seq rfl rfl) ?_)))))
      refine bD (fun hstr : v.str = [] => ?_) (fun hstr => ?_)
      ·refine tW 5 rfl (bE (dF (by omega)) (Sg rfl rfl (oM rfl) (Sg rfl rfl (oA0 fd25_4 rfl) (Sg rfl rfl (oL sc22 rfl (Bg1.cell rfl)) (Sg rfl rfl (o_len Tryz.underlying22 rfl) (Sg rfl rfl (oE rfl rfl) ?_))))))
       refine bD (fun hlist : (v.list.length : Int) = 0 => ?_) (fun hlist => ?_)
       ·refine tW 5 rfl (bE (dF (by omega)) (Sg rfl rfl (oM rfl) (Sg rfl rfl (oA0 fd25_5 rfl) (Sg rfl rfl (oL sc23 rfl (Bg1.cell rfl)) (Sg rfl rfl (o_len Tryz.underlying23 rfl) (Sg rfl rfl (oE rfl rfl) ?_))))))
        refine bD (fun hmap : (v.map.length : Int) = 0 => ?_) (fun hmap => ?_)
        ·exact tW 3 rfl (Ln (e_K (hK3 _ _ _ _ (cR (ret1 rfl rfl ⟨congrArg Value.bool (by simp only [JV.plain]; clear E R Rl Rm Bg1; simp_all <;> omega), E⟩)))))
        ·exact tW 3 rfl (Ln (e_K (hK3 _ _ _ _ (cR (ret1 rfl rfl ⟨congrArg Value.bool (by simp only [JV.plain]; clear E R Rl Rm Bg1; simp_all <;> omega), E⟩)))))
       ·exact tW 13 rfl (Ln (e_K (hK3 _ _ _ _ (cR (ret1 rfl rfl ⟨congrArg Value.bool (by simp only [JV.plain]; clear E R Rl Rm Bg1; simp_all <;> omega), E⟩)))))
      ·exact tW 23 rfl (Ln (e_K (hK3 _ _ _ _ (cR (ret1 rfl rfl ⟨congrArg Value.bool (by simp only [JV.plain]; clear E R Rl Rm Bg1; simp_all <;> omega), E⟩)))))
     ·refine Sg rfl rfl (oM rfl) (Sg rfl rfl (oA0 fd25_2 rfl) (Sg rfl rfl (oL sc3 rfl (Bg1.cell rfl)) (Sg rfl rfl (oE rfl rfl) ?_)))
      refine bD (fun hnum : v.num = 0 => ?_) (fun hnum => ?_)
      ·refine tW 5 rfl ?_
       refine bD (fun hk3 : v.kind = 3 => ?_) (fun hk3 => ?_)
       ·refine tW 9 rfl (bE (dF (by omega)) (Sg rfl rfl (oM rfl) (Sg rfl rfl (oA0 fd25_4 rfl) (Sg rfl rfl (oL sc22 rfl (Bg1.cell rfl)) (Sg rfl rfl (o_len Tryz.underlying22 rfl) (Sg rfl rfl (oE rfl rfl) ?_))))))
        refine bD (fun hlist : (v.list.length : Int) = 0 => ?_) (fun hlist => ?_)
        ·refine tW 5 rfl (bE (dF (by omega)) (Sg rfl rfl (oM rfl) (Sg rfl rfl (oA0 fd25_5 rfl) (Sg rfl rfl (oL sc23 rfl (Bg1.cell rfl)) (Sg rfl rfl (o_len Tryz.underlying23 rfl) (Sg rfl rfl (oE rfl rfl) ?_))))))
         refine bD (fun hmap : (v.map.length : Int) = 0 => ?_) (fun hmap => ?_)
         ·exact tW 3 rfl (Ln (e_K (hK3 _ _ _ _ (cR (ret1 rfl rfl ⟨congrArg Value.bool (by simp only [JV.plain]; clear E R Rl Rm Bg1; simp_all <;> omega), E⟩)))))
         ·exact tW 3 rfl (Ln (e_K (hK3 _ _ _ _ (cR (ret1 rfl rfl ⟨congrArg Value.bool (by simp only [JV.plain]; clear E R Rl Rm Bg1; simp_all <;> omega), E⟩)))))
        ·exact tW 13 rfl (Ln (e_K (hK3 _ _ _ _ (cR (ret1 rfl rfl ⟨congrArg Value.bool (by simp only [JV.plain]; clear E R Rl Rm Bg1; simp_all <;> omega), E⟩)))))
       ·refine Sg rfl rfl (oM rfl) (Sg rfl rfl (oA0 fd25_3 rfl) (Sg rfl rfl (oL sc9 rfl (Bg1.cell rfl)) (Sg rfl rfl (o_seq rfl rfl) ?_)))
        refine bD (fun hstr : v.str = [] => ?_) (fun hstr => ?_)
        ·refine tW 5 rfl ?_
         refine bD (fun hk4 : v.kind = 4 => ?_) (fun hk4 => ?_)
         ·refine tW 10 rfl (bE (dF (by omega)) (Sg rfl rfl (oM rfl) (Sg rfl rfl (oA0 fd25_5 rfl) (Sg rfl rfl (oL sc23 rfl (Bg1.cell rfl)) (Sg rfl rfl (o_len Tryz.underlying23 rfl) (Sg rfl rfl (oE rfl rfl) ?_))))))
          refine bD (fun hmap : (v.map.length : Int) = 0 => ?_) (fun hmap => ?_)
          ·exact tW 3 rfl (Ln (e_K (hK3 _ _ _ _ (cR (ret1 rfl rfl ⟨congrArg Value.bool (by simp only [JV.plain]; clear E R Rl Rm Bg1; simp_all <;> omega), E⟩)))))
          ·exact tW 3 rfl (Ln (e_K (hK3 _ _ _ _ (cR (ret1 rfl rfl ⟨congrArg Value.bool (by simp only [JV.plain]; clear E R Rl Rm Bg1; simp_all <;> omega), E⟩)))))
         ·refine Sg rfl rfl (oM rfl) (Sg rfl rfl (oA0 fd25_4 rfl) (Sg rfl rfl (oL sc22 rfl (Bg1.cell rfl)) (Sg rfl rfl (o_len Tryz.underlying22 rfl) (Sg rfl rfl (oE rfl rfl) ?_))))
          refine bD (fun hlist : (v.list.length : Int) = 0 => ?_) (fun hlist => ?_)
          ·refine tW 5 rfl ?_
           refine bD (fun hk5 : v.kind = 5 => ?_) (fun hk5 => ?_)
           ·exact tW 8 rfl (Ln (e_K (hK3 _ _ _ _ (cR (ret1 rfl rfl ⟨congrArg Value.bool (by simp only [JV.plain]; clear E R Rl Rm Bg1; simp_all <;> omega), E⟩)))))
           ·refine Sg rfl rfl (oM rfl) (Sg rfl rfl (oA0 fd25_5 rfl) (Sg rfl rfl (oL sc23 rfl (Bg1.cell rfl)) (Sg rfl rfl (o_len Tryz.underlying23 rfl) (Sg rfl rfl (oE rfl rfl) ?_))))
            refine bD (fun hmap : (v.map.length : Int) = 0 => ?_) (fun hmap => ?_)
            ·exact tW 3 rfl (Ln (e_K (hK3 _ _ _ _ (cR (ret1 rfl rfl ⟨congrArg Value.bool (by simp only [JV.plain]; clear E R Rl Rm Bg1; simp_all <;> omega), E⟩)))))
            ·exact tW 3 rfl (Ln (e_K (hK3 _ _ _ _ (cR (ret1 rfl rfl ⟨congrArg Value.bool (by simp only [JV.plain]; clear E R Rl Rm Bg1; simp_all <;> omega), E⟩)))))
          ·exact tW 13 rfl (Ln (e_K (hK3 _ _ _ _ (cR (ret1 rfl rfl ⟨congrArg Value.bool (by simp only [JV.plain]; clear E R Rl Rm Bg1; simp_all <;> omega), E⟩)))))
        ·exact tW 23 rfl (Ln (e_K (hK3 _ _ _ _ (cR (ret1 rfl rfl ⟨congrArg Value.bool (by simp only [JV.plain]; clear E R Rl Rm Bg1; simp_all <;> omega), E⟩)))))
      ·exact tW 32 rfl (Ln (e_K (hK3 _ _ _ _ (cR (ret1 rfl rfl ⟨congrArg Value.bool (by simp only [JV.plain]; clear E R Rl Rm Bg1; simp_all <;> omega), E⟩)))))
    ·exact tW 41 rfl (Ln (e_K (hK3 _ _ _ _ (cR (ret1 rfl rfl ⟨congrArg Value.bool (by simp only [JV.plain]; clear E R Rl Rm Bg1; simp_all <;> omega), E⟩)))))
  ·exact tW 49 rfl (Ln (e_K (hK3 _ _ _ _ (cR (ret1 rfl rfl ⟨congrArg Value.bool (by simp only [JV.plain]; clear E R Rl Rm Bg1; simp_all <;> omega), E⟩)))))
 ·exact tW 52 rfl (Ln (e_K (hK3 _ _ _ _ (cR (ret1 rfl rfl ⟨congrArg Value.bool (by simp only [JV.plain]; clear E R Rl Rm Bg1; simp_all <;> omega), E⟩)))))

theorem c_fmtb0 (w : World) (x : Bool) : Calls Tryz.prog 152 [.bool x].toArray w (Ret fun u w' => u = S (if x then JV.tTrue else JV.tFalse) ∧ Mod [] w w') := by
 refine enter Tryz.func152 rfl rfl rfl (l := [(0, _)]) ⟨rfl, trivial⟩ ?_
 have E := Mod.refl [] w
 refine Cq fun K1 hK1 => Cr (Za rfl (Ln (e_K (hK1 _ _ _ _ (Cq fun K2 hK2 => Cq fun K3 hK3 => Cr (Zm rfl (Ln (e_K (hK3 _ _ _ _ ?_)))))))))
 refine c_cond rfl (fun h3 => ?_) (fun h3 => ?_)
 ·exact Cq fun K4 hK4 => Cr (Za rfl (Ln (e_K (hK4 _ _ _ _ (cR (eT (by simp) (ret1 rfl rfl ⟨by rw [h3]; rfl, E⟩)))))))
 ·exact cK (e_K (hK2 _ _ _ _ (Cq fun K5 hK5 => Cr (Za rfl (Ln (e_K (hK5 _ _ _ _ (cR (ret1 rfl rfl ⟨by rw [h3]; rfl, E⟩)))))))))

theorem c_fmtb (w : World) (x : Bool) : Calls Tryz.prog 108 [.bool x].toArray w (Ret fun u w' => u = S (if x then JV.tTrue else JV.tFalse) ∧ Mod [] w w') := by
 refine enter Tryz.func108 rfl rfl rfl (l := [(0, _)]) ⟨rfl, trivial⟩ ?_
 have E := Mod.refl [] w
 refine Cq fun K1 hK1 => Cr (Za rfl (Ln (e_K (hK1 _ _ _ _ (Cq fun K2 hK2 => Cr (Zm rfl (sc (oC ent152 rfl) (c_fmtb0 _ _) rfl fun v_ w1 h_ => ?_)))))))
 obtain ⟨rfl, E_⟩ := h_
 replace E := E.then E_
 exact Za rfl (Ln (e_K (hK2 _ _ _ _ (cR (ret1 rfl rfl ⟨rfl, E⟩)))))

theorem c_fail (w : World) (e : Int) : Calls Tryz.prog 53 [.int .i64 e].toArray w (WrF 110 e w) := by
 exact enter Tryz.func53 rfl rfl rfl (l := [(0, _)]) ⟨rfl, trivial⟩ (Cr (Zm rfl (Sv (o_build (cs := [_]) pl110 zv110 rfl rfl) (Sv (o_mki Tryz.underlying110 rfl rfl) (s_panic rfl (endp ⟨rfl, rfl⟩))))))

theorem c_wput (w : World) (g : Nat) (u : Value) (b : Str) (HB : WrB w g 76 u b) (t : Str) (ht : t.length ≤ 1000000) : Calls Tryz.prog 107 [.pointer (some ⟨g, 0, none⟩), S t].toArray w (WrP w g 76 110 u (lng (b ++ t))) := by
 refine enter Tryz.func107 rfl rfl rfl (l := [(0, _), (1, _)]) ⟨rfl, rfl, trivial⟩ (Cq fun K1 hK1 => ?_)
 have H := WrT.init HB
 refine Cr (tW 3 rfl (Sv (oA0 fd76_0 rfl) (Sv (oL sc74 rfl (H.wb.blk.cell rfl)) (Zm rfl (s_append sl74 rfl rfl H.wb.own (Src.str Tryz.underlying9 t) (by decide) (by have := H.wb.len; omega) (by have := H.wb.len; omega) rfl fun u1 w1 AA => ?_)))))
 have O1 : OwB w1 u1 (b ++ t) := AA.own.same (by simp) (by simp [cells_b8, B8])
 obtain ⟨ad1, c1, rfl, hc1, hc2⟩ := O1.form
 have B1 := H.wb.blk.mod AA.mod (fun hx => H.wb.ne _ hx rfl)
 refine Sv (o_nilc rfl) (Sv (oA0 fd76_0 rfl) (s_st sc74 B1 rfl rfl rfl (by simp) fun w2 PX => ?_))
 have BX := PX.blk
 have MX := H.app AA PX.mod
 refine Ln (e_K (hK1 _ _ _ _ (Cq fun K2 hK2 => Cr (tW 2 rfl (Sv (oA0 fd76_0 rfl) (Sv (oL sc74 rfl (BX.cell rfl)) (Sv (o_len Tryz.underlying74 rfl) (Sv (o_gtr rfl rfl) (Ln (e_K (hK2 _ _ _ _ ?_)))))))))))
 refine c_if rfl (fun h18 => ?_) (fun h18 => ?_)
 ·refine Cr ?_
  refine scp (oC ent53 rfl) (c_fail _ 3) rfl (fun w_ h_ => h_.elim) (fun c_ w3 h_ => ?_) fun v_ w3 h_ => ?_
  ·obtain ⟨rfl, rfl⟩ := h_
   exact endp ⟨3, if_pos (by omega), by decide, rfl, MX⟩
  ·exact h_.elim
 ·exact cK (end0R rfl ((H.app' AA O1 PX.mod BX (by omega)).fin (if_neg (by omega))))

theorem c_wtext (w : World) (g : Nat) (u : Value) (b : Str) (HB : WrB w g 76 u b) (s : Str) : Calls Tryz.prog 110 [.pointer (some ⟨g, 0, none⟩), S s].toArray w (WrP w g 76 110 u (txtW b s)) := by
 refine enter Tryz.func110 rfl rfl rfl (l := [(0, _), (1, _)]) ⟨rfl, rfl, trivial⟩ (Cq fun K1 hK1 => Cq fun K2 hK2 => ?_)
 have H := WrT.init HB
 refine Cr (Zm rfl (Sv (o_slen Tryz.underlying9 rfl) (Sv (o_gtr rfl rfl) (Ln (e_K (hK2 _ _ _ _ ?_))))))
 refine c_if rfl (fun h8 => ?_) (fun h8 => ?_)
 ·refine Cr ?_
  refine scp (oC ent53 rfl) (c_fail _ 3) rfl (fun w_ h_ => h_.elim) (fun c_ w1 h_ => ?_) fun v_ w1 h_ => ?_
  ·obtain ⟨rfl, rfl⟩ := h_
   exact eT (by simp) (endp (H.fail (if_pos (by omega))))
  ·exact h_.elim
 ·refine cK (e_K (hK1 _ _ _ _ (Cq fun K3 hK3 => Cr (Zm rfl (sc (oC ent154 rfl) (c_qput _ s (by omega)) rfl fun v_ w2 h_ => ?_)))))
  obtain ⟨rfl, E_⟩ := h_
  replace H := H.mod0 E_
  refine tW 5 rfl (Ln (e_K (hK3 _ _ _ _ (Cq fun K4 hK4 => Cq fun K5 hK5 => Cr (tW 2 rfl (Ln (e_K (hK5 _ _ _ _ ?_))))))))
  refine c_cond rfl (fun h16 => ?_) (fun h16 => ?_)
  ·have hv : validR s = false := by simpa using h16
   refine Cr ?_
   refine scp (oC ent53 rfl) (c_fail _ 1) rfl (fun w_ h_ => h_.elim) (fun c_ w3 h_ => ?_) fun v_ w3 h_ => ?_
   ·obtain ⟨rfl, rfl⟩ := h_
    exact eT (by simp) (endp (H.fail (by rw [txtW, if_neg (by omega), hv]; rfl)))
   ·exact h_.elim
  ·have hv : validR s = true := by simpa using h16
   refine cK (e_K (hK4 _ _ _ _ (Cr (tW 2 rfl ?_))))
   have hql := escs_len s
   have hqp : (putQ s).length = (escs s).length + 2 := by simp [putQ]
   rw [hv, if_pos rfl]
   refine scp (oC ent107 rfl) (c_wput _ _ _ _ H.wb (putQ s) (by omega)) rfl (fun w_ h_ => h_.elim) (fun c_ w4 h_ => ?_) fun v_ w4 h_ => ?_
   ·have hp := H.panic (r := txtW b s) h_ (fun e he => by rw [txtW, if_neg (by omega), hv]; exact he)
    exact endp hp
   obtain ⟨u1, b1, hb1, H1, hm1, ho1⟩ := H.ret h_
   replace H := H1
   exact Ln (end0R rfl (H.fin (r := txtW b s) (by rw [txtW, if_neg (by omega), hv]; exact hb1)))

theorem c_wcomma (w : World) (g : Nat) (u : Value) (b : Str) (HB : WrB w g 76 u b) (k : Nat) : Calls Tryz.prog 111 [.pointer (some ⟨g, 0, none⟩), .int .i64 (k : Int)].toArray w (WrP w g 76 110 u (if k = 0 then .ok b else lng (b ++ [44]))) := by
 refine enter Tryz.func111 rfl rfl rfl (l := [(0, _), (1, _)]) ⟨rfl, rfl, trivial⟩ (Cq fun K1 hK1 => ?_)
 have H := WrT.init HB
 refine Cr (tW 2 rfl (Ln (e_K (hK1 _ _ _ _ ?_))))
 refine c_if rfl (fun h5 => ?_) (fun h5 => ?_)
 ·skip
  refine Cr (Zm rfl ?_)
  refine scp (oC ent107 rfl) (c_wput _ _ _ _ H.wb [44] (by simp)) rfl (fun w_ h_ => h_.elim) (fun c_ w1 h_ => ?_) fun v_ w1 h_ => ?_
  ·have hp := H.panic (r := if k = 0 then .ok b else lng (b ++ [44])) h_ (fun e he => by rw [if_neg (by omega)]; exact he)
   exact endp hp
  obtain ⟨u1, b1, hb1, H1, hm1, ho1⟩ := H.ret h_
  replace H := H1
  exact Ln (end0R rfl (H.fin (by rw [if_neg (by omega)]; exact hb1)))
 ·skip
  exact cK (end0R rfl (H.fin (by rw [if_pos (by omega)])))
end Go.Proofs.YtknndpjacklkeaaGreatDoor.V

set_option linter.unusedVariables false
set_option linter.unusedSimpArgs false
namespace Go.Proofs.YtknndpjacklkeaaGreatDoor.V
open Go
section
variable {w w' : World} {g : Nat} {u u1 : Value} {ds : List D} {us : List Value} {A : List Nat}
theorem Reps.mod0 (R : Reps A w ds us) (k : Mod [] w w') : Reps A w' ds us := R.to0 k
theorem Reps.wstep (R : Reps (g :: ob u) w ds us) (k : Mod (g :: ob u) w w') (ho : ∀ x ∈ ob u1, x ∈ ob u ∨ w.heap.size ≤ x) : Reps (g :: ob u1) w' ds us :=
 Reps.to k (fun x hx => hx) (fun x hx => by
  rcases List.mem_cons.1 hx with rfl | h
  ·exact .inl (by simp)
  ·exact (ho x h).imp (fun h => by simp [h]) id) ds us R
end
theorem wl_c {l : List JV} {k deep : Nat} {x : JV} {b : Str} {W : Except Int Str} (hx : l[k]? = some x) (hinv : JV.wrl (l.drop k) deep (decide (k = 0)) b = W) :
  ((if k = 0 then Except.ok b else lng (b ++ [44])).bind fun b => (JV.wr x (deep + 1) b).bind fun b => JV.wrl (l.drop (k + 1)) deep (decide (k + 1 = 0)) b) = W := by
 rw [wrl_at hx] at hinv
 rw [show decide (k + 1 = 0) = false by simp, ← hinv]
 by_cases h : k = 0 <;> simp [h]
def riseK (m : List (Str × JV)) (k : Nat) (x : Str × JV) : Bool := match prevK m k with
 | none => true
 | some q => bl q x.1
theorem riseK_0 {m : List (Str × JV)} {k : Nat} {x : Str × JV} (h : k = 0) : riseK m k x = true := by subst h; rfl
theorem riseK_at {m : List (Str × JV)} {k : Nat} {x q : Str × JV} (hq : m[k - 1]? = some q) (h0 : 0 < k) : riseK m k x = bl q.1 x.1 := by
 unfold riseK prevK
 rw [if_neg (by omega), hq]
 rfl
theorem wm_c {m : List (Str × JV)} {k deep : Nat} {x : Str × JV} {b : Str} {W : Except Int Str} (hx : m[k]? = some x) (hinv : JV.wrm (m.drop k) deep (prevK m k) b = W) :
  ((if k = 0 then Except.ok b else lng (b ++ [44])).bind fun b => (if riseK m k x then Except.ok b else Except.error 1).bind fun b => (txtW b x.1).bind fun b => (lng (b ++ [58])).bind fun b => (JV.wr x.2 (deep + 1) b).bind fun b => JV.wrm (m.drop (k + 1)) deep (prevK m (k + 1)) b) = W := by
 by_cases h : k = 0
 ·rw [riseK_0 h, if_pos h]
  exact wrm_step0 hx h hinv
 ·obtain ⟨q, hq⟩ : ∃ q, m[k - 1]? = some q := ⟨_, List.getElem?_eq_getElem (by have := (List.getElem?_eq_some_iff.1 hx).1; omega)⟩
  have := wrm_step hx hq (by omega) hinv
  rw [riseK_at hq (by omega), if_neg h, ← this]
  cases lng (b ++ [44]) <;> rfl
theorem JV.bare_kind {v : JV} (h : v.bare = true) : 0 ≤ v.kind ∧ v.kind ≤ 5 := by
 unfold JV.bare at h
 simp only [Bool.and_eq_true, decide_eq_true_eq] at h
 omega
end Go.Proofs.YtknndpjacklkeaaGreatDoor.V
