/-
  A part of the proof: names with a sign; keys; kinds of bytes, as the document tells them; the document's names: its answers in the words of the walk; words of 32 bits, and bytes, as UInt32 and UInt8: each operation in their own words; the digest in plain Lean; blocks taken in, one behind the other; what stands behind the bytes; the digest's bytes; the digest of bytes; the reference's digest is the digest; slices of arrays; a slice's type changed in name alone; one byte of a slice of the call's own is written; letters that stand for bytes: their numbers, whether they stand for bytes, in plain Lean; states put together slot by slot; pairs in order; insertion; doubled neighbours left out; the pairs that every event needs; a slice that is read, as the source of an append, in every later world alike; a member's value written in place; members put one by one; what stays of a content, as the program and as the document tell it: the same; lists of texts that are built; strings the other way round; the pairs by which an event is allowed: the program's way and the document's way are the same; what Select and Right answer, in plain Lean; events that can be, in plain Lean; the text of what stays of a content is no longer than the content's; what stays, stays; a drawn region's operations that look at two or three slots of which something is known; its tail behind two such slots; a list of structs of the call's own that grows, each with memory of its own behind it; a list of structs of the call's own that grows, each with memory of its own behind it; Content, told arm by arm; the document's Content, told member by member; the laws of Content, last steps; what stays of a content is no longer than memory. No condition of its own.
-/
import Derived.Test.YtknndpjacklkeaaGreatDoorM5
import Derived.Test.YtknndpjacklkeaaGreatDoorM3
import Derived.Test.YtknndpjacklkeaaGreatDoorM4
import Derived.Test.YtknndpjacklkeaaGreatDoorM2
set_option linter.unusedVariables false
set_option linter.unusedSimpArgs false
set_option maxRecDepth 10000
namespace Go.Proofs.YtknndpjacklkeaaGreatDoor.V
open Go Go.Proofs
theorem ent225 : Ent Tryz.prog 225 := Ent.of Tryz.func225 (by kernel_rfl) (by kernel_rfl)
theorem c_aprn (w : World) (v : Value) (b : Str) (c : Nat) (O : OwB w v b) (h1 : c ≤ 1114111) (h2 : ¬ (55296 ≤ c ∧ c ≤ 57343)) (hb : b.length ≤ 1000000) (h0 : 128 ≤ c) : Calls Tryz.prog 225 [v, .int .i32 (c : Int)].toArray w (Ret fun u w' => OwB w' u (b ++ encB c) ∧ (∀ x ∈ ob u, x ∈ ob v ∨ w.heap.size ≤ x) ∧ Mod (ob v) w w') := by
 refine enter Tryz.func225 rfl rfl rfl (l := [(0, _), (1, _)]) ⟨rfl, rfl, trivial⟩ ?_
 have E := Mod.refl [] w
 refine Cq fun K1 hK1 => Cr (Za rfl (Ln (e_K (hK1 _ _ _ _ (Cq fun K2 hK2 => Cr (Zm rfl (Sv (o_cu32 Tryz.underlying21 Tryz.underlying147 rfl h1) (Za rfl (Ln (e_K (hK2 _ _ _ _ (cB (Cq fun K3 hK3 => ?_)))))))))))))
 refine Cr (tW 3 rfl (Ln (e_K (hK3 _ _ _ _ ?_))))
 refine c_if rfl (fun h11 => ?_) (fun h11 => ?_)
 ·refine Cq fun K4 hK4 => Cr (tW 2 rfl (Sv (o_shE 6 64 rfl rfl (by decide) (by decide)) (Sv (o_cv8 Tryz.underlying21 Tryz.underlying5 rfl) (Sv (o_o192 rfl rfl (by omega)) (Zm rfl (Sv (o_cv8 Tryz.underlying21 Tryz.underlying5 rfl) (Sv (o_a63 rfl rfl) (Sv (o_o128 rfl rfl) (s_bslice (cs := [_, _]) sl74 zv5 rfl rfl rfl (by decide) rfl fun g1 w1 N1 => ?_)))))))))
  have Lg1_E := N1.le E
  have Da0_g1 := N1.own_ne O
  replace E := E.then N1.mod
  replace O := O.mod0 N1.mod
  have Bg1 := N1.blk
  exact s_append sl74 rfl rfl O (Src.own Tryz.underlying74 (Own.all (c := 2) (cs := [_, _]) Bg1 rfl (by omega)) (by simp [Value.oneCell'])) (by decide) (by omega) (by omega) rfl fun u1 w2 AA => Za rfl (Ln (e_K (hK4 _ _ _ _ (cR (eI (by simp) (ret1 rfl rfl ⟨own_enc h1 AA.own (by rw [show encL c = [192 + c / 64, 128 + c % 64] by unfold encL; rw [if_neg (by omega), if_pos (by omega)]]; rfl) (by rw [show encL c = [192 + c / 64, 128 + c % 64] by unfold encL; rw [if_neg (by omega), if_pos (by omega)]]; rfl), fun x hx => (AA.ob_ x hx).imp id (Nat.le_trans E.size), (E.mono (by simp)).trans AA.mod⟩))))))
 ·refine Cq fun K5 hK5 => Cq fun K6 hK6 => Cr (tW 2 rfl ?_)
  refine bD (fun hs5_0 : (c : Int) < 55296 => ?_) (fun hs5_0 => ?_)
  ·refine Za rfl (Ln (e_K (hK6 _ _ _ _ (c_true rfl (cK (e_K (hK5 _ _ _ _ (c_true rfl (Cq fun K7 hK7 => Cr (tW 2 rfl (Sv (o_shE 12 4096 rfl rfl (by decide) (by decide)) (Sv (o_cv8 Tryz.underlying21 Tryz.underlying5 rfl) (Sv (o_o224 rfl rfl (by omega)) (Zm rfl ?_))))))))))))))
   refine Sv (o_shE 6 64 rfl rfl (by decide) (by decide)) (Sv (o_cv8 Tryz.underlying21 Tryz.underlying5 rfl) (Sv (o_a63 rfl rfl) (Sv (o_o128 rfl rfl) (Zm rfl (Sv (o_cv8 Tryz.underlying21 Tryz.underlying5 rfl) (Sv (o_a63 rfl rfl) (Sv (o_o128 rfl rfl) (s_bslice (cs := [_, _, _]) sl74 zv5 rfl rfl rfl (by decide) rfl fun g2 w3 N2 => ?_))))))))
   have Lg2_E := N2.le E
   have Da0_g2 := N2.own_ne O
   replace E := E.then N2.mod
   replace O := O.mod0 N2.mod
   have Bg2 := N2.blk
   exact s_append sl74 rfl rfl O (Src.own Tryz.underlying74 (Own.all (c := 3) (cs := [_, _, _]) Bg2 rfl (by omega)) (by simp [Value.oneCell'])) (by decide) (by omega) (by omega) rfl fun u1 w4 AA => Za rfl (Ln (e_K (hK7 _ _ _ _ (cR (eI (by simp) (ret1 rfl rfl ⟨own_enc h1 AA.own (by rw [show encL c = [224 + c / 4096, 128 + c / 64 % 64, 128 + c % 64] by unfold encL; rw [if_neg (by omega), if_neg (by omega), if_pos (by omega)]]; rfl) (by rw [show encL c = [224 + c / 4096, 128 + c / 64 % 64, 128 + c % 64] by unfold encL; rw [if_neg (by omega), if_neg (by omega), if_pos (by omega)]]; rfl), fun x hx => (AA.ob_ x hx).imp id (Nat.le_trans E.size), (E.mono (by simp)).trans AA.mod⟩))))))
  ·refine Za rfl (Ln (e_K (hK6 _ _ _ _ (c_false rfl (Cr (tW 2 rfl (bE (dT (show (57343 : Int) < (c : Int) by omega)) (tW 5 rfl (Ln (e_K (hK5 _ _ _ _ ?_)))))))))))
   refine c_if rfl (fun h25 => ?_) (fun h25 => ?_)
   ·refine Cq fun K8 hK8 => Cr (tW 2 rfl (Sv (o_shE 12 4096 rfl rfl (by decide) (by decide)) (Sv (o_cv8 Tryz.underlying21 Tryz.underlying5 rfl) (Sv (o_o224 rfl rfl (by omega)) (Zm rfl (Sv (o_shE 6 64 rfl rfl (by decide) (by decide)) (Sv (o_cv8 Tryz.underlying21 Tryz.underlying5 rfl) (Sv (o_a63 rfl rfl) (Sv (o_o128 rfl rfl) (Zm rfl (Sv (o_cv8 Tryz.underlying21 Tryz.underlying5 rfl) (Sv (o_a63 rfl rfl) ?_))))))))))))
    refine Sv (o_o128 rfl rfl) (s_bslice (cs := [_, _, _]) sl74 zv5 rfl rfl rfl (by decide) rfl fun g3 w5 N3 => ?_)
    have Lg3_E := N3.le E
    have Da0_g3 := N3.own_ne O
    replace E := E.then N3.mod
    replace O := O.mod0 N3.mod
    have Bg3 := N3.blk
    exact s_append sl74 rfl rfl O (Src.own Tryz.underlying74 (Own.all (c := 3) (cs := [_, _, _]) Bg3 rfl (by omega)) (by simp [Value.oneCell'])) (by decide) (by omega) (by omega) rfl fun u1 w6 AA => Za rfl (Ln (e_K (hK8 _ _ _ _ (cR (eI (by simp) (ret1 rfl rfl ⟨own_enc h1 AA.own (by rw [show encL c = [224 + c / 4096, 128 + c / 64 % 64, 128 + c % 64] by unfold encL; rw [if_neg (by omega), if_neg (by omega), if_pos (by omega)]]; rfl) (by rw [show encL c = [224 + c / 4096, 128 + c / 64 % 64, 128 + c % 64] by unfold encL; rw [if_neg (by omega), if_neg (by omega), if_pos (by omega)]]; rfl), fun x hx => (AA.ob_ x hx).imp id (Nat.le_trans E.size), (E.mono (by simp)).trans AA.mod⟩))))))
   ·refine Cq fun K9 hK9 => Cr (tW 2 rfl (bE (dT (show (65535 : Int) < (c : Int) by omega)) (tW 5 rfl (Ln (e_K (hK9 _ _ _ _ ?_))))))
    refine c_if rfl (fun h50 => ?_) (fun h50 => ?_)
    ·refine Cq fun K10 hK10 => Cr (tW 2 rfl (Sv (o_shE 18 262144 rfl rfl (by decide) (by decide)) (Sv (o_cv8 Tryz.underlying21 Tryz.underlying5 rfl) (Sv (o_o240 rfl rfl (by omega)) (Zm rfl (Sv (o_shE 12 4096 rfl rfl (by decide) (by decide)) (Sv (o_cv8 Tryz.underlying21 Tryz.underlying5 rfl) (Sv (o_a63 rfl rfl) (Sv (o_o128 rfl rfl) (Zm rfl (Sv (o_shE 6 64 rfl rfl (by decide) (by decide)) (Sv (o_cv8 Tryz.underlying21 Tryz.underlying5 rfl) ?_))))))))))))
     refine Sv (o_a63 rfl rfl) (Sv (o_o128 rfl rfl) (Zm rfl (Sv (o_cv8 Tryz.underlying21 Tryz.underlying5 rfl) (Sv (o_a63 rfl rfl) (Sv (o_o128 rfl rfl) (s_bslice (cs := [_, _, _, _]) sl74 zv5 rfl rfl rfl (by decide) rfl fun g4 w7 N4 => ?_))))))
     have Lg4_E := N4.le E
     have Da0_g4 := N4.own_ne O
     replace E := E.then N4.mod
     replace O := O.mod0 N4.mod
     have Bg4 := N4.blk
     exact s_append sl74 rfl rfl O (Src.own Tryz.underlying74 (Own.all (c := 4) (cs := [_, _, _, _]) Bg4 rfl (by omega)) (by simp [Value.oneCell'])) (by decide) (by omega) (by omega) rfl fun u1 w8 AA => Za rfl (Ln (e_K (hK10 _ _ _ _ (cR (eI (by simp) (ret1 rfl rfl ⟨own_enc h1 AA.own (by rw [show encL c = [240 + c / 262144, 128 + c / 4096 % 64, 128 + c / 64 % 64, 128 + c % 64] by unfold encL; rw [if_neg (by omega), if_neg (by omega), if_neg (by omega)]]; rfl) (by rw [show encL c = [240 + c / 262144, 128 + c / 4096 % 64, 128 + c / 64 % 64, 128 + c % 64] by unfold encL; rw [if_neg (by omega), if_neg (by omega), if_neg (by omega)]]; rfl), fun x hx => (AA.ob_ x hx).imp id (Nat.le_trans E.size), (E.mono (by simp)).trans AA.mod⟩))))))
    ·exact absurd (show (c : Int) ≤ 1114111 by omega) h50

theorem c_apr (w : World) (v : Value) (b : Str) (c : Nat) (O : OwB w v b) (h1 : c ≤ 1114111) (h2 : ¬ (55296 ≤ c ∧ c ≤ 57343)) (hb : b.length ≤ 1000000) : Calls Tryz.prog 189 [v, .int .i32 (c : Int)].toArray w (Ret fun u w' => OwB w' u (b ++ encB c) ∧ (∀ x ∈ ob u, x ∈ ob v ∨ w.heap.size ≤ x) ∧ Mod (ob v) w w') := by
 refine enter Tryz.func189 rfl rfl rfl (l := [(0, _), (1, _)]) ⟨rfl, rfl, trivial⟩ ?_
 have E := Mod.refl [] w
 refine Cq fun K1 hK1 => Cr (Za rfl (Ln (e_K (hK1 _ _ _ _ (Cq fun K2 hK2 => Cq fun K3 hK3 => Cr (Zm rfl (Sv (o_cu32 Tryz.underlying21 Tryz.underlying147 rfl h1) (Sv (o_leq rfl rfl) (Ln (e_K (hK3 _ _ _ _ ?_)))))))))))
 refine c_if rfl (fun h7 => ?_) (fun h7 => ?_)
 ·refine Cq fun K4 hK4 => Cr (tW 2 rfl (Sv (o_cv8 Tryz.underlying21 Tryz.underlying5 rfl) (s_bslice (cs := [_]) sl74 zv5 rfl rfl rfl (by decide) rfl fun g1 w1 N1 => ?_)))
  have Lg1_E := N1.le E
  have Da0_g1 := N1.own_ne O
  replace E := E.then N1.mod
  replace O := O.mod0 N1.mod
  have Bg1 := N1.blk
  exact s_append sl74 rfl rfl O (Src.own Tryz.underlying74 (Own.all (c := 1) (cs := [_]) Bg1 rfl (by omega)) (by simp [Value.oneCell'])) (by decide) (by omega) (by omega) rfl fun u1 w2 AA => Za rfl (Ln (e_K (hK4 _ _ _ _ (cR (eT (by simp) (ret1 rfl rfl ⟨own_enc h1 AA.own (by rw [show encL c = [c] by unfold encL; rw [if_pos (by omega)]]; rfl) (by rw [show encL c = [c] by unfold encL; rw [if_pos (by omega)], show c % 256 = c by omega]; rfl), fun x hx => (AA.ob_ x hx).imp id (Nat.le_trans E.size), (E.mono (by simp)).trans AA.mod⟩))))))
 ·refine cK (e_K (hK2 _ _ _ _ (Cq fun K5 hK5 => Cr (tW 2 rfl (sc (oC ent225 rfl) (c_aprn _ v b c O h1 h2 hb (by omega)) rfl fun v_ w3 h_ => ?_)))))
  obtain ⟨hO1, hob1, hm1⟩ := h_
  exact Za rfl (Ln (e_K (hK5 _ _ _ _ (cR (ret1 rfl rfl ⟨hO1, fun x hx => (hob1 x hx).imp id (Nat.le_trans E.size), (E.mono (by simp)).trans hm1⟩)))))
end Go.Proofs.YtknndpjacklkeaaGreatDoor.V

set_option linter.unusedVariables false
set_option linter.unusedSimpArgs false
set_option maxRecDepth 10000
namespace Go.Proofs.YtknndpjacklkeaaGreatDoor.V
open Go Go.Proofs
theorem ent189 : Ent Tryz.prog 189 := Ent.of Tryz.func189 (by kernel_rfl) (by kernel_rfl)
end Go.Proofs.YtknndpjacklkeaaGreatDoor.V

set_option linter.unusedVariables false
set_option linter.unusedSimpArgs false
set_option maxRecDepth 10000
namespace Go.Proofs.YtknndpjacklkeaaGreatDoor.V
open Go Go.Proofs
theorem ent228 : Ent Tryz.prog 228 := Ent.of Tryz.func228 (by kernel_rfl) (by kernel_rfl)
theorem ent100 : Ent Tryz.prog 100 := Ent.of Tryz.func100 (by kernel_rfl) (by kernel_rfl)
theorem ent194 : Ent Tryz.prog 194 := Ent.of Tryz.func194 (by kernel_rfl) (by kernel_rfl)
theorem c_validr (w : World) (c : Nat) (h1 : c ≤ 1114111) (h2 : ¬ (55296 ≤ c ∧ c ≤ 57343)) : Calls Tryz.prog 228 [.int .i32 (c : Int)].toArray w (Ret fun u w' => u = .bool true ∧ Mod [] w w') := by
 refine enter Tryz.func228 rfl rfl rfl (l := [(0, _)]) ⟨rfl, trivial⟩ ?_
 have E := Mod.refl [] w
 have hc0 : (0 : Int) ≤ (c : Int) := by omega
 refine Cq fun K1 hK1 => Cr (Za rfl (Ln (e_K (hK1 _ _ _ _ (Cq fun K2 hK2 => cB (Cq fun K3 hK3 => Cr (tW 2 rfl (bE (dT hc0) (tW 5 rfl (Ln (e_K (hK3 _ _ _ _ ?_))))))))))))
 refine c_if rfl (fun h3 => ?_) (fun h3 => ?_)
 ·exact Cq fun K4 hK4 => Cr (Za rfl (Ln (e_K (hK4 _ _ _ _ (cR (eI (by simp) (eT (by simp) (ret1 rfl rfl ⟨rfl, E⟩))))))))
 ·have hgt : (57343 : Int) < (c : Int) := by omega
  have hle : (c : Int) ≤ 1114111 := by omega
  refine Cq fun K5 hK5 => Cr (tW 2 rfl (bE (dT hgt) (tW 3 rfl (bE (dT hle) (tW 2 rfl (Ln (e_K (hK5 _ _ _ _ (c_true rfl (Cq fun K6 hK6 => Cr (Za rfl (Ln ?_))))))))))))
  exact e_K (hK6 _ _ _ _ (cR (eI (by simp) (eT (by simp) (ret1 rfl rfl ⟨rfl, E⟩)))))

theorem c_irune_hi (w : World) (s : Str) (c : Nat) (hs : ∀ x ∈ s, x.toNat < 128) (hl : 4 ≤ s.length) (hl2 : s.length ≤ 1000) (h1 : c ≤ 1114111) (h2 : ¬ (55296 ≤ c ∧ c ≤ 57343)) (h : 128 ≤ c) : Calls Tryz.prog 194 [S s, .int .i32 (c : Int)].toArray w (Ret fun u w' => u = .int .i64 (-1) ∧ Mod [] w w') := by
 refine enter Tryz.func194 rfl rfl rfl (l := [(0, _), (1, _)]) ⟨rfl, rfl, trivial⟩ ?_
 have E := Mod.refl [] w
 have hc0 : (0 : Int) ≤ (c : Int) := by omega
 have hc1 : ¬ (c : Int) < 128 := by omega
 obtain ⟨rs, hrs, hr2, hr4, bL, hbL, hbL2⟩ := enc_last h1 h2 h
 obtain ⟨b1, hb1⟩ : ∃ b1, s[rs.length - 1]? = some b1 := ⟨_, List.getElem?_eq_getElem (by omega)⟩
 have hb1s := hs b1 (List.mem_of_getElem? hb1)
 have hib : Lib.indexByte (s.drop (rs.length - 1 + 1)) bL = -1 := indexByte_none (fun x hx => hs x (List.mem_of_mem_drop hx)) hbL2
 refine Cq fun K1 hK1 => Cr (Za rfl (Ln (e_K (hK1 _ _ _ _ (cB (Cq fun K2 hK2 => Cr (tW 2 rfl (bE (dT hc0) (tW 3 rfl (bE (dF hc1) (tW 2 rfl (Ln ?_))))))))))))
 refine e_K (hK2 _ _ _ _ (c_false rfl (Cq fun K3 hK3 => Cr (tW 3 rfl (Ln (e_K (hK3 _ _ _ _ ?_)))))))
 refine c_if rfl (fun h171 => ?_) (fun h171 => ?_)
 ·refine Cq fun K4 hK4 => Cq fun K5 hK5 => Cr (Zm rfl (s_range Tryz.underlying9 rfl rfl fun gi w1 IT hgi EI => ?_))
  have Lgi : w.heap.size ≤ gi := by have := E.size; omega
  replace E := E.then EI
  refine Ln (e_K (hK5 _ _ _ _ (cB (c_loop (σ := Nat) (fun p => [(0, S s), (1, .int .i32 (c : Int)), (175, .pointer (some ⟨gi, 0, none⟩))]) (fun p w1 => p ≤ s.length ∧ It w1 gi s p ∧ Mod [] w w1) (fun p => s.length - p) (0) ⟨rfl, rfl, rfl, trivial⟩ (⟨by omega, IT, E⟩) ?_))))
  rintro p w2 ⟨hp, IT, E⟩
  refine Cq fun K6 hK6 => ?_
  by_cases hplt : p < s.length
  ·obtain ⟨b, hb⟩ : ∃ b, s[p]? = some b := ⟨_, List.getElem?_eq_getElem hplt⟩
   have hbs := hs b (List.mem_of_getElem? hb)
   refine Cr (s_next rfl IT hplt (dec_lt hb hbs) rfl fun w3 IT2 EN hzN => ?_)
   replace E := E.trans' EN (fun x hx => .inr (by simp at hx; subst hx; exact Lgi))
   clear IT
   have IT := IT2
   refine Sv (o_ext rfl rfl) (Ln (e_K (hK6 _ _ _ _ (Cq fun K7 hK7 => ?_))))
   refine c_cond rfl (fun h177 => ?_) (fun h177 => ?_)
   ·skip
    refine cK (e_K (hK7 _ _ _ _ (cB (Cq fun K8 hK8 => Cr (tW 4 rfl (Ln (e_K (hK8 _ _ _ _ (Cq fun K9 hK9 => Cr (tW 2 rfl (Ln (e_K (hK9 _ _ _ _ ?_)))))))))))))
    refine c_if rfl (fun h181 => ?_) (fun h181 => ?_)
    ·exact absurd h181 (by omega)
    ·exact cK (eI (by simp) (eR (σ := Nat) (s := p) (p + 1) ⟨rfl, rfl, rfl, trivial⟩ ⟨by omega, IT, E⟩ (by omega)))
   ·cases h177
  ·have hs_end := hplt
   refine Cr (s_next_end rfl IT hs_end rfl (Sv (o_ext rfl rfl) (Ln (e_K (hK6 _ _ _ _ (Cq fun K10 hK10 => ?_))))))
   refine c_cond rfl (fun h177 => ?_) (fun h177 => ?_)
   ·cases h177
   ·skip
    exact c_exit (eT (by simp) (eT (by simp) (e_hit (e_K (hK4 _ _ _ _ (Cq fun K11 hK11 => Cr (Za rfl (Ln (e_K (hK11 _ _ _ _ (cR (eI (by simp) (ret1 rfl rfl ⟨rfl, E⟩)))))))))))))
 ·refine Cq fun K12 hK12 => Cr (Zm rfl (sc (oC ent228 rfl) (c_validr _ c h1 h2) rfl fun v_ w4 h_ => ?_))
  obtain ⟨rfl, E_⟩ := h_
  replace E := E.then E_
  refine tW 2 rfl (Ln (e_K (hK12 _ _ _ _ ?_)))
  refine c_cond rfl (fun h183 => ?_) (fun h183 => ?_)
  ·cases h183
  ·refine c_scope (Cq fun K13 hK13 => Cr (Zm rfl (Sv ((o_r2s Tryz.underlying21 Tryz.underlying9 rfl).to (v' := S rs) (by rw [hrs])) (Za rfl (Ln (e_K (hK13 _ _ _ _ (Cq fun K14 hK14 => Cr (Zm rfl (Sv (o_slen Tryz.underlying9 rfl) (Sv (o_subE (r := ((rs.length - 1 : Nat) : Int)) rfl rfl (by rw [wrap64_in _ (by omega)]; omega)) (Za rfl ?_))))))))))))
   refine Ln (e_K (hK14 _ _ _ _ (Cq fun K15 hK15 => Cr (tW 2 rfl (Ln (e_K (hK15 _ _ _ _ (Cq fun K16 hK16 => Cr (Za rfl (Ln (e_K (hK16 _ _ _ _ (Cq fun K17 hK17 => cB ?_)))))))))))))
   refine c_loop (σ := Unit) (fun _ => [(0, S s), (7, S rs), (8, .int .i64 ((rs.length - 1 : Nat) : Int)), (9, .int .i64 ((rs.length - 1 : Nat) : Int))]) (fun _ w1 => Mod [] w w1) (fun _ => 0) (()) ⟨rfl, rfl, rfl, rfl, trivial⟩ (E) ?_
   rintro _ w5 E
   refine Cq fun K18 hK18 => Cq fun K19 hK19 => Cr (tW 2 rfl (Sv (o_slen Tryz.underlying9 rfl) (Sv (o_lss rfl rfl) (Ln (e_K (hK19 _ _ _ _ ?_))))))
   refine c_if rfl (fun h26 => ?_) (fun h26 => ?_)
   ·refine cK (e_K (hK18 _ _ _ _ (cB (c_scope (Cq fun K20 hK20 => Cq fun K21 hK21 => c_draw wide (by kernel_rfl) (tU 2 rfl rfl (tv (fun w_ E_ => (o_sidx Tryz.underlying9 rfl rfl (by omega) (by rw [Int.toNat_natCast]; exact hb1))) rfl rfl (tU 2 rfl rfl (tv (fun w_ E_ => (o_sidx Tryz.underlying9 rfl rfl (by omega) (by rw [Int.toNat_natCast]; exact hbL))) rfl rfl (tv (fun w_ E_ => (o_neq rfl rfl)) rfl rfl (tw_nil rfl fun w6 E_ => ?_)))))))))))
    replace E := E.then E_
    refine e_K (hK21 _ _ _ _ ?_)
    refine c_if rfl (fun h33 => ?_) (fun h33 => ?_)
    ·refine Cq fun K22 hK22 => c_draw wide (by kernel_rfl) (tU 2 rfl rfl (tv (fun w_ E_ => (o_addE (r := ((rs.length - 1 + 1 : Nat) : Int)) rfl rfl (by rw [wrap64_in _ (by omega)]; omega))) rfl rfl (tv (fun w_ E_ => (o_ssfrom Tryz.underlying9 rfl rfl (by omega))) rfl rfl (tU 2 rfl rfl (tv (fun w_ E_ => (o_sidx Tryz.underlying9 rfl rfl (by omega) (by rw [Int.toNat_natCast]; exact hbL))) rfl rfl (tc (fun w_ E_ => oC ent100 rfl) (fun w_ E_ => c_ib _ (s.drop (rs.length - 1 + 1)) bL) rfl rfl (tv (fun w_ E_ => (o_as rfl)) rfl rfl (tw_nil rfl fun w7 E_ => ?_))))))))
     replace E := E.then E_
     refine e_K (hK22 _ _ _ _ (Cq fun K23 hK23 => Cq fun K24 hK24 => Cr (tW 2 rfl (Ln (e_K (hK24 _ _ _ _ ?_))))))
     refine c_if rfl (fun h43 => ?_) (fun h43 => ?_)
     ·refine Cq fun K25 hK25 => Cr (Za rfl (Ln (e_K (hK25 _ _ _ _ (cR (eT (by simp) (eT (by simp) (e_scope (by simp) (eI (by simp) (eT (by simp) (eI (by simp) (eT (by simp) (e_scope (by simp) ?_)))))))))))))
      exact eI (by simp) (ret1 rfl rfl ⟨rfl, E⟩)
     ·exact absurd (by rw [hib]; decide) h43
    ·exact absurd (by omega) h33
   ·exact absurd (by omega) h26

end Go.Proofs.YtknndpjacklkeaaGreatDoor.V

set_option linter.unusedVariables false
set_option linter.unusedSimpArgs false
namespace Go.Proofs.YtknndpjacklkeaaGreatDoor.V
open Go
/-! ### the document's kinds -/
end Go.Proofs.YtknndpjacklkeaaGreatDoor.V

set_option linter.unusedVariables false
set_option linter.unusedSimpArgs false
namespace Go.Proofs.YtknndpjacklkeaaGreatDoor.V
open Go
section
variable {P : Program} {l : List (Nat × Value)} {w : World} {ty : TypeId} {pos : String} {af : Array Edge} {dd : Option Nat} {gg : Option (Nat × Bool)} {x y z hi : Operand} {t : TypeId}
end
end Go.Proofs.YtknndpjacklkeaaGreatDoor.V

set_option linter.unusedVariables false
set_option linter.unusedSimpArgs false
namespace Go.Proofs.YtknndpjacklkeaaGreatDoor.V
open Go
def W4 (x : UInt32) : Value := .int .u32 x.toNat
section
variable {P : Program} {l : List (Nat × Value)} {w : World} {ty : TypeId} {pos : String} {af : Array Edge}
variable {dd : Option Nat} {gg : Option (Nat × Bool)} {x y : Operand} {t t' t'' : TypeId} {a b : UInt32}
end
end Go.Proofs.YtknndpjacklkeaaGreatDoor.V

set_option linter.unusedVariables false
set_option linter.unusedSimpArgs false
namespace Go.Proofs.YtknndpjacklkeaaGreatDoor.V
open Go
abbrev bcells (c : UInt8) : List Value := [B8 c]
abbrev byD (b : List UInt8) : D := flat 1 bcells b
abbrev wcells (x : UInt32) : List Value := [W4 x]
abbrev woD (b : List UInt32) : D := flat 1 wcells b
def rr (x : UInt32) (k : Nat) : UInt32 := x >>> UInt32.ofNat k ||| x <<< UInt32.ofNat (32 - k)
def wordOf (b : List UInt8) : UInt32 := b.foldl (fun n c => n <<< UInt32.ofNat 8 ||| c.toUInt32) 0
structure S8 where
 a : UInt32
 b : UInt32
 c : UInt32
 d : UInt32
 e : UInt32
 f : UInt32
 g : UInt32
 h : UInt32
abbrev S8.cells (s : S8) : List Value := [W4 s.a, W4 s.b, W4 s.c, W4 s.d, W4 s.e, W4 s.f, W4 s.g, W4 s.h]
def numsK : List UInt32 := [
 0x428a2f98, 0x71374491, 0xb5c0fbcf, 0xe9b5dba5, 0x3956c25b, 0x59f111f1, 0x923f82a4, 0xab1c5ed5,
 0xd807aa98, 0x12835b01, 0x243185be, 0x550c7dc3, 0x72be5d74, 0x80deb1fe, 0x9bdc06a7, 0xc19bf174,
 0xe49b69c1, 0xefbe4786, 0x0fc19dc6, 0x240ca1cc, 0x2de92c6f, 0x4a7484aa, 0x5cb0a9dc, 0x76f988da,
 0x983e5152, 0xa831c66d, 0xb00327c8, 0xbf597fc7, 0xc6e00bf3, 0xd5a79147, 0x06ca6351, 0x14292967,
 0x27b70a85, 0x2e1b2138, 0x4d2c6dfc, 0x53380d13, 0x650a7354, 0x766a0abb, 0x81c2c92e, 0x92722c85,
 0xa2bfe8a1, 0xa81a664b, 0xc24b8b70, 0xc76c51a3, 0xd192e819, 0xd6990624, 0xf40e3585, 0x106aa070,
 0x19a4c116, 0x1e376c08, 0x2748774c, 0x34b0bcb5, 0x391c0cb3, 0x4ed8aa4a, 0x5b9cca4f, 0x682e6ff3,
 0x748f82ee, 0x78a5636f, 0x84c87814, 0x8cc70208, 0x90befffa, 0xa4506ceb, 0xbef9a3f7, 0xc67178f2]
def sg0 (x : UInt32) : UInt32 := rr x 7 ^^^ rr x 18 ^^^ x >>> UInt32.ofNat 3
def sg1 (y : UInt32) : UInt32 := rr y 17 ^^^ rr y 19 ^^^ y >>> UInt32.ofNat 10
def at32 (w : List UInt32) (i : Nat) : UInt32 := w.getD i 0
def nextW (w : List UInt32) (i : Nat) : UInt32 := at32 w (i - 16) + sg0 (at32 w (i - 15)) + at32 w (i - 7) + sg1 (at32 w (i - 2))
def sch (b : List UInt8) : Nat → List UInt32
 | 0 => []
 | i + 1 => sch b i ++ [if i < 16 then wordOf ((b.drop (4 * i)).take 4) else nextW (sch b i) i]
def rndT (k w : UInt32) (s : S8) : UInt32 := s.h + (rr s.e 6 ^^^ rr s.e 11 ^^^ rr s.e 25) + (s.e &&& s.f ^^^ ~~~s.e &&& s.g) + k + w
def rndU (s : S8) : UInt32 := rr s.a 2 ^^^ rr s.a 13 ^^^ rr s.a 22
def rndV (s : S8) : UInt32 := s.a &&& s.b ^^^ s.a &&& s.c ^^^ s.b &&& s.c
def rnd (k w : UInt32) (s : S8) : S8 := ⟨rndT k w s + (rndU s + rndV s), s.a, s.b, s.c, s.d + rndT k w s, s.e, s.f, s.g⟩
def rnds (ks ws : List UInt32) (s : S8) : Nat → S8
 | 0 => s
 | i + 1 => rnd (at32 ks i) (at32 ws i) (rnds ks ws s i)
def S8.add (s t : S8) : S8 := ⟨s.a + t.a, s.b + t.b, s.c + t.c, s.d + t.d, s.e + t.e, s.f + t.f, s.g + t.g, s.h + t.h⟩
def comp (s : S8) (b : List UInt8) : S8 := s.add (rnds numsK (sch b 64) s 64)
abbrev S8.list (s : S8) : List UInt32 := [s.a, s.b, s.c, s.d, s.e, s.f, s.g, s.h]
theorem words_one {xs : List UInt32} : ∀ x ∈ xs, ∀ c ∈ wcells x, c.oneCell' = true := by
 intro x _ c hc
 simp at hc
 subst hc
 rfl
theorem Own.words {w : World} {e n : Nat} {v : Value} {xs : List UInt32} (h : Own w e 1 v n ((xs.map wcells).flatten)) (hn : xs.length = n) : Rep [] w (woD xs) v := Own.flat h (fun _ _ => rfl) words_one hn (by simp)
theorem Blk.c1 {w : World} {g T i : Nat} {cs : List Value} {v : Value} (h : Blk w g T cs) (hi : cs[i]? = some v) : w.cell? ⟨g, 0 + i * 1, none⟩ = some v := by
 rw [Nat.zero_add, Nat.mul_one]
 exact h.cell hi
theorem Cs.c1 {w : World} {g i : Nat} {cs : List Value} {v : Value} (h : Cs w ⟨g, 0, none⟩ cs) (hi : cs[i]? = some v) : w.cell? ⟨g, 0 + i * 1, none⟩ = some v := by
 have := h i v hi
 rw [Addr.add_lit] at this
 rw [Nat.mul_one]
 exact this
section
variable {P : Program} {ops : Array Oper} {Q : Exit → Act → World → Prop} {n : Nat} {ds : List Deferred} {l : List (Nat × Value)} {w w' : World}
variable {rest : List Oper} {ty : TypeId} {pos : String} {af : Array Edge} {x y : Operand} {t : TypeId}
end
end Go.Proofs.YtknndpjacklkeaaGreatDoor.V

set_option linter.unusedVariables false
set_option linter.unusedSimpArgs false
namespace Go.Proofs.YtknndpjacklkeaaGreatDoor.V
open Go
theorem bytes_one {b : List UInt8} : ∀ x ∈ b, ∀ c ∈ bcells x, c.oneCell' = true := by
 intro x _ c hc
 simp at hc
 subst hc
 rfl
theorem Own.byts {w : World} {e n : Nat} {v : Value} {b : List UInt8} (A : List Nat) (h : Own w e 1 v n ((b.map bcells).flatten)) (hn : b.length = n) (hA : ∀ x ∈ ob v, x ∉ A) : Rep A w (byD b) v := Own.flat h (fun _ _ => rfl) bytes_one hn hA
theorem Own.as {w : World} {e sz m n : Nat} {v : Value} {us vs : List Value} (h : Own w e sz v n vs) (hm : n = m) (hv : vs = us) : Own w e sz v m us := by
 subst hm; subst hv; exact h
end Go.Proofs.YtknndpjacklkeaaGreatDoor.V

set_option linter.unusedVariables false
set_option linter.unusedSimpArgs false
namespace Go.Proofs.YtknndpjacklkeaaGreatDoor.V
open Go
def wb (x : UInt32) (j : Nat) : UInt8 := (x >>> UInt32.ofNat (8 * j)).toUInt8
end Go.Proofs.YtknndpjacklkeaaGreatDoor.V

set_option linter.unusedVariables false
set_option linter.unusedSimpArgs false
namespace Go.Proofs.YtknndpjacklkeaaGreatDoor.V
open Go
end Go.Proofs.YtknndpjacklkeaaGreatDoor.V

set_option linter.unusedVariables false
set_option linter.unusedSimpArgs false
namespace Go.Proofs.YtknndpjacklkeaaGreatDoor.V
open Go
section
variable {P : Program} {l : List (Nat × Value)} {w : World} {ty : TypeId} {pos : String} {af : Array Edge}
variable {dd : Option Nat} {gg : Option (Nat × Bool)} {x y : Operand} {t : TypeId}
end
theorem Own.block {w : World} {e c i : Nat} {ad : Option Addr} {t : List UInt8} (h : Own w e 1 (.slice ad t.length c) t.length ((t.map bcells).flatten)) (hi : 64 * i + 64 ≤ t.length) : Rep [] w (byD ((t.drop (64 * i)).take 64)) (.slice (adS ad c (64 * i) 1) (64 * i + 64 - 64 * i) (c - 64 * i)) := by
 have h1 := h.cut (lo := 64 * i) (hi := 64 * i + 64) (by omega) hi
 have h2 := flat_drop_ (cells := bcells) (sz := 1) (xs := t) (fun _ => rfl) (64 * i)
 have h3 := flat_take_ (cells := bcells) (sz := 1) (xs := t.drop (64 * i)) (fun _ => rfl) (64 * i + 64 - 64 * i)
 rw [h2, h3] at h1
 have h4 : 64 * i + 64 - 64 * i = 64 := by omega
 rw [h4] at h1 ⊢
 exact Own.byts [] h1 (by rw [List.length_take, List.length_drop]; omega) (by simp)
end Go.Proofs.YtknndpjacklkeaaGreatDoor.V

set_option linter.unusedVariables false
set_option linter.unusedSimpArgs false
namespace Go.Proofs.YtknndpjacklkeaaGreatDoor.V
open Go
section
variable {P : Program} {l : List (Nat × Value)} {w : World} {ty : TypeId} {pos : String} {af : Array Edge}
variable {dd : Option Nat} {gg : Option (Nat × Bool)} {x y : Operand} {t t' : TypeId}
variable {ops : Array Oper} {Q : Exit → Act → World → Prop} {n : Nat} {ds : List Deferred} {rest : List Oper} {d : Nat}
end
end Go.Proofs.YtknndpjacklkeaaGreatDoor.V

set_option linter.unusedVariables false
set_option linter.unusedSimpArgs false
namespace Go.Proofs.YtknndpjacklkeaaGreatDoor.V
open Go
section
variable {P : Program} {ops : Array Oper} {Q : Exit → Act → World → Prop} {n : Nat} {ds : List Deferred} {l : List (Nat × Value)} {w w' : World}
variable {rest : List Oper} {ty : TypeId} {pos : String} {af : Array Edge} {x y : Operand}
end
end Go.Proofs.YtknndpjacklkeaaGreatDoor.V

set_option linter.unusedVariables false
set_option linter.unusedSimpArgs false
namespace Go.Proofs.YtknndpjacklkeaaGreatDoor.V
open Go
def l62 (url : Bool) (c : Nat) : Bool := (decide ((c : Int) = 43) && !url) || (decide ((c : Int) = 45) && url)
def l63 (url : Bool) (c : Nat) : Bool := (decide ((c : Int) = 47) && !url) || (decide ((c : Int) = 95) && url)
def lv (url : Bool) (c : Nat) : Option Nat :=
 if kG c = true then some (c - 65) else if kS c = true then some (c - 97 + 26) else if kD c = true then some (c - 48 + 52) else if l62 url c = true then some 62 else if l63 url c = true then some 63 else none
def pw6 (k : Nat) : Nat := if k % 4 = 0 then 1 else if k % 4 = 1 then 64 else if k % 4 = 2 then 16 else 4
def rest (url : Bool) (s : Str) (k : Nat) : Nat := match k with
 | 0 => 0
 | k + 1 => ((lv url ((s.getD k 0).toNat)).getD 0) % pw6 (k + 1)
def decOK (url : Bool) (s : Str) : Bool := s.all (fun b => (lv url b.toNat).isSome) && !decide (((6 * s.length % 8 : Nat) : Int) ≥ 6) && !decide ((rest url s s.length : Int) ≠ 0)
/-! ### the words -/
def DecR (w w' : World) (url : Bool) (s : Str) (u : Value) : Prop := ∃ v bs o, u = .tuple #[v, .bool o] ∧ o = decOK url s ∧ OwB w' v bs ∧ bs.length = (if decOK url s = true then s.length * 6 / 8 else 0) ∧ ∀ x ∈ ob v, w.heap.size ≤ x
theorem DecR.no {w w' : World} {url : Bool} {s : Str} (h : decOK url s = false) : DecR w w' url s (.tuple #[.slice none 0 0, .bool false]) := ⟨_, [], _, rfl, h.symm, Own.nil _ 5 1, by rw [h]; rfl, by simp [ob]⟩
theorem DecR.yes {w w' : World} {url : Bool} {s bs : Str} {v : Value} (h : decOK url s = true) (O : OwB w' v bs) (hl : bs.length = s.length * 6 / 8) (L : ∀ x ∈ ob v, w.heap.size ≤ x) : DecR w w' url s (.tuple #[v, .bool true]) := ⟨_, bs, _, rfl, h.symm, O, by rw [h, hl]; rfl, L⟩
def eventB (s : Str) : Bool := decide (s.head? = some 36) && decOK true (s.drop 1) && decide ((s.drop 1).length * 6 / 8 = 32)
def bytesB (s : Str) (n : Nat) : Bool := decOK false s && decide (s.length * 6 / 8 = n)
end Go.Proofs.YtknndpjacklkeaaGreatDoor.V

set_option linter.unusedVariables false
set_option linter.unusedSimpArgs false
namespace Go.Proofs.YtknndpjacklkeaaGreatDoor.V
open Go
end Go.Proofs.YtknndpjacklkeaaGreatDoor.V

set_option linter.unusedVariables false
set_option linter.unusedSimpArgs false
namespace Go.Proofs.YtknndpjacklkeaaGreatDoor.V
open Go
theorem pairs_one {xs : List Pair} : ∀ x ∈ xs, ∀ c ∈ Pair.cells x, c.oneCell' = true := by
 intro x _ c hc
 simp at hc
 rcases hc with rfl | rfl <;> rfl
theorem Own.pairs {w : World} {e : Nat} {v : Value} {xs : List Pair} (A : List Nat) (h : Own w e 2 v xs.length ((xs.map Pair.cells).flatten)) (hA : ∀ x ∈ ob v, x ∉ A) : Rep A w (pairsD xs) v := Own.flat h (fun _ _ => rfl) pairs_one rfl hA
def insP (x : Pair) (S : List Pair) : List Pair := S.filter (fun y => !plt x y) ++ [x] ++ S.filter (fun y => plt x y)
def isortP (xs : List Pair) (k : Nat) : List Pair := (xs.take k).foldl (fun S x => insP x S) []
end Go.Proofs.YtknndpjacklkeaaGreatDoor.V

set_option linter.unusedVariables false
set_option linter.unusedSimpArgs false
namespace Go.Proofs.YtknndpjacklkeaaGreatDoor.V
open Go
def crS : Str := [109, 46, 114, 111, 111, 109, 46, 99, 114, 101, 97, 116, 101]
def pwS : Str := [109, 46, 114, 111, 111, 109, 46, 112, 111, 119, 101, 114, 95, 108, 101, 118, 101, 108, 115]
def mbS : Str := [109, 46, 114, 111, 111, 109, 46, 109, 101, 109, 98, 101, 114]
def ndP (snd : Str) : List Pair := [⟨crS, []⟩, ⟨pwS, []⟩, ⟨mbS, snd⟩]
end Go.Proofs.YtknndpjacklkeaaGreatDoor.V

set_option linter.unusedVariables false
set_option linter.unusedSimpArgs false
namespace Go.Proofs.YtknndpjacklkeaaGreatDoor.V
open Go
section
variable {P : Program} {A : List Nat} {w : World}
theorem RepRows.cells_ {sz : Nat} {ad : Addr} : ∀ (i : Nat) (rws : List (List D)), RepRows A w sz ad i rws → ∃ vs, Reps A w rws.flatten vs ∧ vs.length = rws.length * sz ∧ ∀ j u, vs[j]? = some u → w.cell? (ad.add (i * sz + j)) = some u
 | _, [], _ => ⟨[], rfl, by simp, fun j u hu => by simp at hu⟩
 | i, r :: rs, hh => by
  simp only [RepRows] at hh
  obtain ⟨hl, hrow, hrest⟩ := hh
  obtain ⟨us, hu1, hu2⟩ := hrow.cells
  obtain ⟨vs, hv1, hv2, hv3⟩ := RepRows.cells_ (i + 1) rs hrest
  refine ⟨us ++ vs, by simp only [List.flatten_cons]; exact hu1.append hv1, by simp [hu1.length, hl, hv2, Nat.add_mul]; omega, fun j u hj => ?_⟩
  rw [List.getElem?_append] at hj
  have hul : us.length = sz := by rw [hu1.length, hl]
  split at hj
  ·have := hu2 j u hj
   rwa [Nat.zero_add, Addr.add_add] at this
  ·rename_i hge
   have := hv3 _ u hj
   rwa [show (i + 1) * sz + (j - us.length) = i * sz + j by rw [Nat.add_mul, hul]; rw [hul] at hge; omega] at this
end
end Go.Proofs.YtknndpjacklkeaaGreatDoor.V

set_option linter.unusedVariables false
set_option linter.unusedSimpArgs false
namespace Go.Proofs.YtknndpjacklkeaaGreatDoor.V
open Go
theorem JV.obj_repsN {A : List Nat} {w : World} {m : List (Str × JV)} {am : Option Addr} {cm n : Nat} (hn : m.length = n) (R : Rep A w (.sl 7 (m.map JV.Dp)) (.slice am n cm)) : Reps A w (JV.obj m).D [.int .i64 5, .bool false, .int .i64 0, S [], .slice none 0 0, .slice am n cm] := by
 subst hn
 exact JV.obj_reps R
end Go.Proofs.YtknndpjacklkeaaGreatDoor.V

set_option linter.unusedVariables false
set_option linter.unusedSimpArgs false
namespace Go.Proofs.YtknndpjacklkeaaGreatDoor.V
open Go
theorem putM_len {β : Type} {m : List (Str × β)} {k : Str} {x : β} (h : ascM m) : (putM m k x).length ≤ m.length + 1 := by
 have key : ∀ {r : List (Str × β)}, (r.filter fun p => bl p.1 k).length + (r.filter fun p => bl k p.1).length ≤ r.length := by
  intro r
  induction r with
  | nil => simp
  | cons p r ih =>
   by_cases h1 : bl p.1 k = true
   ·have h2 := bl_asymm h1
    simp [h1, h2]
    omega
   ·by_cases h2 : bl k p.1 = true
    ·simp [h1, h2]
     omega
    ·simp [h1, h2]
     omega
 have := key (r := m)
 simp only [putM, List.length_append, List.length_singleton]
 omega
end Go.Proofs.YtknndpjacklkeaaGreatDoor.V

set_option linter.unusedVariables false
set_option linter.unusedSimpArgs false
namespace Go.Proofs.YtknndpjacklkeaaGreatDoor.V
open Go
abbrev kCreate : Str := [109, 46, 114, 111, 111, 109, 46, 99, 114, 101, 97, 116, 101]
abbrev kThird : Str := [116, 104, 105, 114, 100, 95, 112, 97, 114, 116, 121, 95, 105, 110, 118, 105, 116, 101]
abbrev kSigned : Str := [115, 105, 103, 110, 101, 100]
abbrev k_member : Str := [109, 46, 114, 111, 111, 109, 46, 109, 101, 109, 98, 101, 114]
abbrev l_member : List Str := [[106, 111, 105, 110, 95, 97, 117, 116, 104, 111, 114, 105, 115, 101, 100, 95, 118, 105, 97, 95, 117, 115, 101, 114, 115, 95, 115, 101, 114, 118, 101, 114], [109, 101, 109, 98, 101, 114, 115, 104, 105, 112]]
abbrev k_join_rules : Str := [109, 46, 114, 111, 111, 109, 46, 106, 111, 105, 110, 95, 114, 117, 108, 101, 115]
abbrev l_join_rules : List Str := [[97, 108, 108, 111, 119], [106, 111, 105, 110, 95, 114, 117, 108, 101]]
abbrev k_power_levels : Str := [109, 46, 114, 111, 111, 109, 46, 112, 111, 119, 101, 114, 95, 108, 101, 118, 101, 108, 115]
abbrev l_power_levels : List Str := [[98, 97, 110], [101, 118, 101, 110, 116, 115], [101, 118, 101, 110, 116, 115, 95, 100, 101, 102, 97, 117, 108, 116], [105, 110, 118, 105, 116, 101], [107, 105, 99, 107], [114, 101, 100, 97, 99, 116], [115, 116, 97, 116, 101, 95, 100, 101, 102, 97, 117, 108, 116], [117, 115, 101, 114, 115], [117, 115, 101, 114, 115, 95, 100, 101, 102, 97, 117, 108, 116]]
abbrev k_history_visibility : Str := [109, 46, 114, 111, 111, 109, 46, 104, 105, 115, 116, 111, 114, 121, 95, 118, 105, 115, 105, 98, 105, 108, 105, 116, 121]
abbrev l_history_visibility : List Str := [[104, 105, 115, 116, 111, 114, 121, 95, 118, 105, 115, 105, 98, 105, 108, 105, 116, 121]]
abbrev k_redaction : Str := [109, 46, 114, 111, 111, 109, 46, 114, 101, 100, 97, 99, 116, 105, 111, 110]
abbrev l_redaction : List Str := [[114, 101, 100, 97, 99, 116, 115]]
def keptK (kind : Str) : List Str :=
 if kind = k_member then l_member else
 if kind = k_join_rules then l_join_rules else
 if kind = k_power_levels then l_power_levels else
 if kind = k_history_visibility then l_history_visibility else
 if kind = k_redaction then l_redaction else
 []
namespace JV
def putG (v : JV) (acc : List (Str × JV)) (k : Str) : List (Str × JV) := match v.get k with
 | some x => putM acc k x
 | none => acc
def keep (v : JV) (K : List Str) : List (Str × JV) := K.foldl (putG v) []
def third (v : JV) : JV := (v.get kThird).getD nul
def contentM (kind : Str) (v : JV) : List (Str × JV) := match v.third.get kSigned with
 | some y => if kind = k_member then putM (v.keep (keptK kind)) kThird (obj [(kSigned, y)]) else v.keep (keptK kind)
 | none => v.keep (keptK kind)
def content (kind : Str) (v : JV) : JV := if kind = kCreate then v else obj (contentM kind v)
def stay0 (kind : Str) (p : Str × JV) : Option (Str × JV) := if p.1 ∈ keptK kind then some p else none
def stay (kind : Str) (p : Str × JV) : Option (Str × JV) :=
 if p.1 = kThird ∧ kind = k_member ∧ p.2.kind = 5 then match look p.2.map kSigned with
  | some y => some (p.1, obj [(kSigned, y)])
  | none => stay0 kind p
 else stay0 kind p
end JV
section
variable {β : Type}
end
namespace JV
end JV
end Go.Proofs.YtknndpjacklkeaaGreatDoor.V

set_option linter.unusedVariables false
set_option linter.unusedSimpArgs false
namespace Go.Proofs.YtknndpjacklkeaaGreatDoor.V
open Go
theorem gt_bl (a b : Str) : (!(bl a b || a == b)) = bl b a := by
 rcases bl_total a b with h | h | h
 ·rw [h, bl_asymm h]; rfl
 ·subst h; simp [bl_irrefl]
 ·rw [h, bl_asymm h]
  have hne : (a == b) = false := by
   cases he : a == b with
   | false => rfl
   | true => have := eq_of_beq he; subst this; rw [bl_irrefl] at h; cases h
  simp [hne]
theorem flt_len {β : Type} {k : Str} : ∀ {r : List (Str × β)}, (r.filter fun p => bl p.1 k).length + (r.filter fun p => bl k p.1).length ≤ r.length
 | [] => by simp
 | p :: r => by
  have ih := flt_len (k := k) (r := r)
  by_cases h1 : bl p.1 k = true
  ·have h2 := bl_asymm h1
   simp [h1, h2]
   omega
  ·by_cases h2 : bl k p.1 = true
   ·simp [h1, h2]
    omega
   ·simp [h1, h2]
    omega
theorem flt_take {β : Type} {q : Str × β → Bool} {m : List (Str × β)} {k : Nat} : ((m.take k).filter q).length ≤ (m.filter q).length := ((List.take_sublist k m).filter q).length_le
end Go.Proofs.YtknndpjacklkeaaGreatDoor.V

set_option linter.unusedVariables false
set_option linter.unusedSimpArgs false
namespace Go.Proofs.YtknndpjacklkeaaGreatDoor.V
open Go
def jrS : Str := [109, 46, 114, 111, 111, 109, 46, 106, 111, 105, 110, 95, 114, 117, 108, 101, 115]
def tpS : Str := [109, 46, 114, 111, 111, 109, 46, 116, 104, 105, 114, 100, 95, 112, 97, 114, 116, 121, 95, 105, 110, 118, 105, 116, 101]
def kMem : Str := [109, 101, 109, 98, 101, 114, 115, 104, 105, 112]
def joS : Str := [106, 111, 105, 110]
def inS : Str := [105, 110, 118, 105, 116, 101]
def knS : Str := [107, 110, 111, 99, 107]
def kTpi : Str := [116, 104, 105, 114, 100, 95, 112, 97, 114, 116, 121, 95, 105, 110, 118, 105, 116, 101]
def kSgn : Str := [115, 105, 103, 110, 101, 100]
def kTok : Str := [116, 111, 107, 101, 110]
def kBy : Str := [106, 111, 105, 110, 95, 97, 117, 116, 104, 111, 114, 105, 115, 101, 100, 95, 118, 105, 97, 95, 117, 115, 101, 114, 115, 95, 115, 101, 114, 118, 101, 114]
namespace JV
def sub (v : JV) (k : Str) : JV := (v.get k).getD nul
def txt (v : JV) : Str := if v.kind = 3 then v.str else []
def text (v : JV) (ks : List Str) : Str := (ks.foldl sub v).txt
end JV
namespace JV
def step (v : JV) (ks : List Str) (k : Nat) : JV := (ks.take k).foldl sub v
end JV
/-! ### pairs in order, each once -/
/-- what the document's with answers -/
def withP (l : List Pair) (p : Pair) : List Pair := l.filter (fun x => plt x p) ++ [p] ++ l.filter (fun x => plt p x)
theorem foldW_snoc {m : List Pair} {p : Pair} : (m ++ [p]).foldl withP [] = withP (m.foldl withP []) p := by rw [List.foldl_append]; rfl
theorem Own.w_ {w : World} {e : Nat} {v : Value} {m m' : List Pair} {p : Pair} (h : Own w e 2 v (withP (m.foldl withP []) p).length (((withP (m.foldl withP []) p).map Pair.cells).flatten)) (hm : m ++ [p] = m') : Own w e 2 v (m'.foldl withP []).length (((m'.foldl withP []).map Pair.cells).flatten) := by
 subst hm
 rw [foldW_snoc]
 exact h
theorem Own.w1 {w : World} {e : Nat} {v : Value} {p : Pair} (h : Own w e 2 v 1 p.cells) : Rep [] w (pairsD ([p].foldl withP [])) v := Own.pairs (xs := [p]) [] h (by simp)
/-- doubled neighbours left out, behind p -/
def dn : Pair → List Pair → List Pair
 | _, [] => []
 | p, x :: r => if x = p then dn x r else x :: dn x r
def dd : List Pair → List Pair
 | [] => []
 | a :: r => a :: dn a r
namespace EV
def hw (e : EV) : Str := e.con.text [kMem]
def tok (e : EV) : Str := e.con.text [kTpi, kSgn, kTok]
def byw (e : EV) : Str := e.con.text [kBy]
/-- what a member event needs besides -/
def more (e : EV) : List Pair :=
 if e.hw = joS then ⟨jrS, []⟩ :: if e.byw = [] then [] else [⟨mbS, e.byw⟩]
 else if e.hw = inS then ⟨jrS, []⟩ :: if e.tok = [] then [] else [⟨tpS, e.tok⟩]
 else if e.hw = knS then [⟨jrS, []⟩]
 else []
def needs (e : EV) : List Pair := ndP e.snd ++ if e.ty = mbS then ⟨mbS, e.key⟩ :: e.more else []
def need (e : EV) : List Pair := if e.ty = crS then [] else dd (isortP e.needs e.needs.length)
end EV
end Go.Proofs.YtknndpjacklkeaaGreatDoor.V

set_option linter.unusedVariables false
set_option linter.unusedSimpArgs false
namespace Go.Proofs.YtknndpjacklkeaaGreatDoor.V
open Go
namespace EV
abbrev pr (e : EV) : Pair := ⟨e.ty, e.key⟩
/-- each state, each needed, no pair twice -/
def gd (need : List Pair) (l : List EV) : Prop := (∀ x ∈ l, x.st = true ∧ x.pr ∈ need) ∧ (l.map pr).Nodup
open Classical in
/-- may an event name these? -/
noncomputable def right (e : EV) (l : List EV) : Bool := decide (gd e.need l ∧ (e.ty = crS ∨ ∃ x ∈ l, x.ty = crS))
end EV
end Go.Proofs.YtknndpjacklkeaaGreatDoor.V

set_option linter.unusedVariables false
set_option linter.unusedSimpArgs false
namespace Go.Proofs.YtknndpjacklkeaaGreatDoor.V
open Go
def shortB (s : Str) : Bool := decide ((s.length : Int) ≤ 255) && validR s
def numB (n : Int) : Bool := decide (0 ≤ n) && decide (n ≤ 9007199254740991)
def sigB (s : Sig3) : Bool := serverB s.srv && keyB s.key && bytesB s.sig 64
def sigBad (p s : Sig3) : Bool := !(bl p.srv s.srv || p.srv == s.srv) || (decide (p.srv = s.srv) && !bl p.key s.key)
def okP (p : Option Sig3) (s : Sig3) : Bool := match p with
 | none => true
 | some q => !sigBad q s
def sigsL : Option Sig3 → List Sig3 → Bool
 | _, [] => true
 | p, s :: r => sigB s && okP p s && sigsL (some s) r
namespace EV
def fine1 (e : EV) : Bool := namedB 33 qRoom e.room && namedB 64 qUser e.snd && decide (e.ty ≠ []) && shortB e.ty && shortB e.key && (e.st || decide (e.key = []))
noncomputable def fine2 (e : EV) : Bool := e.fine1 && decide (e.con.kind = 5) && decide (ern (e.con.wr 0 []) = 0) && numB e.dep && numB e.time && bytesB e.hash 32 && sigsL none e.sigs
noncomputable def fine (e : EV) : Bool := e.fine2 && (e.prev ++ e.auth).all eventB
noncomputable def chk (e : EV) : Int := if 20 < e.prev.length ∨ 10 < e.auth.length then 22 else if e.fine = true then 0 else 21
def names (e : EV) : Bool := namedB 33 qRoom e.room && namedB 64 qUser e.snd && decide (e.ty ≠ []) && shortB e.ty && shortB e.key
end EV
theorem Rep.mod0 {A : List Nat} {w w' : World} {d : D} {u : Value} (R : Rep A w d u) (k : Mod [] w w') : Rep A w' d u := R.to0 k
end Go.Proofs.YtknndpjacklkeaaGreatDoor.V

set_option linter.unusedVariables false
set_option linter.unusedSimpArgs false
namespace Go.Proofs.YtknndpjacklkeaaGreatDoor.V
open Go
theorem lng_fit {b : Str} (h : b.length ≤ 65536) : lng b = .ok b := if_neg (by omega)
theorem bind_ok {r : Except Int Str} {f : Str → Except Int Str} {b' : Str} (h : r.bind f = .ok b') : ∃ b, r = .ok b ∧ f b = .ok b' := by
 cases r with
 | ok b => exact ⟨b, rfl, h⟩
 | error e => cases h
namespace JV
def Fit (v : JV) (deep : Nat) (t : Str) : Prop := ∀ b, (b ++ t).length ≤ 65536 → wr v deep b = .ok (b ++ t)
def FitL (l : List JV) (deep : Nat) (fst : Bool) (t : Str) : Prop := ∀ b, (b ++ t).length ≤ 65536 → wrl l deep fst b = .ok (b ++ t)
def FitM (m : List (Str × JV)) (deep : Nat) (prev : Option Str) (t : Str) : Prop := ∀ b, (b ++ t).length ≤ 65536 → wrm m deep prev b = .ok (b ++ t)
theorem txt_fit {b s b' : Str} (h : txtW b s = .ok b') : ∃ t, b' = b ++ t ∧ t = putQ s ∧ b'.length ≤ 65536 ∧ ∀ c, (c ++ t).length ≤ 65536 → txtW c s = .ok (c ++ t) := by
 unfold txtW at h
 split at h
 ·cases h
 ·rename_i h1
  split at h
  ·rename_i h2
   obtain ⟨rfl, h3⟩ := lng_ok h
   exact ⟨putQ s, rfl, rfl, h3, fun c hc => by rw [txtW, if_neg h1, if_pos h2, lng_fit hc]⟩
  ·cases h
def stepK (prev : Option Str) (k b : Str) : Except Int Str := match prev with
 | none => Except.ok b
 | some q => (lng (b ++ [44])).bind fun b => if bl q k then .ok b else .error 1
theorem wrm_step' (p : Str × JV) (r : List (Str × JV)) (deep : Nat) (prev : Option Str) (b : Str) :
  wrm (p :: r) deep prev b = (stepK prev p.1 b).bind fun b => (txtW b p.1).bind fun b => (lng (b ++ [58])).bind fun b => (wr p.2 (deep + 1) b).bind fun b => wrm r deep (some p.1) b := by
 rw [wrm.eq_def]
 rfl
theorem wrl_step' (v : JV) (r : List JV) (deep : Nat) (fst : Bool) (b : Str) :
  wrl (v :: r) deep fst b = (if fst then Except.ok b else lng (b ++ [44])).bind fun b => (wr v (deep + 1) b).bind fun b => wrl r deep false b := by
 rw [wrl]
def comma : Option Str → Str
 | none => []
 | some _ => [44]
theorem mem_ok {p : Str × JV} {r : List (Str × JV)} {deep : Nat} {prev : Option Str} {b b' : Str} (h : wrm (p :: r) deep prev b = .ok b') :
  (∀ q, prev = some q → bl q p.1 = true) ∧ ∃ b2, wr p.2 (deep + 1) (b ++ comma prev ++ putQ p.1 ++ [58]) = .ok b2 ∧ wrm r deep (some p.1) b2 = .ok b' ∧ (∀ c, (c ++ putQ p.1).length ≤ 65536 → txtW c p.1 = .ok (c ++ putQ p.1)) ∧ (b ++ comma prev ++ putQ p.1 ++ [58]).length ≤ 65536 := by
 rw [wrm_step'] at h
 obtain ⟨b1, h1, h⟩ := bind_ok h
 have hc : b1 = b ++ comma prev ∧ ∀ q, prev = some q → bl q p.1 = true := by
  cases prev with
  | none => injection h1 with h1; subst h1; exact ⟨by simp [comma], fun q hq => by cases hq⟩
  | some q =>
   obtain ⟨b0, h0, h1⟩ := bind_ok h1
   obtain ⟨rfl, _⟩ := lng_ok h0
   split at h1
   ·rename_i hq
    injection h1 with h1
    subst h1
    exact ⟨rfl, fun q' e => by injection e with e; subst e; exact hq⟩
   ·cases h1
 obtain ⟨rfl, hq⟩ := hc
 obtain ⟨b2, h2, h⟩ := bind_ok h
 obtain ⟨t, rfl, rfl, _, ht⟩ := txt_fit h2
 obtain ⟨b3, h3, h⟩ := bind_ok h
 obtain ⟨rfl, h3l⟩ := lng_ok h3
 obtain ⟨b4, h4, h5⟩ := bind_ok h
 exact ⟨hq, b4, h4, h5, ht, h3l⟩
theorem mem_fit {p : Str × JV} {r : List (Str × JV)} {deep : Nat} {prev : Option Str} {t1 t2 : Str} (hq : ∀ q, prev = some q → bl q p.1 = true) (ht : ∀ c, (c ++ putQ p.1).length ≤ 65536 → txtW c p.1 = .ok (c ++ putQ p.1)) (h1 : Fit p.2 (deep + 1) t1) (h2 : FitM r deep (some p.1) t2) :
  FitM (p :: r) deep prev (comma prev ++ putQ p.1 ++ [58] ++ t1 ++ t2) := by
 intro b hb
 simp only [List.length_append] at hb
 rw [wrm_step']
 have e1 : stepK prev p.1 b = .ok (b ++ comma prev) := by
  cases prev with
  | none => simp [comma, stepK]
  | some q =>
   have : (b ++ [44]).length ≤ 65536 := by simp only [comma, List.length_append] at hb ⊢; omega
   show ((lng (b ++ [44])).bind fun b => if bl q p.1 then .ok b else .error 1) = _
   rw [lng_fit this]
   show (if bl q p.1 then Except.ok (b ++ [44]) else .error 1) = _
   rw [if_pos (hq q rfl)]
   rfl
 rw [e1]
 show (txtW (b ++ comma prev) p.1).bind _ = _
 rw [ht _ (by simp only [List.length_append]; omega)]
 show (lng (b ++ comma prev ++ putQ p.1 ++ [58])).bind _ = _
 rw [lng_fit (by simp only [List.length_append]; omega)]
 show (wr p.2 (deep + 1) (b ++ comma prev ++ putQ p.1 ++ [58])).bind _ = _
 rw [h1 _ (by simp only [List.length_append]; omega)]
 show wrm r deep (some p.1) (b ++ comma prev ++ putQ p.1 ++ [58] ++ t1) = _
 rw [h2 _ (by simp only [List.length_append]; omega)]
 simp
theorem fit_all : ∀ N : Nat, ∀ (v : JV) (deep : Nat) (b b' : Str), v.sz ≤ N → wr v deep b = .ok b' → ∃ t, b' = b ++ t ∧ b'.length ≤ 65536 ∧ Fit v deep t
 | 0, v, _, _, _, h, _ => absurd (sz_eq v) (by omega)
 | N + 1, v, deep, b, b', hN, h => by
  have ih := fit_all N
  have fitl : ∀ (l : List JV), (∀ x ∈ l, x.sz ≤ N) → ∀ (fst : Bool) (b b' : Str), wrl l deep fst b = .ok b' → ∃ t, b' = b ++ t ∧ FitL l deep fst t := by
   intro l
   induction l with
   | nil =>
    intro _ fst b b' h
    rw [wrl] at h
    injection h with h
    subst h
    exact ⟨[], by simp, fun b _ => by rw [wrl]; simp⟩
   | cons x r ihl =>
    intro hx fst b b' h
    rw [wrl_step'] at h
    obtain ⟨b1, h1, h⟩ := bind_ok h
    obtain ⟨b2, h2, h3⟩ := bind_ok h
    obtain ⟨t1, rfl, _, hf1⟩ := ih x (deep + 1) b1 b2 (hx x (by simp)) h2
    obtain ⟨t2, rfl, hf2⟩ := ihl (fun y hy => hx y (by simp [hy])) false _ _ h3
    cases fst with
    | true =>
     injection h1 with h1
     subst h1
     refine ⟨t1 ++ t2, by simp, fun c hc => ?_⟩
     simp only [List.length_append] at hc
     rw [wrl_step']
     show (wr x (deep + 1) c).bind _ = _
     rw [hf1 c (by simp only [List.length_append]; omega)]
     show wrl r deep false (c ++ t1) = _
     rw [hf2 _ (by simp only [List.length_append]; omega)]
     simp
    | false =>
     obtain ⟨rfl, _⟩ := lng_ok h1
     refine ⟨[44] ++ t1 ++ t2, by simp, fun c hc => ?_⟩
     simp only [List.length_append] at hc
     rw [wrl_step']
     show (lng (c ++ [44])).bind _ = _
     rw [lng_fit (by simp only [List.length_append]; omega)]
     show (wr x (deep + 1) (c ++ [44])).bind _ = _
     rw [hf1 _ (by simp only [List.length_append]; omega)]
     show wrl r deep false (c ++ [44] ++ t1) = _
     rw [hf2 _ (by simp only [List.length_append]; omega)]
     simp
  have fitm : ∀ (m : List (Str × JV)), (∀ p ∈ m, p.2.sz ≤ N) → ∀ (prev : Option Str) (b b' : Str), wrm m deep prev b = .ok b' → ∃ t, b' = b ++ t ∧ FitM m deep prev t := by
   intro m
   induction m with
   | nil =>
    intro _ prev b b' h
    rw [wrm] at h
    injection h with h
    subst h
    exact ⟨[], by simp, fun b _ => by rw [wrm]; simp⟩
   | cons p r ihm =>
    intro hx prev b b' h
    obtain ⟨hq, b2, h2, h3, ht, _⟩ := mem_ok h
    obtain ⟨t1, rfl, _, hf1⟩ := ih p.2 (deep + 1) _ b2 (hx p (by simp)) h2
    obtain ⟨t2, rfl, hf2⟩ := ihm (fun y hy => hx y (by simp [hy])) (some p.1) _ _ h3
    exact ⟨_, by simp, mem_fit hq ht hf1 hf2⟩
  rw [wr_eq] at h
  by_cases hb : bare v = false
  ·rw [if_pos hb] at h; cases h
  rw [if_neg hb] at h
  by_cases k0 : v.kind = 0
  ·rw [if_pos k0] at h
   obtain ⟨rfl, hl⟩ := lng_ok h
   exact ⟨_, rfl, hl, fun c hc => by rw [wr_eq, if_neg hb, if_pos k0, lng_fit hc]⟩
  rw [if_neg k0] at h
  by_cases k1 : v.kind = 1
  ·rw [if_pos k1] at h
   obtain ⟨rfl, hl⟩ := lng_ok h
   exact ⟨_, rfl, hl, fun c hc => by rw [wr_eq, if_neg hb, if_neg k0, if_pos k1, lng_fit hc]⟩
  rw [if_neg k1] at h
  by_cases k2 : v.kind = 2
  ·rw [if_pos k2] at h
   obtain ⟨rfl, hl⟩ := lng_ok h
   exact ⟨_, rfl, hl, fun c hc => by rw [wr_eq, if_neg hb, if_neg k0, if_neg k1, if_pos k2, lng_fit hc]⟩
  rw [if_neg k2] at h
  by_cases k3 : v.kind = 3
  ·rw [if_pos k3] at h
   obtain ⟨t, rfl, _, hl, ht⟩ := txt_fit h
   exact ⟨t, rfl, hl, fun c hc => by rw [wr_eq, if_neg hb, if_neg k0, if_neg k1, if_neg k2, if_pos k3, ht c hc]⟩
  rw [if_neg k3] at h
  by_cases hd : deep = 32
  ·rw [if_pos hd] at h; cases h
  rw [if_neg hd] at h
  by_cases k4 : v.kind = 4
  ·rw [if_pos k4] at h
   obtain ⟨b1, h1, h⟩ := bind_ok h
   obtain ⟨rfl, _⟩ := lng_ok h1
   obtain ⟨b2, h2, h3⟩ := bind_ok h
   obtain ⟨t, rfl, ht⟩ := fitl v.list (fun x hx => by have := sz_in_list hx; omega) true _ _ h2
   obtain ⟨rfl, hl⟩ := lng_ok h3
   refine ⟨[91] ++ t ++ [93], by simp, hl, fun c hc => ?_⟩
   simp only [List.length_append] at hc
   rw [wr_eq, if_neg hb, if_neg k0, if_neg k1, if_neg k2, if_neg k3, if_neg hd, if_pos k4, lng_fit (by simp only [List.length_append]; omega)]
   show (wrl v.list deep true (c ++ [91])).bind _ = _
   rw [ht _ (by simp only [List.length_append]; omega)]
   show lng (c ++ [91] ++ t ++ [93]) = _
   rw [lng_fit (by simp only [List.length_append]; omega)]
   simp
  ·rw [if_neg k4] at h
   obtain ⟨b1, h1, h⟩ := bind_ok h
   obtain ⟨rfl, _⟩ := lng_ok h1
   obtain ⟨b2, h2, h3⟩ := bind_ok h
   obtain ⟨t, rfl, ht⟩ := fitm v.map (fun x hx => by have := sz_in_map hx; omega) none _ _ h2
   obtain ⟨rfl, hl⟩ := lng_ok h3
   refine ⟨[123] ++ t ++ [125], by simp, hl, fun c hc => ?_⟩
   simp only [List.length_append] at hc
   rw [wr_eq, if_neg hb, if_neg k0, if_neg k1, if_neg k2, if_neg k3, if_neg hd, if_neg k4, lng_fit (by simp only [List.length_append]; omega)]
   show (wrm v.map deep none (c ++ [123])).bind _ = _
   rw [ht _ (by simp only [List.length_append]; omega)]
   show lng (c ++ [123] ++ t ++ [125]) = _
   rw [lng_fit (by simp only [List.length_append]; omega)]
   simp
theorem fit {v : JV} {deep : Nat} {b b' : Str} (h : wr v deep b = .ok b') : ∃ t, b' = b ++ t ∧ b'.length ≤ 65536 ∧ Fit v deep t := fit_all v.sz v deep b b' (Nat.le_refl _) h
theorem wrm_asc : ∀ (m : List (Str × JV)) (deep : Nat) (prev : Option Str) (b b' : Str), wrm m deep prev b = .ok b' → ascM m ∧ ∀ q, prev = some q → ∀ p ∈ m, bl q p.1 = true
 | [], _, _, _, _, _ => ⟨List.Pairwise.nil, fun _ _ _ h => by cases h⟩
 | p :: r, deep, prev, b, b', h => by
  obtain ⟨hq, b2, _, h3, _, _⟩ := mem_ok h
  obtain ⟨h4, h5⟩ := wrm_asc r deep (some p.1) _ _ h3
  refine ⟨List.Pairwise.cons (fun y hy => h5 p.1 rfl y hy) h4, fun q e y hy => ?_⟩
  rcases List.mem_cons.1 hy with rfl | hy
  ·exact hq q e
  ·exact bl_trans (hq q e) (h5 p.1 rfl y hy)
end JV
end Go.Proofs.YtknndpjacklkeaaGreatDoor.V

set_option linter.unusedVariables false
set_option linter.unusedSimpArgs false
namespace Go.Proofs.YtknndpjacklkeaaGreatDoor.V
open Go
section
variable {P : Program} {ops : Array Oper} {Q : Exit → Act → World → Prop} {n : Nat} {ds : List Deferred} {l : List (Nat × Value)} {M : List (Nat × (Value → World → Prop))} {w : World} {Fin : Kn → Prop} {rest : List Oper} {d : Nat} {ty : TypeId} {pos : String} {af : Array Edge} {op : Op}
end
end Go.Proofs.YtknndpjacklkeaaGreatDoor.V

set_option linter.unusedVariables false
set_option linter.unusedSimpArgs false
namespace Go.Proofs.YtknndpjacklkeaaGreatDoor.V
open Go
structure GL (A : List Nat) (w0 w : World) (e sz : Nat) (wv : Value) (n : Nat) (rows : List (List D)) (vs : List Value) : Prop where
 own : Own w e sz wv n vs
 rd : Reps (A ++ ob wv) w rows.flatten vs
 fr : ∀ y ∈ ob wv, w0.heap.size ≤ y
 dj : ∀ y ∈ ob wv, y ∉ A
 al : ∀ a ∈ A, a < w.heap.size
section
variable {A : List Nat} {w0 w w' : World} {e sz n : Nat} {wv wv' : Value} {rows : List (List D)} {vs us : List Value} {row : List D}
theorem GL.nil (hA : ∀ a ∈ A, a < w.heap.size) : GL A w0 w e sz (.slice none 0 0) 0 [] [] := ⟨Own.nil _ _ _, Reps.nil_, by simp [ob], by simp [ob], hA⟩
theorem GL.mod0 (G : GL A w0 w e sz wv n rows vs) (k : Mod [] w w') : GL A w0 w' e sz wv n rows vs := ⟨G.own.mod0 k, G.rd.to0 k, G.fr, G.dj, fun a ha => Nat.lt_of_lt_of_le (G.al a ha) k.size⟩
theorem GL.lt (G : GL A w0 w e sz wv n rows vs) : ∀ a ∈ A ++ ob wv, a < w.heap.size := fun a ha => (List.mem_append.1 ha).elim (G.al a) (G.own.lt a)
theorem GL.in_ (AA : App w w' e sz wv wv' n vs) : ∀ y ∈ A ++ ob wv', y ∈ A ++ ob wv ∨ w.heap.size ≤ y := fun y hy => (List.mem_append.1 hy).elim (fun h => .inl (by simp [h])) (fun h => (AA.ob_ y h).imp (fun h => by simp [h]) id)
theorem GL.app {k : Nat} (G : GL A w0 w e sz wv n rows vs) (E : Mod [] w0 w) (AA : App w w' e sz wv wv' k (vs ++ us)) (hk : k = n + 1) (Rx : Reps (A ++ ob wv) w row us) : GL A w0 w' e sz wv' (n + 1) (rows ++ [row]) (vs ++ us) := by
 subst hk
 refine ⟨AA.own, ?_, fun y hy => (AA.ob_ y hy).elim (G.fr y) (Nat.le_trans E.size), fun y hy ha => (AA.ob_ y hy).elim (fun h => G.dj y h ha) (fun h => by have := G.al y ha; omega), fun a ha => Nat.lt_of_lt_of_le (G.al a ha) AA.mod.size⟩
 rw [List.flatten_append]
 refine Reps.to AA.mod (fun y hy => by simp [hy]) (GL.in_ AA) _ _ (Reps.append G.rd ?_)
 simpa using Rx
theorem GL.keep {k : Nat} {d : D} {u : Value} (AA : App w w' e sz wv wv' k vs) (R : Rep (A ++ ob wv) w d u) : Rep (A ++ ob wv') w' d u := Rep.to AA.mod (fun y hy => by simp [hy]) (GL.in_ AA) _ _ R
theorem GL.rep (G : GL A w0 w e sz wv n rows vs) (hl : ∀ r ∈ rows, r.length = sz) (hn : rows.length = n) : Rep A w (.sl sz rows) wv := Own.rep G.own (G.rd.anti (fun x hx => by simp [hx])) hl hn G.dj
theorem GL.same {m : Nat} {rows' : List (List D)} (G : GL A w0 w e sz wv n rows vs) (h1 : n = m) (h2 : rows = rows') : GL A w0 w e sz wv m rows' vs := by subst h1; subst h2; exact G
end
end Go.Proofs.YtknndpjacklkeaaGreatDoor.V

set_option linter.unusedVariables false
set_option linter.unusedSimpArgs false
namespace Go.Proofs.YtknndpjacklkeaaGreatDoor.V
open Go
end Go.Proofs.YtknndpjacklkeaaGreatDoor.V

set_option linter.unusedVariables false
set_option linter.unusedSimpArgs false
namespace Go.Proofs.YtknndpjacklkeaaGreatDoor.V
open Go
namespace JV
variable {kind : Str} {v : JV}
end JV
end Go.Proofs.YtknndpjacklkeaaGreatDoor.V

set_option linter.unusedVariables false
set_option linter.unusedSimpArgs false
namespace Go.Proofs.YtknndpjacklkeaaGreatDoor.V
open Go
namespace JV
variable {kind : Str} {v : JV} {p : Str × JV}
end JV
end Go.Proofs.YtknndpjacklkeaaGreatDoor.V

set_option linter.unusedVariables false
set_option linter.unusedSimpArgs false
namespace Go.Proofs.YtknndpjacklkeaaGreatDoor.V
open Go
namespace JV
def txtV (s : Str) : JV := .mk 3 false 0 s [] []
theorem txt_reps {A : List Nat} {w : World} {s : Str} : Reps A w (txtV s).D [.int .i64 3, .bool false, .int .i64 0, S s, .slice none 0 0, .slice none 0 0] := by
 have := reps_ (A := A) (w := w) (v := txtV s) (al := none) (am := none) (cl := 0) (cm := 0) Rep.sl_nil Rep.sl_nil
 exact this
end JV
end Go.Proofs.YtknndpjacklkeaaGreatDoor.V

set_option linter.unusedVariables false
set_option linter.unusedSimpArgs false
namespace Go.Proofs.YtknndpjacklkeaaGreatDoor.V
open Go
namespace JV
end JV
namespace EV
end EV
end Go.Proofs.YtknndpjacklkeaaGreatDoor.V
