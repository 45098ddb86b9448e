/-
  A part of the proof: walks of functions. No condition of its own.
-/
import Derived.Test.YtknndpjacklkeaaGreatDoorM10
import Derived.Test.YtknndpjacklkeaaGreatDoorM11
import Derived.Test.YtknndpjacklkeaaGreatDoorM5
set_option linter.unusedVariables false
set_option linter.unusedSimpArgs false
set_option maxRecDepth 10000
namespace Go.Proofs.YtknndpjacklkeaaGreatDoor.V
open Go Go.Proofs
theorem fd67_1 : fdB Tryz.prog 67 1 1 1 = true := by kernel_rfl
theorem fd67_0 : fdB Tryz.prog 67 0 0 1 = true := by kernel_rfl
theorem ent52 : Ent Tryz.prog 52 := Ent.of Tryz.func52 (by kernel_rfl) (by kernel_rfl)
theorem ent178 : Ent Tryz.prog 178 := Ent.of Tryz.func178 (by kernel_rfl) (by kernel_rfl)
theorem ent235 : Ent Tryz.prog 235 := Ent.of Tryz.func235 (by kernel_rfl) (by kernel_rfl)
def gX : Nat := 6
/-- what the reading asks of the program's variables -/
structure Env (w : World) : Prop where
 tab : Tab w
 utf : UtT w
 err : ErrT w
 sz : gX < w.heap.size
theorem Env.mod {w w' : World} {M : List Nat} (h : Env w) (k : Mod M w w') (hM : ∀ x ∈ M, gX < x) : Env w' :=
 ⟨h.tab.mod k (fun hx => by have := hM _ hx; simp only [gX, gT] at this; omega), h.utf.mod k (fun x hx => by have := hM x hx; simp only [gX] at this; omega), h.err.mod k (fun x hx => by have := hM x hx; simp only [gX] at this; omega), Nat.lt_of_lt_of_le h.sz k.size⟩
theorem Env.mod0 {w w' : World} (h : Env w) (k : Mod [] w w') : Env w' := h.mod k (by simp)
theorem Env.modg {w w' : World} {g : Nat} (h : Env w) (hg : gX < g) (k : Mod [g] w w') : Env w' := h.mod k (fun x hx => by rw [List.mem_singleton.1 hx]; exact hg)

theorem c_blank (w : World) (g : Nat) (s : Str) (k : Nat) (sk : Value) (B : Blk w g 67 [S s, .int .i64 (k : Int), sk]) (hs : s.length ≤ 65536) (hk : k ≤ s.length) : Calls Tryz.prog 52 [.pointer (some ⟨g, 0, none⟩)].toArray w (Ret fun u w' => Blk w' g 67 [S s, .int .i64 (spanA isWs s k : Int), sk] ∧ Mod [g] w w') := by
 refine enter Tryz.func52 rfl rfl rfl (l := [(0, _)]) ⟨rfl, trivial⟩ ?_
 have E := Mod.refl [g] w
 refine cB (c_loop (σ := Nat) (fun p => [(0, .pointer (some ⟨g, 0, none⟩))]) (fun p w1 => (k ≤ p ∧ p ≤ s.length ∧ spanA isWs s p = spanA isWs s k) ∧ Blk w1 g 67 [S s, .int .i64 (p : Int), sk] ∧ Mod [g] w w1) (fun p => s.length - p) (k) ⟨rfl, trivial⟩ (⟨⟨Nat.le_refl _, hk, rfl⟩, B, E⟩) ?_)
 rintro p w1 ⟨⟨hkp, hp, hsp⟩, B, E⟩
 refine Cq fun K1 hK1 => Cq fun K2 hK2 => ?_
 by_cases hlt : (p : Int) < (s.length : Int)
 ·obtain ⟨c, hc⟩ : ∃ c, s[p]? = some c := ⟨_, List.getElem?_eq_getElem (by omega)⟩
  rcases hws : isWs c with _ | _
  ·refine c_draw wide (by kernel_rfl) (tU 2 rfl rfl (tv (fun w_ E_ => (oA0 fd67_1 rfl)) rfl rfl (tv (fun w_ E_ => (oL sc3 rfl ((B.mod0 E_).cell rfl))) rfl rfl (tU 2 rfl rfl (tv (fun w_ E_ => (oA0 fd67_0 rfl)) rfl rfl (tv (fun w_ E_ => (oL sc9 rfl ((B.mod0 E_).cell rfl))) rfl rfl (tv (fun w_ E_ => (o_slen Tryz.underlying9 rfl)) rfl rfl (tU 2 rfl rfl (tvg rfl (dT hlt) (fun w_ E_ => (oM rfl)) rfl rfl (tvg rfl (dT hlt) (fun w_ E_ => (o_nilc rfl)) rfl rfl (tvg rfl (dT hlt) (fun w_ E_ => (oA0 fd67_0 rfl)) rfl rfl (tvg rfl (dT hlt) (fun w_ E_ => (oL sc9 rfl ((B.mod0 E_).cell rfl))) rfl rfl (tvg rfl (dT hlt) (fun w_ E_ => (oM rfl)) rfl rfl ?_)))))))))))))
   refine tvg rfl (dT hlt) (fun w_ E_ => (o_nilc rfl)) rfl rfl (tvg rfl (dT hlt) (fun w_ E_ => (oA0 fd67_1 rfl)) rfl rfl (tvg rfl (dT hlt) (fun w_ E_ => (oL sc3 rfl ((B.mod0 E_).cell rfl))) rfl rfl (tvg rfl (dT hlt) (fun w_ E_ => (o_sidx Tryz.underlying9 rfl rfl (by omega) (by rw [Int.toNat_natCast]; exact hc))) rfl rfl (tcg rfl (dT hlt) (fun w_ E_ => oC ent100 rfl) (fun w_ E_ => c_ib _ [32, 9, 10, 13] c) rfl rfl (tvg rfl (dT hlt) (fun w_ E_ => (o_geq rfl rfl)) rfl rfl (tv (fun w_ E_ => (oT (dT hlt) rfl rfl)) rfl rfl (tw_nil rfl fun w2 E_ => ?_)))))))
   replace B := B.mod0 E_
   replace E := E.then E_
   refine e_K (hK2 _ _ _ _ (c_cond rfl (fun h24 => absurd (((ib_ws c).trans hws).symm.trans h24) (by decide)) (fun h24 => ?_)))
   have hpe : p = spanA isWs s k := by
    rw [← hsp]
    first | exact (spanA_end (by omega)).symm | exact (spanA_stop hc hws).symm
   exact c_exit (eT (by simp) (eT (by simp) (e_hit (end0 rfl ⟨by rw [← hpe]; exact B, E⟩))))
  ·refine c_draw wide (by kernel_rfl) (tU 2 rfl rfl (tv (fun w_ E_ => (oA0 fd67_1 rfl)) rfl rfl (tv (fun w_ E_ => (oL sc3 rfl ((B.mod0 E_).cell rfl))) rfl rfl (tU 2 rfl rfl (tv (fun w_ E_ => (oA0 fd67_0 rfl)) rfl rfl (tv (fun w_ E_ => (oL sc9 rfl ((B.mod0 E_).cell rfl))) rfl rfl (tv (fun w_ E_ => (o_slen Tryz.underlying9 rfl)) rfl rfl (tU 2 rfl rfl (tvg rfl (dT hlt) (fun w_ E_ => (oM rfl)) rfl rfl (tvg rfl (dT hlt) (fun w_ E_ => (o_nilc rfl)) rfl rfl (tvg rfl (dT hlt) (fun w_ E_ => (oA0 fd67_0 rfl)) rfl rfl (tvg rfl (dT hlt) (fun w_ E_ => (oL sc9 rfl ((B.mod0 E_).cell rfl))) rfl rfl (tvg rfl (dT hlt) (fun w_ E_ => (oM rfl)) rfl rfl ?_)))))))))))))
   refine tvg rfl (dT hlt) (fun w_ E_ => (o_nilc rfl)) rfl rfl (tvg rfl (dT hlt) (fun w_ E_ => (oA0 fd67_1 rfl)) rfl rfl (tvg rfl (dT hlt) (fun w_ E_ => (oL sc3 rfl ((B.mod0 E_).cell rfl))) rfl rfl (tvg rfl (dT hlt) (fun w_ E_ => (o_sidx Tryz.underlying9 rfl rfl (by omega) (by rw [Int.toNat_natCast]; exact hc))) rfl rfl (tcg rfl (dT hlt) (fun w_ E_ => oC ent100 rfl) (fun w_ E_ => c_ib _ [32, 9, 10, 13] c) rfl rfl (tvg rfl (dT hlt) (fun w_ E_ => (o_geq rfl rfl)) rfl rfl (tv (fun w_ E_ => (oT (dT hlt) rfl rfl)) rfl rfl (tw_nil rfl fun w3 E_ => ?_)))))))
   replace B := B.mod0 E_
   replace E := E.then E_
   refine e_K (hK2 _ _ _ _ ?_)
   refine c_cond rfl (fun h24 => ?_) (fun h24 => absurd (((ib_ws c).trans hws).symm.trans h24) (by decide))
   skip
   refine cK (e_K (hK1 _ _ _ _ (cB (Cr (tW 2 rfl (Sv (oA0 fd67_1 rfl) (Sv (oL sc3 rfl (B.cell rfl)) (Sv (o_addE (r := ((p + 1 : Nat) : Int)) rfl rfl (by rw [wrap64_in _ (by omega)]; omega)) (Sv (o_nilc rfl) (Sv (oA0 fd67_1 rfl) (s_st sc3 B rfl rfl rfl (by simp) fun w4 P4 => ?_)))))))))))
   replace E := E.trans P4.mod
   replace B : Blk w4 g _ [_, _, _] := P4.blk
   exact Ln (eI (by simp) (eR (σ := Nat) (s := p) (p + 1) ⟨rfl, trivial⟩ ⟨⟨by omega, by omega, by rw [spanA_go hc hws]; exact hsp⟩, B, E⟩ (by omega)))
 ·refine c_draw wide (by kernel_rfl) (tU 2 rfl rfl (tv (fun w_ E_ => (oA0 fd67_1 rfl)) rfl rfl (tv (fun w_ E_ => (oL sc3 rfl ((B.mod0 E_).cell rfl))) rfl rfl (tU 2 rfl rfl (tv (fun w_ E_ => (oA0 fd67_0 rfl)) rfl rfl (tv (fun w_ E_ => (oL sc9 rfl ((B.mod0 E_).cell rfl))) rfl rfl (tv (fun w_ E_ => (o_slen Tryz.underlying9 rfl)) rfl rfl (tU 2 rfl rfl (Tx rfl (dF hlt) (Tx rfl (dF hlt) (Tx rfl (dF hlt) (Tx rfl (dF hlt) (Tx rfl (dF hlt) ?_)))))))))))))
  refine Tx rfl (dF hlt) (Tx rfl (dF hlt) (Tx rfl (dF hlt) (Tx rfl (dF hlt) (Tx rfl (dF hlt) (Tx rfl (dF hlt) (tv (fun w_ E_ => (oF (dF hlt) rfl rfl)) rfl rfl (tw_nil rfl fun w5 E_ => ?_)))))))
  replace B := B.mod0 E_
  replace E := E.then E_
  refine e_K (hK2 _ _ _ _ (c_false rfl ?_))
  have hpe : p = spanA isWs s k := by
   rw [← hsp]
   first | exact (spanA_end (by omega)).symm | exact (spanA_stop hc hws).symm
  exact c_exit (eT (by simp) (eT (by simp) (e_hit (end0 rfl ⟨by rw [← hpe]; exact B, E⟩))))

theorem c_is_ (w : World) (g : Nat) (s : Str) (k : Nat) (sk : Value) (B : Blk w g 67 [S s, .int .i64 (k : Int), sk]) (hs : s.length ≤ 65536) (hk : k ≤ s.length) (c : UInt8) : Calls Tryz.prog 97 [.pointer (some ⟨g, 0, none⟩), .int .u8 (c.toNat : Int)].toArray w (Ret fun u w' => u = .bool (hasA s (spanA isWs s k) [c]) ∧ Blk w' g 67 [S s, .int .i64 ((if (hasA s (spanA isWs s k) [c]) then spanA isWs s k + 1 else spanA isWs s k : Nat) : Int), sk] ∧ Mod [g] w w') := by
 refine enter Tryz.func97 rfl rfl rfl (l := [(0, _), (1, _)]) ⟨rfl, rfl, trivial⟩ ?_
 have E := Mod.refl [g] w
 have hql : spanA isWs s k ≤ s.length := spanA_le hk
 refine Cq fun K1 hK1 => Cr (Za rfl (Ln (e_K (hK1 _ _ _ _ (Cq fun K2 hK2 => Cr (Zm rfl (sc (oC ent52 rfl) (c_blank _ g s k sk B hs hk) rfl fun v_ w1 h_ => ?_)))))))
 obtain ⟨B9, E_⟩ := h_
 replace E := E.trans E_
 clear B
 have B := B9
 refine Ln (e_K (hK2 _ _ _ _ (Cq fun K3 hK3 => Cq fun K4 hK4 => ?_)))
 by_cases hge : ((spanA isWs s k : Nat) : Int) ≥ (s.length : Int)
 ·refine c_draw wide (by kernel_rfl) (tU 2 rfl rfl (tv (fun w_ E_ => (oA0 fd67_1 rfl)) rfl rfl (tv (fun w_ E_ => (oL sc3 rfl ((B.mod0 E_).cell rfl))) rfl rfl (tU 2 rfl rfl (tv (fun w_ E_ => (oA0 fd67_0 rfl)) rfl rfl (tv (fun w_ E_ => (oL sc9 rfl ((B.mod0 E_).cell rfl))) rfl rfl (tv (fun w_ E_ => (o_slen Tryz.underlying9 rfl)) rfl rfl (tv (fun w_ E_ => (o_geq rfl rfl)) rfl rfl (tv (fun w_ E_ => (oM rfl)) rfl rfl (Tx rfl (dT hge) (Tx rfl (dT hge) (Tx rfl (dT hge) (Tx rfl (dT hge) ?_)))))))))))))
  refine Tx rfl (dT hge) (Tx rfl (dT hge) (Tx rfl (dT hge) (Tx rfl (dT hge) (Tx rfl (dT hge) (Tx rfl (dT hge) (Tx rfl (dT hge) (tv (fun w_ E_ => (oT (dT hge) rfl rfl)) rfl rfl (tw_nil rfl fun w2 E_ => ?_))))))))
  replace B := B.mod0 E_
  replace E := E.then E_
  refine e_K (hK4 _ _ _ _ (c_true rfl ?_))
  have hh : (hasA s (spanA isWs s k) [c]) = false := by first | exact hasA_off (by omega) (by simp) | (rw [hasA_at hd, dF (fun e => hne (by rw [e]))])
  exact Cq fun K5 hK5 => Cr (Za rfl (Ln (e_K (hK5 _ _ _ _ (cR (eT (by simp) (ret1 rfl rfl ⟨by rw [hh], by rw [hh]; exact B, E⟩)))))))
 ·obtain ⟨d, hd⟩ : ∃ d, s[spanA isWs s k]? = some d := ⟨_, List.getElem?_eq_getElem (by omega)⟩
  by_cases hne : (d.toNat : Int) ≠ (c.toNat : Int)
  ·refine c_draw wide (by kernel_rfl) (tU 2 rfl rfl (tv (fun w_ E_ => (oA0 fd67_1 rfl)) rfl rfl (tv (fun w_ E_ => (oL sc3 rfl ((B.mod0 E_).cell rfl))) rfl rfl (tU 2 rfl rfl (tv (fun w_ E_ => (oA0 fd67_0 rfl)) rfl rfl (tv (fun w_ E_ => (oL sc9 rfl ((B.mod0 E_).cell rfl))) rfl rfl (tv (fun w_ E_ => (o_slen Tryz.underlying9 rfl)) rfl rfl (tv (fun w_ E_ => (o_geq rfl rfl)) rfl rfl (tv (fun w_ E_ => (oM rfl)) rfl rfl (tvg rfl (dF hge) (fun w_ E_ => (oM rfl)) rfl rfl (tvg rfl (dF hge) (fun w_ E_ => (o_nilc rfl)) rfl rfl (tvg rfl (dF hge) (fun w_ E_ => (oA0 fd67_0 rfl)) rfl rfl (tvg rfl (dF hge) (fun w_ E_ => (oL sc9 rfl ((B.mod0 E_).cell rfl))) rfl rfl ?_)))))))))))))
   refine tvg rfl (dF hge) (fun w_ E_ => (oM rfl)) rfl rfl (tvg rfl (dF hge) (fun w_ E_ => (o_nilc rfl)) rfl rfl (tvg rfl (dF hge) (fun w_ E_ => (oA0 fd67_1 rfl)) rfl rfl (tvg rfl (dF hge) (fun w_ E_ => (oL sc3 rfl ((B.mod0 E_).cell rfl))) rfl rfl (tvg rfl (dF hge) (fun w_ E_ => (o_sidx Tryz.underlying9 rfl rfl (by omega) (by rw [Int.toNat_natCast]; exact hd))) rfl rfl (tvg rfl (dF hge) (fun w_ E_ => (oM rfl)) rfl rfl (tvg rfl (dF hge) (fun w_ E_ => (o_neq rfl rfl)) rfl rfl (tv (fun w_ E_ => (oF (dF hge) rfl rfl)) rfl rfl (tw_nil rfl fun w3 E_ => ?_))))))))
   replace B := B.mod0 E_
   replace E := E.then E_
   refine e_K (hK4 _ _ _ _ ?_)
   refine c_if rfl (fun h29 => ?_) (fun h29 => absurd hne h29)
   have hh : (hasA s (spanA isWs s k) [c]) = false := by first | exact hasA_off (by omega) (by simp) | (rw [hasA_at hd, dF (fun e => hne (by rw [e]))])
   exact Cq fun K6 hK6 => Cr (Za rfl (Ln (e_K (hK6 _ _ _ _ (cR (eT (by simp) (ret1 rfl rfl ⟨by rw [hh], by rw [hh]; exact B, E⟩)))))))
  ·refine c_draw wide (by kernel_rfl) (tU 2 rfl rfl (tv (fun w_ E_ => (oA0 fd67_1 rfl)) rfl rfl (tv (fun w_ E_ => (oL sc3 rfl ((B.mod0 E_).cell rfl))) rfl rfl (tU 2 rfl rfl (tv (fun w_ E_ => (oA0 fd67_0 rfl)) rfl rfl (tv (fun w_ E_ => (oL sc9 rfl ((B.mod0 E_).cell rfl))) rfl rfl (tv (fun w_ E_ => (o_slen Tryz.underlying9 rfl)) rfl rfl (tv (fun w_ E_ => (o_geq rfl rfl)) rfl rfl (tv (fun w_ E_ => (oM rfl)) rfl rfl (tvg rfl (dF hge) (fun w_ E_ => (oM rfl)) rfl rfl (tvg rfl (dF hge) (fun w_ E_ => (o_nilc rfl)) rfl rfl (tvg rfl (dF hge) (fun w_ E_ => (oA0 fd67_0 rfl)) rfl rfl (tvg rfl (dF hge) (fun w_ E_ => (oL sc9 rfl ((B.mod0 E_).cell rfl))) rfl rfl ?_)))))))))))))
   refine tvg rfl (dF hge) (fun w_ E_ => (oM rfl)) rfl rfl (tvg rfl (dF hge) (fun w_ E_ => (o_nilc rfl)) rfl rfl (tvg rfl (dF hge) (fun w_ E_ => (oA0 fd67_1 rfl)) rfl rfl (tvg rfl (dF hge) (fun w_ E_ => (oL sc3 rfl ((B.mod0 E_).cell rfl))) rfl rfl (tvg rfl (dF hge) (fun w_ E_ => (o_sidx Tryz.underlying9 rfl rfl (by omega) (by rw [Int.toNat_natCast]; exact hd))) rfl rfl (tvg rfl (dF hge) (fun w_ E_ => (oM rfl)) rfl rfl (tvg rfl (dF hge) (fun w_ E_ => (o_neq rfl rfl)) rfl rfl (tv (fun w_ E_ => (oF (dF hge) rfl rfl)) rfl rfl (tw_nil rfl fun w4 E_ => ?_))))))))
   replace B := B.mod0 E_
   replace E := E.then E_
   refine e_K (hK4 _ _ _ _ (c_if rfl (fun h29 => absurd h29 hne) (fun h29 => ?_)))
   have hh : (hasA s (spanA isWs s k) [c]) = true := by rw [hasA_at hd, dT (u8_eq (Classical.not_not.1 hne))]
   refine cK (e_K (hK3 _ _ _ _ (Cq fun K7 hK7 => Cr (tW 2 rfl (Sv (oA0 fd67_1 rfl) (Sv (oL sc3 rfl (B.cell rfl)) (Sv (o_addE (r := ((spanA isWs s k + 1 : Nat) : Int)) rfl rfl (by rw [wrap64_in _ (by omega)]; omega)) (Sv (o_nilc rfl) (Sv (oA0 fd67_1 rfl) (s_st sc3 B rfl rfl rfl (by simp) fun w5 P5 => ?_))))))))))
   replace E := E.trans P5.mod
   replace B : Blk w5 g _ [_, _, _] := P5.blk
   exact Ln (e_K (hK7 _ _ _ _ (Cq fun K8 hK8 => Cr (Za rfl (Ln (e_K (hK8 _ _ _ _ (cR (ret1 rfl rfl ⟨by rw [hh], by rw [hh]; exact B, E⟩)))))))))

theorem c_rtext (w : World) (g : Nat) (s : Str) (k : Nat) (sk : Value) (B : Blk w g 67 [S s, .int .i64 (k : Int), sk]) (hs : s.length ≤ 65536) (hk : k ≤ s.length) (hU : UtT w) : Calls Tryz.prog 142 [.pointer (some ⟨g, 0, none⟩)].toArray w (PnP 110 [g] w (match strT s k with | none => (.error 4 : Except Int (Str × Nat)) | some x => .ok x) (fun x u w' => u = S x.1 ∧ Blk w' g 67 [S s, .int .i64 (x.2 : Int), sk])) := by
 refine enter Tryz.func142 rfl rfl rfl (l := [(0, _)]) ⟨rfl, trivial⟩ ?_
 have E := Mod.refl [g] w
 refine Cq fun K1 hK1 => Cr (Za rfl (Ln (e_K (hK1 _ _ _ _ (Cq fun K2 hK2 => c_draw wide (by kernel_rfl) (tU 2 rfl rfl (tv (fun w_ E_ => (oA0 fd67_0 rfl)) rfl rfl (tv (fun w_ E_ => (oL sc9 rfl ((B.mod0 E_).cell rfl))) rfl rfl (tU 2 rfl rfl (tv (fun w_ E_ => (oA0 fd67_1 rfl)) rfl rfl (tv (fun w_ E_ => (oL sc3 rfl ((B.mod0 E_).cell rfl))) rfl rfl (tc (fun w_ E_ => oC ent178 rfl) (fun w_ E_ => c_qtake _ s k (by omega) (hU.mod0 E_)) rfl rfl ?_))))))))))))
 refine tU 7 rfl rfl (tw_nil rfl fun w1 E_ => ?_)
 replace B := B.mod0 E_
 replace E := E.then E_
 refine e_K (hK2 _ _ _ _ (Cq fun K3 hK3 => Cq fun K4 hK4 => Cr (tW 2 rfl (Ln (e_K (hK4 _ _ _ _ ?_))))))
 refine c_cond rfl (fun h20 => ?_) (fun h20 => ?_)
 ·have hn : strT s k = none := by cases h : strT s k with | none => rfl | some x => rw [h] at h20; cases h20
  refine Cr ?_
  refine scp (oC ent53 rfl) (c_fail _ 4) rfl (fun w_ h_ => h_.elim) (fun c_ w2 h_ => ?_) fun v_ w2 h_ => ?_
  ·obtain ⟨rfl, rfl⟩ := h_
   exact eT (by simp) (endp ⟨4, by rw [hn], by decide, rfl, E⟩)
  ·exact h_.elim
 ·obtain ⟨t, q, hq⟩ : ∃ t q, strT s k = some (t, q) := by
   cases h : strT s k with
   | none => rw [h] at h20; cases h20
   | some x => exact ⟨x.1, x.2, rfl⟩
  rw [hq, Option.getD_some]
  refine cK (e_K (hK3 _ _ _ _ (Cq fun K5 hK5 => Cr (tW 3 rfl (Sv (oA0 fd67_1 rfl) (s_st sc3 B rfl rfl rfl (by simp) fun w3 P3 => ?_))))))
  replace E := E.trans P3.mod
  replace B : Blk w3 g _ [_, _, _] := P3.blk
  exact Ln (e_K (hK5 _ _ _ _ (Cq fun K6 hK6 => Cr (tW 2 rfl (Ln (e_K (hK6 _ _ _ _ (cR (ret1R rfl rfl ⟨(t, q), by rw [hq], ⟨rfl, B⟩, E⟩)))))))))

theorem c_jdigits (w : World) (s : Str) (k : Nat) (hs : s.length ≤ 1000000) (hk : k ≤ s.length) : Calls Tryz.prog 205 [S (s.drop k)].toArray w (Ret fun u w' => u = .tuple #[S (s.drop (spanA isDg s k)), .int .i64 ((spanA isDg s k - k : Nat) : Int)] ∧ Mod [] w w') := by
 refine enter Tryz.func205 rfl rfl rfl (l := [(0, _)]) ⟨rfl, trivial⟩ ?_
 have E := Mod.refl [] w
 have hg1 := spanA_ge isDg s k
 have hg2 : spanA isDg s k ≤ s.length := spanA_le hk
 refine Cq fun K1 hK1 => Cr (tW 2 rfl (Ln (e_K (hK1 _ _ _ _ (Cq fun K2 hK2 => Cr (Zm rfl (sc (oC ent235 rfl) (c_trimL _ (s.drop k) [48, 49, 50, 51, 52, 53, 54, 55, 56, 57] (by simp) (by decide)) rfl fun v_ w1 h_ => ?_)))))))
 obtain ⟨rfl, E_⟩ := h_
 replace E := E.then E_
 rw [trimD]
 exact Za rfl (Ln (e_K (hK2 _ _ _ _ (Cq fun K3 hK3 => Cr (tW 2 rfl (Sv (o_slen Tryz.underlying9 rfl) (Zm rfl (Sv (o_slen Tryz.underlying9 rfl) (Sv (o_subE (r := ((spanA isDg s k - k : Nat) : Int)) rfl rfl (by rw [List.length_drop, List.length_drop, wrap64_in _ (by omega)]; omega)) (tW 2 rfl (Ln (e_K (hK3 _ _ _ _ (cR (ret2 rfl rfl rfl ⟨rfl, E⟩)))))))))))))))
end Go.Proofs.YtknndpjacklkeaaGreatDoor.V
