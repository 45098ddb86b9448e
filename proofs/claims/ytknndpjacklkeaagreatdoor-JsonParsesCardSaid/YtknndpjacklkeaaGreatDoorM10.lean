/-
  A part of the proof: two events: one that can be, and the empty one; a slice of rows that was built anew is a list that may grow; an event is as its stripped one just if their texts are the same. No condition of its own.
-/
import Derived.Test.YtknndpjacklkeaaGreatDoorM9
import Derived.Test.YtknndpjacklkeaaGreatDoorM4
import Derived.Test.YtknndpjacklkeaaGreatDoorM6
import Derived.Test.YtknndpjacklkeaaGreatDoorM5
import Derived.Test.YtknndpjacklkeaaGreatDoorM7
set_option linter.unusedVariables false
set_option linter.unusedSimpArgs false
set_option maxRecDepth 10000
namespace Go.Proofs.YtknndpjacklkeaaGreatDoor.V
open Go Go.Proofs
end Go.Proofs.YtknndpjacklkeaaGreatDoor.V

set_option linter.unusedVariables false
set_option linter.unusedSimpArgs false
set_option maxRecDepth 10000
namespace Go.Proofs.YtknndpjacklkeaaGreatDoor.V
open Go Go.Proofs
end Go.Proofs.YtknndpjacklkeaaGreatDoor.V

set_option linter.unusedVariables false
set_option linter.unusedSimpArgs false
set_option maxRecDepth 10000
namespace Go.Proofs.YtknndpjacklkeaaGreatDoor.V
open Go Go.Proofs

def JV.seven : JV := .mk 2 false 7 [] [] []
end Go.Proofs.YtknndpjacklkeaaGreatDoor.V

set_option linter.unusedVariables false
set_option linter.unusedSimpArgs false
set_option maxRecDepth 10000
namespace Go.Proofs.YtknndpjacklkeaaGreatDoor.V
open Go Go.Proofs
theorem sl45 : slB Tryz.prog 45 9 1 16 = true := by kernel_rfl
end Go.Proofs.YtknndpjacklkeaaGreatDoor.V

set_option linter.unusedVariables false
set_option linter.unusedSimpArgs false
set_option maxRecDepth 10000
namespace Go.Proofs.YtknndpjacklkeaaGreatDoor.V
open Go Go.Proofs
end Go.Proofs.YtknndpjacklkeaaGreatDoor.V

set_option linter.unusedVariables false
set_option linter.unusedSimpArgs false
namespace Go.Proofs.YtknndpjacklkeaaGreatDoor.V
open Go
theorem EV.reps_ {A : List Nat} {w : World} {e : EV} {cs : List Value} {up ua uS : Value} (Rc : Reps A w e.con.D cs) (Rp : Rep A w (strD e.prev) up) (Ra : Rep A w (strD e.auth) ua) (Rs : Rep A w (flat 3 Sig3.cells e.sigs) uS) :
  Reps A w e.D ([S e.room, S e.snd, S e.ty, .bool e.st, S e.key] ++ (cs ++ [up, ua, .int .i64 e.dep, .int .i64 e.time, S e.hash, uS])) := by
 unfold EV.D
 refine Reps.append (Reps.cons_ (Rep.v_ rfl) (Reps.cons_ (Rep.v_ rfl) (Reps.cons_ (Rep.v_ rfl) (Reps.cons_ (Rep.v_ rfl) (Reps.cons_ (Rep.v_ rfl) Reps.nil_))))) (Reps.append Rc ?_)
 exact Reps.cons_ Rp (Reps.cons_ Ra (Reps.cons_ (Rep.v_ rfl) (Reps.cons_ (Rep.v_ rfl) (Reps.cons_ (Rep.v_ rfl) (Reps.cons_ Rs Reps.nil_)))))
def JV.five : JV := .mk 5 false 0 [] [] []
abbrev as43 : Str := List.replicate 43 65
def EV.plain : EV := { room := [33, 114, 58, 97], snd := [64, 117, 58, 97], ty := [116], st := false, key := [], con := JV.five, prev := [36 :: as43], auth := [], dep := 0, time := 0, hash := as43, sigs := [] }
def EV.nul : EV := { room := [], snd := [], ty := [], st := false, key := [], con := JV.nul, prev := [], auth := [], dep := 0, time := 0, hash := [], sigs := [] }
theorem EV.nul_reps {A : List Nat} {w : World} : Reps A w EV.nul.D [S [], S [], S [], .bool false, S [], .int .i64 0, .bool false, .int .i64 0, S [], .slice none 0 0, .slice none 0 0, .slice none 0 0, .slice none 0 0, .int .i64 0, .int .i64 0, S [], .slice none 0 0] :=
 EV.reps_ (e := EV.nul) JV.nul_reps Rep.sl_nil Rep.sl_nil Rep.sl_nil
end Go.Proofs.YtknndpjacklkeaaGreatDoor.V

set_option linter.unusedVariables false
set_option linter.unusedSimpArgs false
set_option maxRecDepth 10000
namespace Go.Proofs.YtknndpjacklkeaaGreatDoor.V
open Go Go.Proofs
end Go.Proofs.YtknndpjacklkeaaGreatDoor.V

set_option linter.unusedVariables false
set_option linter.unusedSimpArgs false
set_option maxRecDepth 10000
namespace Go.Proofs.YtknndpjacklkeaaGreatDoor.V
open Go Go.Proofs
end Go.Proofs.YtknndpjacklkeaaGreatDoor.V

set_option linter.unusedVariables false
set_option linter.unusedSimpArgs false
set_option maxRecDepth 10000
namespace Go.Proofs.YtknndpjacklkeaaGreatDoor.V
open Go Go.Proofs
end Go.Proofs.YtknndpjacklkeaaGreatDoor.V

set_option linter.unusedVariables false
set_option linter.unusedSimpArgs false
set_option maxRecDepth 10000
namespace Go.Proofs.YtknndpjacklkeaaGreatDoor.V
open Go Go.Proofs
end Go.Proofs.YtknndpjacklkeaaGreatDoor.V

set_option linter.unusedVariables false
set_option linter.unusedSimpArgs false
set_option maxRecDepth 10000
namespace Go.Proofs.YtknndpjacklkeaaGreatDoor.V
open Go Go.Proofs

theorem c_jwith (A : List Nat) (w : World) (hA : ∀ a ∈ A, a < w.heap.size) (m : List (Str × JV)) (v0 : Value) (R : Rep A w (.sl 7 (m.map JV.Dp)) v0) (kk : Str) (x : JV) (us : List Value) (Rx : Reps A w x.D us) (hn : m.length ≤ 1353245080310) : Calls Tryz.prog 78 [v0, .agg (S kk :: us).toArray].toArray w (Ret fun u w' => Rep A w' (.sl 7 ((putM m kk x).map JV.Dp)) u ∧ Mod [] w w') := by
 refine enter Tryz.func78 rfl rfl rfl (l := [(0, _), (1, _)]) ⟨rfl, rfl, trivial⟩ ?_
 have E := Mod.refl [] w
 obtain ⟨ad, c, rfl, hc1, hc2⟩ : ∃ ad c, v0 = .slice ad m.length c ∧ m.length ≤ c ∧ c ≤ 9223372036854775807 := by
  obtain ⟨ad, c, h1, h2, h3⟩ := R.sl_
  rw [List.length_map] at h1 h2
  exact ⟨ad, c, h1, h2, h3⟩
 obtain ⟨alx, clx, amx, cmx, rfl, Rlx, Rmx⟩ := JV.cells_ Rx
 have Rx := JV.reps_ Rlx Rmx
 refine Cq fun K1 hK1 => Cr (s_box rfl rfl rfl fun g1 w1 N1 => ?_)
 have Lg1_E := N1.le E
 replace E := E.then N1.mod
 have Bg1 := N1.blk
 refine Za rfl (Ln (e_K (hK1 _ _ _ _ (Cq fun K2 hK2 => Cr (Za rfl (Ln (e_K (hK2 _ _ _ _ (Cq fun K3 hK3 => Cq fun K4 hK4 => Cr (Zm rfl (Sv (o_len Tryz.underlying23 rfl) (Zm rfl ?_))))))))))))
 refine Ln (e_K (hK4 _ _ _ _ (cB (c_loop (σ := Nat × Value × List Value) (fun ⟨k, v, vs⟩ => [(0, .slice ad m.length c), (3, .pointer (some ⟨g1, 0, none⟩)), (5, v), (10, .slice ad m.length c), (11, .int .i64 m.length), (12, .int .i64 (k : Int))]) (fun ⟨k, v, vs⟩ w1 => k ≤ m.length ∧ Own w1 44 7 v (((m.take k).filter fun p => bl p.1 kk)).length vs ∧ Reps A w ((((m.take k).filter fun p => bl p.1 kk)).map JV.Dp).flatten vs ∧ (∀ x ∈ ob v, w.heap.size ≤ x) ∧ (∀ x ∈ ob v, x ≠ g1) ∧ Blk w1 g1 44 [S kk, .int .i64 x.kind, .bool x.is, .int .i64 x.num, S x.str, .slice alx x.list.length clx, .slice amx x.map.length cmx] ∧ Mod [] w w1) (fun ⟨k, v, vs⟩ => m.length - k) (⟨0, .slice none 0 0, []⟩) ⟨rfl, rfl, rfl, rfl, rfl, rfl, trivial⟩ (⟨by omega, by simpa using Own.nil w1 44 7, Reps.nil_, by simp [ob], by simp [ob], Bg1, E⟩) ?_))))
 rintro ⟨k, v, vs⟩ w2 ⟨hk, Oa0, hvs, L0, D0, Bg1, E⟩
 refine Cq fun K5 hK5 => Cr (Sv (o_lss rfl rfl) (Ln (e_K (hK5 _ _ _ _ (Cq fun K6 hK6 => ?_)))))
 refine c_if rfl (fun h13 => ?_) (fun h13 => ?_)
 ·have hlt : k < m.length := by omega
  obtain ⟨y, hx_y⟩ : ∃ x, m[k]? = some x := ⟨_, List.getElem?_eq_getElem (by omega)⟩
  obtain ⟨a_y, us_y, ha_y, R_y, hcs0_y⟩ := JV.at_m R hx_y
  obtain ⟨al_y, cl_y, am_y, cm_y, rfl, Rl_y, Rm_y⟩ := JV.cells_ R_y
  have hcs_y := hcs0_y.mod0 E
  have hcap_y := JV.cap_m R
  obtain rfl := ha_y
  have hf1 := List.length_filter_le (fun p => bl p.1 kk) (m.take k)
  have hf2 := List.length_filter_le (fun p => bl kk p.1) (m.take k)
  have hf3 := List.length_filter_le (fun p => bl p.1 kk) m
  have hf4 : (m.take k).length ≤ m.length := by rw [List.length_take]; omega
  have hf5 := flt_len (k := kk) (r := m)
  have hf6 := flt_take (q := fun p => bl kk p.1) (m := m) (k := k)
  have hf7 := flt_take (q := fun p => bl p.1 kk) (m := m) (k := k)
  refine cK (e_K (hK6 _ _ _ _ (Cq fun K7 hK7 => cB (Cq fun K8 hK8 => Cr (Sv (o_ix sl23 rfl rfl (by omega)) (Sv (o_lda ag44 rfl rfl hcs_y) (s_alloc zv44 rfl fun g2 w3 N2 => ?_)))))))
  have Lg2_E := N2.le E
  have Dg1_g2 := N2.ne Bg1
  have Da0_g2 := N2.own_ne Oa0
  replace Bg1 := Bg1.mod0 N2.mod
  replace E := E.then N2.mod
  replace Oa0 := Oa0.mod0 N2.mod
  have Bg2 := N2.blk
  refine s_sta (vs := [_, _, _, _, _, _, _]) ag44 Bg2 rfl rfl rfl (by simp [Value.oneCell']) (by simp) fun w4 P4 => ?_
  replace Bg1 := Bg1.ne P4.mod (Ne.symm (Ne.symm Dg1_g2))
  replace E := E.own P4.mod Lg2_E
  replace Oa0 := Oa0.put P4.mod Da0_g2
  replace Bg2 : Blk w4 g2 _ [_, _, _, _, _, _, _] := P4.blk
  refine Ln (e_K (hK8 _ _ _ _ (Cq fun K9 hK9 => Cr (Sv (oA0 fd44_0 rfl) (Sv (oL sc9 rfl (Bg2.cell rfl)) (Sv (oA0 fd44_0 rfl) (Sv (oL sc9 rfl (Bg1.cell rfl)) (Sv (o_slt rfl rfl) (Ln (e_K (hK9 _ _ _ _ ?_)))))))))))
  refine c_cond rfl (fun h20 => ?_) (fun h20 => ?_)
  ·refine Cr (Zm rfl (Sv (o_lda (vs := [_, _, _, _, _, _, _]) ag44 rfl rfl (Bg2.cs rfl)) (s_bslice (cs := [_, _, _, _, _, _, _]) sl23 zv44 rfl rfl rfl (by decide) rfl fun g3 w5 N3 => ?_)))
   have Lg3_E := N3.le E
   have Dg1_g3 := N3.ne Bg1
   have Dg2_g3 := N3.ne Bg2
   have Da0_g3 := N3.own_ne Oa0
   replace Bg1 := Bg1.mod0 N3.mod
   replace Bg2 := Bg2.mod0 N3.mod
   replace E := E.then N3.mod
   replace Oa0 := Oa0.mod0 N3.mod
   have Bg3 := N3.blk
   refine s_append sl23 rfl rfl Oa0 (Src.own Tryz.underlying23 (Own.all (cs := [_, _, _, _, _, _, _]) Bg3 rfl (by omega)) (by simp [Value.oneCell'])) (by decide) (by omega) (by omega) rfl fun v1 w6 A1 => ?_
   have Dv1_g1 := A1.ne D0 Bg1
   have Dv1_g2 := A1.ne Da0_g2 Bg2
   have Dv1_g3 := A1.ne Da0_g3 Bg3
   have Lv1_E := A1.ge L0 E
   replace Bg1 := Bg1.mod A1.mod (fun hx => D0 _ hx rfl)
   replace Bg2 := Bg2.mod A1.mod (fun hx => Da0_g2 _ hx rfl)
   replace Bg3 := Bg3.mod A1.mod (fun hx => Da0_g3 _ hx rfl)
   replace E := E.trans' A1.mod (fun x hx => .inr (L0 x hx))
   replace Oa0 := A1.own
   exact Za rfl (Ln (eI (by simp) (e_K (hK7 _ _ _ _ (Cr (Sv (o_addN rfl rfl (by omega)) (Zm rfl (Ln (eR (σ := Nat × Value × List Value) (s := ⟨k, v, vs⟩) (⟨k + 1, v1, vs ++ [S y.1, .int .i64 y.2.kind, .bool y.2.is, .int .i64 y.2.num, S y.2.str, .slice al_y y.2.list.length cl_y, .slice am_y y.2.map.length cm_y]⟩) ⟨rfl, rfl, rfl, rfl, rfl, rfl, trivial⟩ ⟨by omega, Oa0.same (by rw [filter_snoc _ hx_y]; simp [h20]) rfl, by rw [filter_snoc _ hx_y, if_pos h20]; exact JV.rows_snoc hvs (JV.Dp_reps R_y), Lv1_E, Dv1_g1, Bg1, E⟩ (by dsimp only; omega))))))))))
  ·exact cK (eI (by simp) (e_K (hK7 _ _ _ _ (Cr (Sv (o_addN rfl rfl (by omega)) (Zm rfl (Ln (eR (σ := Nat × Value × List Value) (s := ⟨k, v, vs⟩) (⟨k + 1, v, vs⟩) ⟨rfl, rfl, rfl, rfl, rfl, rfl, trivial⟩ ⟨by omega, Oa0.same (by rw [filter_snoc _ hx_y]; simp [h20]) rfl, by rw [filter_snoc _ hx_y, if_neg (by rw [h20]; decide), List.append_nil]; exact hvs, L0, D0, Bg1, E⟩ (by dsimp only; omega)))))))))
 ·have hf1 := List.length_filter_le (fun p => bl p.1 kk) (m.take k)
  have hf2 := List.length_filter_le (fun p => bl kk p.1) (m.take k)
  have hf3 := List.length_filter_le (fun p => bl p.1 kk) m
  have hf4 : (m.take k).length ≤ m.length := by rw [List.length_take]; omega
  have hf5 := flt_len (k := kk) (r := m)
  have hf6 := flt_take (q := fun p => bl kk p.1) (m := m) (k := k)
  have hf7 := flt_take (q := fun p => bl p.1 kk) (m := m) (k := k)
  refine c_exit (eT (by simp) (eT (by simp) (e_hit (e_K (hK3 _ _ _ _ (Cq fun K10 hK10 => Cr (Zm rfl (Sv (o_lda (vs := [_, _, _, _, _, _, _]) ag44 rfl rfl (Bg1.cs rfl)) (s_bslice (cs := [_, _, _, _, _, _, _]) sl23 zv44 rfl rfl rfl (by decide) rfl fun g4 w7 N4 => ?_)))))))))
  have Lg4_E := N4.le E
  have Dg1_g4 := N4.ne Bg1
  have Da0_g4 := N4.own_ne Oa0
  replace Bg1 := Bg1.mod0 N4.mod
  replace E := E.then N4.mod
  replace Oa0 := Oa0.mod0 N4.mod
  have Bg4 := N4.blk
  refine s_append sl23 rfl rfl Oa0 (Src.own Tryz.underlying23 (Own.all (cs := [_, _, _, _, _, _, _]) Bg4 rfl (by omega)) (by simp [Value.oneCell'])) (by decide) (by omega) (by omega) rfl fun v2 w8 A2 => ?_
  have Dv2_g1 := A2.ne D0 Bg1
  have Dv2_g4 := A2.ne Da0_g4 Bg4
  have Lv2_E := A2.ge L0 E
  replace Bg1 := Bg1.mod A2.mod (fun hx => D0 _ hx rfl)
  replace Bg4 := Bg4.mod A2.mod (fun hx => Da0_g4 _ hx rfl)
  replace E := E.trans' A2.mod (fun x hx => .inr (L0 x hx))
  replace Oa0 := A2.own
  refine Za rfl (Ln (e_K (hK10 _ _ _ _ (Cq fun K11 hK11 => Cq fun K12 hK12 => Cr (Zm rfl (Sv (o_len Tryz.underlying23 rfl) (Zm rfl (Ln (e_K (hK12 _ _ _ _ (cB (c_loop (σ := Nat × Value × List Value) (fun ⟨k, v, vs⟩ => [(3, .pointer (some ⟨g1, 0, none⟩)), (5, v), (30, .slice ad m.length c), (31, .int .i64 m.length), (32, .int .i64 (k : Int))]) (fun ⟨k, v, vs⟩ w1 => k ≤ m.length ∧ Own w1 44 7 v (((m.filter fun p => bl p.1 kk) ++ [(kk, x)] ++ (m.take k).filter fun p => bl kk p.1)).length vs ∧ Reps A w ((((m.filter fun p => bl p.1 kk) ++ [(kk, x)] ++ (m.take k).filter fun p => bl kk p.1)).map JV.Dp).flatten vs ∧ (∀ x ∈ ob v, w.heap.size ≤ x) ∧ (∀ x ∈ ob v, x ≠ g1) ∧ Blk w1 g1 44 [S kk, .int .i64 x.kind, .bool x.is, .int .i64 x.num, S x.str, .slice alx x.list.length clx, .slice amx x.map.length cmx] ∧ Mod [] w w1) (fun ⟨k, v, vs⟩ => m.length - k) (⟨0, v2, vs ++ [S kk, .int .i64 x.kind, .bool x.is, .int .i64 x.num, S x.str, .slice alx x.list.length clx, .slice amx x.map.length cmx]⟩) ⟨rfl, rfl, rfl, rfl, rfl, trivial⟩ (⟨by omega, Oa0.same (by rw [List.take_of_length_le (by omega)]; simp) rfl, by rw [List.take_of_length_le (by omega)] at hvs; simpa using JV.rows_snoc hvs (JV.Dp_reps (p := (kk, x)) Rx), Lv2_E, Dv2_g1, Bg1, E⟩) ?_))))))))))))
  rintro ⟨k, v, vs⟩ w9 ⟨hk, Oa0, hvs, L0, D0, Bg1, E⟩
  refine Cq fun K13 hK13 => Cr (Sv (o_lss rfl rfl) (Ln (e_K (hK13 _ _ _ _ (Cq fun K14 hK14 => ?_)))))
  refine c_if rfl (fun h33 => ?_) (fun h33 => ?_)
  ·have hlt : k < m.length := by omega
   obtain ⟨y, hx_y⟩ : ∃ x, m[k]? = some x := ⟨_, List.getElem?_eq_getElem (by omega)⟩
   obtain ⟨a_y, us_y, ha_y, R_y, hcs0_y⟩ := JV.at_m R hx_y
   obtain ⟨al_y, cl_y, am_y, cm_y, rfl, Rl_y, Rm_y⟩ := JV.cells_ R_y
   have hcs_y := hcs0_y.mod0 E
   have hcap_y := JV.cap_m R
   obtain rfl := ha_y
   have hf1 := List.length_filter_le (fun p => bl p.1 kk) (m.take k)
   have hf2 := List.length_filter_le (fun p => bl kk p.1) (m.take k)
   have hf3 := List.length_filter_le (fun p => bl p.1 kk) m
   have hf4 : (m.take k).length ≤ m.length := by rw [List.length_take]; omega
   have hf5 := flt_len (k := kk) (r := m)
   have hf6 := flt_take (q := fun p => bl kk p.1) (m := m) (k := k)
   have hf7 := flt_take (q := fun p => bl p.1 kk) (m := m) (k := k)
   refine cK (e_K (hK14 _ _ _ _ (Cq fun K15 hK15 => cB (Cq fun K16 hK16 => Cr (Sv (o_ix sl23 rfl rfl (by omega)) (Sv (o_lda ag44 rfl rfl hcs_y) (s_alloc zv44 rfl fun g5 w10 N5 => ?_)))))))
   have Lg5_E := N5.le E
   have Dg1_g5 := N5.ne Bg1
   have Da0_g5 := N5.own_ne Oa0
   replace Bg1 := Bg1.mod0 N5.mod
   replace E := E.then N5.mod
   replace Oa0 := Oa0.mod0 N5.mod
   have Bg5 := N5.blk
   refine s_sta (vs := [_, _, _, _, _, _, _]) ag44 Bg5 rfl rfl rfl (by simp [Value.oneCell']) (by simp) fun w11 P11 => ?_
   replace Bg1 := Bg1.ne P11.mod (Ne.symm (Ne.symm Dg1_g5))
   replace E := E.own P11.mod Lg5_E
   replace Oa0 := Oa0.put P11.mod Da0_g5
   replace Bg5 : Blk w11 g5 _ [_, _, _, _, _, _, _] := P11.blk
   refine Ln (e_K (hK16 _ _ _ _ (Cq fun K17 hK17 => Cr (Sv (oA0 fd44_0 rfl) (Sv (oL sc9 rfl (Bg5.cell rfl)) (Sv (oA0 fd44_0 rfl) (Sv (oL sc9 rfl (Bg1.cell rfl)) (Sv ((o_sgt rfl rfl).to (by rw [gt_bl])) ?_))))))))
   refine Ln (e_K (hK17 _ _ _ _ ?_))
   refine c_cond rfl (fun h40 => ?_) (fun h40 => ?_)
   ·refine Cr (Zm rfl (Sv (o_lda (vs := [_, _, _, _, _, _, _]) ag44 rfl rfl (Bg5.cs rfl)) (s_bslice (cs := [_, _, _, _, _, _, _]) sl23 zv44 rfl rfl rfl (by decide) rfl fun g6 w12 N6 => ?_)))
    have Lg6_E := N6.le E
    have Dg1_g6 := N6.ne Bg1
    have Dg5_g6 := N6.ne Bg5
    have Da0_g6 := N6.own_ne Oa0
    replace Bg1 := Bg1.mod0 N6.mod
    replace Bg5 := Bg5.mod0 N6.mod
    replace E := E.then N6.mod
    replace Oa0 := Oa0.mod0 N6.mod
    have Bg6 := N6.blk
    refine s_append sl23 rfl rfl Oa0 (Src.own Tryz.underlying23 (Own.all (cs := [_, _, _, _, _, _, _]) Bg6 rfl (by omega)) (by simp [Value.oneCell'])) (by decide) (by simp only [List.length_append, List.length_singleton]; omega) (by simp only [List.length_append, List.length_singleton]; omega) rfl fun v3 w13 A3 => ?_
    have Dv3_g1 := A3.ne D0 Bg1
    have Dv3_g5 := A3.ne Da0_g5 Bg5
    have Dv3_g6 := A3.ne Da0_g6 Bg6
    have Lv3_E := A3.ge L0 E
    replace Bg1 := Bg1.mod A3.mod (fun hx => D0 _ hx rfl)
    replace Bg5 := Bg5.mod A3.mod (fun hx => Da0_g5 _ hx rfl)
    replace Bg6 := Bg6.mod A3.mod (fun hx => Da0_g6 _ hx rfl)
    replace E := E.trans' A3.mod (fun x hx => .inr (L0 x hx))
    replace Oa0 := A3.own
    exact Za rfl (Ln (eI (by simp) (e_K (hK15 _ _ _ _ (Cr (Sv (o_addN rfl rfl (by omega)) (Zm rfl (Ln (eR (σ := Nat × Value × List Value) (s := ⟨k, v, vs⟩) (⟨k + 1, v3, vs ++ [S y.1, .int .i64 y.2.kind, .bool y.2.is, .int .i64 y.2.num, S y.2.str, .slice al_y y.2.list.length cl_y, .slice am_y y.2.map.length cm_y]⟩) ⟨rfl, rfl, rfl, rfl, rfl, trivial⟩ ⟨by omega, Oa0.same (by rw [filter_snoc _ hx_y]; simp [h40]; omega) rfl, by rw [filter_snoc _ hx_y, if_pos h40]; rw [← List.append_assoc]; exact JV.rows_snoc hvs (JV.Dp_reps R_y), Lv3_E, Dv3_g1, Bg1, E⟩ (by dsimp only; omega))))))))))
   ·exact cK (eI (by simp) (e_K (hK15 _ _ _ _ (Cr (Sv (o_addN rfl rfl (by omega)) (Zm rfl (Ln (eR (σ := Nat × Value × List Value) (s := ⟨k, v, vs⟩) (⟨k + 1, v, vs⟩) ⟨rfl, rfl, rfl, rfl, rfl, trivial⟩ ⟨by omega, Oa0.same (by rw [filter_snoc _ hx_y]; simp [h40]) rfl, by rw [filter_snoc _ hx_y, if_neg (by rw [h40]; decide), List.append_nil]; exact hvs, L0, D0, Bg1, E⟩ (by dsimp only; omega)))))))))
  ·have hk2 : k = m.length := by omega
   subst hk2
   exact c_exit (eT (by simp) (eT (by simp) (e_hit (e_K (hK11 _ _ _ _ (Cq fun K18 hK18 => Cr (tW 2 rfl (Ln (e_K (hK18 _ _ _ _ (cR (ret1 rfl rfl ⟨Own.mem_ (m := putM m kk x) Oa0 ((by simpa [putM] using hvs : Reps A w _ _).to0 E) (by simp [putM]) (fun y hy h => by have := L0 y hy; have := hA y h; omega), E⟩))))))))))))
end Go.Proofs.YtknndpjacklkeaaGreatDoor.V

set_option linter.unusedVariables false
set_option linter.unusedSimpArgs false
set_option maxRecDepth 10000
namespace Go.Proofs.YtknndpjacklkeaaGreatDoor.V
open Go Go.Proofs
end Go.Proofs.YtknndpjacklkeaaGreatDoor.V

set_option linter.unusedVariables false
set_option linter.unusedSimpArgs false
set_option maxRecDepth 10000
namespace Go.Proofs.YtknndpjacklkeaaGreatDoor.V
open Go Go.Proofs

end Go.Proofs.YtknndpjacklkeaaGreatDoor.V

set_option linter.unusedVariables false
set_option linter.unusedSimpArgs false
set_option maxRecDepth 10000
namespace Go.Proofs.YtknndpjacklkeaaGreatDoor.V
open Go Go.Proofs
end Go.Proofs.YtknndpjacklkeaaGreatDoor.V

set_option linter.unusedVariables false
set_option linter.unusedSimpArgs false
set_option maxRecDepth 10000
namespace Go.Proofs.YtknndpjacklkeaaGreatDoor.V
open Go Go.Proofs
end Go.Proofs.YtknndpjacklkeaaGreatDoor.V

set_option linter.unusedVariables false
set_option linter.unusedSimpArgs false
set_option maxRecDepth 10000
namespace Go.Proofs.YtknndpjacklkeaaGreatDoor.V
open Go Go.Proofs
end Go.Proofs.YtknndpjacklkeaaGreatDoor.V

set_option linter.unusedVariables false
set_option linter.unusedSimpArgs false
set_option maxRecDepth 10000
namespace Go.Proofs.YtknndpjacklkeaaGreatDoor.V
open Go Go.Proofs
theorem c_jtext (w : World) (s : Str) : Calls Tryz.prog 75 [S s].toArray w (Ret fun u w' => u = .agg #[.int .i64 3, .bool false, .int .i64 0, S s, .slice none 0 0, .slice none 0 0] ∧ Mod [] w w') := by
 refine enter Tryz.func75 rfl rfl rfl (l := [(0, _)]) ⟨rfl, trivial⟩ ?_
 have E := Mod.refl [] w
 refine Cq fun K1 hK1 => Cr (s_alloc zv25 rfl fun g1 w1 N1 => ?_)
 have Lg1_E := N1.le E
 replace E := E.then N1.mod
 have Bg1 := N1.blk
 refine Ln (e_K (hK1 _ _ _ _ (Cq fun K2 hK2 => Cr (Zm rfl (Sv (o_build (cs := [_, _, _, _, _, _]) pl25 zv25 rfl rfl) (s_sta (vs := [_, _, _, _, _, _]) ag25 Bg1 rfl rfl rfl (by simp [Value.oneCell']) (by simp) fun w2 P2 => ?_))))))
 replace E := E.own P2.mod Lg1_E
 replace Bg1 : Blk w2 g1 _ [_, _, _, _, _, _] := P2.blk
 exact Ln (e_K (hK2 _ _ _ _ (cR (retc (vs := [_, _, _, _, _, _]) rfl ag25 rfl rfl (Bg1.cs rfl) ⟨rfl, E⟩))))

theorem c_jnum (w : World) (n : Int) : Calls Tryz.prog 20 [.int .i64 n].toArray w (Ret fun u w' => u = .agg #[.int .i64 2, .bool false, .int .i64 n, S [], .slice none 0 0, .slice none 0 0] ∧ Mod [] w w') := by
 refine enter Tryz.func20 rfl rfl rfl (l := [(0, _)]) ⟨rfl, trivial⟩ ?_
 have E := Mod.refl [] w
 refine Cq fun K1 hK1 => Cr (s_alloc zv25 rfl fun g1 w1 N1 => ?_)
 have Lg1_E := N1.le E
 replace E := E.then N1.mod
 have Bg1 := N1.blk
 refine Ln (e_K (hK1 _ _ _ _ (Cq fun K2 hK2 => Cr (Zm rfl (Sv (o_build (cs := [_, _, _, _, _, _]) pl25 zv25 rfl rfl) (s_sta (vs := [_, _, _, _, _, _]) ag25 Bg1 rfl rfl rfl (by simp [Value.oneCell']) (by simp) fun w2 P2 => ?_))))))
 replace E := E.own P2.mod Lg1_E
 replace Bg1 : Blk w2 g1 _ [_, _, _, _, _, _] := P2.blk
 exact Ln (e_K (hK2 _ _ _ _ (cR (retc (vs := [_, _, _, _, _, _]) rfl ag25 rfl rfl (Bg1.cs rfl) ⟨rfl, E⟩))))

end Go.Proofs.YtknndpjacklkeaaGreatDoor.V

set_option linter.unusedVariables false
set_option linter.unusedSimpArgs false
namespace Go.Proofs.YtknndpjacklkeaaGreatDoor.V
open Go
theorem GL.new {A : List Nat} {w0 w1 w2 : World} {g e sz n : Nat} {cs : List Value} {rows : List (List D)} (N : New w1 w2 g e cs) (R : Reps A w1 rows.flatten cs) (hA : ∀ a ∈ A, a < w1.heap.size) (h0 : w0.heap.size ≤ w1.heap.size) (hl : cs.length = n * sz) (hn : n ≤ 9223372036854775807) : GL A w0 w2 e sz (.slice (some ⟨g, 0, none⟩) n n) n rows cs := by
 have hg := N.at_
 refine ⟨Own.all N.blk hl hn, Reps.to N.mod (by simp) (fun x hx => ?_) _ _ R, fun y hy => ?_, fun y hy ha => ?_, fun a ha => Nat.lt_of_lt_of_le (hA a ha) N.mod.size⟩
 ·rcases List.mem_append.1 hx with h | h
  ·exact .inl h
  ·simp only [ob, List.mem_singleton] at h
   exact .inr (by omega)
 ·simp only [ob, List.mem_singleton] at hy
  omega
 ·simp only [ob, List.mem_singleton] at hy
  have := hA y ha
  omega
theorem GL.bs {P : Program} {l : List (Nat × Value)} {dd : Option Nat} {t : TypeId} {ty : TypeId} {pos : String} {af : Array Edge} {gg : Option (Nat × Bool)} {ps : List (Nat × Operand)} {us : List (Nat × Value)} {e c sz by_ : Nat} {zs cs : List Value} {A : List Nat} {w0 w : World} {rows : List (List D)} (ht : slB P t e sz by_ = true) (hz : zvB P e zs) (hx : evP l ps = some us)
  (hf : fillF (fun i => some (i * sz, sz)) ((List.replicate c zs).flatten) us = some cs) (hzl : zs.length = sz) (hc : c * sz ≤ 16777216) (R : Reps A w rows.flatten cs) (hA : ∀ a ∈ A, a < w.heap.size) (h0 : w0.heap.size ≤ w.heap.size) (hl : cs.length = c * sz) (hn : c ≤ 9223372036854775807) :
  ∃ v w2, Runs P l ⟨dd, .buildSlice t c ps.toArray, ty, pos, af, gg⟩ w v w2 ∧ Mod [] w w2 ∧ ∃ vs, GL A w0 w2 e sz v c rows vs := by
 have N := New.mk' w e cs
 exact ⟨_, _, r_bslice ht hz hx hf hzl hc, N.mod, cs, GL.new N R hA h0 hl hn⟩
theorem GL.toM {A M : List Nat} {w0 w w' : World} {e sz n : Nat} {wv : Value} {rows : List (List D)} {vs : List Value} (G : GL A w0 w e sz wv n rows vs) (k : Mod M w w') (hM : ∀ x ∈ M, x ∈ A) : GL A w0 w' e sz wv n rows vs :=
 ⟨G.own.mod k (fun x hx h => G.dj x hx (hM x h)), G.rd.toM k (fun x hx => List.mem_append_left _ (hM x hx)), G.fr, G.dj, fun a ha => Nat.lt_of_lt_of_le (G.al a ha) k.size⟩
theorem JV.lst_repsN {A : List Nat} {w : World} {l : List JV} {al : Option Addr} {cl n : Nat} (hn : l.length = n) (R : Rep A w (.sl 6 (l.map JV.D)) (.slice al n cl)) : Reps A w (JV.lst l).D [.int .i64 4, .bool false, .int .i64 0, S [], .slice al n cl, .slice none 0 0] := by
 subst hn
 exact JV.lst_reps R
end Go.Proofs.YtknndpjacklkeaaGreatDoor.V

set_option linter.unusedVariables false
set_option linter.unusedSimpArgs false
set_option maxRecDepth 10000
namespace Go.Proofs.YtknndpjacklkeaaGreatDoor.V
open Go Go.Proofs
theorem ent20 : Ent Tryz.prog 20 := Ent.of Tryz.func20 (by kernel_rfl) (by kernel_rfl)
end Go.Proofs.YtknndpjacklkeaaGreatDoor.V

set_option linter.unusedVariables false
set_option linter.unusedSimpArgs false
set_option maxRecDepth 10000
namespace Go.Proofs.YtknndpjacklkeaaGreatDoor.V
open Go Go.Proofs
end Go.Proofs.YtknndpjacklkeaaGreatDoor.V

set_option linter.unusedVariables false
set_option linter.unusedSimpArgs false
set_option maxRecDepth 10000
namespace Go.Proofs.YtknndpjacklkeaaGreatDoor.V
open Go Go.Proofs
theorem ent77 : Ent Tryz.prog 77 := Ent.of Tryz.func77 (by kernel_rfl) (by kernel_rfl)
end Go.Proofs.YtknndpjacklkeaaGreatDoor.V

set_option linter.unusedVariables false
set_option linter.unusedSimpArgs false
set_option maxRecDepth 10000
namespace Go.Proofs.YtknndpjacklkeaaGreatDoor.V
open Go Go.Proofs
theorem ent78 : Ent Tryz.prog 78 := Ent.of Tryz.func78 (by kernel_rfl) (by kernel_rfl)
end Go.Proofs.YtknndpjacklkeaaGreatDoor.V

set_option linter.unusedVariables false
set_option linter.unusedSimpArgs false
namespace Go.Proofs.YtknndpjacklkeaaGreatDoor.V
open Go
namespace JV
end JV
namespace EV
open JV
def rest (e : EV) : List (Str × JV) := if e.st then putM (e.mem10.drop 2) kState (txtV e.key) else e.mem10.drop 2
end EV
end Go.Proofs.YtknndpjacklkeaaGreatDoor.V

set_option linter.unusedVariables false
set_option linter.unusedSimpArgs false
set_option maxRecDepth 10000
namespace Go.Proofs.YtknndpjacklkeaaGreatDoor.V
open Go Go.Proofs
end Go.Proofs.YtknndpjacklkeaaGreatDoor.V

set_option linter.unusedVariables false
set_option linter.unusedSimpArgs false
set_option maxRecDepth 10000
namespace Go.Proofs.YtknndpjacklkeaaGreatDoor.V
open Go Go.Proofs
end Go.Proofs.YtknndpjacklkeaaGreatDoor.V

set_option linter.unusedVariables false
set_option linter.unusedSimpArgs false
set_option maxRecDepth 10000
namespace Go.Proofs.YtknndpjacklkeaaGreatDoor.V
open Go Go.Proofs
theorem fd67_1 : fdB Tryz.prog 67 1 1 1 = true := by kernel_rfl
theorem fd67_0 : fdB Tryz.prog 67 0 0 1 = true := by kernel_rfl
theorem ent52 : Ent Tryz.prog 52 := Ent.of Tryz.func52 (by kernel_rfl) (by kernel_rfl)
theorem ent178 : Ent Tryz.prog 178 := Ent.of Tryz.func178 (by kernel_rfl) (by kernel_rfl)
theorem ent235 : Ent Tryz.prog 235 := Ent.of Tryz.func235 (by kernel_rfl) (by kernel_rfl)
def gX : Nat := 6
/-- what the reading asks of the program's variables -/
structure Env (w : World) : Prop where
 tab : Tab w
 utf : UtT w
 err : ErrT w
 sz : gX < w.heap.size
theorem Env.mod {w w' : World} {M : List Nat} (h : Env w) (k : Mod M w w') (hM : ∀ x ∈ M, gX < x) : Env w' :=
 ⟨h.tab.mod k (fun hx => by have := hM _ hx; simp only [gX, gT] at this; omega), h.utf.mod k (fun x hx => by have := hM x hx; simp only [gX] at this; omega), h.err.mod k (fun x hx => by have := hM x hx; simp only [gX] at this; omega), Nat.lt_of_lt_of_le h.sz k.size⟩
theorem Env.mod0 {w w' : World} (h : Env w) (k : Mod [] w w') : Env w' := h.mod k (by simp)
theorem Env.modg {w w' : World} {g : Nat} (h : Env w) (hg : gX < g) (k : Mod [g] w w') : Env w' := h.mod k (fun x hx => by rw [List.mem_singleton.1 hx]; exact hg)

theorem c_blank (w : World) (g : Nat) (s : Str) (k : Nat) (sk : Value) (B : Blk w g 67 [S s, .int .i64 (k : Int), sk]) (hs : s.length ≤ 65536) (hk : k ≤ s.length) : Calls Tryz.prog 52 [.pointer (some ⟨g, 0, none⟩)].toArray w (Ret fun u w' => Blk w' g 67 [S s, .int .i64 (spanA isWs s k : Int), sk] ∧ Mod [g] w w') := by
 refine enter Tryz.func52 rfl rfl rfl (l := [(0, _)]) ⟨rfl, trivial⟩ ?_
 have E := Mod.refl [g] w
 refine cB (c_loop (σ := Nat) (fun p => [(0, .pointer (some ⟨g, 0, none⟩))]) (fun p w1 => (k ≤ p ∧ p ≤ s.length ∧ spanA isWs s p = spanA isWs s k) ∧ Blk w1 g 67 [S s, .int .i64 (p : Int), sk] ∧ Mod [g] w w1) (fun p => s.length - p) (k) ⟨rfl, trivial⟩ (⟨⟨Nat.le_refl _, hk, rfl⟩, B, E⟩) ?_)
 rintro p w1 ⟨⟨hkp, hp, hsp⟩, B, E⟩
 refine Cq fun K1 hK1 => Cq fun K2 hK2 => ?_
 by_cases hlt : (p : Int) < (s.length : Int)
 ·obtain ⟨c, hc⟩ : ∃ c, s[p]? = some c := ⟨_, List.getElem?_eq_getElem (by omega)⟩
  rcases hws : isWs c with _ | _
  ·refine c_draw wide (by kernel_rfl) (tU 2 rfl rfl (tv (fun w_ E_ => (oA0 fd67_1 rfl)) rfl rfl (tv (fun w_ E_ => (oL sc3 rfl ((B.mod0 E_).cell rfl))) rfl rfl (tU 2 rfl rfl (tv (fun w_ E_ => (oA0 fd67_0 rfl)) rfl rfl (tv (fun w_ E_ => (oL sc9 rfl ((B.mod0 E_).cell rfl))) rfl rfl (tv (fun w_ E_ => (o_slen Tryz.underlying9 rfl)) rfl rfl (tU 2 rfl rfl (tvg rfl (dT hlt) (fun w_ E_ => (oM rfl)) rfl rfl (tvg rfl (dT hlt) (fun w_ E_ => (o_nilc rfl)) rfl rfl (tvg rfl (dT hlt) (fun w_ E_ => (oA0 fd67_0 rfl)) rfl rfl (tvg rfl (dT hlt) (fun w_ E_ => (oL sc9 rfl ((B.mod0 E_).cell rfl))) rfl rfl (tvg rfl (dT hlt) (fun w_ E_ => (oM rfl)) rfl rfl ?_)))))))))))))
   refine tvg rfl (dT hlt) (fun w_ E_ => (o_nilc rfl)) rfl rfl (tvg rfl (dT hlt) (fun w_ E_ => (oA0 fd67_1 rfl)) rfl rfl (tvg rfl (dT hlt) (fun w_ E_ => (oL sc3 rfl ((B.mod0 E_).cell rfl))) rfl rfl (tvg rfl (dT hlt) (fun w_ E_ => (o_sidx Tryz.underlying9 rfl rfl (by omega) (by rw [Int.toNat_natCast]; exact hc))) rfl rfl (tcg rfl (dT hlt) (fun w_ E_ => oC ent100 rfl) (fun w_ E_ => c_ib _ [32, 9, 10, 13] c) rfl rfl (tvg rfl (dT hlt) (fun w_ E_ => (o_geq rfl rfl)) rfl rfl (tv (fun w_ E_ => (oT (dT hlt) rfl rfl)) rfl rfl (tw_nil rfl fun w2 E_ => ?_)))))))
   replace B := B.mod0 E_
   replace E := E.then E_
   refine e_K (hK2 _ _ _ _ (c_cond rfl (fun h24 => absurd (((ib_ws c).trans hws).symm.trans h24) (by decide)) (fun h24 => ?_)))
   have hpe : p = spanA isWs s k := by
    rw [← hsp]
    first | exact (spanA_end (by omega)).symm | exact (spanA_stop hc hws).symm
   exact c_exit (eT (by simp) (eT (by simp) (e_hit (end0 rfl ⟨by rw [← hpe]; exact B, E⟩))))
  ·refine c_draw wide (by kernel_rfl) (tU 2 rfl rfl (tv (fun w_ E_ => (oA0 fd67_1 rfl)) rfl rfl (tv (fun w_ E_ => (oL sc3 rfl ((B.mod0 E_).cell rfl))) rfl rfl (tU 2 rfl rfl (tv (fun w_ E_ => (oA0 fd67_0 rfl)) rfl rfl (tv (fun w_ E_ => (oL sc9 rfl ((B.mod0 E_).cell rfl))) rfl rfl (tv (fun w_ E_ => (o_slen Tryz.underlying9 rfl)) rfl rfl (tU 2 rfl rfl (tvg rfl (dT hlt) (fun w_ E_ => (oM rfl)) rfl rfl (tvg rfl (dT hlt) (fun w_ E_ => (o_nilc rfl)) rfl rfl (tvg rfl (dT hlt) (fun w_ E_ => (oA0 fd67_0 rfl)) rfl rfl (tvg rfl (dT hlt) (fun w_ E_ => (oL sc9 rfl ((B.mod0 E_).cell rfl))) rfl rfl (tvg rfl (dT hlt) (fun w_ E_ => (oM rfl)) rfl rfl ?_)))))))))))))
   refine tvg rfl (dT hlt) (fun w_ E_ => (o_nilc rfl)) rfl rfl (tvg rfl (dT hlt) (fun w_ E_ => (oA0 fd67_1 rfl)) rfl rfl (tvg rfl (dT hlt) (fun w_ E_ => (oL sc3 rfl ((B.mod0 E_).cell rfl))) rfl rfl (tvg rfl (dT hlt) (fun w_ E_ => (o_sidx Tryz.underlying9 rfl rfl (by omega) (by rw [Int.toNat_natCast]; exact hc))) rfl rfl (tcg rfl (dT hlt) (fun w_ E_ => oC ent100 rfl) (fun w_ E_ => c_ib _ [32, 9, 10, 13] c) rfl rfl (tvg rfl (dT hlt) (fun w_ E_ => (o_geq rfl rfl)) rfl rfl (tv (fun w_ E_ => (oT (dT hlt) rfl rfl)) rfl rfl (tw_nil rfl fun w3 E_ => ?_)))))))
   replace B := B.mod0 E_
   replace E := E.then E_
   refine e_K (hK2 _ _ _ _ ?_)
   refine c_cond rfl (fun h24 => ?_) (fun h24 => absurd (((ib_ws c).trans hws).symm.trans h24) (by decide))
   skip
   refine cK (e_K (hK1 _ _ _ _ (cB (Cr (tW 2 rfl (Sv (oA0 fd67_1 rfl) (Sv (oL sc3 rfl (B.cell rfl)) (Sv (o_addE (r := ((p + 1 : Nat) : Int)) rfl rfl (by rw [wrap64_in _ (by omega)]; omega)) (Sv (o_nilc rfl) (Sv (oA0 fd67_1 rfl) (s_st sc3 B rfl rfl rfl (by simp) fun w4 P4 => ?_)))))))))))
   replace E := E.trans P4.mod
   replace B : Blk w4 g _ [_, _, _] := P4.blk
   exact Ln (eI (by simp) (eR (σ := Nat) (s := p) (p + 1) ⟨rfl, trivial⟩ ⟨⟨by omega, by omega, by rw [spanA_go hc hws]; exact hsp⟩, B, E⟩ (by omega)))
 ·refine c_draw wide (by kernel_rfl) (tU 2 rfl rfl (tv (fun w_ E_ => (oA0 fd67_1 rfl)) rfl rfl (tv (fun w_ E_ => (oL sc3 rfl ((B.mod0 E_).cell rfl))) rfl rfl (tU 2 rfl rfl (tv (fun w_ E_ => (oA0 fd67_0 rfl)) rfl rfl (tv (fun w_ E_ => (oL sc9 rfl ((B.mod0 E_).cell rfl))) rfl rfl (tv (fun w_ E_ => (o_slen Tryz.underlying9 rfl)) rfl rfl (tU 2 rfl rfl (Tx rfl (dF hlt) (Tx rfl (dF hlt) (Tx rfl (dF hlt) (Tx rfl (dF hlt) (Tx rfl (dF hlt) ?_)))))))))))))
  refine Tx rfl (dF hlt) (Tx rfl (dF hlt) (Tx rfl (dF hlt) (Tx rfl (dF hlt) (Tx rfl (dF hlt) (Tx rfl (dF hlt) (tv (fun w_ E_ => (oF (dF hlt) rfl rfl)) rfl rfl (tw_nil rfl fun w5 E_ => ?_)))))))
  replace B := B.mod0 E_
  replace E := E.then E_
  refine e_K (hK2 _ _ _ _ (c_false rfl ?_))
  have hpe : p = spanA isWs s k := by
   rw [← hsp]
   first | exact (spanA_end (by omega)).symm | exact (spanA_stop hc hws).symm
  exact c_exit (eT (by simp) (eT (by simp) (e_hit (end0 rfl ⟨by rw [← hpe]; exact B, E⟩))))

theorem c_is_ (w : World) (g : Nat) (s : Str) (k : Nat) (sk : Value) (B : Blk w g 67 [S s, .int .i64 (k : Int), sk]) (hs : s.length ≤ 65536) (hk : k ≤ s.length) (c : UInt8) : Calls Tryz.prog 97 [.pointer (some ⟨g, 0, none⟩), .int .u8 (c.toNat : Int)].toArray w (Ret fun u w' => u = .bool (hasA s (spanA isWs s k) [c]) ∧ Blk w' g 67 [S s, .int .i64 ((if (hasA s (spanA isWs s k) [c]) then spanA isWs s k + 1 else spanA isWs s k : Nat) : Int), sk] ∧ Mod [g] w w') := by
 refine enter Tryz.func97 rfl rfl rfl (l := [(0, _), (1, _)]) ⟨rfl, rfl, trivial⟩ ?_
 have E := Mod.refl [g] w
 have hql : spanA isWs s k ≤ s.length := spanA_le hk
 refine Cq fun K1 hK1 => Cr (Za rfl (Ln (e_K (hK1 _ _ _ _ (Cq fun K2 hK2 => Cr (Zm rfl (sc (oC ent52 rfl) (c_blank _ g s k sk B hs hk) rfl fun v_ w1 h_ => ?_)))))))
 obtain ⟨B9, E_⟩ := h_
 replace E := E.trans E_
 clear B
 have B := B9
 refine Ln (e_K (hK2 _ _ _ _ (Cq fun K3 hK3 => Cq fun K4 hK4 => ?_)))
 by_cases hge : ((spanA isWs s k : Nat) : Int) ≥ (s.length : Int)
 ·refine c_draw wide (by kernel_rfl) (tU 2 rfl rfl (tv (fun w_ E_ => (oA0 fd67_1 rfl)) rfl rfl (tv (fun w_ E_ => (oL sc3 rfl ((B.mod0 E_).cell rfl))) rfl rfl (tU 2 rfl rfl (tv (fun w_ E_ => (oA0 fd67_0 rfl)) rfl rfl (tv (fun w_ E_ => (oL sc9 rfl ((B.mod0 E_).cell rfl))) rfl rfl (tv (fun w_ E_ => (o_slen Tryz.underlying9 rfl)) rfl rfl (tv (fun w_ E_ => (o_geq rfl rfl)) rfl rfl (tv (fun w_ E_ => (oM rfl)) rfl rfl (Tx rfl (dT hge) (Tx rfl (dT hge) (Tx rfl (dT hge) (Tx rfl (dT hge) ?_)))))))))))))
  refine Tx rfl (dT hge) (Tx rfl (dT hge) (Tx rfl (dT hge) (Tx rfl (dT hge) (Tx rfl (dT hge) (Tx rfl (dT hge) (Tx rfl (dT hge) (tv (fun w_ E_ => (oT (dT hge) rfl rfl)) rfl rfl (tw_nil rfl fun w2 E_ => ?_))))))))
  replace B := B.mod0 E_
  replace E := E.then E_
  refine e_K (hK4 _ _ _ _ (c_true rfl ?_))
  have hh : (hasA s (spanA isWs s k) [c]) = false := by first | exact hasA_off (by omega) (by simp) | (rw [hasA_at hd, dF (fun e => hne (by rw [e]))])
  exact Cq fun K5 hK5 => Cr (Za rfl (Ln (e_K (hK5 _ _ _ _ (cR (eT (by simp) (ret1 rfl rfl ⟨by rw [hh], by rw [hh]; exact B, E⟩)))))))
 ·obtain ⟨d, hd⟩ : ∃ d, s[spanA isWs s k]? = some d := ⟨_, List.getElem?_eq_getElem (by omega)⟩
  by_cases hne : (d.toNat : Int) ≠ (c.toNat : Int)
  ·refine c_draw wide (by kernel_rfl) (tU 2 rfl rfl (tv (fun w_ E_ => (oA0 fd67_1 rfl)) rfl rfl (tv (fun w_ E_ => (oL sc3 rfl ((B.mod0 E_).cell rfl))) rfl rfl (tU 2 rfl rfl (tv (fun w_ E_ => (oA0 fd67_0 rfl)) rfl rfl (tv (fun w_ E_ => (oL sc9 rfl ((B.mod0 E_).cell rfl))) rfl rfl (tv (fun w_ E_ => (o_slen Tryz.underlying9 rfl)) rfl rfl (tv (fun w_ E_ => (o_geq rfl rfl)) rfl rfl (tv (fun w_ E_ => (oM rfl)) rfl rfl (tvg rfl (dF hge) (fun w_ E_ => (oM rfl)) rfl rfl (tvg rfl (dF hge) (fun w_ E_ => (o_nilc rfl)) rfl rfl (tvg rfl (dF hge) (fun w_ E_ => (oA0 fd67_0 rfl)) rfl rfl (tvg rfl (dF hge) (fun w_ E_ => (oL sc9 rfl ((B.mod0 E_).cell rfl))) rfl rfl ?_)))))))))))))
   refine tvg rfl (dF hge) (fun w_ E_ => (oM rfl)) rfl rfl (tvg rfl (dF hge) (fun w_ E_ => (o_nilc rfl)) rfl rfl (tvg rfl (dF hge) (fun w_ E_ => (oA0 fd67_1 rfl)) rfl rfl (tvg rfl (dF hge) (fun w_ E_ => (oL sc3 rfl ((B.mod0 E_).cell rfl))) rfl rfl (tvg rfl (dF hge) (fun w_ E_ => (o_sidx Tryz.underlying9 rfl rfl (by omega) (by rw [Int.toNat_natCast]; exact hd))) rfl rfl (tvg rfl (dF hge) (fun w_ E_ => (oM rfl)) rfl rfl (tvg rfl (dF hge) (fun w_ E_ => (o_neq rfl rfl)) rfl rfl (tv (fun w_ E_ => (oF (dF hge) rfl rfl)) rfl rfl (tw_nil rfl fun w3 E_ => ?_))))))))
   replace B := B.mod0 E_
   replace E := E.then E_
   refine e_K (hK4 _ _ _ _ ?_)
   refine c_if rfl (fun h29 => ?_) (fun h29 => absurd hne h29)
   have hh : (hasA s (spanA isWs s k) [c]) = false := by first | exact hasA_off (by omega) (by simp) | (rw [hasA_at hd, dF (fun e => hne (by rw [e]))])
   exact Cq fun K6 hK6 => Cr (Za rfl (Ln (e_K (hK6 _ _ _ _ (cR (eT (by simp) (ret1 rfl rfl ⟨by rw [hh], by rw [hh]; exact B, E⟩)))))))
  ·refine c_draw wide (by kernel_rfl) (tU 2 rfl rfl (tv (fun w_ E_ => (oA0 fd67_1 rfl)) rfl rfl (tv (fun w_ E_ => (oL sc3 rfl ((B.mod0 E_).cell rfl))) rfl rfl (tU 2 rfl rfl (tv (fun w_ E_ => (oA0 fd67_0 rfl)) rfl rfl (tv (fun w_ E_ => (oL sc9 rfl ((B.mod0 E_).cell rfl))) rfl rfl (tv (fun w_ E_ => (o_slen Tryz.underlying9 rfl)) rfl rfl (tv (fun w_ E_ => (o_geq rfl rfl)) rfl rfl (tv (fun w_ E_ => (oM rfl)) rfl rfl (tvg rfl (dF hge) (fun w_ E_ => (oM rfl)) rfl rfl (tvg rfl (dF hge) (fun w_ E_ => (o_nilc rfl)) rfl rfl (tvg rfl (dF hge) (fun w_ E_ => (oA0 fd67_0 rfl)) rfl rfl (tvg rfl (dF hge) (fun w_ E_ => (oL sc9 rfl ((B.mod0 E_).cell rfl))) rfl rfl ?_)))))))))))))
   refine tvg rfl (dF hge) (fun w_ E_ => (oM rfl)) rfl rfl (tvg rfl (dF hge) (fun w_ E_ => (o_nilc rfl)) rfl rfl (tvg rfl (dF hge) (fun w_ E_ => (oA0 fd67_1 rfl)) rfl rfl (tvg rfl (dF hge) (fun w_ E_ => (oL sc3 rfl ((B.mod0 E_).cell rfl))) rfl rfl (tvg rfl (dF hge) (fun w_ E_ => (o_sidx Tryz.underlying9 rfl rfl (by omega) (by rw [Int.toNat_natCast]; exact hd))) rfl rfl (tvg rfl (dF hge) (fun w_ E_ => (oM rfl)) rfl rfl (tvg rfl (dF hge) (fun w_ E_ => (o_neq rfl rfl)) rfl rfl (tv (fun w_ E_ => (oF (dF hge) rfl rfl)) rfl rfl (tw_nil rfl fun w4 E_ => ?_))))))))
   replace B := B.mod0 E_
   replace E := E.then E_
   refine e_K (hK4 _ _ _ _ (c_if rfl (fun h29 => absurd h29 hne) (fun h29 => ?_)))
   have hh : (hasA s (spanA isWs s k) [c]) = true := by rw [hasA_at hd, dT (u8_eq (Classical.not_not.1 hne))]
   refine cK (e_K (hK3 _ _ _ _ (Cq fun K7 hK7 => Cr (tW 2 rfl (Sv (oA0 fd67_1 rfl) (Sv (oL sc3 rfl (B.cell rfl)) (Sv (o_addE (r := ((spanA isWs s k + 1 : Nat) : Int)) rfl rfl (by rw [wrap64_in _ (by omega)]; omega)) (Sv (o_nilc rfl) (Sv (oA0 fd67_1 rfl) (s_st sc3 B rfl rfl rfl (by simp) fun w5 P5 => ?_))))))))))
   replace E := E.trans P5.mod
   replace B : Blk w5 g _ [_, _, _] := P5.blk
   exact Ln (e_K (hK7 _ _ _ _ (Cq fun K8 hK8 => Cr (Za rfl (Ln (e_K (hK8 _ _ _ _ (cR (ret1 rfl rfl ⟨by rw [hh], by rw [hh]; exact B, E⟩)))))))))

theorem c_rtext (w : World) (g : Nat) (s : Str) (k : Nat) (sk : Value) (B : Blk w g 67 [S s, .int .i64 (k : Int), sk]) (hs : s.length ≤ 65536) (hk : k ≤ s.length) (hU : UtT w) : Calls Tryz.prog 142 [.pointer (some ⟨g, 0, none⟩)].toArray w (PnP 110 [g] w (match strT s k with | none => (.error 4 : Except Int (Str × Nat)) | some x => .ok x) (fun x u w' => u = S x.1 ∧ Blk w' g 67 [S s, .int .i64 (x.2 : Int), sk])) := by
 refine enter Tryz.func142 rfl rfl rfl (l := [(0, _)]) ⟨rfl, trivial⟩ ?_
 have E := Mod.refl [g] w
 refine Cq fun K1 hK1 => Cr (Za rfl (Ln (e_K (hK1 _ _ _ _ (Cq fun K2 hK2 => c_draw wide (by kernel_rfl) (tU 2 rfl rfl (tv (fun w_ E_ => (oA0 fd67_0 rfl)) rfl rfl (tv (fun w_ E_ => (oL sc9 rfl ((B.mod0 E_).cell rfl))) rfl rfl (tU 2 rfl rfl (tv (fun w_ E_ => (oA0 fd67_1 rfl)) rfl rfl (tv (fun w_ E_ => (oL sc3 rfl ((B.mod0 E_).cell rfl))) rfl rfl (tc (fun w_ E_ => oC ent178 rfl) (fun w_ E_ => c_qtake _ s k (by omega) (hU.mod0 E_)) rfl rfl ?_))))))))))))
 refine tU 7 rfl rfl (tw_nil rfl fun w1 E_ => ?_)
 replace B := B.mod0 E_
 replace E := E.then E_
 refine e_K (hK2 _ _ _ _ (Cq fun K3 hK3 => Cq fun K4 hK4 => Cr (tW 2 rfl (Ln (e_K (hK4 _ _ _ _ ?_))))))
 refine c_cond rfl (fun h20 => ?_) (fun h20 => ?_)
 ·have hn : strT s k = none := by cases h : strT s k with | none => rfl | some x => rw [h] at h20; cases h20
  refine Cr ?_
  refine scp (oC ent53 rfl) (c_fail _ 4) rfl (fun w_ h_ => h_.elim) (fun c_ w2 h_ => ?_) fun v_ w2 h_ => ?_
  ·obtain ⟨rfl, rfl⟩ := h_
   exact eT (by simp) (endp ⟨4, by rw [hn], by decide, rfl, E⟩)
  ·exact h_.elim
 ·obtain ⟨t, q, hq⟩ : ∃ t q, strT s k = some (t, q) := by
   cases h : strT s k with
   | none => rw [h] at h20; cases h20
   | some x => exact ⟨x.1, x.2, rfl⟩
  rw [hq, Option.getD_some]
  refine cK (e_K (hK3 _ _ _ _ (Cq fun K5 hK5 => Cr (tW 3 rfl (Sv (oA0 fd67_1 rfl) (s_st sc3 B rfl rfl rfl (by simp) fun w3 P3 => ?_))))))
  replace E := E.trans P3.mod
  replace B : Blk w3 g _ [_, _, _] := P3.blk
  exact Ln (e_K (hK5 _ _ _ _ (Cq fun K6 hK6 => Cr (tW 2 rfl (Ln (e_K (hK6 _ _ _ _ (cR (ret1R rfl rfl ⟨(t, q), by rw [hq], ⟨rfl, B⟩, E⟩)))))))))

theorem c_jdigits (w : World) (s : Str) (k : Nat) (hs : s.length ≤ 1000000) (hk : k ≤ s.length) : Calls Tryz.prog 205 [S (s.drop k)].toArray w (Ret fun u w' => u = .tuple #[S (s.drop (spanA isDg s k)), .int .i64 ((spanA isDg s k - k : Nat) : Int)] ∧ Mod [] w w') := by
 refine enter Tryz.func205 rfl rfl rfl (l := [(0, _)]) ⟨rfl, trivial⟩ ?_
 have E := Mod.refl [] w
 have hg1 := spanA_ge isDg s k
 have hg2 : spanA isDg s k ≤ s.length := spanA_le hk
 refine Cq fun K1 hK1 => Cr (tW 2 rfl (Ln (e_K (hK1 _ _ _ _ (Cq fun K2 hK2 => Cr (Zm rfl (sc (oC ent235 rfl) (c_trimL _ (s.drop k) [48, 49, 50, 51, 52, 53, 54, 55, 56, 57] (by simp) (by decide)) rfl fun v_ w1 h_ => ?_)))))))
 obtain ⟨rfl, E_⟩ := h_
 replace E := E.then E_
 rw [trimD]
 exact Za rfl (Ln (e_K (hK2 _ _ _ _ (Cq fun K3 hK3 => Cr (tW 2 rfl (Sv (o_slen Tryz.underlying9 rfl) (Zm rfl (Sv (o_slen Tryz.underlying9 rfl) (Sv (o_subE (r := ((spanA isDg s k - k : Nat) : Int)) rfl rfl (by rw [List.length_drop, List.length_drop, wrap64_in _ (by omega)]; omega)) (tW 2 rfl (Ln (e_K (hK3 _ _ _ _ (cR (ret2 rfl rfl rfl ⟨rfl, E⟩)))))))))))))))
end Go.Proofs.YtknndpjacklkeaaGreatDoor.V
