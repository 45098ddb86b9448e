/-
  A part of the proof: walks of functions. No condition of its own.
-/
import Derived.Test.YtknndpjacklkeaaGreatDoorM7
import Derived.Test.YtknndpjacklkeaaGreatDoorM15
import Derived.Test.YtknndpjacklkeaaGreatDoorM4
set_option linter.unusedVariables false
set_option linter.unusedSimpArgs false
set_option maxRecDepth 10000
namespace Go.Proofs.YtknndpjacklkeaaGreatDoor.V
open Go Go.Proofs
theorem fd48_0 : fdB Tryz.prog 48 0 0 1 = true := by kernel_rfl
theorem fd48_1 : fdB Tryz.prog 48 1 1 1 = true := by kernel_rfl
theorem fd48_2 : fdB Tryz.prog 48 2 2 1 = true := by kernel_rfl
theorem fd48_4 : fdB Tryz.prog 48 4 4 1 = true := by kernel_rfl
theorem fd48_10 : fdB Tryz.prog 48 10 15 1 = true := by kernel_rfl
theorem fd48_6 : fdB Tryz.prog 48 6 11 1 = true := by kernel_rfl
theorem sc45 : scB Tryz.prog 45 = true := by kernel_rfl
theorem fd48_7 : fdB Tryz.prog 48 7 12 1 = true := by kernel_rfl
theorem fd48_11 : fdB Tryz.prog 48 11 16 1 = true := by kernel_rfl
theorem sc46 : scB Tryz.prog 46 = true := by kernel_rfl
theorem sl45 : slB Tryz.prog 45 9 1 16 = true := by kernel_rfl
theorem fd48_5 : fdB Tryz.prog 48 5 5 6 = true := by kernel_rfl
theorem c_great11 (w : World) (e : EV) (us : List Value) (most : Nat) (R : Reps [] w e.D us) (ho : e.ok) (hm : most ≤ 1000000) : Calls Tryz.prog 28 [.agg us.toArray, .int .i64 (most : Int)].toArray w (Ret fun u w' => u = .bool (e.great most) ∧ Mod [] w w') := by
 refine enter Tryz.func28 rfl rfl rfl (l := [(0, _), (1, _)]) ⟨rfl, rfl, trivial⟩ ?_
 have E := Mod.refl [] w
 obtain ⟨al, cl, am, cm, ap, cp, aa, ca, aS, cS, rfl, Rc, Rp, Ra, Rs⟩ := EV.cells17 R
 obtain ⟨ho1, ho2, ho3, ho4, ho5, ho6, ho7, ho8, ho9, ho10, ho11, ho12⟩ := ho
 refine Cq fun K1 hK1 => Cr (s_box rfl rfl rfl fun g1 w1 N1 => ?_)
 have Lg1_E := N1.le E
 replace E := E.then N1.mod
 have Bg1 := N1.blk
 refine Za rfl (Ln (e_K (hK1 _ _ _ _ (Cq fun K2 hK2 => Cr (Sv (oA0 fd48_0 rfl) (Sv (oL sc9 rfl (Bg1.cell rfl)) (Sv (o_slen Tryz.underlying9 rfl) (Sv (oA0 fd48_1 rfl) (Sv (oL sc9 rfl (Bg1.cell rfl)) (Sv (o_slen Tryz.underlying9 rfl) (Sv (o_addN rfl rfl (by omega)) (Sv (oA0 fd48_2 rfl) (Sv (oL sc9 rfl (Bg1.cell rfl)) ?_)))))))))))))
 refine Sv (o_slen Tryz.underlying9 rfl) (Sv (o_addN rfl rfl (by omega)) (Sv (oA0 fd48_4 rfl) (Sv (oL sc9 rfl (Bg1.cell rfl)) (Sv (o_slen Tryz.underlying9 rfl) (Sv (o_addN rfl rfl (by omega)) (Sv (oA0 fd48_10 rfl) (Sv (oL sc9 rfl (Bg1.cell rfl)) (Sv (o_slen Tryz.underlying9 rfl) (Sv (o_addN rfl rfl (by omega)) (Sv (oA0 fd48_6 rfl) (Sv (oL sc45 rfl (Bg1.cell rfl)) (Sv (o_len Tryz.underlying45 rfl) (Sv (o_addN rfl rfl (by omega)) ?_)))))))))))))
 refine Sv (oA0 fd48_7 rfl) (Sv (oL sc45 rfl (Bg1.cell rfl)) (Sv (o_len Tryz.underlying45 rfl) (Sv (o_addN rfl rfl (by omega)) (Sv (oA0 fd48_11 rfl) (Sv (oL sc46 rfl (Bg1.cell rfl)) (Sv (o_len Tryz.underlying46 rfl) (Sv (o_addE (r := (e.n0 : Int)) rfl rfl (by rw [wrap64_in _ (by omega)]; unfold EV.n0; omega)) (Za rfl (Ln (e_K (hK2 _ _ _ _ (Cq fun K3 hK3 => Cq fun K4 hK4 => Cr ?_))))))))))))
 refine Za rfl (Ln (e_K (hK4 _ _ _ _ (cB (c_loop (σ := Nat × Nat) (fun ⟨k, n⟩ => [(1, .int .i64 (most : Int)), (2, .pointer (some ⟨g1, 0, none⟩)), (5, .int .i64 (n : Int)), (6, .int .i64 (k : Int))]) (fun ⟨k, n⟩ w1 => k ≤ e.prev.length ∧ addW (((e.prev.map List.length)).drop k) n most = (e.n1 most) ∧ n ≤ 2251799813685248 ∧ Blk w1 g1 48 [S e.room, S e.snd, S e.ty, .bool e.st, S e.key, .int .i64 e.con.kind, .bool e.con.is, .int .i64 e.con.num, S e.con.str, .slice al e.con.list.length cl, .slice am e.con.map.length cm, .slice ap e.prev.length cp, .slice aa e.auth.length ca, .int .i64 e.dep, .int .i64 e.time, S e.hash, .slice aS e.sigs.length cS] ∧ Mod [] w w1) (fun ⟨k, n⟩ => e.prev.length - k) (⟨0, e.n0⟩) ⟨rfl, rfl, rfl, rfl, trivial⟩ (⟨by omega, rfl, by unfold EV.n0; omega, Bg1, E⟩) ?_)))))
 rintro ⟨k, n⟩ w2 ⟨hk, hn, hnb, Bg1, E⟩
 refine Cq fun K5 hK5 => Cq fun K6 hK6 => Cr (Zm rfl (Sv (oA0 fd48_6 rfl) (Sv (oL sc45 rfl (Bg1.cell rfl)) (Sv (o_len Tryz.underlying45 rfl) (Sv (o_lss rfl rfl) ?_)))))
 refine bD (fun hs3_0 : (k : Int) < (e.prev.length : Int) => ?_) (fun hs3_0 => ?_)
 ·refine tW 5 rfl (Ln (e_K (hK6 _ _ _ _ ?_)))
  refine c_if rfl (fun h49 => ?_) (fun h49 => ?_)
  ·obtain ⟨s, hx_s⟩ : ∃ s, e.prev[k]? = some s := ⟨_, List.getElem?_eq_getElem (by omega)⟩
   have hs_s := ho6 s (List.mem_of_getElem? hx_s)
   obtain ⟨a_s, ha_s, hcs_s, _⟩ := flat_at (Rp.to0 E) hx_s
   obtain rfl := ha_s
   have hS := addW_at (l := (e.prev.map List.length)) (k := k) (n := n) (most := most) (x := s.length) (by simp [hx_s]) (by omega)
   refine cK (e_K (hK5 _ _ _ _ (Cq fun K7 hK7 => cB (Cr (Zm rfl (Sv (oA0 fd48_6 rfl) (Sv (oL sc45 rfl (Bg1.cell rfl)) (Zm rfl (Sv (o_ix sl45 rfl rfl (by omega)) (Sv (oL sc9 rfl hcs_s.first) (Sv (o_slen Tryz.underlying9 rfl) (Sv (o_addE (r := ((n + s.length : Nat) : Int)) rfl rfl (by rw [wrap64_in _ (by omega)]; omega)) (Za rfl ?_)))))))))))))
   exact Ln (eI (by simp) (e_K (hK7 _ _ _ _ (Cr (Zm rfl (Sv (o_addN rfl rfl (by omega)) (Za rfl (Ln (eR (σ := Nat × Nat) (s := ⟨k, n⟩) (⟨k + 1, n + s.length⟩) ⟨rfl, rfl, rfl, rfl, trivial⟩ ⟨by omega, by rw [← hS]; exact hn, by omega, Bg1, E⟩ (by dsimp only; omega))))))))))
  ·have hne : (e.n1 most) = n := by rw [← hn]; exact addW_big (by omega)
   subst hne
   refine c_exit (eT (by simp) (eT (by simp) (e_hit (e_K (hK3 _ _ _ _ (Cq fun K8 hK8 => Cq fun K9 hK9 => Cr (Za rfl (Ln (e_K (hK9 _ _ _ _ (cB (c_loop (σ := Nat × Nat) (fun ⟨k, n⟩ => [(1, .int .i64 (most : Int)), (2, .pointer (some ⟨g1, 0, none⟩)), (5, .int .i64 (n : Int)), (7, .int .i64 (k : Int))]) (fun ⟨k, n⟩ w1 => k ≤ e.auth.length ∧ addW (((e.auth.map List.length)).drop k) n most = (e.n2 most) ∧ n ≤ 2251799813685248 ∧ Blk w1 g1 48 [S e.room, S e.snd, S e.ty, .bool e.st, S e.key, .int .i64 e.con.kind, .bool e.con.is, .int .i64 e.con.num, S e.con.str, .slice al e.con.list.length cl, .slice am e.con.map.length cm, .slice ap e.prev.length cp, .slice aa e.auth.length ca, .int .i64 e.dep, .int .i64 e.time, S e.hash, .slice aS e.sigs.length cS] ∧ Mod [] w w1) (fun ⟨k, n⟩ => e.auth.length - k) (⟨0, (e.n1 most)⟩) ⟨rfl, rfl, rfl, rfl, trivial⟩ (⟨by omega, rfl, by omega, Bg1, E⟩) ?_))))))))))))
   rintro ⟨k, n⟩ w3 ⟨hk, hn, hnb, Bg1, E⟩
   refine Cq fun K10 hK10 => Cq fun K11 hK11 => Cr (Zm rfl (Sv (oA0 fd48_7 rfl) (Sv (oL sc45 rfl (Bg1.cell rfl)) (Sv (o_len Tryz.underlying45 rfl) (Sv (o_lss rfl rfl) ?_)))))
   refine bD (fun hs7_0 : (k : Int) < (e.auth.length : Int) => ?_) (fun hs7_0 => ?_)
   ·refine tW 5 rfl (Ln (e_K (hK11 _ _ _ _ ?_)))
    refine c_if rfl (fun h69 => ?_) (fun h69 => ?_)
    ·obtain ⟨s, hx_s⟩ : ∃ s, e.auth[k]? = some s := ⟨_, List.getElem?_eq_getElem (by omega)⟩
     have hs_s := ho8 s (List.mem_of_getElem? hx_s)
     obtain ⟨a_s, ha_s, hcs_s, _⟩ := flat_at (Ra.to0 E) hx_s
     obtain rfl := ha_s
     have hS := addW_at (l := (e.auth.map List.length)) (k := k) (n := n) (most := most) (x := s.length) (by simp [hx_s]) (by omega)
     refine cK (e_K (hK10 _ _ _ _ (Cq fun K12 hK12 => cB (Cr (Zm rfl (Sv (oA0 fd48_7 rfl) (Sv (oL sc45 rfl (Bg1.cell rfl)) (Zm rfl (Sv (o_ix sl45 rfl rfl (by omega)) (Sv (oL sc9 rfl hcs_s.first) (Sv (o_slen Tryz.underlying9 rfl) (Sv (o_addE (r := ((n + s.length : Nat) : Int)) rfl rfl (by rw [wrap64_in _ (by omega)]; omega)) (Za rfl ?_)))))))))))))
     exact Ln (eI (by simp) (e_K (hK12 _ _ _ _ (Cr (Zm rfl (Sv (o_addN rfl rfl (by omega)) (Za rfl (Ln (eR (σ := Nat × Nat) (s := ⟨k, n⟩) (⟨k + 1, n + s.length⟩) ⟨rfl, rfl, rfl, rfl, trivial⟩ ⟨by omega, by rw [← hS]; exact hn, by omega, Bg1, E⟩ (by dsimp only; omega))))))))))
    ·have hne : (e.n2 most) = n := by rw [← hn]; exact addW_big (by omega)
     subst hne
     refine c_exit (eT (by simp) (eT (by simp) (e_hit (e_K (hK8 _ _ _ _ (Cq fun K13 hK13 => Cq fun K14 hK14 => Cr (Za rfl (Ln (e_K (hK14 _ _ _ _ (cB (c_loop (σ := Nat × Nat) (fun ⟨k, n⟩ => [(1, .int .i64 (most : Int)), (2, .pointer (some ⟨g1, 0, none⟩)), (5, .int .i64 (n : Int)), (8, .int .i64 (k : Int))]) (fun ⟨k, n⟩ w1 => k ≤ e.sigs.length ∧ addW (((e.sigs.map fun s => s.srv.length + s.key.length + s.sig.length)).drop k) n most = (e.n3 most) ∧ n ≤ 2251799813685248 ∧ Blk w1 g1 48 [S e.room, S e.snd, S e.ty, .bool e.st, S e.key, .int .i64 e.con.kind, .bool e.con.is, .int .i64 e.con.num, S e.con.str, .slice al e.con.list.length cl, .slice am e.con.map.length cm, .slice ap e.prev.length cp, .slice aa e.auth.length ca, .int .i64 e.dep, .int .i64 e.time, S e.hash, .slice aS e.sigs.length cS] ∧ Mod [] w w1) (fun ⟨k, n⟩ => e.sigs.length - k) (⟨0, (e.n2 most)⟩) ⟨rfl, rfl, rfl, rfl, trivial⟩ (⟨by omega, rfl, by omega, Bg1, E⟩) ?_))))))))))))
     rintro ⟨k, n⟩ w4 ⟨hk, hn, hnb, Bg1, E⟩
     refine Cq fun K15 hK15 => Cq fun K16 hK16 => Cr (Zm rfl (Sv (oA0 fd48_11 rfl) (Sv (oL sc46 rfl (Bg1.cell rfl)) (Sv (o_len Tryz.underlying46 rfl) (Sv (o_lss rfl rfl) ?_)))))
     refine bD (fun hs11_0 : (k : Int) < (e.sigs.length : Int) => ?_) (fun hs11_0 => ?_)
     ·refine tW 5 rfl (Ln (e_K (hK16 _ _ _ _ ?_)))
      refine c_if rfl (fun h89 => ?_) (fun h89 => ?_)
      ·obtain ⟨s, hx_s⟩ : ∃ s, e.sigs[k]? = some s := ⟨_, List.getElem?_eq_getElem (by omega)⟩
       have hs_s := ho11 s (List.mem_of_getElem? hx_s)
       obtain ⟨a_s, ha_s, hcs_s, _⟩ := flat_at (Rs.to0 E) hx_s
       obtain rfl := ha_s
       have hS := addW_at (l := (e.sigs.map fun s => s.srv.length + s.key.length + s.sig.length)) (k := k) (n := n) (most := most) (x := s.srv.length + s.key.length + s.sig.length) (by simp [hx_s]) (by omega)
       refine cK (e_K (hK15 _ _ _ _ (Cq fun K17 hK17 => cB (c_draw wide (by kernel_rfl) (tv (fun w_ E_ => (oM rfl)) rfl rfl (tv (fun w_ E_ => (oA0 fd48_11 rfl)) rfl rfl (tv (fun w_ E_ => (oL sc46 rfl ((Bg1.mod0 E_).cell rfl))) rfl rfl (tv (fun w_ E_ => (oM rfl)) rfl rfl (tv (fun w_ E_ => (o_ix sl46 rfl rfl (by omega))) rfl rfl (tv (fun w_ E_ => (o_fad fd85_0 rfl)) rfl rfl (tv (fun w_ E_ => (oL sc9 rfl ((hcs_s.mod0 E_) 0 _ rfl))) rfl rfl (tv (fun w_ E_ => (o_slen Tryz.underlying9 rfl)) rfl rfl (tv (fun w_ E_ => (o_addN rfl rfl (by omega))) rfl rfl ?_)))))))))))))
       refine tv (fun w_ E_ => (oA0 fd48_11 rfl)) rfl rfl (tv (fun w_ E_ => (oL sc46 rfl ((Bg1.mod0 E_).cell rfl))) rfl rfl (tv (fun w_ E_ => (oM rfl)) rfl rfl (tv (fun w_ E_ => (o_ix sl46 rfl rfl (by omega))) rfl rfl (tv (fun w_ E_ => (o_fad fd85_1 rfl)) rfl rfl (tv (fun w_ E_ => (oL sc9 rfl ((hcs_s.mod0 E_) 1 _ rfl))) rfl rfl (tv (fun w_ E_ => (o_slen Tryz.underlying9 rfl)) rfl rfl (tv (fun w_ E_ => (o_addN rfl rfl (by omega))) rfl rfl (tv (fun w_ E_ => (oA0 fd48_11 rfl)) rfl rfl (tv (fun w_ E_ => (oL sc46 rfl ((Bg1.mod0 E_).cell rfl))) rfl rfl (tv (fun w_ E_ => (oM rfl)) rfl rfl (tv (fun w_ E_ => (o_ix sl46 rfl rfl (by omega))) rfl rfl (tv (fun w_ E_ => (o_fad fd85_2 rfl)) rfl rfl (tv (fun w_ E_ => (oL sc9 rfl ((hcs_s.mod0 E_) 2 _ rfl))) rfl rfl ?_)))))))))))))
       refine tv (fun w_ E_ => (o_slen Tryz.underlying9 rfl)) rfl rfl (tv (fun w_ E_ => (o_addE (r := ((n + (s.srv.length + s.key.length + s.sig.length) : Nat) : Int)) rfl rfl (by rw [wrap64_in _ (by omega)]; omega))) rfl rfl (tv (fun w_ E_ => (o_as rfl)) rfl rfl (tw_nil rfl fun w5 E_ => ?_)))
       replace Bg1 := Bg1.mod0 E_
       replace E := E.then E_
       exact eI (by simp) (e_K (hK17 _ _ _ _ (Cr (Zm rfl (Sv (o_addN rfl rfl (by omega)) (Za rfl (Ln (eR (σ := Nat × Nat) (s := ⟨k, n⟩) (⟨k + 1, n + (s.srv.length + s.key.length + s.sig.length)⟩) ⟨rfl, rfl, rfl, rfl, trivial⟩ ⟨by omega, by rw [← hS]; exact hn, by omega, Bg1, E⟩ (by dsimp only; omega)))))))))
      ·have hne : (e.n3 most) = n := by rw [← hn]; exact addW_big (by omega)
       subst hne
       refine c_exit (eT (by simp) (eT (by simp) (e_hit (e_K (hK13 _ _ _ _ (Cq fun K18 hK18 => Cr (tW 3 rfl ?_)))))))
       refine bD (fun hs14_0 : ((e.n3 most : Nat) : Int) > (most : Int) => ?_) (fun hs14_0 => ?_)
       ·exact tW 10 rfl (Ln (e_K (hK18 _ _ _ _ (cR (ret1 rfl rfl ⟨by unfold EV.great; rw [dT (show e.n3 most > most by omega)]; try rfl, E⟩)))))
       ·refine Zm rfl (Sg rfl rfl (oA0 fd48_5 rfl) (Sg rfl rfl (o_lda (vs := [_, _, _, _, _, _]) ag25 rfl rfl (Bg1.cs rfl)) (tW 2 rfl (Sg rfl rfl (o_subN rfl rfl (by omega)) (sgc rfl rfl (oC ent34 rfl) (c_weigh _ e.con _ _ 60 (Rc.to0 E)) rfl fun v_ w6 h_ => ?_)))))
        obtain ⟨rfl, E_⟩ := h_
        replace Bg1 := Bg1.mod0 E_
        replace E := E.then E_
        exact tW 3 rfl (Ln (e_K (hK18 _ _ _ _ (cR (ret1 rfl rfl ⟨by unfold EV.great; rw [dF (show ¬ e.n3 most > most by omega)]; try rfl, E⟩)))))
     ·refine tW 5 rfl (Ln (e_K (hK16 _ _ _ _ (c_false rfl ?_))))
      have hne : (e.n3 most) = n := by rw [← hn]; exact addW_end (by simp; omega)
      subst hne
      refine c_exit (eT (by simp) (eT (by simp) (e_hit (e_K (hK13 _ _ _ _ (Cq fun K19 hK19 => Cr (tW 3 rfl ?_)))))))
      refine bD (fun hs14_0 : ((e.n3 most : Nat) : Int) > (most : Int) => ?_) (fun hs14_0 => ?_)
      ·exact tW 10 rfl (Ln (e_K (hK19 _ _ _ _ (cR (ret1 rfl rfl ⟨by unfold EV.great; rw [dT (show e.n3 most > most by omega)]; try rfl, E⟩)))))
      ·refine Zm rfl (Sg rfl rfl (oA0 fd48_5 rfl) (Sg rfl rfl (o_lda (vs := [_, _, _, _, _, _]) ag25 rfl rfl (Bg1.cs rfl)) (tW 2 rfl (Sg rfl rfl (o_subN rfl rfl (by omega)) (sgc rfl rfl (oC ent34 rfl) (c_weigh _ e.con _ _ 60 (Rc.to0 E)) rfl fun v_ w7 h_ => ?_)))))
       obtain ⟨rfl, E_⟩ := h_
       replace Bg1 := Bg1.mod0 E_
       replace E := E.then E_
       exact tW 3 rfl (Ln (e_K (hK19 _ _ _ _ (cR (ret1 rfl rfl ⟨by unfold EV.great; rw [dF (show ¬ e.n3 most > most by omega)]; try rfl, E⟩)))))
   ·refine tW 5 rfl (Ln (e_K (hK11 _ _ _ _ (c_false rfl ?_))))
    have hne : (e.n2 most) = n := by rw [← hn]; exact addW_end (by simp; omega)
    subst hne
    refine c_exit (eT (by simp) (eT (by simp) (e_hit (e_K (hK8 _ _ _ _ (Cq fun K20 hK20 => Cq fun K21 hK21 => Cr (Za rfl (Ln (e_K (hK21 _ _ _ _ (cB (c_loop (σ := Nat × Nat) (fun ⟨k, n⟩ => [(1, .int .i64 (most : Int)), (2, .pointer (some ⟨g1, 0, none⟩)), (5, .int .i64 (n : Int)), (8, .int .i64 (k : Int))]) (fun ⟨k, n⟩ w1 => k ≤ e.sigs.length ∧ addW (((e.sigs.map fun s => s.srv.length + s.key.length + s.sig.length)).drop k) n most = (e.n3 most) ∧ n ≤ 2251799813685248 ∧ Blk w1 g1 48 [S e.room, S e.snd, S e.ty, .bool e.st, S e.key, .int .i64 e.con.kind, .bool e.con.is, .int .i64 e.con.num, S e.con.str, .slice al e.con.list.length cl, .slice am e.con.map.length cm, .slice ap e.prev.length cp, .slice aa e.auth.length ca, .int .i64 e.dep, .int .i64 e.time, S e.hash, .slice aS e.sigs.length cS] ∧ Mod [] w w1) (fun ⟨k, n⟩ => e.sigs.length - k) (⟨0, (e.n2 most)⟩) ⟨rfl, rfl, rfl, rfl, trivial⟩ (⟨by omega, rfl, by omega, Bg1, E⟩) ?_))))))))))))
    rintro ⟨k, n⟩ w8 ⟨hk, hn, hnb, Bg1, E⟩
    refine Cq fun K22 hK22 => Cq fun K23 hK23 => Cr (Zm rfl (Sv (oA0 fd48_11 rfl) (Sv (oL sc46 rfl (Bg1.cell rfl)) (Sv (o_len Tryz.underlying46 rfl) (Sv (o_lss rfl rfl) ?_)))))
    refine bD (fun hs11_0 : (k : Int) < (e.sigs.length : Int) => ?_) (fun hs11_0 => ?_)
    ·refine tW 5 rfl (Ln (e_K (hK23 _ _ _ _ ?_)))
     refine c_if rfl (fun h89 => ?_) (fun h89 => ?_)
     ·obtain ⟨s, hx_s⟩ : ∃ s, e.sigs[k]? = some s := ⟨_, List.getElem?_eq_getElem (by omega)⟩
      have hs_s := ho11 s (List.mem_of_getElem? hx_s)
      obtain ⟨a_s, ha_s, hcs_s, _⟩ := flat_at (Rs.to0 E) hx_s
      obtain rfl := ha_s
      have hS := addW_at (l := (e.sigs.map fun s => s.srv.length + s.key.length + s.sig.length)) (k := k) (n := n) (most := most) (x := s.srv.length + s.key.length + s.sig.length) (by simp [hx_s]) (by omega)
      refine cK (e_K (hK22 _ _ _ _ (Cq fun K24 hK24 => cB (c_draw wide (by kernel_rfl) (tv (fun w_ E_ => (oM rfl)) rfl rfl (tv (fun w_ E_ => (oA0 fd48_11 rfl)) rfl rfl (tv (fun w_ E_ => (oL sc46 rfl ((Bg1.mod0 E_).cell rfl))) rfl rfl (tv (fun w_ E_ => (oM rfl)) rfl rfl (tv (fun w_ E_ => (o_ix sl46 rfl rfl (by omega))) rfl rfl (tv (fun w_ E_ => (o_fad fd85_0 rfl)) rfl rfl (tv (fun w_ E_ => (oL sc9 rfl ((hcs_s.mod0 E_) 0 _ rfl))) rfl rfl (tv (fun w_ E_ => (o_slen Tryz.underlying9 rfl)) rfl rfl (tv (fun w_ E_ => (o_addN rfl rfl (by omega))) rfl rfl ?_)))))))))))))
      refine tv (fun w_ E_ => (oA0 fd48_11 rfl)) rfl rfl (tv (fun w_ E_ => (oL sc46 rfl ((Bg1.mod0 E_).cell rfl))) rfl rfl (tv (fun w_ E_ => (oM rfl)) rfl rfl (tv (fun w_ E_ => (o_ix sl46 rfl rfl (by omega))) rfl rfl (tv (fun w_ E_ => (o_fad fd85_1 rfl)) rfl rfl (tv (fun w_ E_ => (oL sc9 rfl ((hcs_s.mod0 E_) 1 _ rfl))) rfl rfl (tv (fun w_ E_ => (o_slen Tryz.underlying9 rfl)) rfl rfl (tv (fun w_ E_ => (o_addN rfl rfl (by omega))) rfl rfl (tv (fun w_ E_ => (oA0 fd48_11 rfl)) rfl rfl (tv (fun w_ E_ => (oL sc46 rfl ((Bg1.mod0 E_).cell rfl))) rfl rfl (tv (fun w_ E_ => (oM rfl)) rfl rfl (tv (fun w_ E_ => (o_ix sl46 rfl rfl (by omega))) rfl rfl (tv (fun w_ E_ => (o_fad fd85_2 rfl)) rfl rfl (tv (fun w_ E_ => (oL sc9 rfl ((hcs_s.mod0 E_) 2 _ rfl))) rfl rfl ?_)))))))))))))
      refine tv (fun w_ E_ => (o_slen Tryz.underlying9 rfl)) rfl rfl (tv (fun w_ E_ => (o_addE (r := ((n + (s.srv.length + s.key.length + s.sig.length) : Nat) : Int)) rfl rfl (by rw [wrap64_in _ (by omega)]; omega))) rfl rfl (tv (fun w_ E_ => (o_as rfl)) rfl rfl (tw_nil rfl fun w9 E_ => ?_)))
      replace Bg1 := Bg1.mod0 E_
      replace E := E.then E_
      exact eI (by simp) (e_K (hK24 _ _ _ _ (Cr (Zm rfl (Sv (o_addN rfl rfl (by omega)) (Za rfl (Ln (eR (σ := Nat × Nat) (s := ⟨k, n⟩) (⟨k + 1, n + (s.srv.length + s.key.length + s.sig.length)⟩) ⟨rfl, rfl, rfl, rfl, trivial⟩ ⟨by omega, by rw [← hS]; exact hn, by omega, Bg1, E⟩ (by dsimp only; omega)))))))))
     ·have hne : (e.n3 most) = n := by rw [← hn]; exact addW_big (by omega)
      subst hne
      refine c_exit (eT (by simp) (eT (by simp) (e_hit (e_K (hK20 _ _ _ _ (Cq fun K25 hK25 => Cr (tW 3 rfl ?_)))))))
      refine bD (fun hs14_0 : ((e.n3 most : Nat) : Int) > (most : Int) => ?_) (fun hs14_0 => ?_)
      ·exact tW 10 rfl (Ln (e_K (hK25 _ _ _ _ (cR (ret1 rfl rfl ⟨by unfold EV.great; rw [dT (show e.n3 most > most by omega)]; try rfl, E⟩)))))
      ·refine Zm rfl (Sg rfl rfl (oA0 fd48_5 rfl) (Sg rfl rfl (o_lda (vs := [_, _, _, _, _, _]) ag25 rfl rfl (Bg1.cs rfl)) (tW 2 rfl (Sg rfl rfl (o_subN rfl rfl (by omega)) (sgc rfl rfl (oC ent34 rfl) (c_weigh _ e.con _ _ 60 (Rc.to0 E)) rfl fun v_ w10 h_ => ?_)))))
       obtain ⟨rfl, E_⟩ := h_
       replace Bg1 := Bg1.mod0 E_
       replace E := E.then E_
       exact tW 3 rfl (Ln (e_K (hK25 _ _ _ _ (cR (ret1 rfl rfl ⟨by unfold EV.great; rw [dF (show ¬ e.n3 most > most by omega)]; try rfl, E⟩)))))
    ·refine tW 5 rfl (Ln (e_K (hK23 _ _ _ _ (c_false rfl ?_))))
     have hne : (e.n3 most) = n := by rw [← hn]; exact addW_end (by simp; omega)
     subst hne
     refine c_exit (eT (by simp) (eT (by simp) (e_hit (e_K (hK20 _ _ _ _ (Cq fun K26 hK26 => Cr (tW 3 rfl ?_)))))))
     refine bD (fun hs14_0 : ((e.n3 most : Nat) : Int) > (most : Int) => ?_) (fun hs14_0 => ?_)
     ·exact tW 10 rfl (Ln (e_K (hK26 _ _ _ _ (cR (ret1 rfl rfl ⟨by unfold EV.great; rw [dT (show e.n3 most > most by omega)]; try rfl, E⟩)))))
     ·refine Zm rfl (Sg rfl rfl (oA0 fd48_5 rfl) (Sg rfl rfl (o_lda (vs := [_, _, _, _, _, _]) ag25 rfl rfl (Bg1.cs rfl)) (tW 2 rfl (Sg rfl rfl (o_subN rfl rfl (by omega)) (sgc rfl rfl (oC ent34 rfl) (c_weigh _ e.con _ _ 60 (Rc.to0 E)) rfl fun v_ w11 h_ => ?_)))))
      obtain ⟨rfl, E_⟩ := h_
      replace Bg1 := Bg1.mod0 E_
      replace E := E.then E_
      exact tW 3 rfl (Ln (e_K (hK26 _ _ _ _ (cR (ret1 rfl rfl ⟨by unfold EV.great; rw [dF (show ¬ e.n3 most > most by omega)]; try rfl, E⟩)))))
 ·refine tW 5 rfl (Ln (e_K (hK6 _ _ _ _ (c_false rfl ?_))))
  have hne : (e.n1 most) = n := by rw [← hn]; exact addW_end (by simp; omega)
  subst hne
  refine c_exit (eT (by simp) (eT (by simp) (e_hit (e_K (hK3 _ _ _ _ (Cq fun K27 hK27 => Cq fun K28 hK28 => Cr (Za rfl (Ln (e_K (hK28 _ _ _ _ (cB (c_loop (σ := Nat × Nat) (fun ⟨k, n⟩ => [(1, .int .i64 (most : Int)), (2, .pointer (some ⟨g1, 0, none⟩)), (5, .int .i64 (n : Int)), (7, .int .i64 (k : Int))]) (fun ⟨k, n⟩ w1 => k ≤ e.auth.length ∧ addW (((e.auth.map List.length)).drop k) n most = (e.n2 most) ∧ n ≤ 2251799813685248 ∧ Blk w1 g1 48 [S e.room, S e.snd, S e.ty, .bool e.st, S e.key, .int .i64 e.con.kind, .bool e.con.is, .int .i64 e.con.num, S e.con.str, .slice al e.con.list.length cl, .slice am e.con.map.length cm, .slice ap e.prev.length cp, .slice aa e.auth.length ca, .int .i64 e.dep, .int .i64 e.time, S e.hash, .slice aS e.sigs.length cS] ∧ Mod [] w w1) (fun ⟨k, n⟩ => e.auth.length - k) (⟨0, (e.n1 most)⟩) ⟨rfl, rfl, rfl, rfl, trivial⟩ (⟨by omega, rfl, by omega, Bg1, E⟩) ?_))))))))))))
  rintro ⟨k, n⟩ w12 ⟨hk, hn, hnb, Bg1, E⟩
  refine Cq fun K29 hK29 => Cq fun K30 hK30 => Cr (Zm rfl (Sv (oA0 fd48_7 rfl) (Sv (oL sc45 rfl (Bg1.cell rfl)) (Sv (o_len Tryz.underlying45 rfl) (Sv (o_lss rfl rfl) ?_)))))
  refine bD (fun hs7_0 : (k : Int) < (e.auth.length : Int) => ?_) (fun hs7_0 => ?_)
  ·refine tW 5 rfl (Ln (e_K (hK30 _ _ _ _ ?_)))
   refine c_if rfl (fun h69 => ?_) (fun h69 => ?_)
   ·obtain ⟨s, hx_s⟩ : ∃ s, e.auth[k]? = some s := ⟨_, List.getElem?_eq_getElem (by omega)⟩
    have hs_s := ho8 s (List.mem_of_getElem? hx_s)
    obtain ⟨a_s, ha_s, hcs_s, _⟩ := flat_at (Ra.to0 E) hx_s
    obtain rfl := ha_s
    have hS := addW_at (l := (e.auth.map List.length)) (k := k) (n := n) (most := most) (x := s.length) (by simp [hx_s]) (by omega)
    refine cK (e_K (hK29 _ _ _ _ (Cq fun K31 hK31 => cB (Cr (Zm rfl (Sv (oA0 fd48_7 rfl) (Sv (oL sc45 rfl (Bg1.cell rfl)) (Zm rfl (Sv (o_ix sl45 rfl rfl (by omega)) (Sv (oL sc9 rfl hcs_s.first) (Sv (o_slen Tryz.underlying9 rfl) (Sv (o_addE (r := ((n + s.length : Nat) : Int)) rfl rfl (by rw [wrap64_in _ (by omega)]; omega)) (Za rfl ?_)))))))))))))
    exact Ln (eI (by simp) (e_K (hK31 _ _ _ _ (Cr (Zm rfl (Sv (o_addN rfl rfl (by omega)) (Za rfl (Ln (eR (σ := Nat × Nat) (s := ⟨k, n⟩) (⟨k + 1, n + s.length⟩) ⟨rfl, rfl, rfl, rfl, trivial⟩ ⟨by omega, by rw [← hS]; exact hn, by omega, Bg1, E⟩ (by dsimp only; omega))))))))))
   ·have hne : (e.n2 most) = n := by rw [← hn]; exact addW_big (by omega)
    subst hne
    refine c_exit (eT (by simp) (eT (by simp) (e_hit (e_K (hK27 _ _ _ _ (Cq fun K32 hK32 => Cq fun K33 hK33 => Cr (Za rfl (Ln (e_K (hK33 _ _ _ _ (cB (c_loop (σ := Nat × Nat) (fun ⟨k, n⟩ => [(1, .int .i64 (most : Int)), (2, .pointer (some ⟨g1, 0, none⟩)), (5, .int .i64 (n : Int)), (8, .int .i64 (k : Int))]) (fun ⟨k, n⟩ w1 => k ≤ e.sigs.length ∧ addW (((e.sigs.map fun s => s.srv.length + s.key.length + s.sig.length)).drop k) n most = (e.n3 most) ∧ n ≤ 2251799813685248 ∧ Blk w1 g1 48 [S e.room, S e.snd, S e.ty, .bool e.st, S e.key, .int .i64 e.con.kind, .bool e.con.is, .int .i64 e.con.num, S e.con.str, .slice al e.con.list.length cl, .slice am e.con.map.length cm, .slice ap e.prev.length cp, .slice aa e.auth.length ca, .int .i64 e.dep, .int .i64 e.time, S e.hash, .slice aS e.sigs.length cS] ∧ Mod [] w w1) (fun ⟨k, n⟩ => e.sigs.length - k) (⟨0, (e.n2 most)⟩) ⟨rfl, rfl, rfl, rfl, trivial⟩ (⟨by omega, rfl, by omega, Bg1, E⟩) ?_))))))))))))
    rintro ⟨k, n⟩ w13 ⟨hk, hn, hnb, Bg1, E⟩
    refine Cq fun K34 hK34 => Cq fun K35 hK35 => Cr (Zm rfl (Sv (oA0 fd48_11 rfl) (Sv (oL sc46 rfl (Bg1.cell rfl)) (Sv (o_len Tryz.underlying46 rfl) (Sv (o_lss rfl rfl) ?_)))))
    refine bD (fun hs11_0 : (k : Int) < (e.sigs.length : Int) => ?_) (fun hs11_0 => ?_)
    ·refine tW 5 rfl (Ln (e_K (hK35 _ _ _ _ ?_)))
     refine c_if rfl (fun h89 => ?_) (fun h89 => ?_)
     ·obtain ⟨s, hx_s⟩ : ∃ s, e.sigs[k]? = some s := ⟨_, List.getElem?_eq_getElem (by omega)⟩
      have hs_s := ho11 s (List.mem_of_getElem? hx_s)
      obtain ⟨a_s, ha_s, hcs_s, _⟩ := flat_at (Rs.to0 E) hx_s
      obtain rfl := ha_s
      have hS := addW_at (l := (e.sigs.map fun s => s.srv.length + s.key.length + s.sig.length)) (k := k) (n := n) (most := most) (x := s.srv.length + s.key.length + s.sig.length) (by simp [hx_s]) (by omega)
      refine cK (e_K (hK34 _ _ _ _ (Cq fun K36 hK36 => cB (c_draw wide (by kernel_rfl) (tv (fun w_ E_ => (oM rfl)) rfl rfl (tv (fun w_ E_ => (oA0 fd48_11 rfl)) rfl rfl (tv (fun w_ E_ => (oL sc46 rfl ((Bg1.mod0 E_).cell rfl))) rfl rfl (tv (fun w_ E_ => (oM rfl)) rfl rfl (tv (fun w_ E_ => (o_ix sl46 rfl rfl (by omega))) rfl rfl (tv (fun w_ E_ => (o_fad fd85_0 rfl)) rfl rfl (tv (fun w_ E_ => (oL sc9 rfl ((hcs_s.mod0 E_) 0 _ rfl))) rfl rfl (tv (fun w_ E_ => (o_slen Tryz.underlying9 rfl)) rfl rfl (tv (fun w_ E_ => (o_addN rfl rfl (by omega))) rfl rfl ?_)))))))))))))
      refine tv (fun w_ E_ => (oA0 fd48_11 rfl)) rfl rfl (tv (fun w_ E_ => (oL sc46 rfl ((Bg1.mod0 E_).cell rfl))) rfl rfl (tv (fun w_ E_ => (oM rfl)) rfl rfl (tv (fun w_ E_ => (o_ix sl46 rfl rfl (by omega))) rfl rfl (tv (fun w_ E_ => (o_fad fd85_1 rfl)) rfl rfl (tv (fun w_ E_ => (oL sc9 rfl ((hcs_s.mod0 E_) 1 _ rfl))) rfl rfl (tv (fun w_ E_ => (o_slen Tryz.underlying9 rfl)) rfl rfl (tv (fun w_ E_ => (o_addN rfl rfl (by omega))) rfl rfl (tv (fun w_ E_ => (oA0 fd48_11 rfl)) rfl rfl (tv (fun w_ E_ => (oL sc46 rfl ((Bg1.mod0 E_).cell rfl))) rfl rfl (tv (fun w_ E_ => (oM rfl)) rfl rfl (tv (fun w_ E_ => (o_ix sl46 rfl rfl (by omega))) rfl rfl (tv (fun w_ E_ => (o_fad fd85_2 rfl)) rfl rfl (tv (fun w_ E_ => (oL sc9 rfl ((hcs_s.mod0 E_) 2 _ rfl))) rfl rfl ?_)))))))))))))
      refine tv (fun w_ E_ => (o_slen Tryz.underlying9 rfl)) rfl rfl (tv (fun w_ E_ => (o_addE (r := ((n + (s.srv.length + s.key.length + s.sig.length) : Nat) : Int)) rfl rfl (by rw [wrap64_in _ (by omega)]; omega))) rfl rfl (tv (fun w_ E_ => (o_as rfl)) rfl rfl (tw_nil rfl fun w14 E_ => ?_)))
      replace Bg1 := Bg1.mod0 E_
      replace E := E.then E_
      exact eI (by simp) (e_K (hK36 _ _ _ _ (Cr (Zm rfl (Sv (o_addN rfl rfl (by omega)) (Za rfl (Ln (eR (σ := Nat × Nat) (s := ⟨k, n⟩) (⟨k + 1, n + (s.srv.length + s.key.length + s.sig.length)⟩) ⟨rfl, rfl, rfl, rfl, trivial⟩ ⟨by omega, by rw [← hS]; exact hn, by omega, Bg1, E⟩ (by dsimp only; omega)))))))))
     ·have hne : (e.n3 most) = n := by rw [← hn]; exact addW_big (by omega)
      subst hne
      refine c_exit (eT (by simp) (eT (by simp) (e_hit (e_K (hK32 _ _ _ _ (Cq fun K37 hK37 => Cr (tW 3 rfl ?_)))))))
      refine bD (fun hs14_0 : ((e.n3 most : Nat) : Int) > (most : Int) => ?_) (fun hs14_0 => ?_)
      ·exact tW 10 rfl (Ln (e_K (hK37 _ _ _ _ (cR (ret1 rfl rfl ⟨by unfold EV.great; rw [dT (show e.n3 most > most by omega)]; try rfl, E⟩)))))
      ·refine Zm rfl (Sg rfl rfl (oA0 fd48_5 rfl) (Sg rfl rfl (o_lda (vs := [_, _, _, _, _, _]) ag25 rfl rfl (Bg1.cs rfl)) (tW 2 rfl (Sg rfl rfl (o_subN rfl rfl (by omega)) (sgc rfl rfl (oC ent34 rfl) (c_weigh _ e.con _ _ 60 (Rc.to0 E)) rfl fun v_ w15 h_ => ?_)))))
       obtain ⟨rfl, E_⟩ := h_
       replace Bg1 := Bg1.mod0 E_
       replace E := E.then E_
       exact tW 3 rfl (Ln (e_K (hK37 _ _ _ _ (cR (ret1 rfl rfl ⟨by unfold EV.great; rw [dF (show ¬ e.n3 most > most by omega)]; try rfl, E⟩)))))
    ·refine tW 5 rfl (Ln (e_K (hK35 _ _ _ _ (c_false rfl ?_))))
     have hne : (e.n3 most) = n := by rw [← hn]; exact addW_end (by simp; omega)
     subst hne
     refine c_exit (eT (by simp) (eT (by simp) (e_hit (e_K (hK32 _ _ _ _ (Cq fun K38 hK38 => Cr (tW 3 rfl ?_)))))))
     refine bD (fun hs14_0 : ((e.n3 most : Nat) : Int) > (most : Int) => ?_) (fun hs14_0 => ?_)
     ·exact tW 10 rfl (Ln (e_K (hK38 _ _ _ _ (cR (ret1 rfl rfl ⟨by unfold EV.great; rw [dT (show e.n3 most > most by omega)]; try rfl, E⟩)))))
     ·refine Zm rfl (Sg rfl rfl (oA0 fd48_5 rfl) (Sg rfl rfl (o_lda (vs := [_, _, _, _, _, _]) ag25 rfl rfl (Bg1.cs rfl)) (tW 2 rfl (Sg rfl rfl (o_subN rfl rfl (by omega)) (sgc rfl rfl (oC ent34 rfl) (c_weigh _ e.con _ _ 60 (Rc.to0 E)) rfl fun v_ w16 h_ => ?_)))))
      obtain ⟨rfl, E_⟩ := h_
      replace Bg1 := Bg1.mod0 E_
      replace E := E.then E_
      exact tW 3 rfl (Ln (e_K (hK38 _ _ _ _ (cR (ret1 rfl rfl ⟨by unfold EV.great; rw [dF (show ¬ e.n3 most > most by omega)]; try rfl, E⟩)))))
  ·refine tW 5 rfl (Ln (e_K (hK30 _ _ _ _ (c_false rfl ?_))))
   have hne : (e.n2 most) = n := by rw [← hn]; exact addW_end (by simp; omega)
   subst hne
   refine c_exit (eT (by simp) (eT (by simp) (e_hit (e_K (hK27 _ _ _ _ (Cq fun K39 hK39 => Cq fun K40 hK40 => Cr (Za rfl (Ln (e_K (hK40 _ _ _ _ (cB (c_loop (σ := Nat × Nat) (fun ⟨k, n⟩ => [(1, .int .i64 (most : Int)), (2, .pointer (some ⟨g1, 0, none⟩)), (5, .int .i64 (n : Int)), (8, .int .i64 (k : Int))]) (fun ⟨k, n⟩ w1 => k ≤ e.sigs.length ∧ addW (((e.sigs.map fun s => s.srv.length + s.key.length + s.sig.length)).drop k) n most = (e.n3 most) ∧ n ≤ 2251799813685248 ∧ Blk w1 g1 48 [S e.room, S e.snd, S e.ty, .bool e.st, S e.key, .int .i64 e.con.kind, .bool e.con.is, .int .i64 e.con.num, S e.con.str, .slice al e.con.list.length cl, .slice am e.con.map.length cm, .slice ap e.prev.length cp, .slice aa e.auth.length ca, .int .i64 e.dep, .int .i64 e.time, S e.hash, .slice aS e.sigs.length cS] ∧ Mod [] w w1) (fun ⟨k, n⟩ => e.sigs.length - k) (⟨0, (e.n2 most)⟩) ⟨rfl, rfl, rfl, rfl, trivial⟩ (⟨by omega, rfl, by omega, Bg1, E⟩) ?_))))))))))))
   rintro ⟨k, n⟩ w17 ⟨hk, hn, hnb, Bg1, E⟩
   refine Cq fun K41 hK41 => Cq fun K42 hK42 => Cr (Zm rfl (Sv (oA0 fd48_11 rfl) (Sv (oL sc46 rfl (Bg1.cell rfl)) (Sv (o_len Tryz.underlying46 rfl) (Sv (o_lss rfl rfl) ?_)))))
   refine bD (fun hs11_0 : (k : Int) < (e.sigs.length : Int) => ?_) (fun hs11_0 => ?_)
   ·refine tW 5 rfl (Ln (e_K (hK42 _ _ _ _ ?_)))
    refine c_if rfl (fun h89 => ?_) (fun h89 => ?_)
    ·obtain ⟨s, hx_s⟩ : ∃ s, e.sigs[k]? = some s := ⟨_, List.getElem?_eq_getElem (by omega)⟩
     have hs_s := ho11 s (List.mem_of_getElem? hx_s)
     obtain ⟨a_s, ha_s, hcs_s, _⟩ := flat_at (Rs.to0 E) hx_s
     obtain rfl := ha_s
     have hS := addW_at (l := (e.sigs.map fun s => s.srv.length + s.key.length + s.sig.length)) (k := k) (n := n) (most := most) (x := s.srv.length + s.key.length + s.sig.length) (by simp [hx_s]) (by omega)
     refine cK (e_K (hK41 _ _ _ _ (Cq fun K43 hK43 => cB (c_draw wide (by kernel_rfl) (tv (fun w_ E_ => (oM rfl)) rfl rfl (tv (fun w_ E_ => (oA0 fd48_11 rfl)) rfl rfl (tv (fun w_ E_ => (oL sc46 rfl ((Bg1.mod0 E_).cell rfl))) rfl rfl (tv (fun w_ E_ => (oM rfl)) rfl rfl (tv (fun w_ E_ => (o_ix sl46 rfl rfl (by omega))) rfl rfl (tv (fun w_ E_ => (o_fad fd85_0 rfl)) rfl rfl (tv (fun w_ E_ => (oL sc9 rfl ((hcs_s.mod0 E_) 0 _ rfl))) rfl rfl (tv (fun w_ E_ => (o_slen Tryz.underlying9 rfl)) rfl rfl (tv (fun w_ E_ => (o_addN rfl rfl (by omega))) rfl rfl ?_)))))))))))))
     refine tv (fun w_ E_ => (oA0 fd48_11 rfl)) rfl rfl (tv (fun w_ E_ => (oL sc46 rfl ((Bg1.mod0 E_).cell rfl))) rfl rfl (tv (fun w_ E_ => (oM rfl)) rfl rfl (tv (fun w_ E_ => (o_ix sl46 rfl rfl (by omega))) rfl rfl (tv (fun w_ E_ => (o_fad fd85_1 rfl)) rfl rfl (tv (fun w_ E_ => (oL sc9 rfl ((hcs_s.mod0 E_) 1 _ rfl))) rfl rfl (tv (fun w_ E_ => (o_slen Tryz.underlying9 rfl)) rfl rfl (tv (fun w_ E_ => (o_addN rfl rfl (by omega))) rfl rfl (tv (fun w_ E_ => (oA0 fd48_11 rfl)) rfl rfl (tv (fun w_ E_ => (oL sc46 rfl ((Bg1.mod0 E_).cell rfl))) rfl rfl (tv (fun w_ E_ => (oM rfl)) rfl rfl (tv (fun w_ E_ => (o_ix sl46 rfl rfl (by omega))) rfl rfl (tv (fun w_ E_ => (o_fad fd85_2 rfl)) rfl rfl (tv (fun w_ E_ => (oL sc9 rfl ((hcs_s.mod0 E_) 2 _ rfl))) rfl rfl ?_)))))))))))))
     refine tv (fun w_ E_ => (o_slen Tryz.underlying9 rfl)) rfl rfl (tv (fun w_ E_ => (o_addE (r := ((n + (s.srv.length + s.key.length + s.sig.length) : Nat) : Int)) rfl rfl (by rw [wrap64_in _ (by omega)]; omega))) rfl rfl (tv (fun w_ E_ => (o_as rfl)) rfl rfl (tw_nil rfl fun w18 E_ => ?_)))
     replace Bg1 := Bg1.mod0 E_
     replace E := E.then E_
     exact eI (by simp) (e_K (hK43 _ _ _ _ (Cr (Zm rfl (Sv (o_addN rfl rfl (by omega)) (Za rfl (Ln (eR (σ := Nat × Nat) (s := ⟨k, n⟩) (⟨k + 1, n + (s.srv.length + s.key.length + s.sig.length)⟩) ⟨rfl, rfl, rfl, rfl, trivial⟩ ⟨by omega, by rw [← hS]; exact hn, by omega, Bg1, E⟩ (by dsimp only; omega)))))))))
    ·have hne : (e.n3 most) = n := by rw [← hn]; exact addW_big (by omega)
     subst hne
     refine c_exit (eT (by simp) (eT (by simp) (e_hit (e_K (hK39 _ _ _ _ (Cq fun K44 hK44 => Cr (tW 3 rfl ?_)))))))
     refine bD (fun hs14_0 : ((e.n3 most : Nat) : Int) > (most : Int) => ?_) (fun hs14_0 => ?_)
     ·exact tW 10 rfl (Ln (e_K (hK44 _ _ _ _ (cR (ret1 rfl rfl ⟨by unfold EV.great; rw [dT (show e.n3 most > most by omega)]; try rfl, E⟩)))))
     ·refine Zm rfl (Sg rfl rfl (oA0 fd48_5 rfl) (Sg rfl rfl (o_lda (vs := [_, _, _, _, _, _]) ag25 rfl rfl (Bg1.cs rfl)) (tW 2 rfl (Sg rfl rfl (o_subN rfl rfl (by omega)) (sgc rfl rfl (oC ent34 rfl) (c_weigh _ e.con _ _ 60 (Rc.to0 E)) rfl fun v_ w19 h_ => ?_)))))
      obtain ⟨rfl, E_⟩ := h_
      replace Bg1 := Bg1.mod0 E_
      replace E := E.then E_
      exact tW 3 rfl (Ln (e_K (hK44 _ _ _ _ (cR (ret1 rfl rfl ⟨by unfold EV.great; rw [dF (show ¬ e.n3 most > most by omega)]; try rfl, E⟩)))))
   ·refine tW 5 rfl (Ln (e_K (hK42 _ _ _ _ (c_false rfl ?_))))
    have hne : (e.n3 most) = n := by rw [← hn]; exact addW_end (by simp; omega)
    subst hne
    refine c_exit (eT (by simp) (eT (by simp) (e_hit (e_K (hK39 _ _ _ _ (Cq fun K45 hK45 => Cr (tW 3 rfl ?_)))))))
    refine bD (fun hs14_0 : ((e.n3 most : Nat) : Int) > (most : Int) => ?_) (fun hs14_0 => ?_)
    ·exact tW 10 rfl (Ln (e_K (hK45 _ _ _ _ (cR (ret1 rfl rfl ⟨by unfold EV.great; rw [dT (show e.n3 most > most by omega)]; try rfl, E⟩)))))
    ·refine Zm rfl (Sg rfl rfl (oA0 fd48_5 rfl) (Sg rfl rfl (o_lda (vs := [_, _, _, _, _, _]) ag25 rfl rfl (Bg1.cs rfl)) (tW 2 rfl (Sg rfl rfl (o_subN rfl rfl (by omega)) (sgc rfl rfl (oC ent34 rfl) (c_weigh _ e.con _ _ 60 (Rc.to0 E)) rfl fun v_ w20 h_ => ?_)))))
     obtain ⟨rfl, E_⟩ := h_
     replace Bg1 := Bg1.mod0 E_
     replace E := E.then E_
     exact tW 3 rfl (Ln (e_K (hK45 _ _ _ _ (cR (ret1 rfl rfl ⟨by unfold EV.great; rw [dF (show ¬ e.n3 most > most by omega)]; try rfl, E⟩)))))
end Go.Proofs.YtknndpjacklkeaaGreatDoor.V
