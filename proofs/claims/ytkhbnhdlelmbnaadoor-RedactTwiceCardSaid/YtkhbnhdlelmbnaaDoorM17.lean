/-
  A part of the proof: walks of functions. No condition of its own.
-/
import Derived.Test.YtkhbnhdlelmbnaaDoorM7
import Derived.Test.YtkhbnhdlelmbnaaDoorM16
set_option linter.unusedVariables false
set_option linter.unusedSimpArgs false
set_option maxRecDepth 10000
namespace Go.Proofs.YtkhbnhdlelmbnaaDoor.V
open Go Go.Proofs
theorem fd33_0 : fdB Tryd.prog 33 0 0 1 = true := by kernel_rfl
theorem fd33_1 : fdB Tryd.prog 33 1 1 1 = true := by kernel_rfl
theorem fd33_2 : fdB Tryd.prog 33 2 2 1 = true := by kernel_rfl
theorem fd33_4 : fdB Tryd.prog 33 4 4 1 = true := by kernel_rfl
theorem fd33_10 : fdB Tryd.prog 33 10 15 1 = true := by kernel_rfl
theorem fd33_6 : fdB Tryd.prog 33 6 11 1 = true := by kernel_rfl
theorem sc30 : scB Tryd.prog 30 = true := by kernel_rfl
theorem fd33_7 : fdB Tryd.prog 33 7 12 1 = true := by kernel_rfl
theorem fd33_11 : fdB Tryd.prog 33 11 16 1 = true := by kernel_rfl
theorem sc31 : scB Tryd.prog 31 = true := by kernel_rfl
theorem sl30 : slB Tryd.prog 30 9 1 16 = true := by kernel_rfl
theorem fd33_5 : fdB Tryd.prog 33 5 5 6 = true := by kernel_rfl
theorem c_great11 (w : World) (e : EV) (us : List Value) (most : Nat) (R : Reps [] w e.D us) (ho : e.ok) (hm : most ≤ 1000000) : Calls Tryd.prog 11 [.agg us.toArray, .int .i64 (most : Int)].toArray w (Ret fun u w' => u = .bool (e.great most) ∧ Mod [] w w') := by
  refine enter Tryd.func11 rfl rfl rfl (l := [(0, _), (1, _)]) ⟨rfl, rfl, trivial⟩ ?_
  have E := Mod.refl [] w
  obtain ⟨al, cl, am, cm, ap, cp, aa, ca, aS, cS, rfl, Rc, Rp, Ra, Rs⟩ := EV.cells17 R
  obtain ⟨ho1, ho2, ho3, ho4, ho5, ho6, ho7, ho8, ho9, ho10, ho11, ho12⟩ := ho
  refine c_seq fun K1 hK1 => ?_
  refine c_region ?_
  refine s_box rfl rfl rfl fun g1 w1 N1 => ?_
  have Lg1_E := N1.le E
  replace E := E.then N1.mod
  have Bg1 := N1.blk
  refine sv (o_as rfl) rfl ?_
  refine l_nil ?_
  refine e_K (hK1 _ _ _ _ ?_)
  refine c_seq fun K2 hK2 => ?_
  refine c_region ?_
  refine sv (o_fa0 fd33_0 rfl) rfl ?_
  refine sv (o_ld sc9 rfl (Bg1.cell rfl)) rfl ?_
  refine sv (o_slen Tryd.underlying9 rfl) rfl ?_
  refine sv (o_fa0 fd33_1 rfl) rfl ?_
  refine sv (o_ld sc9 rfl (Bg1.cell rfl)) rfl ?_
  refine sv (o_slen Tryd.underlying9 rfl) rfl ?_
  refine sv (o_addN rfl rfl (by omega)) rfl ?_
  refine sv (o_fa0 fd33_2 rfl) rfl ?_
  refine sv (o_ld sc9 rfl (Bg1.cell rfl)) rfl ?_
  refine sv (o_slen Tryd.underlying9 rfl) rfl ?_
  refine sv (o_addN rfl rfl (by omega)) rfl ?_
  refine sv (o_fa0 fd33_4 rfl) rfl ?_
  refine sv (o_ld sc9 rfl (Bg1.cell rfl)) rfl ?_
  refine sv (o_slen Tryd.underlying9 rfl) rfl ?_
  refine sv (o_addN rfl rfl (by omega)) rfl ?_
  refine sv (o_fa0 fd33_10 rfl) rfl ?_
  refine sv (o_ld sc9 rfl (Bg1.cell rfl)) rfl ?_
  refine sv (o_slen Tryd.underlying9 rfl) rfl ?_
  refine sv (o_addN rfl rfl (by omega)) rfl ?_
  refine sv (o_fa0 fd33_6 rfl) rfl ?_
  refine sv (o_ld sc30 rfl (Bg1.cell rfl)) rfl ?_
  refine sv (o_len Tryd.underlying30 rfl) rfl ?_
  refine sv (o_addN rfl rfl (by omega)) rfl ?_
  refine sv (o_fa0 fd33_7 rfl) rfl ?_
  refine sv (o_ld sc30 rfl (Bg1.cell rfl)) rfl ?_
  refine sv (o_len Tryd.underlying30 rfl) rfl ?_
  refine sv (o_addN rfl rfl (by omega)) rfl ?_
  refine sv (o_fa0 fd33_11 rfl) rfl ?_
  refine sv (o_ld sc31 rfl (Bg1.cell rfl)) rfl ?_
  refine sv (o_len Tryd.underlying31 rfl) rfl ?_
  refine sv (o_addE (r := (e.n0 : Int)) rfl rfl (by rw [wrap64_in _ (by omega)]; unfold EV.n0; omega)) rfl ?_
  refine sv (o_as rfl) rfl ?_
  refine l_nil ?_
  refine e_K (hK2 _ _ _ _ ?_)
  refine c_seq fun K3 hK3 => ?_
  refine c_seq fun K4 hK4 => ?_
  refine c_region ?_
  refine sv (o_as rfl) rfl ?_
  refine l_nil ?_
  refine e_K (hK4 _ _ _ _ ?_)
  refine c_block ?_
  refine c_loop (σ := Nat × Nat) (fun ⟨k, n⟩ => [(1, .int .i64 (most : Int)), (2, .pointer (some ⟨g1, 0, none⟩)), (5, .int .i64 (n : Int)), (6, .int .i64 (k : Int))]) (fun ⟨k, n⟩ w1 => k ≤ e.prev.length ∧ addW (((e.prev.map List.length)).drop k) n most = (e.n1 most) ∧ n ≤ 2251799813685248 ∧ Blk w1 g1 33 [S e.room, S e.snd, S e.ty, .bool e.st, S e.key, .int .i64 e.con.kind, .bool e.con.is, .int .i64 e.con.num, S e.con.str, .slice al e.con.list.length cl, .slice am e.con.map.length cm, .slice ap e.prev.length cp, .slice aa e.auth.length ca, .int .i64 e.dep, .int .i64 e.time, S e.hash, .slice aS e.sigs.length cS] ∧ Mod [] w w1) (fun ⟨k, n⟩ => e.prev.length - k) (⟨0, e.n0⟩) ⟨rfl, rfl, rfl, rfl, trivial⟩ (⟨by omega, rfl, by unfold EV.n0; omega, Bg1, E⟩) ?_
  rintro ⟨k, n⟩ w2 ⟨hk, hn, hnb, Bg1, E⟩
  refine c_seq fun K5 hK5 => ?_
  refine c_seq fun K6 hK6 => ?_
  by_cases hs3_0 : (k : Int) < (e.prev.length : Int)
  · skip
    refine c_region ?_
    refine sv (o_mv rfl) rfl ?_
    refine sv (o_fa0 fd33_6 rfl) rfl ?_
    refine sv (o_ld sc30 rfl (Bg1.cell rfl)) rfl ?_
    refine sv (o_len Tryd.underlying30 rfl) rfl ?_
    refine sv (o_lss rfl rfl) rfl ?_
    refine sv (o_mv rfl) rfl ?_
    refine sg rfl (decide_eq_true hs3_0) (o_mv rfl) rfl ?_
    refine sg rfl (decide_eq_true hs3_0) (o_mv rfl) rfl ?_
    refine sg rfl (decide_eq_true hs3_0) (o_leq rfl rfl) rfl ?_
    refine sv (o_pickT (decide_eq_true hs3_0) rfl rfl) rfl ?_
    refine l_nil ?_
    refine e_K (hK6 _ _ _ _ ?_)
    refine c_if rfl (fun h49 => ?_) (fun h49 => ?_)
    · skip
      obtain ⟨s, hx_s⟩ : ∃ s, e.prev[k]? = some s := ⟨_, List.getElem?_eq_getElem (by omega)⟩
      have hs_s := ho6 s (List.mem_of_getElem? hx_s)
      obtain ⟨a_s, ha_s, hcs_s, _⟩ := flat_at (Rp.to0 E) hx_s
      obtain rfl := ha_s
      have hS := addW_at (l := (e.prev.map List.length)) (k := k) (n := n) (most := most) (x := s.length) (by simp [hx_s]) (by omega)
      refine c_skip ?_
      refine e_K (hK5 _ _ _ _ ?_)
      refine c_seq fun K7 hK7 => ?_
      refine c_block ?_
      refine c_region ?_
      refine sv (o_mv rfl) rfl ?_
      refine sv (o_fa0 fd33_6 rfl) rfl ?_
      refine sv (o_ld sc30 rfl (Bg1.cell rfl)) rfl ?_
      refine sv (o_mv rfl) rfl ?_
      refine sv (o_ix sl30 rfl rfl (by omega)) rfl ?_
      refine sv (o_ld sc9 rfl hcs_s.first) rfl ?_
      refine sv (o_slen Tryd.underlying9 rfl) rfl ?_
      refine sv (o_addE (r := ((n + s.length : Nat) : Int)) rfl rfl (by rw [wrap64_in _ (by omega)]; omega)) rfl ?_
      refine sv (o_as rfl) rfl ?_
      refine l_nil ?_
      refine e_in (by simp) ?_
      refine e_K (hK7 _ _ _ _ ?_)
      refine c_region ?_
      refine sv (o_mv rfl) rfl ?_
      refine sv (o_addN rfl rfl (by omega)) rfl ?_
      refine sv (o_as rfl) rfl ?_
      refine l_nil ?_
      exact e_round (σ := Nat × Nat) (s := ⟨k, n⟩) (⟨k + 1, n + s.length⟩) ⟨rfl, rfl, rfl, rfl, trivial⟩ ⟨by omega, by rw [← hS]; exact hn, by omega, Bg1, E⟩ (by dsimp only; omega)
    · skip
      have hne : (e.n1 most) = n := by rw [← hn]; exact addW_big (by omega)
      subst hne
      refine c_exit ?_
      refine e_then (by simp) ?_
      refine e_then (by simp) ?_
      refine e_hit ?_
      refine e_K (hK3 _ _ _ _ ?_)
      refine c_seq fun K8 hK8 => ?_
      refine c_seq fun K9 hK9 => ?_
      refine c_region ?_
      refine sv (o_as rfl) rfl ?_
      refine l_nil ?_
      refine e_K (hK9 _ _ _ _ ?_)
      refine c_block ?_
      refine c_loop (σ := Nat × Nat) (fun ⟨k, n⟩ => [(1, .int .i64 (most : Int)), (2, .pointer (some ⟨g1, 0, none⟩)), (5, .int .i64 (n : Int)), (7, .int .i64 (k : Int))]) (fun ⟨k, n⟩ w1 => k ≤ e.auth.length ∧ addW (((e.auth.map List.length)).drop k) n most = (e.n2 most) ∧ n ≤ 2251799813685248 ∧ Blk w1 g1 33 [S e.room, S e.snd, S e.ty, .bool e.st, S e.key, .int .i64 e.con.kind, .bool e.con.is, .int .i64 e.con.num, S e.con.str, .slice al e.con.list.length cl, .slice am e.con.map.length cm, .slice ap e.prev.length cp, .slice aa e.auth.length ca, .int .i64 e.dep, .int .i64 e.time, S e.hash, .slice aS e.sigs.length cS] ∧ Mod [] w w1) (fun ⟨k, n⟩ => e.auth.length - k) (⟨0, (e.n1 most)⟩) ⟨rfl, rfl, rfl, rfl, trivial⟩ (⟨by omega, rfl, by omega, Bg1, E⟩) ?_
      rintro ⟨k, n⟩ w3 ⟨hk, hn, hnb, Bg1, E⟩
      refine c_seq fun K10 hK10 => ?_
      refine c_seq fun K11 hK11 => ?_
      by_cases hs7_0 : (k : Int) < (e.auth.length : Int)
      · skip
        refine c_region ?_
        refine sv (o_mv rfl) rfl ?_
        refine sv (o_fa0 fd33_7 rfl) rfl ?_
        refine sv (o_ld sc30 rfl (Bg1.cell rfl)) rfl ?_
        refine sv (o_len Tryd.underlying30 rfl) rfl ?_
        refine sv (o_lss rfl rfl) rfl ?_
        refine sv (o_mv rfl) rfl ?_
        refine sg rfl (decide_eq_true hs7_0) (o_mv rfl) rfl ?_
        refine sg rfl (decide_eq_true hs7_0) (o_mv rfl) rfl ?_
        refine sg rfl (decide_eq_true hs7_0) (o_leq rfl rfl) rfl ?_
        refine sv (o_pickT (decide_eq_true hs7_0) rfl rfl) rfl ?_
        refine l_nil ?_
        refine e_K (hK11 _ _ _ _ ?_)
        refine c_if rfl (fun h69 => ?_) (fun h69 => ?_)
        · skip
          obtain ⟨s, hx_s⟩ : ∃ s, e.auth[k]? = some s := ⟨_, List.getElem?_eq_getElem (by omega)⟩
          have hs_s := ho8 s (List.mem_of_getElem? hx_s)
          obtain ⟨a_s, ha_s, hcs_s, _⟩ := flat_at (Ra.to0 E) hx_s
          obtain rfl := ha_s
          have hS := addW_at (l := (e.auth.map List.length)) (k := k) (n := n) (most := most) (x := s.length) (by simp [hx_s]) (by omega)
          refine c_skip ?_
          refine e_K (hK10 _ _ _ _ ?_)
          refine c_seq fun K12 hK12 => ?_
          refine c_block ?_
          refine c_region ?_
          refine sv (o_mv rfl) rfl ?_
          refine sv (o_fa0 fd33_7 rfl) rfl ?_
          refine sv (o_ld sc30 rfl (Bg1.cell rfl)) rfl ?_
          refine sv (o_mv rfl) rfl ?_
          refine sv (o_ix sl30 rfl rfl (by omega)) rfl ?_
          refine sv (o_ld sc9 rfl hcs_s.first) rfl ?_
          refine sv (o_slen Tryd.underlying9 rfl) rfl ?_
          refine sv (o_addE (r := ((n + s.length : Nat) : Int)) rfl rfl (by rw [wrap64_in _ (by omega)]; omega)) rfl ?_
          refine sv (o_as rfl) rfl ?_
          refine l_nil ?_
          refine e_in (by simp) ?_
          refine e_K (hK12 _ _ _ _ ?_)
          refine c_region ?_
          refine sv (o_mv rfl) rfl ?_
          refine sv (o_addN rfl rfl (by omega)) rfl ?_
          refine sv (o_as rfl) rfl ?_
          refine l_nil ?_
          exact e_round (σ := Nat × Nat) (s := ⟨k, n⟩) (⟨k + 1, n + s.length⟩) ⟨rfl, rfl, rfl, rfl, trivial⟩ ⟨by omega, by rw [← hS]; exact hn, by omega, Bg1, E⟩ (by dsimp only; omega)
        · skip
          have hne : (e.n2 most) = n := by rw [← hn]; exact addW_big (by omega)
          subst hne
          refine c_exit ?_
          refine e_then (by simp) ?_
          refine e_then (by simp) ?_
          refine e_hit ?_
          refine e_K (hK8 _ _ _ _ ?_)
          refine c_seq fun K13 hK13 => ?_
          refine c_seq fun K14 hK14 => ?_
          refine c_region ?_
          refine sv (o_as rfl) rfl ?_
          refine l_nil ?_
          refine e_K (hK14 _ _ _ _ ?_)
          refine c_block ?_
          refine c_loop (σ := Nat × Nat) (fun ⟨k, n⟩ => [(1, .int .i64 (most : Int)), (2, .pointer (some ⟨g1, 0, none⟩)), (5, .int .i64 (n : Int)), (8, .int .i64 (k : Int))]) (fun ⟨k, n⟩ w1 => k ≤ e.sigs.length ∧ addW (((e.sigs.map fun s => s.srv.length + s.key.length + s.sig.length)).drop k) n most = (e.n3 most) ∧ n ≤ 2251799813685248 ∧ Blk w1 g1 33 [S e.room, S e.snd, S e.ty, .bool e.st, S e.key, .int .i64 e.con.kind, .bool e.con.is, .int .i64 e.con.num, S e.con.str, .slice al e.con.list.length cl, .slice am e.con.map.length cm, .slice ap e.prev.length cp, .slice aa e.auth.length ca, .int .i64 e.dep, .int .i64 e.time, S e.hash, .slice aS e.sigs.length cS] ∧ Mod [] w w1) (fun ⟨k, n⟩ => e.sigs.length - k) (⟨0, (e.n2 most)⟩) ⟨rfl, rfl, rfl, rfl, trivial⟩ (⟨by omega, rfl, by omega, Bg1, E⟩) ?_
          rintro ⟨k, n⟩ w4 ⟨hk, hn, hnb, Bg1, E⟩
          refine c_seq fun K15 hK15 => ?_
          refine c_seq fun K16 hK16 => ?_
          by_cases hs11_0 : (k : Int) < (e.sigs.length : Int)
          · skip
            refine c_region ?_
            refine sv (o_mv rfl) rfl ?_
            refine sv (o_fa0 fd33_11 rfl) rfl ?_
            refine sv (o_ld sc31 rfl (Bg1.cell rfl)) rfl ?_
            refine sv (o_len Tryd.underlying31 rfl) rfl ?_
            refine sv (o_lss rfl rfl) rfl ?_
            refine sv (o_mv rfl) rfl ?_
            refine sg rfl (decide_eq_true hs11_0) (o_mv rfl) rfl ?_
            refine sg rfl (decide_eq_true hs11_0) (o_mv rfl) rfl ?_
            refine sg rfl (decide_eq_true hs11_0) (o_leq rfl rfl) rfl ?_
            refine sv (o_pickT (decide_eq_true hs11_0) rfl rfl) rfl ?_
            refine l_nil ?_
            refine e_K (hK16 _ _ _ _ ?_)
            refine c_if rfl (fun h89 => ?_) (fun h89 => ?_)
            · skip
              obtain ⟨s, hx_s⟩ : ∃ s, e.sigs[k]? = some s := ⟨_, List.getElem?_eq_getElem (by omega)⟩
              have hs_s := ho11 s (List.mem_of_getElem? hx_s)
              obtain ⟨a_s, ha_s, hcs_s, _⟩ := flat_at (Rs.to0 E) hx_s
              obtain rfl := ha_s
              have hS := addW_at (l := (e.sigs.map fun s => s.srv.length + s.key.length + s.sig.length)) (k := k) (n := n) (most := most) (x := s.srv.length + s.key.length + s.sig.length) (by simp [hx_s]) (by omega)
              refine c_skip ?_
              refine e_K (hK15 _ _ _ _ ?_)
              refine c_seq fun K17 hK17 => ?_
              refine c_block ?_
              refine c_draw wide (by kernel_rfl) ?_
              refine tv (fun w_ E_ => (o_mv rfl)) rfl rfl ?_
              refine tv (fun w_ E_ => (o_fa0 fd33_11 rfl)) rfl rfl ?_
              refine tv (fun w_ E_ => (o_ld sc31 rfl ((Bg1.mod0 E_).cell rfl))) rfl rfl ?_
              refine tv (fun w_ E_ => (o_mv rfl)) rfl rfl ?_
              refine tv (fun w_ E_ => (o_ix sl31 rfl rfl (by omega))) rfl rfl ?_
              refine tv (fun w_ E_ => (o_fad fd58_0 rfl)) rfl rfl ?_
              refine tv (fun w_ E_ => (o_ld sc9 rfl ((hcs_s.mod0 E_) 0 _ rfl))) rfl rfl ?_
              refine tv (fun w_ E_ => (o_slen Tryd.underlying9 rfl)) rfl rfl ?_
              refine tv (fun w_ E_ => (o_addN rfl rfl (by omega))) rfl rfl ?_
              refine tv (fun w_ E_ => (o_fa0 fd33_11 rfl)) rfl rfl ?_
              refine tv (fun w_ E_ => (o_ld sc31 rfl ((Bg1.mod0 E_).cell rfl))) rfl rfl ?_
              refine tv (fun w_ E_ => (o_mv rfl)) rfl rfl ?_
              refine tv (fun w_ E_ => (o_ix sl31 rfl rfl (by omega))) rfl rfl ?_
              refine tv (fun w_ E_ => (o_fad fd58_1 rfl)) rfl rfl ?_
              refine tv (fun w_ E_ => (o_ld sc9 rfl ((hcs_s.mod0 E_) 1 _ rfl))) rfl rfl ?_
              refine tv (fun w_ E_ => (o_slen Tryd.underlying9 rfl)) rfl rfl ?_
              refine tv (fun w_ E_ => (o_addN rfl rfl (by omega))) rfl rfl ?_
              refine tv (fun w_ E_ => (o_fa0 fd33_11 rfl)) rfl rfl ?_
              refine tv (fun w_ E_ => (o_ld sc31 rfl ((Bg1.mod0 E_).cell rfl))) rfl rfl ?_
              refine tv (fun w_ E_ => (o_mv rfl)) rfl rfl ?_
              refine tv (fun w_ E_ => (o_ix sl31 rfl rfl (by omega))) rfl rfl ?_
              refine tv (fun w_ E_ => (o_fad fd58_2 rfl)) rfl rfl ?_
              refine tv (fun w_ E_ => (o_ld sc9 rfl ((hcs_s.mod0 E_) 2 _ rfl))) rfl rfl ?_
              refine tv (fun w_ E_ => (o_slen Tryd.underlying9 rfl)) rfl rfl ?_
              refine tv (fun w_ E_ => (o_addE (r := ((n + (s.srv.length + s.key.length + s.sig.length) : Nat) : Int)) rfl rfl (by rw [wrap64_in _ (by omega)]; omega))) rfl rfl ?_
              refine tv (fun w_ E_ => (o_as rfl)) rfl rfl ?_
              refine tw_nil rfl fun w5 E_ => ?_
              replace Bg1 := Bg1.mod0 E_
              replace E := E.then E_
              refine e_in (by simp) ?_
              refine e_K (hK17 _ _ _ _ ?_)
              refine c_region ?_
              refine sv (o_mv rfl) rfl ?_
              refine sv (o_addN rfl rfl (by omega)) rfl ?_
              refine sv (o_as rfl) rfl ?_
              refine l_nil ?_
              exact e_round (σ := Nat × Nat) (s := ⟨k, n⟩) (⟨k + 1, n + (s.srv.length + s.key.length + s.sig.length)⟩) ⟨rfl, rfl, rfl, rfl, trivial⟩ ⟨by omega, by rw [← hS]; exact hn, by omega, Bg1, E⟩ (by dsimp only; omega)
            · skip
              have hne : (e.n3 most) = n := by rw [← hn]; exact addW_big (by omega)
              subst hne
              refine c_exit ?_
              refine e_then (by simp) ?_
              refine e_then (by simp) ?_
              refine e_hit ?_
              refine e_K (hK13 _ _ _ _ ?_)
              refine c_seq fun K18 hK18 => ?_
              by_cases hs14_0 : ((e.n3 most : Nat) : Int) > (most : Int)
              · skip
                refine c_region ?_
                refine sv (o_mv rfl) rfl ?_
                refine sv (o_mv rfl) rfl ?_
                refine sv (o_gtr rfl rfl) rfl ?_
                refine sv (o_mv rfl) rfl ?_
                refine sn rfl (fun e_ => absurd ((decide_eq_true hs14_0).symm.trans e_) (by decide)) rfl ?_
                refine sn rfl (fun e_ => absurd ((decide_eq_true hs14_0).symm.trans e_) (by decide)) rfl ?_
                refine sn rfl (fun e_ => absurd ((decide_eq_true hs14_0).symm.trans e_) (by decide)) rfl ?_
                refine sn rfl (fun e_ => absurd ((decide_eq_true hs14_0).symm.trans e_) (by decide)) rfl ?_
                refine sn rfl (fun e_ => absurd ((decide_eq_true hs14_0).symm.trans e_) (by decide)) rfl ?_
                refine sn rfl (fun e_ => absurd ((decide_eq_true hs14_0).symm.trans e_) (by decide)) rfl ?_
                refine sn rfl (fun e_ => absurd ((decide_eq_true hs14_0).symm.trans e_) (by decide)) rfl ?_
                refine sv (o_pickT (decide_eq_true hs14_0) rfl rfl) rfl ?_
                refine sv (o_as rfl) rfl ?_
                refine l_nil ?_
                refine e_K (hK18 _ _ _ _ ?_)
                refine c_ret ?_
                exact ret1 rfl rfl ⟨by unfold EV.great; rw [decide_eq_true (show e.n3 most > most by omega)]; try rfl, E⟩
              · skip
                refine c_region ?_
                refine sv (o_mv rfl) rfl ?_
                refine sv (o_mv rfl) rfl ?_
                refine sv (o_gtr rfl rfl) rfl ?_
                refine sv (o_mv rfl) rfl ?_
                refine sg rfl (decide_eq_false hs14_0) (o_fa0 fd33_5 rfl) rfl ?_
                refine sg rfl (decide_eq_false hs14_0) (o_lda (vs := [_, _, _, _, _, _]) ag25 rfl rfl (Bg1.cs rfl)) rfl ?_
                refine sg rfl (decide_eq_false hs14_0) (o_mv rfl) rfl ?_
                refine sg rfl (decide_eq_false hs14_0) (o_mv rfl) rfl ?_
                refine sg rfl (decide_eq_false hs14_0) (o_subN rfl rfl (by omega)) rfl ?_
                refine sgc rfl (decide_eq_false hs14_0) (o_call ent21 rfl) (c_weigh _ e.con _ _ 60 (Rc.to0 E)) rfl fun v_ w6 h_ => ?_
                obtain ⟨rfl, E_⟩ := h_
                replace Bg1 := Bg1.mod0 E_
                replace E := E.then E_
                refine sg rfl (decide_eq_false hs14_0) (o_lss rfl rfl) rfl ?_
                refine sv (o_pickF (decide_eq_false hs14_0) rfl rfl) rfl ?_
                refine sv (o_as rfl) rfl ?_
                refine l_nil ?_
                refine e_K (hK18 _ _ _ _ ?_)
                refine c_ret ?_
                exact ret1 rfl rfl ⟨by unfold EV.great; rw [decide_eq_false (show ¬ e.n3 most > most by omega)]; try rfl, E⟩
          · skip
            refine c_region ?_
            refine sv (o_mv rfl) rfl ?_
            refine sv (o_fa0 fd33_11 rfl) rfl ?_
            refine sv (o_ld sc31 rfl (Bg1.cell rfl)) rfl ?_
            refine sv (o_len Tryd.underlying31 rfl) rfl ?_
            refine sv (o_lss rfl rfl) rfl ?_
            refine sv (o_mv rfl) rfl ?_
            refine sn rfl (fun e_ => absurd ((decide_eq_false hs11_0).symm.trans e_) (by decide)) rfl ?_
            refine sn rfl (fun e_ => absurd ((decide_eq_false hs11_0).symm.trans e_) (by decide)) rfl ?_
            refine sn rfl (fun e_ => absurd ((decide_eq_false hs11_0).symm.trans e_) (by decide)) rfl ?_
            refine sv (o_pickF (decide_eq_false hs11_0) rfl rfl) rfl ?_
            refine l_nil ?_
            refine e_K (hK16 _ _ _ _ ?_)
            refine c_false rfl ?_
            have hne : (e.n3 most) = n := by rw [← hn]; exact addW_end (by simp; omega)
            subst hne
            refine c_exit ?_
            refine e_then (by simp) ?_
            refine e_then (by simp) ?_
            refine e_hit ?_
            refine e_K (hK13 _ _ _ _ ?_)
            refine c_seq fun K19 hK19 => ?_
            by_cases hs14_0 : ((e.n3 most : Nat) : Int) > (most : Int)
            · skip
              refine c_region ?_
              refine sv (o_mv rfl) rfl ?_
              refine sv (o_mv rfl) rfl ?_
              refine sv (o_gtr rfl rfl) rfl ?_
              refine sv (o_mv rfl) rfl ?_
              refine sn rfl (fun e_ => absurd ((decide_eq_true hs14_0).symm.trans e_) (by decide)) rfl ?_
              refine sn rfl (fun e_ => absurd ((decide_eq_true hs14_0).symm.trans e_) (by decide)) rfl ?_
              refine sn rfl (fun e_ => absurd ((decide_eq_true hs14_0).symm.trans e_) (by decide)) rfl ?_
              refine sn rfl (fun e_ => absurd ((decide_eq_true hs14_0).symm.trans e_) (by decide)) rfl ?_
              refine sn rfl (fun e_ => absurd ((decide_eq_true hs14_0).symm.trans e_) (by decide)) rfl ?_
              refine sn rfl (fun e_ => absurd ((decide_eq_true hs14_0).symm.trans e_) (by decide)) rfl ?_
              refine sn rfl (fun e_ => absurd ((decide_eq_true hs14_0).symm.trans e_) (by decide)) rfl ?_
              refine sv (o_pickT (decide_eq_true hs14_0) rfl rfl) rfl ?_
              refine sv (o_as rfl) rfl ?_
              refine l_nil ?_
              refine e_K (hK19 _ _ _ _ ?_)
              refine c_ret ?_
              exact ret1 rfl rfl ⟨by unfold EV.great; rw [decide_eq_true (show e.n3 most > most by omega)]; try rfl, E⟩
            · skip
              refine c_region ?_
              refine sv (o_mv rfl) rfl ?_
              refine sv (o_mv rfl) rfl ?_
              refine sv (o_gtr rfl rfl) rfl ?_
              refine sv (o_mv rfl) rfl ?_
              refine sg rfl (decide_eq_false hs14_0) (o_fa0 fd33_5 rfl) rfl ?_
              refine sg rfl (decide_eq_false hs14_0) (o_lda (vs := [_, _, _, _, _, _]) ag25 rfl rfl (Bg1.cs rfl)) rfl ?_
              refine sg rfl (decide_eq_false hs14_0) (o_mv rfl) rfl ?_
              refine sg rfl (decide_eq_false hs14_0) (o_mv rfl) rfl ?_
              refine sg rfl (decide_eq_false hs14_0) (o_subN rfl rfl (by omega)) rfl ?_
              refine sgc rfl (decide_eq_false hs14_0) (o_call ent21 rfl) (c_weigh _ e.con _ _ 60 (Rc.to0 E)) rfl fun v_ w7 h_ => ?_
              obtain ⟨rfl, E_⟩ := h_
              replace Bg1 := Bg1.mod0 E_
              replace E := E.then E_
              refine sg rfl (decide_eq_false hs14_0) (o_lss rfl rfl) rfl ?_
              refine sv (o_pickF (decide_eq_false hs14_0) rfl rfl) rfl ?_
              refine sv (o_as rfl) rfl ?_
              refine l_nil ?_
              refine e_K (hK19 _ _ _ _ ?_)
              refine c_ret ?_
              exact ret1 rfl rfl ⟨by unfold EV.great; rw [decide_eq_false (show ¬ e.n3 most > most by omega)]; try rfl, E⟩
      · skip
        refine c_region ?_
        refine sv (o_mv rfl) rfl ?_
        refine sv (o_fa0 fd33_7 rfl) rfl ?_
        refine sv (o_ld sc30 rfl (Bg1.cell rfl)) rfl ?_
        refine sv (o_len Tryd.underlying30 rfl) rfl ?_
        refine sv (o_lss rfl rfl) rfl ?_
        refine sv (o_mv rfl) rfl ?_
        refine sn rfl (fun e_ => absurd ((decide_eq_false hs7_0).symm.trans e_) (by decide)) rfl ?_
        refine sn rfl (fun e_ => absurd ((decide_eq_false hs7_0).symm.trans e_) (by decide)) rfl ?_
        refine sn rfl (fun e_ => absurd ((decide_eq_false hs7_0).symm.trans e_) (by decide)) rfl ?_
        refine sv (o_pickF (decide_eq_false hs7_0) rfl rfl) rfl ?_
        refine l_nil ?_
        refine e_K (hK11 _ _ _ _ ?_)
        refine c_false rfl ?_
        have hne : (e.n2 most) = n := by rw [← hn]; exact addW_end (by simp; omega)
        subst hne
        refine c_exit ?_
        refine e_then (by simp) ?_
        refine e_then (by simp) ?_
        refine e_hit ?_
        refine e_K (hK8 _ _ _ _ ?_)
        refine c_seq fun K20 hK20 => ?_
        refine c_seq fun K21 hK21 => ?_
        refine c_region ?_
        refine sv (o_as rfl) rfl ?_
        refine l_nil ?_
        refine e_K (hK21 _ _ _ _ ?_)
        refine c_block ?_
        refine c_loop (σ := Nat × Nat) (fun ⟨k, n⟩ => [(1, .int .i64 (most : Int)), (2, .pointer (some ⟨g1, 0, none⟩)), (5, .int .i64 (n : Int)), (8, .int .i64 (k : Int))]) (fun ⟨k, n⟩ w1 => k ≤ e.sigs.length ∧ addW (((e.sigs.map fun s => s.srv.length + s.key.length + s.sig.length)).drop k) n most = (e.n3 most) ∧ n ≤ 2251799813685248 ∧ Blk w1 g1 33 [S e.room, S e.snd, S e.ty, .bool e.st, S e.key, .int .i64 e.con.kind, .bool e.con.is, .int .i64 e.con.num, S e.con.str, .slice al e.con.list.length cl, .slice am e.con.map.length cm, .slice ap e.prev.length cp, .slice aa e.auth.length ca, .int .i64 e.dep, .int .i64 e.time, S e.hash, .slice aS e.sigs.length cS] ∧ Mod [] w w1) (fun ⟨k, n⟩ => e.sigs.length - k) (⟨0, (e.n2 most)⟩) ⟨rfl, rfl, rfl, rfl, trivial⟩ (⟨by omega, rfl, by omega, Bg1, E⟩) ?_
        rintro ⟨k, n⟩ w8 ⟨hk, hn, hnb, Bg1, E⟩
        refine c_seq fun K22 hK22 => ?_
        refine c_seq fun K23 hK23 => ?_
        by_cases hs11_0 : (k : Int) < (e.sigs.length : Int)
        · skip
          refine c_region ?_
          refine sv (o_mv rfl) rfl ?_
          refine sv (o_fa0 fd33_11 rfl) rfl ?_
          refine sv (o_ld sc31 rfl (Bg1.cell rfl)) rfl ?_
          refine sv (o_len Tryd.underlying31 rfl) rfl ?_
          refine sv (o_lss rfl rfl) rfl ?_
          refine sv (o_mv rfl) rfl ?_
          refine sg rfl (decide_eq_true hs11_0) (o_mv rfl) rfl ?_
          refine sg rfl (decide_eq_true hs11_0) (o_mv rfl) rfl ?_
          refine sg rfl (decide_eq_true hs11_0) (o_leq rfl rfl) rfl ?_
          refine sv (o_pickT (decide_eq_true hs11_0) rfl rfl) rfl ?_
          refine l_nil ?_
          refine e_K (hK23 _ _ _ _ ?_)
          refine c_if rfl (fun h89 => ?_) (fun h89 => ?_)
          · skip
            obtain ⟨s, hx_s⟩ : ∃ s, e.sigs[k]? = some s := ⟨_, List.getElem?_eq_getElem (by omega)⟩
            have hs_s := ho11 s (List.mem_of_getElem? hx_s)
            obtain ⟨a_s, ha_s, hcs_s, _⟩ := flat_at (Rs.to0 E) hx_s
            obtain rfl := ha_s
            have hS := addW_at (l := (e.sigs.map fun s => s.srv.length + s.key.length + s.sig.length)) (k := k) (n := n) (most := most) (x := s.srv.length + s.key.length + s.sig.length) (by simp [hx_s]) (by omega)
            refine c_skip ?_
            refine e_K (hK22 _ _ _ _ ?_)
            refine c_seq fun K24 hK24 => ?_
            refine c_block ?_
            refine c_draw wide (by kernel_rfl) ?_
            refine tv (fun w_ E_ => (o_mv rfl)) rfl rfl ?_
            refine tv (fun w_ E_ => (o_fa0 fd33_11 rfl)) rfl rfl ?_
            refine tv (fun w_ E_ => (o_ld sc31 rfl ((Bg1.mod0 E_).cell rfl))) rfl rfl ?_
            refine tv (fun w_ E_ => (o_mv rfl)) rfl rfl ?_
            refine tv (fun w_ E_ => (o_ix sl31 rfl rfl (by omega))) rfl rfl ?_
            refine tv (fun w_ E_ => (o_fad fd58_0 rfl)) rfl rfl ?_
            refine tv (fun w_ E_ => (o_ld sc9 rfl ((hcs_s.mod0 E_) 0 _ rfl))) rfl rfl ?_
            refine tv (fun w_ E_ => (o_slen Tryd.underlying9 rfl)) rfl rfl ?_
            refine tv (fun w_ E_ => (o_addN rfl rfl (by omega))) rfl rfl ?_
            refine tv (fun w_ E_ => (o_fa0 fd33_11 rfl)) rfl rfl ?_
            refine tv (fun w_ E_ => (o_ld sc31 rfl ((Bg1.mod0 E_).cell rfl))) rfl rfl ?_
            refine tv (fun w_ E_ => (o_mv rfl)) rfl rfl ?_
            refine tv (fun w_ E_ => (o_ix sl31 rfl rfl (by omega))) rfl rfl ?_
            refine tv (fun w_ E_ => (o_fad fd58_1 rfl)) rfl rfl ?_
            refine tv (fun w_ E_ => (o_ld sc9 rfl ((hcs_s.mod0 E_) 1 _ rfl))) rfl rfl ?_
            refine tv (fun w_ E_ => (o_slen Tryd.underlying9 rfl)) rfl rfl ?_
            refine tv (fun w_ E_ => (o_addN rfl rfl (by omega))) rfl rfl ?_
            refine tv (fun w_ E_ => (o_fa0 fd33_11 rfl)) rfl rfl ?_
            refine tv (fun w_ E_ => (o_ld sc31 rfl ((Bg1.mod0 E_).cell rfl))) rfl rfl ?_
            refine tv (fun w_ E_ => (o_mv rfl)) rfl rfl ?_
            refine tv (fun w_ E_ => (o_ix sl31 rfl rfl (by omega))) rfl rfl ?_
            refine tv (fun w_ E_ => (o_fad fd58_2 rfl)) rfl rfl ?_
            refine tv (fun w_ E_ => (o_ld sc9 rfl ((hcs_s.mod0 E_) 2 _ rfl))) rfl rfl ?_
            refine tv (fun w_ E_ => (o_slen Tryd.underlying9 rfl)) rfl rfl ?_
            refine tv (fun w_ E_ => (o_addE (r := ((n + (s.srv.length + s.key.length + s.sig.length) : Nat) : Int)) rfl rfl (by rw [wrap64_in _ (by omega)]; omega))) rfl rfl ?_
            refine tv (fun w_ E_ => (o_as rfl)) rfl rfl ?_
            refine tw_nil rfl fun w9 E_ => ?_
            replace Bg1 := Bg1.mod0 E_
            replace E := E.then E_
            refine e_in (by simp) ?_
            refine e_K (hK24 _ _ _ _ ?_)
            refine c_region ?_
            refine sv (o_mv rfl) rfl ?_
            refine sv (o_addN rfl rfl (by omega)) rfl ?_
            refine sv (o_as rfl) rfl ?_
            refine l_nil ?_
            exact e_round (σ := Nat × Nat) (s := ⟨k, n⟩) (⟨k + 1, n + (s.srv.length + s.key.length + s.sig.length)⟩) ⟨rfl, rfl, rfl, rfl, trivial⟩ ⟨by omega, by rw [← hS]; exact hn, by omega, Bg1, E⟩ (by dsimp only; omega)
          · skip
            have hne : (e.n3 most) = n := by rw [← hn]; exact addW_big (by omega)
            subst hne
            refine c_exit ?_
            refine e_then (by simp) ?_
            refine e_then (by simp) ?_
            refine e_hit ?_
            refine e_K (hK20 _ _ _ _ ?_)
            refine c_seq fun K25 hK25 => ?_
            by_cases hs14_0 : ((e.n3 most : Nat) : Int) > (most : Int)
            · skip
              refine c_region ?_
              refine sv (o_mv rfl) rfl ?_
              refine sv (o_mv rfl) rfl ?_
              refine sv (o_gtr rfl rfl) rfl ?_
              refine sv (o_mv rfl) rfl ?_
              refine sn rfl (fun e_ => absurd ((decide_eq_true hs14_0).symm.trans e_) (by decide)) rfl ?_
              refine sn rfl (fun e_ => absurd ((decide_eq_true hs14_0).symm.trans e_) (by decide)) rfl ?_
              refine sn rfl (fun e_ => absurd ((decide_eq_true hs14_0).symm.trans e_) (by decide)) rfl ?_
              refine sn rfl (fun e_ => absurd ((decide_eq_true hs14_0).symm.trans e_) (by decide)) rfl ?_
              refine sn rfl (fun e_ => absurd ((decide_eq_true hs14_0).symm.trans e_) (by decide)) rfl ?_
              refine sn rfl (fun e_ => absurd ((decide_eq_true hs14_0).symm.trans e_) (by decide)) rfl ?_
              refine sn rfl (fun e_ => absurd ((decide_eq_true hs14_0).symm.trans e_) (by decide)) rfl ?_
              refine sv (o_pickT (decide_eq_true hs14_0) rfl rfl) rfl ?_
              refine sv (o_as rfl) rfl ?_
              refine l_nil ?_
              refine e_K (hK25 _ _ _ _ ?_)
              refine c_ret ?_
              exact ret1 rfl rfl ⟨by unfold EV.great; rw [decide_eq_true (show e.n3 most > most by omega)]; try rfl, E⟩
            · skip
              refine c_region ?_
              refine sv (o_mv rfl) rfl ?_
              refine sv (o_mv rfl) rfl ?_
              refine sv (o_gtr rfl rfl) rfl ?_
              refine sv (o_mv rfl) rfl ?_
              refine sg rfl (decide_eq_false hs14_0) (o_fa0 fd33_5 rfl) rfl ?_
              refine sg rfl (decide_eq_false hs14_0) (o_lda (vs := [_, _, _, _, _, _]) ag25 rfl rfl (Bg1.cs rfl)) rfl ?_
              refine sg rfl (decide_eq_false hs14_0) (o_mv rfl) rfl ?_
              refine sg rfl (decide_eq_false hs14_0) (o_mv rfl) rfl ?_
              refine sg rfl (decide_eq_false hs14_0) (o_subN rfl rfl (by omega)) rfl ?_
              refine sgc rfl (decide_eq_false hs14_0) (o_call ent21 rfl) (c_weigh _ e.con _ _ 60 (Rc.to0 E)) rfl fun v_ w10 h_ => ?_
              obtain ⟨rfl, E_⟩ := h_
              replace Bg1 := Bg1.mod0 E_
              replace E := E.then E_
              refine sg rfl (decide_eq_false hs14_0) (o_lss rfl rfl) rfl ?_
              refine sv (o_pickF (decide_eq_false hs14_0) rfl rfl) rfl ?_
              refine sv (o_as rfl) rfl ?_
              refine l_nil ?_
              refine e_K (hK25 _ _ _ _ ?_)
              refine c_ret ?_
              exact ret1 rfl rfl ⟨by unfold EV.great; rw [decide_eq_false (show ¬ e.n3 most > most by omega)]; try rfl, E⟩
        · skip
          refine c_region ?_
          refine sv (o_mv rfl) rfl ?_
          refine sv (o_fa0 fd33_11 rfl) rfl ?_
          refine sv (o_ld sc31 rfl (Bg1.cell rfl)) rfl ?_
          refine sv (o_len Tryd.underlying31 rfl) rfl ?_
          refine sv (o_lss rfl rfl) rfl ?_
          refine sv (o_mv rfl) rfl ?_
          refine sn rfl (fun e_ => absurd ((decide_eq_false hs11_0).symm.trans e_) (by decide)) rfl ?_
          refine sn rfl (fun e_ => absurd ((decide_eq_false hs11_0).symm.trans e_) (by decide)) rfl ?_
          refine sn rfl (fun e_ => absurd ((decide_eq_false hs11_0).symm.trans e_) (by decide)) rfl ?_
          refine sv (o_pickF (decide_eq_false hs11_0) rfl rfl) rfl ?_
          refine l_nil ?_
          refine e_K (hK23 _ _ _ _ ?_)
          refine c_false rfl ?_
          have hne : (e.n3 most) = n := by rw [← hn]; exact addW_end (by simp; omega)
          subst hne
          refine c_exit ?_
          refine e_then (by simp) ?_
          refine e_then (by simp) ?_
          refine e_hit ?_
          refine e_K (hK20 _ _ _ _ ?_)
          refine c_seq fun K26 hK26 => ?_
          by_cases hs14_0 : ((e.n3 most : Nat) : Int) > (most : Int)
          · skip
            refine c_region ?_
            refine sv (o_mv rfl) rfl ?_
            refine sv (o_mv rfl) rfl ?_
            refine sv (o_gtr rfl rfl) rfl ?_
            refine sv (o_mv rfl) rfl ?_
            refine sn rfl (fun e_ => absurd ((decide_eq_true hs14_0).symm.trans e_) (by decide)) rfl ?_
            refine sn rfl (fun e_ => absurd ((decide_eq_true hs14_0).symm.trans e_) (by decide)) rfl ?_
            refine sn rfl (fun e_ => absurd ((decide_eq_true hs14_0).symm.trans e_) (by decide)) rfl ?_
            refine sn rfl (fun e_ => absurd ((decide_eq_true hs14_0).symm.trans e_) (by decide)) rfl ?_
            refine sn rfl (fun e_ => absurd ((decide_eq_true hs14_0).symm.trans e_) (by decide)) rfl ?_
            refine sn rfl (fun e_ => absurd ((decide_eq_true hs14_0).symm.trans e_) (by decide)) rfl ?_
            refine sn rfl (fun e_ => absurd ((decide_eq_true hs14_0).symm.trans e_) (by decide)) rfl ?_
            refine sv (o_pickT (decide_eq_true hs14_0) rfl rfl) rfl ?_
            refine sv (o_as rfl) rfl ?_
            refine l_nil ?_
            refine e_K (hK26 _ _ _ _ ?_)
            refine c_ret ?_
            exact ret1 rfl rfl ⟨by unfold EV.great; rw [decide_eq_true (show e.n3 most > most by omega)]; try rfl, E⟩
          · skip
            refine c_region ?_
            refine sv (o_mv rfl) rfl ?_
            refine sv (o_mv rfl) rfl ?_
            refine sv (o_gtr rfl rfl) rfl ?_
            refine sv (o_mv rfl) rfl ?_
            refine sg rfl (decide_eq_false hs14_0) (o_fa0 fd33_5 rfl) rfl ?_
            refine sg rfl (decide_eq_false hs14_0) (o_lda (vs := [_, _, _, _, _, _]) ag25 rfl rfl (Bg1.cs rfl)) rfl ?_
            refine sg rfl (decide_eq_false hs14_0) (o_mv rfl) rfl ?_
            refine sg rfl (decide_eq_false hs14_0) (o_mv rfl) rfl ?_
            refine sg rfl (decide_eq_false hs14_0) (o_subN rfl rfl (by omega)) rfl ?_
            refine sgc rfl (decide_eq_false hs14_0) (o_call ent21 rfl) (c_weigh _ e.con _ _ 60 (Rc.to0 E)) rfl fun v_ w11 h_ => ?_
            obtain ⟨rfl, E_⟩ := h_
            replace Bg1 := Bg1.mod0 E_
            replace E := E.then E_
            refine sg rfl (decide_eq_false hs14_0) (o_lss rfl rfl) rfl ?_
            refine sv (o_pickF (decide_eq_false hs14_0) rfl rfl) rfl ?_
            refine sv (o_as rfl) rfl ?_
            refine l_nil ?_
            refine e_K (hK26 _ _ _ _ ?_)
            refine c_ret ?_
            exact ret1 rfl rfl ⟨by unfold EV.great; rw [decide_eq_false (show ¬ e.n3 most > most by omega)]; try rfl, E⟩
  · skip
    refine c_region ?_
    refine sv (o_mv rfl) rfl ?_
    refine sv (o_fa0 fd33_6 rfl) rfl ?_
    refine sv (o_ld sc30 rfl (Bg1.cell rfl)) rfl ?_
    refine sv (o_len Tryd.underlying30 rfl) rfl ?_
    refine sv (o_lss rfl rfl) rfl ?_
    refine sv (o_mv rfl) rfl ?_
    refine sn rfl (fun e_ => absurd ((decide_eq_false hs3_0).symm.trans e_) (by decide)) rfl ?_
    refine sn rfl (fun e_ => absurd ((decide_eq_false hs3_0).symm.trans e_) (by decide)) rfl ?_
    refine sn rfl (fun e_ => absurd ((decide_eq_false hs3_0).symm.trans e_) (by decide)) rfl ?_
    refine sv (o_pickF (decide_eq_false hs3_0) rfl rfl) rfl ?_
    refine l_nil ?_
    refine e_K (hK6 _ _ _ _ ?_)
    refine c_false rfl ?_
    have hne : (e.n1 most) = n := by rw [← hn]; exact addW_end (by simp; omega)
    subst hne
    refine c_exit ?_
    refine e_then (by simp) ?_
    refine e_then (by simp) ?_
    refine e_hit ?_
    refine e_K (hK3 _ _ _ _ ?_)
    refine c_seq fun K27 hK27 => ?_
    refine c_seq fun K28 hK28 => ?_
    refine c_region ?_
    refine sv (o_as rfl) rfl ?_
    refine l_nil ?_
    refine e_K (hK28 _ _ _ _ ?_)
    refine c_block ?_
    refine c_loop (σ := Nat × Nat) (fun ⟨k, n⟩ => [(1, .int .i64 (most : Int)), (2, .pointer (some ⟨g1, 0, none⟩)), (5, .int .i64 (n : Int)), (7, .int .i64 (k : Int))]) (fun ⟨k, n⟩ w1 => k ≤ e.auth.length ∧ addW (((e.auth.map List.length)).drop k) n most = (e.n2 most) ∧ n ≤ 2251799813685248 ∧ Blk w1 g1 33 [S e.room, S e.snd, S e.ty, .bool e.st, S e.key, .int .i64 e.con.kind, .bool e.con.is, .int .i64 e.con.num, S e.con.str, .slice al e.con.list.length cl, .slice am e.con.map.length cm, .slice ap e.prev.length cp, .slice aa e.auth.length ca, .int .i64 e.dep, .int .i64 e.time, S e.hash, .slice aS e.sigs.length cS] ∧ Mod [] w w1) (fun ⟨k, n⟩ => e.auth.length - k) (⟨0, (e.n1 most)⟩) ⟨rfl, rfl, rfl, rfl, trivial⟩ (⟨by omega, rfl, by omega, Bg1, E⟩) ?_
    rintro ⟨k, n⟩ w12 ⟨hk, hn, hnb, Bg1, E⟩
    refine c_seq fun K29 hK29 => ?_
    refine c_seq fun K30 hK30 => ?_
    by_cases hs7_0 : (k : Int) < (e.auth.length : Int)
    · skip
      refine c_region ?_
      refine sv (o_mv rfl) rfl ?_
      refine sv (o_fa0 fd33_7 rfl) rfl ?_
      refine sv (o_ld sc30 rfl (Bg1.cell rfl)) rfl ?_
      refine sv (o_len Tryd.underlying30 rfl) rfl ?_
      refine sv (o_lss rfl rfl) rfl ?_
      refine sv (o_mv rfl) rfl ?_
      refine sg rfl (decide_eq_true hs7_0) (o_mv rfl) rfl ?_
      refine sg rfl (decide_eq_true hs7_0) (o_mv rfl) rfl ?_
      refine sg rfl (decide_eq_true hs7_0) (o_leq rfl rfl) rfl ?_
      refine sv (o_pickT (decide_eq_true hs7_0) rfl rfl) rfl ?_
      refine l_nil ?_
      refine e_K (hK30 _ _ _ _ ?_)
      refine c_if rfl (fun h69 => ?_) (fun h69 => ?_)
      · skip
        obtain ⟨s, hx_s⟩ : ∃ s, e.auth[k]? = some s := ⟨_, List.getElem?_eq_getElem (by omega)⟩
        have hs_s := ho8 s (List.mem_of_getElem? hx_s)
        obtain ⟨a_s, ha_s, hcs_s, _⟩ := flat_at (Ra.to0 E) hx_s
        obtain rfl := ha_s
        have hS := addW_at (l := (e.auth.map List.length)) (k := k) (n := n) (most := most) (x := s.length) (by simp [hx_s]) (by omega)
        refine c_skip ?_
        refine e_K (hK29 _ _ _ _ ?_)
        refine c_seq fun K31 hK31 => ?_
        refine c_block ?_
        refine c_region ?_
        refine sv (o_mv rfl) rfl ?_
        refine sv (o_fa0 fd33_7 rfl) rfl ?_
        refine sv (o_ld sc30 rfl (Bg1.cell rfl)) rfl ?_
        refine sv (o_mv rfl) rfl ?_
        refine sv (o_ix sl30 rfl rfl (by omega)) rfl ?_
        refine sv (o_ld sc9 rfl hcs_s.first) rfl ?_
        refine sv (o_slen Tryd.underlying9 rfl) rfl ?_
        refine sv (o_addE (r := ((n + s.length : Nat) : Int)) rfl rfl (by rw [wrap64_in _ (by omega)]; omega)) rfl ?_
        refine sv (o_as rfl) rfl ?_
        refine l_nil ?_
        refine e_in (by simp) ?_
        refine e_K (hK31 _ _ _ _ ?_)
        refine c_region ?_
        refine sv (o_mv rfl) rfl ?_
        refine sv (o_addN rfl rfl (by omega)) rfl ?_
        refine sv (o_as rfl) rfl ?_
        refine l_nil ?_
        exact e_round (σ := Nat × Nat) (s := ⟨k, n⟩) (⟨k + 1, n + s.length⟩) ⟨rfl, rfl, rfl, rfl, trivial⟩ ⟨by omega, by rw [← hS]; exact hn, by omega, Bg1, E⟩ (by dsimp only; omega)
      · skip
        have hne : (e.n2 most) = n := by rw [← hn]; exact addW_big (by omega)
        subst hne
        refine c_exit ?_
        refine e_then (by simp) ?_
        refine e_then (by simp) ?_
        refine e_hit ?_
        refine e_K (hK27 _ _ _ _ ?_)
        refine c_seq fun K32 hK32 => ?_
        refine c_seq fun K33 hK33 => ?_
        refine c_region ?_
        refine sv (o_as rfl) rfl ?_
        refine l_nil ?_
        refine e_K (hK33 _ _ _ _ ?_)
        refine c_block ?_
        refine c_loop (σ := Nat × Nat) (fun ⟨k, n⟩ => [(1, .int .i64 (most : Int)), (2, .pointer (some ⟨g1, 0, none⟩)), (5, .int .i64 (n : Int)), (8, .int .i64 (k : Int))]) (fun ⟨k, n⟩ w1 => k ≤ e.sigs.length ∧ addW (((e.sigs.map fun s => s.srv.length + s.key.length + s.sig.length)).drop k) n most = (e.n3 most) ∧ n ≤ 2251799813685248 ∧ Blk w1 g1 33 [S e.room, S e.snd, S e.ty, .bool e.st, S e.key, .int .i64 e.con.kind, .bool e.con.is, .int .i64 e.con.num, S e.con.str, .slice al e.con.list.length cl, .slice am e.con.map.length cm, .slice ap e.prev.length cp, .slice aa e.auth.length ca, .int .i64 e.dep, .int .i64 e.time, S e.hash, .slice aS e.sigs.length cS] ∧ Mod [] w w1) (fun ⟨k, n⟩ => e.sigs.length - k) (⟨0, (e.n2 most)⟩) ⟨rfl, rfl, rfl, rfl, trivial⟩ (⟨by omega, rfl, by omega, Bg1, E⟩) ?_
        rintro ⟨k, n⟩ w13 ⟨hk, hn, hnb, Bg1, E⟩
        refine c_seq fun K34 hK34 => ?_
        refine c_seq fun K35 hK35 => ?_
        by_cases hs11_0 : (k : Int) < (e.sigs.length : Int)
        · skip
          refine c_region ?_
          refine sv (o_mv rfl) rfl ?_
          refine sv (o_fa0 fd33_11 rfl) rfl ?_
          refine sv (o_ld sc31 rfl (Bg1.cell rfl)) rfl ?_
          refine sv (o_len Tryd.underlying31 rfl) rfl ?_
          refine sv (o_lss rfl rfl) rfl ?_
          refine sv (o_mv rfl) rfl ?_
          refine sg rfl (decide_eq_true hs11_0) (o_mv rfl) rfl ?_
          refine sg rfl (decide_eq_true hs11_0) (o_mv rfl) rfl ?_
          refine sg rfl (decide_eq_true hs11_0) (o_leq rfl rfl) rfl ?_
          refine sv (o_pickT (decide_eq_true hs11_0) rfl rfl) rfl ?_
          refine l_nil ?_
          refine e_K (hK35 _ _ _ _ ?_)
          refine c_if rfl (fun h89 => ?_) (fun h89 => ?_)
          · skip
            obtain ⟨s, hx_s⟩ : ∃ s, e.sigs[k]? = some s := ⟨_, List.getElem?_eq_getElem (by omega)⟩
            have hs_s := ho11 s (List.mem_of_getElem? hx_s)
            obtain ⟨a_s, ha_s, hcs_s, _⟩ := flat_at (Rs.to0 E) hx_s
            obtain rfl := ha_s
            have hS := addW_at (l := (e.sigs.map fun s => s.srv.length + s.key.length + s.sig.length)) (k := k) (n := n) (most := most) (x := s.srv.length + s.key.length + s.sig.length) (by simp [hx_s]) (by omega)
            refine c_skip ?_
            refine e_K (hK34 _ _ _ _ ?_)
            refine c_seq fun K36 hK36 => ?_
            refine c_block ?_
            refine c_draw wide (by kernel_rfl) ?_
            refine tv (fun w_ E_ => (o_mv rfl)) rfl rfl ?_
            refine tv (fun w_ E_ => (o_fa0 fd33_11 rfl)) rfl rfl ?_
            refine tv (fun w_ E_ => (o_ld sc31 rfl ((Bg1.mod0 E_).cell rfl))) rfl rfl ?_
            refine tv (fun w_ E_ => (o_mv rfl)) rfl rfl ?_
            refine tv (fun w_ E_ => (o_ix sl31 rfl rfl (by omega))) rfl rfl ?_
            refine tv (fun w_ E_ => (o_fad fd58_0 rfl)) rfl rfl ?_
            refine tv (fun w_ E_ => (o_ld sc9 rfl ((hcs_s.mod0 E_) 0 _ rfl))) rfl rfl ?_
            refine tv (fun w_ E_ => (o_slen Tryd.underlying9 rfl)) rfl rfl ?_
            refine tv (fun w_ E_ => (o_addN rfl rfl (by omega))) rfl rfl ?_
            refine tv (fun w_ E_ => (o_fa0 fd33_11 rfl)) rfl rfl ?_
            refine tv (fun w_ E_ => (o_ld sc31 rfl ((Bg1.mod0 E_).cell rfl))) rfl rfl ?_
            refine tv (fun w_ E_ => (o_mv rfl)) rfl rfl ?_
            refine tv (fun w_ E_ => (o_ix sl31 rfl rfl (by omega))) rfl rfl ?_
            refine tv (fun w_ E_ => (o_fad fd58_1 rfl)) rfl rfl ?_
            refine tv (fun w_ E_ => (o_ld sc9 rfl ((hcs_s.mod0 E_) 1 _ rfl))) rfl rfl ?_
            refine tv (fun w_ E_ => (o_slen Tryd.underlying9 rfl)) rfl rfl ?_
            refine tv (fun w_ E_ => (o_addN rfl rfl (by omega))) rfl rfl ?_
            refine tv (fun w_ E_ => (o_fa0 fd33_11 rfl)) rfl rfl ?_
            refine tv (fun w_ E_ => (o_ld sc31 rfl ((Bg1.mod0 E_).cell rfl))) rfl rfl ?_
            refine tv (fun w_ E_ => (o_mv rfl)) rfl rfl ?_
            refine tv (fun w_ E_ => (o_ix sl31 rfl rfl (by omega))) rfl rfl ?_
            refine tv (fun w_ E_ => (o_fad fd58_2 rfl)) rfl rfl ?_
            refine tv (fun w_ E_ => (o_ld sc9 rfl ((hcs_s.mod0 E_) 2 _ rfl))) rfl rfl ?_
            refine tv (fun w_ E_ => (o_slen Tryd.underlying9 rfl)) rfl rfl ?_
            refine tv (fun w_ E_ => (o_addE (r := ((n + (s.srv.length + s.key.length + s.sig.length) : Nat) : Int)) rfl rfl (by rw [wrap64_in _ (by omega)]; omega))) rfl rfl ?_
            refine tv (fun w_ E_ => (o_as rfl)) rfl rfl ?_
            refine tw_nil rfl fun w14 E_ => ?_
            replace Bg1 := Bg1.mod0 E_
            replace E := E.then E_
            refine e_in (by simp) ?_
            refine e_K (hK36 _ _ _ _ ?_)
            refine c_region ?_
            refine sv (o_mv rfl) rfl ?_
            refine sv (o_addN rfl rfl (by omega)) rfl ?_
            refine sv (o_as rfl) rfl ?_
            refine l_nil ?_
            exact e_round (σ := Nat × Nat) (s := ⟨k, n⟩) (⟨k + 1, n + (s.srv.length + s.key.length + s.sig.length)⟩) ⟨rfl, rfl, rfl, rfl, trivial⟩ ⟨by omega, by rw [← hS]; exact hn, by omega, Bg1, E⟩ (by dsimp only; omega)
          · skip
            have hne : (e.n3 most) = n := by rw [← hn]; exact addW_big (by omega)
            subst hne
            refine c_exit ?_
            refine e_then (by simp) ?_
            refine e_then (by simp) ?_
            refine e_hit ?_
            refine e_K (hK32 _ _ _ _ ?_)
            refine c_seq fun K37 hK37 => ?_
            by_cases hs14_0 : ((e.n3 most : Nat) : Int) > (most : Int)
            · skip
              refine c_region ?_
              refine sv (o_mv rfl) rfl ?_
              refine sv (o_mv rfl) rfl ?_
              refine sv (o_gtr rfl rfl) rfl ?_
              refine sv (o_mv rfl) rfl ?_
              refine sn rfl (fun e_ => absurd ((decide_eq_true hs14_0).symm.trans e_) (by decide)) rfl ?_
              refine sn rfl (fun e_ => absurd ((decide_eq_true hs14_0).symm.trans e_) (by decide)) rfl ?_
              refine sn rfl (fun e_ => absurd ((decide_eq_true hs14_0).symm.trans e_) (by decide)) rfl ?_
              refine sn rfl (fun e_ => absurd ((decide_eq_true hs14_0).symm.trans e_) (by decide)) rfl ?_
              refine sn rfl (fun e_ => absurd ((decide_eq_true hs14_0).symm.trans e_) (by decide)) rfl ?_
              refine sn rfl (fun e_ => absurd ((decide_eq_true hs14_0).symm.trans e_) (by decide)) rfl ?_
              refine sn rfl (fun e_ => absurd ((decide_eq_true hs14_0).symm.trans e_) (by decide)) rfl ?_
              refine sv (o_pickT (decide_eq_true hs14_0) rfl rfl) rfl ?_
              refine sv (o_as rfl) rfl ?_
              refine l_nil ?_
              refine e_K (hK37 _ _ _ _ ?_)
              refine c_ret ?_
              exact ret1 rfl rfl ⟨by unfold EV.great; rw [decide_eq_true (show e.n3 most > most by omega)]; try rfl, E⟩
            · skip
              refine c_region ?_
              refine sv (o_mv rfl) rfl ?_
              refine sv (o_mv rfl) rfl ?_
              refine sv (o_gtr rfl rfl) rfl ?_
              refine sv (o_mv rfl) rfl ?_
              refine sg rfl (decide_eq_false hs14_0) (o_fa0 fd33_5 rfl) rfl ?_
              refine sg rfl (decide_eq_false hs14_0) (o_lda (vs := [_, _, _, _, _, _]) ag25 rfl rfl (Bg1.cs rfl)) rfl ?_
              refine sg rfl (decide_eq_false hs14_0) (o_mv rfl) rfl ?_
              refine sg rfl (decide_eq_false hs14_0) (o_mv rfl) rfl ?_
              refine sg rfl (decide_eq_false hs14_0) (o_subN rfl rfl (by omega)) rfl ?_
              refine sgc rfl (decide_eq_false hs14_0) (o_call ent21 rfl) (c_weigh _ e.con _ _ 60 (Rc.to0 E)) rfl fun v_ w15 h_ => ?_
              obtain ⟨rfl, E_⟩ := h_
              replace Bg1 := Bg1.mod0 E_
              replace E := E.then E_
              refine sg rfl (decide_eq_false hs14_0) (o_lss rfl rfl) rfl ?_
              refine sv (o_pickF (decide_eq_false hs14_0) rfl rfl) rfl ?_
              refine sv (o_as rfl) rfl ?_
              refine l_nil ?_
              refine e_K (hK37 _ _ _ _ ?_)
              refine c_ret ?_
              exact ret1 rfl rfl ⟨by unfold EV.great; rw [decide_eq_false (show ¬ e.n3 most > most by omega)]; try rfl, E⟩
        · skip
          refine c_region ?_
          refine sv (o_mv rfl) rfl ?_
          refine sv (o_fa0 fd33_11 rfl) rfl ?_
          refine sv (o_ld sc31 rfl (Bg1.cell rfl)) rfl ?_
          refine sv (o_len Tryd.underlying31 rfl) rfl ?_
          refine sv (o_lss rfl rfl) rfl ?_
          refine sv (o_mv rfl) rfl ?_
          refine sn rfl (fun e_ => absurd ((decide_eq_false hs11_0).symm.trans e_) (by decide)) rfl ?_
          refine sn rfl (fun e_ => absurd ((decide_eq_false hs11_0).symm.trans e_) (by decide)) rfl ?_
          refine sn rfl (fun e_ => absurd ((decide_eq_false hs11_0).symm.trans e_) (by decide)) rfl ?_
          refine sv (o_pickF (decide_eq_false hs11_0) rfl rfl) rfl ?_
          refine l_nil ?_
          refine e_K (hK35 _ _ _ _ ?_)
          refine c_false rfl ?_
          have hne : (e.n3 most) = n := by rw [← hn]; exact addW_end (by simp; omega)
          subst hne
          refine c_exit ?_
          refine e_then (by simp) ?_
          refine e_then (by simp) ?_
          refine e_hit ?_
          refine e_K (hK32 _ _ _ _ ?_)
          refine c_seq fun K38 hK38 => ?_
          by_cases hs14_0 : ((e.n3 most : Nat) : Int) > (most : Int)
          · skip
            refine c_region ?_
            refine sv (o_mv rfl) rfl ?_
            refine sv (o_mv rfl) rfl ?_
            refine sv (o_gtr rfl rfl) rfl ?_
            refine sv (o_mv rfl) rfl ?_
            refine sn rfl (fun e_ => absurd ((decide_eq_true hs14_0).symm.trans e_) (by decide)) rfl ?_
            refine sn rfl (fun e_ => absurd ((decide_eq_true hs14_0).symm.trans e_) (by decide)) rfl ?_
            refine sn rfl (fun e_ => absurd ((decide_eq_true hs14_0).symm.trans e_) (by decide)) rfl ?_
            refine sn rfl (fun e_ => absurd ((decide_eq_true hs14_0).symm.trans e_) (by decide)) rfl ?_
            refine sn rfl (fun e_ => absurd ((decide_eq_true hs14_0).symm.trans e_) (by decide)) rfl ?_
            refine sn rfl (fun e_ => absurd ((decide_eq_true hs14_0).symm.trans e_) (by decide)) rfl ?_
            refine sn rfl (fun e_ => absurd ((decide_eq_true hs14_0).symm.trans e_) (by decide)) rfl ?_
            refine sv (o_pickT (decide_eq_true hs14_0) rfl rfl) rfl ?_
            refine sv (o_as rfl) rfl ?_
            refine l_nil ?_
            refine e_K (hK38 _ _ _ _ ?_)
            refine c_ret ?_
            exact ret1 rfl rfl ⟨by unfold EV.great; rw [decide_eq_true (show e.n3 most > most by omega)]; try rfl, E⟩
          · skip
            refine c_region ?_
            refine sv (o_mv rfl) rfl ?_
            refine sv (o_mv rfl) rfl ?_
            refine sv (o_gtr rfl rfl) rfl ?_
            refine sv (o_mv rfl) rfl ?_
            refine sg rfl (decide_eq_false hs14_0) (o_fa0 fd33_5 rfl) rfl ?_
            refine sg rfl (decide_eq_false hs14_0) (o_lda (vs := [_, _, _, _, _, _]) ag25 rfl rfl (Bg1.cs rfl)) rfl ?_
            refine sg rfl (decide_eq_false hs14_0) (o_mv rfl) rfl ?_
            refine sg rfl (decide_eq_false hs14_0) (o_mv rfl) rfl ?_
            refine sg rfl (decide_eq_false hs14_0) (o_subN rfl rfl (by omega)) rfl ?_
            refine sgc rfl (decide_eq_false hs14_0) (o_call ent21 rfl) (c_weigh _ e.con _ _ 60 (Rc.to0 E)) rfl fun v_ w16 h_ => ?_
            obtain ⟨rfl, E_⟩ := h_
            replace Bg1 := Bg1.mod0 E_
            replace E := E.then E_
            refine sg rfl (decide_eq_false hs14_0) (o_lss rfl rfl) rfl ?_
            refine sv (o_pickF (decide_eq_false hs14_0) rfl rfl) rfl ?_
            refine sv (o_as rfl) rfl ?_
            refine l_nil ?_
            refine e_K (hK38 _ _ _ _ ?_)
            refine c_ret ?_
            exact ret1 rfl rfl ⟨by unfold EV.great; rw [decide_eq_false (show ¬ e.n3 most > most by omega)]; try rfl, E⟩
    · skip
      refine c_region ?_
      refine sv (o_mv rfl) rfl ?_
      refine sv (o_fa0 fd33_7 rfl) rfl ?_
      refine sv (o_ld sc30 rfl (Bg1.cell rfl)) rfl ?_
      refine sv (o_len Tryd.underlying30 rfl) rfl ?_
      refine sv (o_lss rfl rfl) rfl ?_
      refine sv (o_mv rfl) rfl ?_
      refine sn rfl (fun e_ => absurd ((decide_eq_false hs7_0).symm.trans e_) (by decide)) rfl ?_
      refine sn rfl (fun e_ => absurd ((decide_eq_false hs7_0).symm.trans e_) (by decide)) rfl ?_
      refine sn rfl (fun e_ => absurd ((decide_eq_false hs7_0).symm.trans e_) (by decide)) rfl ?_
      refine sv (o_pickF (decide_eq_false hs7_0) rfl rfl) rfl ?_
      refine l_nil ?_
      refine e_K (hK30 _ _ _ _ ?_)
      refine c_false rfl ?_
      have hne : (e.n2 most) = n := by rw [← hn]; exact addW_end (by simp; omega)
      subst hne
      refine c_exit ?_
      refine e_then (by simp) ?_
      refine e_then (by simp) ?_
      refine e_hit ?_
      refine e_K (hK27 _ _ _ _ ?_)
      refine c_seq fun K39 hK39 => ?_
      refine c_seq fun K40 hK40 => ?_
      refine c_region ?_
      refine sv (o_as rfl) rfl ?_
      refine l_nil ?_
      refine e_K (hK40 _ _ _ _ ?_)
      refine c_block ?_
      refine c_loop (σ := Nat × Nat) (fun ⟨k, n⟩ => [(1, .int .i64 (most : Int)), (2, .pointer (some ⟨g1, 0, none⟩)), (5, .int .i64 (n : Int)), (8, .int .i64 (k : Int))]) (fun ⟨k, n⟩ w1 => k ≤ e.sigs.length ∧ addW (((e.sigs.map fun s => s.srv.length + s.key.length + s.sig.length)).drop k) n most = (e.n3 most) ∧ n ≤ 2251799813685248 ∧ Blk w1 g1 33 [S e.room, S e.snd, S e.ty, .bool e.st, S e.key, .int .i64 e.con.kind, .bool e.con.is, .int .i64 e.con.num, S e.con.str, .slice al e.con.list.length cl, .slice am e.con.map.length cm, .slice ap e.prev.length cp, .slice aa e.auth.length ca, .int .i64 e.dep, .int .i64 e.time, S e.hash, .slice aS e.sigs.length cS] ∧ Mod [] w w1) (fun ⟨k, n⟩ => e.sigs.length - k) (⟨0, (e.n2 most)⟩) ⟨rfl, rfl, rfl, rfl, trivial⟩ (⟨by omega, rfl, by omega, Bg1, E⟩) ?_
      rintro ⟨k, n⟩ w17 ⟨hk, hn, hnb, Bg1, E⟩
      refine c_seq fun K41 hK41 => ?_
      refine c_seq fun K42 hK42 => ?_
      by_cases hs11_0 : (k : Int) < (e.sigs.length : Int)
      · skip
        refine c_region ?_
        refine sv (o_mv rfl) rfl ?_
        refine sv (o_fa0 fd33_11 rfl) rfl ?_
        refine sv (o_ld sc31 rfl (Bg1.cell rfl)) rfl ?_
        refine sv (o_len Tryd.underlying31 rfl) rfl ?_
        refine sv (o_lss rfl rfl) rfl ?_
        refine sv (o_mv rfl) rfl ?_
        refine sg rfl (decide_eq_true hs11_0) (o_mv rfl) rfl ?_
        refine sg rfl (decide_eq_true hs11_0) (o_mv rfl) rfl ?_
        refine sg rfl (decide_eq_true hs11_0) (o_leq rfl rfl) rfl ?_
        refine sv (o_pickT (decide_eq_true hs11_0) rfl rfl) rfl ?_
        refine l_nil ?_
        refine e_K (hK42 _ _ _ _ ?_)
        refine c_if rfl (fun h89 => ?_) (fun h89 => ?_)
        · skip
          obtain ⟨s, hx_s⟩ : ∃ s, e.sigs[k]? = some s := ⟨_, List.getElem?_eq_getElem (by omega)⟩
          have hs_s := ho11 s (List.mem_of_getElem? hx_s)
          obtain ⟨a_s, ha_s, hcs_s, _⟩ := flat_at (Rs.to0 E) hx_s
          obtain rfl := ha_s
          have hS := addW_at (l := (e.sigs.map fun s => s.srv.length + s.key.length + s.sig.length)) (k := k) (n := n) (most := most) (x := s.srv.length + s.key.length + s.sig.length) (by simp [hx_s]) (by omega)
          refine c_skip ?_
          refine e_K (hK41 _ _ _ _ ?_)
          refine c_seq fun K43 hK43 => ?_
          refine c_block ?_
          refine c_draw wide (by kernel_rfl) ?_
          refine tv (fun w_ E_ => (o_mv rfl)) rfl rfl ?_
          refine tv (fun w_ E_ => (o_fa0 fd33_11 rfl)) rfl rfl ?_
          refine tv (fun w_ E_ => (o_ld sc31 rfl ((Bg1.mod0 E_).cell rfl))) rfl rfl ?_
          refine tv (fun w_ E_ => (o_mv rfl)) rfl rfl ?_
          refine tv (fun w_ E_ => (o_ix sl31 rfl rfl (by omega))) rfl rfl ?_
          refine tv (fun w_ E_ => (o_fad fd58_0 rfl)) rfl rfl ?_
          refine tv (fun w_ E_ => (o_ld sc9 rfl ((hcs_s.mod0 E_) 0 _ rfl))) rfl rfl ?_
          refine tv (fun w_ E_ => (o_slen Tryd.underlying9 rfl)) rfl rfl ?_
          refine tv (fun w_ E_ => (o_addN rfl rfl (by omega))) rfl rfl ?_
          refine tv (fun w_ E_ => (o_fa0 fd33_11 rfl)) rfl rfl ?_
          refine tv (fun w_ E_ => (o_ld sc31 rfl ((Bg1.mod0 E_).cell rfl))) rfl rfl ?_
          refine tv (fun w_ E_ => (o_mv rfl)) rfl rfl ?_
          refine tv (fun w_ E_ => (o_ix sl31 rfl rfl (by omega))) rfl rfl ?_
          refine tv (fun w_ E_ => (o_fad fd58_1 rfl)) rfl rfl ?_
          refine tv (fun w_ E_ => (o_ld sc9 rfl ((hcs_s.mod0 E_) 1 _ rfl))) rfl rfl ?_
          refine tv (fun w_ E_ => (o_slen Tryd.underlying9 rfl)) rfl rfl ?_
          refine tv (fun w_ E_ => (o_addN rfl rfl (by omega))) rfl rfl ?_
          refine tv (fun w_ E_ => (o_fa0 fd33_11 rfl)) rfl rfl ?_
          refine tv (fun w_ E_ => (o_ld sc31 rfl ((Bg1.mod0 E_).cell rfl))) rfl rfl ?_
          refine tv (fun w_ E_ => (o_mv rfl)) rfl rfl ?_
          refine tv (fun w_ E_ => (o_ix sl31 rfl rfl (by omega))) rfl rfl ?_
          refine tv (fun w_ E_ => (o_fad fd58_2 rfl)) rfl rfl ?_
          refine tv (fun w_ E_ => (o_ld sc9 rfl ((hcs_s.mod0 E_) 2 _ rfl))) rfl rfl ?_
          refine tv (fun w_ E_ => (o_slen Tryd.underlying9 rfl)) rfl rfl ?_
          refine tv (fun w_ E_ => (o_addE (r := ((n + (s.srv.length + s.key.length + s.sig.length) : Nat) : Int)) rfl rfl (by rw [wrap64_in _ (by omega)]; omega))) rfl rfl ?_
          refine tv (fun w_ E_ => (o_as rfl)) rfl rfl ?_
          refine tw_nil rfl fun w18 E_ => ?_
          replace Bg1 := Bg1.mod0 E_
          replace E := E.then E_
          refine e_in (by simp) ?_
          refine e_K (hK43 _ _ _ _ ?_)
          refine c_region ?_
          refine sv (o_mv rfl) rfl ?_
          refine sv (o_addN rfl rfl (by omega)) rfl ?_
          refine sv (o_as rfl) rfl ?_
          refine l_nil ?_
          exact e_round (σ := Nat × Nat) (s := ⟨k, n⟩) (⟨k + 1, n + (s.srv.length + s.key.length + s.sig.length)⟩) ⟨rfl, rfl, rfl, rfl, trivial⟩ ⟨by omega, by rw [← hS]; exact hn, by omega, Bg1, E⟩ (by dsimp only; omega)
        · skip
          have hne : (e.n3 most) = n := by rw [← hn]; exact addW_big (by omega)
          subst hne
          refine c_exit ?_
          refine e_then (by simp) ?_
          refine e_then (by simp) ?_
          refine e_hit ?_
          refine e_K (hK39 _ _ _ _ ?_)
          refine c_seq fun K44 hK44 => ?_
          by_cases hs14_0 : ((e.n3 most : Nat) : Int) > (most : Int)
          · skip
            refine c_region ?_
            refine sv (o_mv rfl) rfl ?_
            refine sv (o_mv rfl) rfl ?_
            refine sv (o_gtr rfl rfl) rfl ?_
            refine sv (o_mv rfl) rfl ?_
            refine sn rfl (fun e_ => absurd ((decide_eq_true hs14_0).symm.trans e_) (by decide)) rfl ?_
            refine sn rfl (fun e_ => absurd ((decide_eq_true hs14_0).symm.trans e_) (by decide)) rfl ?_
            refine sn rfl (fun e_ => absurd ((decide_eq_true hs14_0).symm.trans e_) (by decide)) rfl ?_
            refine sn rfl (fun e_ => absurd ((decide_eq_true hs14_0).symm.trans e_) (by decide)) rfl ?_
            refine sn rfl (fun e_ => absurd ((decide_eq_true hs14_0).symm.trans e_) (by decide)) rfl ?_
            refine sn rfl (fun e_ => absurd ((decide_eq_true hs14_0).symm.trans e_) (by decide)) rfl ?_
            refine sn rfl (fun e_ => absurd ((decide_eq_true hs14_0).symm.trans e_) (by decide)) rfl ?_
            refine sv (o_pickT (decide_eq_true hs14_0) rfl rfl) rfl ?_
            refine sv (o_as rfl) rfl ?_
            refine l_nil ?_
            refine e_K (hK44 _ _ _ _ ?_)
            refine c_ret ?_
            exact ret1 rfl rfl ⟨by unfold EV.great; rw [decide_eq_true (show e.n3 most > most by omega)]; try rfl, E⟩
          · skip
            refine c_region ?_
            refine sv (o_mv rfl) rfl ?_
            refine sv (o_mv rfl) rfl ?_
            refine sv (o_gtr rfl rfl) rfl ?_
            refine sv (o_mv rfl) rfl ?_
            refine sg rfl (decide_eq_false hs14_0) (o_fa0 fd33_5 rfl) rfl ?_
            refine sg rfl (decide_eq_false hs14_0) (o_lda (vs := [_, _, _, _, _, _]) ag25 rfl rfl (Bg1.cs rfl)) rfl ?_
            refine sg rfl (decide_eq_false hs14_0) (o_mv rfl) rfl ?_
            refine sg rfl (decide_eq_false hs14_0) (o_mv rfl) rfl ?_
            refine sg rfl (decide_eq_false hs14_0) (o_subN rfl rfl (by omega)) rfl ?_
            refine sgc rfl (decide_eq_false hs14_0) (o_call ent21 rfl) (c_weigh _ e.con _ _ 60 (Rc.to0 E)) rfl fun v_ w19 h_ => ?_
            obtain ⟨rfl, E_⟩ := h_
            replace Bg1 := Bg1.mod0 E_
            replace E := E.then E_
            refine sg rfl (decide_eq_false hs14_0) (o_lss rfl rfl) rfl ?_
            refine sv (o_pickF (decide_eq_false hs14_0) rfl rfl) rfl ?_
            refine sv (o_as rfl) rfl ?_
            refine l_nil ?_
            refine e_K (hK44 _ _ _ _ ?_)
            refine c_ret ?_
            exact ret1 rfl rfl ⟨by unfold EV.great; rw [decide_eq_false (show ¬ e.n3 most > most by omega)]; try rfl, E⟩
      · skip
        refine c_region ?_
        refine sv (o_mv rfl) rfl ?_
        refine sv (o_fa0 fd33_11 rfl) rfl ?_
        refine sv (o_ld sc31 rfl (Bg1.cell rfl)) rfl ?_
        refine sv (o_len Tryd.underlying31 rfl) rfl ?_
        refine sv (o_lss rfl rfl) rfl ?_
        refine sv (o_mv rfl) rfl ?_
        refine sn rfl (fun e_ => absurd ((decide_eq_false hs11_0).symm.trans e_) (by decide)) rfl ?_
        refine sn rfl (fun e_ => absurd ((decide_eq_false hs11_0).symm.trans e_) (by decide)) rfl ?_
        refine sn rfl (fun e_ => absurd ((decide_eq_false hs11_0).symm.trans e_) (by decide)) rfl ?_
        refine sv (o_pickF (decide_eq_false hs11_0) rfl rfl) rfl ?_
        refine l_nil ?_
        refine e_K (hK42 _ _ _ _ ?_)
        refine c_false rfl ?_
        have hne : (e.n3 most) = n := by rw [← hn]; exact addW_end (by simp; omega)
        subst hne
        refine c_exit ?_
        refine e_then (by simp) ?_
        refine e_then (by simp) ?_
        refine e_hit ?_
        refine e_K (hK39 _ _ _ _ ?_)
        refine c_seq fun K45 hK45 => ?_
        by_cases hs14_0 : ((e.n3 most : Nat) : Int) > (most : Int)
        · skip
          refine c_region ?_
          refine sv (o_mv rfl) rfl ?_
          refine sv (o_mv rfl) rfl ?_
          refine sv (o_gtr rfl rfl) rfl ?_
          refine sv (o_mv rfl) rfl ?_
          refine sn rfl (fun e_ => absurd ((decide_eq_true hs14_0).symm.trans e_) (by decide)) rfl ?_
          refine sn rfl (fun e_ => absurd ((decide_eq_true hs14_0).symm.trans e_) (by decide)) rfl ?_
          refine sn rfl (fun e_ => absurd ((decide_eq_true hs14_0).symm.trans e_) (by decide)) rfl ?_
          refine sn rfl (fun e_ => absurd ((decide_eq_true hs14_0).symm.trans e_) (by decide)) rfl ?_
          refine sn rfl (fun e_ => absurd ((decide_eq_true hs14_0).symm.trans e_) (by decide)) rfl ?_
          refine sn rfl (fun e_ => absurd ((decide_eq_true hs14_0).symm.trans e_) (by decide)) rfl ?_
          refine sn rfl (fun e_ => absurd ((decide_eq_true hs14_0).symm.trans e_) (by decide)) rfl ?_
          refine sv (o_pickT (decide_eq_true hs14_0) rfl rfl) rfl ?_
          refine sv (o_as rfl) rfl ?_
          refine l_nil ?_
          refine e_K (hK45 _ _ _ _ ?_)
          refine c_ret ?_
          exact ret1 rfl rfl ⟨by unfold EV.great; rw [decide_eq_true (show e.n3 most > most by omega)]; try rfl, E⟩
        · skip
          refine c_region ?_
          refine sv (o_mv rfl) rfl ?_
          refine sv (o_mv rfl) rfl ?_
          refine sv (o_gtr rfl rfl) rfl ?_
          refine sv (o_mv rfl) rfl ?_
          refine sg rfl (decide_eq_false hs14_0) (o_fa0 fd33_5 rfl) rfl ?_
          refine sg rfl (decide_eq_false hs14_0) (o_lda (vs := [_, _, _, _, _, _]) ag25 rfl rfl (Bg1.cs rfl)) rfl ?_
          refine sg rfl (decide_eq_false hs14_0) (o_mv rfl) rfl ?_
          refine sg rfl (decide_eq_false hs14_0) (o_mv rfl) rfl ?_
          refine sg rfl (decide_eq_false hs14_0) (o_subN rfl rfl (by omega)) rfl ?_
          refine sgc rfl (decide_eq_false hs14_0) (o_call ent21 rfl) (c_weigh _ e.con _ _ 60 (Rc.to0 E)) rfl fun v_ w20 h_ => ?_
          obtain ⟨rfl, E_⟩ := h_
          replace Bg1 := Bg1.mod0 E_
          replace E := E.then E_
          refine sg rfl (decide_eq_false hs14_0) (o_lss rfl rfl) rfl ?_
          refine sv (o_pickF (decide_eq_false hs14_0) rfl rfl) rfl ?_
          refine sv (o_as rfl) rfl ?_
          refine l_nil ?_
          refine e_K (hK45 _ _ _ _ ?_)
          refine c_ret ?_
          exact ret1 rfl rfl ⟨by unfold EV.great; rw [decide_eq_false (show ¬ e.n3 most > most by omega)]; try rfl, E⟩
end Go.Proofs.YtkhbnhdlelmbnaaDoor.V
