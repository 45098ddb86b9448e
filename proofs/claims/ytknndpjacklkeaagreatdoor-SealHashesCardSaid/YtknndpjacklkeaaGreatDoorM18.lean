/-
  A part of the proof: two events: one that can be, and the empty one; Content, told arm by arm. No condition of its own.
-/
import Derived.Test.YtknndpjacklkeaaGreatDoorM15
import Derived.Test.YtknndpjacklkeaaGreatDoorM17
import Derived.Test.YtknndpjacklkeaaGreatDoorM4
import Derived.Test.YtknndpjacklkeaaGreatDoorM5
import Derived.Test.YtknndpjacklkeaaGreatDoorM11
set_option linter.unusedVariables false
set_option linter.unusedSimpArgs false
namespace Go.Proofs.YtknndpjacklkeaaGreatDoor.V
open Go
theorem EV.reps_ {A : List Nat} {w : World} {e : EV} {cs : List Value} {up ua uS : Value} (Rc : Reps A w e.con.D cs) (Rp : Rep A w (strD e.prev) up) (Ra : Rep A w (strD e.auth) ua) (Rs : Rep A w (flat 3 Sig3.cells e.sigs) uS) :
  Reps A w e.D ([S e.room, S e.snd, S e.ty, .bool e.st, S e.key] ++ (cs ++ [up, ua, .int .i64 e.dep, .int .i64 e.time, S e.hash, uS])) := by
 unfold EV.D
 refine Reps.append (Reps.cons_ (Rep.v_ rfl) (Reps.cons_ (Rep.v_ rfl) (Reps.cons_ (Rep.v_ rfl) (Reps.cons_ (Rep.v_ rfl) (Reps.cons_ (Rep.v_ rfl) Reps.nil_))))) (Reps.append Rc ?_)
 exact Reps.cons_ Rp (Reps.cons_ Ra (Reps.cons_ (Rep.v_ rfl) (Reps.cons_ (Rep.v_ rfl) (Reps.cons_ (Rep.v_ rfl) (Reps.cons_ Rs Reps.nil_)))))
def JV.five : JV := .mk 5 false 0 [] [] []
theorem JV.five_reps {A : List Nat} {w : World} : Reps A w JV.five.D [.int .i64 5, .bool false, .int .i64 0, S [], .slice none 0 0, .slice none 0 0] :=
 JV.reps_ (A := A) (w := w) (v := JV.five) (al := none) (am := none) (cl := 0) (cm := 0) Rep.sl_nil Rep.sl_nil
theorem JV.five_wr : JV.five.wr 0 [] = .ok [123, 125] := by
 rw [JV.wr_eq, if_neg (by decide), if_neg (by decide), if_neg (by decide), if_neg (by decide), if_neg (by decide), if_neg (by decide), if_neg (by decide)]
 have h1 : lng ([] ++ [123]) = .ok [123] := rfl
 have h2 : JV.wrm JV.five.map 0 none [123] = .ok [123] := by
  show JV.wrm [] 0 none [123] = .ok [123]
  rw [JV.wrm]
 rw [h1]
 show (JV.wrm JV.five.map 0 none [123]).bind _ = _
 rw [h2]
 rfl
abbrev as43 : Str := List.replicate 43 65
def EV.plain : EV := { room := [33, 114, 58, 97], snd := [64, 117, 58, 97], ty := [116], st := false, key := [], con := JV.five, prev := [36 :: as43], auth := [], dep := 0, time := 0, hash := as43, sigs := [] }
def EV.nul : EV := { room := [], snd := [], ty := [], st := false, key := [], con := JV.nul, prev := [], auth := [], dep := 0, time := 0, hash := [], sigs := [] }
theorem valid_t : validR [116] = true := by
 have h : runeR [116] = (116, 1) := by rw [runeR_small (by decide)]; rfl
 rw [validR_go (by simp) (by rw [h]; simp), h]
 exact validR_nil
theorem EV.plain_chk : EV.plain.chk = 0 := by
 refine EV.chk_yes (by decide) ?_
 rw [EV.fine_eq]
 have n1 : namedB 33 qRoom EV.plain.room = true := by decide +kernel
 have n2 : namedB 64 qUser EV.plain.snd = true := by decide +kernel
 have n3 : shortB EV.plain.ty = true := by
  show shortB [116] = true
  unfold shortB
  rw [valid_t]
  rfl
 have n4 : shortB EV.plain.key = true := by
  show shortB [] = true
  unfold shortB
  rw [validR_nil]
  rfl
 have n5 : bytesB EV.plain.hash 32 = true := by decide +kernel
 have n6 : EV.plain.prev.all eventB = true := by decide +kernel
 have n7 : decide (ern (EV.plain.con.wr 0 []) = 0) = true := by
  show decide (ern (JV.five.wr 0 []) = 0) = true
  rw [JV.five_wr]
  rfl
 rw [n5, n6, n7]
 unfold EV.names
 rw [n1, n2, n3, n4]
 rfl
theorem EV.nul_reps {A : List Nat} {w : World} : Reps A w EV.nul.D [S [], S [], S [], .bool false, S [], .int .i64 0, .bool false, .int .i64 0, S [], .slice none 0 0, .slice none 0 0, .slice none 0 0, .slice none 0 0, .int .i64 0, .int .i64 0, S [], .slice none 0 0] :=
 EV.reps_ (e := EV.nul) JV.nul_reps Rep.sl_nil Rep.sl_nil Rep.sl_nil
end Go.Proofs.YtknndpjacklkeaaGreatDoor.V

set_option linter.unusedVariables false
set_option linter.unusedSimpArgs false
set_option maxRecDepth 10000
namespace Go.Proofs.YtknndpjacklkeaaGreatDoor.V
open Go Go.Proofs
theorem zv48 : zvB Tryz.prog 48 ([S [], S [], S [], .bool false, S [], .int .i64 0, .bool false, .int .i64 0, S [], .slice none 0 0, .slice none 0 0, .slice none 0 0, .slice none 0 0, .int .i64 0, .int .i64 0, S [], .slice none 0 0]) := by unfold zvB; kernel_rfl
theorem pl48 : plB Tryz.prog 48 [(0, 1), (1, 1), (2, 1), (3, 1), (4, 1), (5, 6), (11, 1), (12, 1), (13, 1), (14, 1), (15, 1), (16, 1)] = true := by kernel_rfl
theorem ag48 : agB Tryz.prog 48 17 = true := by kernel_rfl
end Go.Proofs.YtknndpjacklkeaaGreatDoor.V

set_option linter.unusedVariables false
set_option linter.unusedSimpArgs false
set_option maxRecDepth 10000
namespace Go.Proofs.YtknndpjacklkeaaGreatDoor.V
open Go Go.Proofs
theorem ovlM : Ovl Tryz.prog 114 23 4 := fun args w => run_callFunc_extern Tryz.func114 (by kernel_rfl) (by kernel_rfl) (by kernel_rfl) (by kernel_rfl) args w
theorem c_cloneM (A : List Nat) (w0 w : World) (m : List (Str × JV)) (v : Value) (R : Rep A w0 (.sl 7 (m.map JV.Dp)) v) (E0 : Mod [] w0 w) (hn : m.length ≤ 1353245080310) : Calls Tryz.prog 58 [v].toArray w (Ret fun u w' => ∃ vs, Own w' 44 7 u m.length vs ∧ Reps A w0 (m.map JV.Dp).flatten vs ∧ (∀ x ∈ ob u, w.heap.size ≤ x) ∧ Mod [] w w') := by
 refine enter Tryz.func58 rfl rfl rfl (l := [(0, _)]) ⟨rfl, trivial⟩ ?_
 have E := Mod.refl [] w
 obtain ⟨ad, c, rfl, hc1, hc2⟩ : ∃ ad c, v = .slice ad m.length c ∧ m.length ≤ c ∧ c ≤ 9223372036854775807 := by
  obtain ⟨ad, c, h1, h2, h3⟩ := R.sl_
  rw [List.length_map] at h1 h2
  exact ⟨ad, c, h1, h2, h3⟩
 obtain ⟨vs, hvs, hvl, hsrc⟩ := Src.rep0 (P := Tryz.prog) Tryz.underlying23 R
 rw [List.length_map] at hvl hsrc
 refine Cq fun K1 hK1 => Cr (Za rfl (Ln (e_K (hK1 _ _ _ _ (Cq fun K2 hK2 => Cq fun K3 hK3 => Cr (Zm rfl (Sv (o_neqs Tryz.underlying23 rfl rfl) (Ln (e_K (hK3 _ _ _ _ ?_))))))))))
 refine c_cond rfl (fun h4 => ?_) (fun h4 => ?_)
 ·have hx0 : m = [] := by
   cases ad with
   | none => exact JV.none_m R
   | some a => simp at h4
  subst hx0
  exact Cq fun K4 hK4 => Cr (Za rfl (Ln (e_K (hK4 _ _ _ _ (cR (eT (by simp) (ret1 rfl rfl ⟨[], by simpa using Own.nil _ 44 7, Reps.nil_, by simp [ob], E⟩)))))))
 ·refine cK (e_K (hK2 _ _ _ _ (Cq fun K5 hK5 => Cr (s_bslice (cs := []) sl23 zv44 rfl rfl rfl (by decide) rfl fun g1 w1 N1 => ?_))))
  have Lg1_E := N1.le E
  replace E := E.then N1.mod
  have Bg1 := N1.blk
  refine Zm rfl (s_append sl23 rfl rfl (Own.all (c := 0) (cs := []) Bg1 rfl (by omega)) (hsrc _ (E0.then E)) (by decide) (by omega) (by omega) rfl fun v1 w2 A1 => ?_)
  replace E := E.trans' A1.mod (fun x hx => .inr (by simp [ob] at hx; subst hx; exact Lg1_E))
  have L1 : ∀ x ∈ ob v1, w.heap.size ≤ x := fun x hx => (A1.ob_ x hx).elim (fun h => by simp [ob] at h; subst h; exact Lg1_E) (fun h => Nat.le_trans (Nat.le_trans Lg1_E (Nat.le_of_lt Bg1.lt)) h)
  exact Za rfl (Ln (e_K (hK5 _ _ _ _ (cR (ret1 rfl rfl ⟨vs, A1.own.same (by simp) (by simp), hvs, L1, E⟩)))))

theorem c_insM (w : World) (n : Nat) (vs sc : List Value) (i : Nat) (v u : Value) (O : Own w 44 7 v n vs) (O2 : Own w 44 7 u 1 sc) (hone : ∀ x ∈ vs, x.oneCell' = true) (hs1 : ∀ x ∈ sc, x.oneCell' = true) (hne : ∀ x ∈ ob v, ∀ y ∈ ob u, x ≠ y) (hi : i ≤ n) (hn : n ≤ 1353245080310) : Calls Tryz.prog 61 [v, .int .i64 (i : Int), u].toArray w (Ret fun r w' => Own w' 44 7 r (n + 1) (vs.take (i * 7) ++ sc ++ vs.drop (i * 7)) ∧ (∀ x ∈ ob r, x ∈ ob v ∨ w.heap.size ≤ x) ∧ Mod (ob v) w w') := by
 refine enter Tryz.func61 rfl rfl rfl (l := [(0, _), (1, _), (2, _)]) ⟨rfl, rfl, rfl, trivial⟩ ?_
 have E := Mod.refl [] w
 obtain ⟨ad, c, rfl, hc1, hc2⟩ := O.form
 rcases O2.2 with ⟨_, h0⟩ | ⟨g2, o2, c2, cs2, rfl, B2, _⟩
 ·omega
 have hvl := O.1
 have hsl : sc.length = 7 := by simpa using O2.1
 refine Cq fun K1 hK1 => Cr (Za rfl (Ln (e_K (hK1 _ _ _ _ (Cq fun K2 hK2 => Cr (tW 2 rfl (Sv (o_slfrom sl23 rfl rfl (by omega) (by omega)) (Ln (e_K (hK2 _ _ _ _ (Cq fun K3 hK3 => Cr (Zm rfl ?_))))))))))))
 refine Sv (o_len Tryz.underlying23 rfl) (Za rfl (Ln (e_K (hK3 _ _ _ _ (Cq fun K4 hK4 => Cq fun K5 hK5 => Cr (tW 2 rfl (Ln (e_K (hK5 _ _ _ _ (c_false rfl (cK (e_K (hK4 _ _ _ _ (Cq fun K6 hK6 => ?_))))))))))))))
 refine Cr (Zm rfl (Sv (o_len Tryz.underlying23 rfl) (Za rfl (Ln (e_K (hK6 _ _ _ _ (Cq fun K7 hK7 => Cq fun K8 hK8 => Cr (tW 3 rfl (Ln (e_K (hK8 _ _ _ _ ?_)))))))))))
 refine c_if rfl (fun h22 => ?_) (fun h22 => ?_)
 ·have hi2 : i = n := by omega
  exact Cq fun K9 hK9 => Cr (tW 2 rfl (s_append sl23 rfl rfl O (Src.own Tryz.underlying23 O2 hs1) (by decide) (by omega) (by omega) rfl fun v1 w1 A1 => Za rfl (Ln (e_K (hK9 _ _ _ _ (cR (eT (by simp) (ret1 rfl rfl ⟨A1.own.same rfl (by subst hi2; simp [List.take_of_length_le, List.drop_eq_nil_of_le, hvl]), A1.ob_, A1.mod⟩))))))))
 ·refine cK (e_K (hK7 _ _ _ _ (Cq fun K10 hK10 => Cq fun K11 hK11 => Cr (tW 2 rfl (Sv (o_addN rfl rfl (by omega)) (Zm rfl (Sv (o_cap Tryz.underlying23 rfl) (Sv (o_gtr rfl rfl) (Ln (e_K (hK11 _ _ _ _ ?_)))))))))))
  refine c_if rfl (fun h31 => ?_) (fun h31 => ?_)
  ·refine Cq fun K12 hK12 => Cr (tW 2 rfl (Sv (o_slto sl23 rfl rfl (by omega) (by omega)) (tW 2 rfl (Sv (o_addN rfl rfl (by omega)) (Zm rfl (Sv (o_subE (r := ((n + 1 - i : Nat) : Int)) rfl rfl (by rw [wrap64_in _ (by omega)]; omega)) (s_appendz sl23 zv44 rfl Tryz.underlying3 rfl rfl (O.take (by omega)) (by decide) (by simp [Value.oneCell']) (by omega) (by omega) rfl fun v1 w1 news A1 hnl h1n hgr => ?_)))))))
   obtain ⟨Lv1, E1⟩ := hgr (fun ad' cc e => by injection e with _ _ e3; subst e3; omega)
   replace E := E1
   have hO1 := A1.own
   rcases hO1.2 with ⟨_, h0⟩ | ⟨g3, o3, c3, cs3, hv1, B3, hc31, _⟩
   ·omega
   subst hv1
   have hN : i + (n + 1 - i) = n + 1 := by omega
   rw [hN] at hO1 hc31 ⊢
   have hn3 : w.heap.size ≤ g3 := Lv1 g3 (by simp [ob])
   have hvO : ∀ x ∈ ob (.slice ad n c), x < w.heap.size := O.lt
   have hg2 : g2 < w.heap.size := B2.lt
   have hm3 : (9223372036854775807 : Nat) ≥ c3 := by obtain ⟨_, _, hq, hq1, hq2⟩ := hO1.form; injection hq with _ _ hq; subst hq; exact hq2
   refine Za rfl (Ln (e_K (hK12 _ _ _ _ (Cq fun K13 hK13 => Cr (tW 2 rfl (Sv (o_slfrom (c := n + 1) sl23 rfl rfl (by omega) (by omega)) (Zm rfl ?_)))))))
   have hS2 : Src Tryz.prog 7 23 (.slice (some ⟨g2, o2, none⟩) 1 c2) 1 sc w1 := Src.own Tryz.underlying23 (O2.mod0 E) hs1
   refine s_copyat sl23 hO1 rfl rfl (hS2.len _) (k := 1) (Nat.min_eq_left (by omega)) hS2.cells hsl hs1 (by omega) rfl fun w2 hO2 E2 hz2 => ?_
   replace E := E.own E2 hn3
   refine Ln (e_K (hK13 _ _ _ _ (Cq fun K14 hK14 => c_drawp [] [0, 1, 2, 3, 4, 5, 6, 7] 8 [] wide (by kernel_rfl) (fun _ _ _ h => h.2) (pw_nil (tU 3 rfl rfl (tv (fun w_ E_ => (o_addE (r := ((i + 1 : Nat) : Int)) rfl rfl (by rw [wrap64_in _ (by omega)]; omega))) rfl rfl (tv (fun w_ E_ => (o_slfrom (c := n + 1) sl23 rfl rfl (by omega) (by omega))) rfl rfl (tU 2 rfl rfl (tv (fun w_ E_ => (o_slfrom sl23 rfl rfl (by omega) (by omega))) rfl rfl (tw_tail rfl fun w1 E_ => ?_))))))))))
   replace E := E.then E_
   have hS3 := Src.own (P := Tryz.prog) Tryz.underlying23 ((O.mod0 E).cut (lo := i) (hi := n) (by omega) (by omega)) (fun u hu => hone u (List.mem_of_mem_drop (List.mem_of_mem_take hu)))
   replace hO2 := hO2.mod0 E_
   refine s_copyat (lo := i + 1) sl23 hO2 rfl rfl (hS3.len _) (k := n - i) (Nat.min_eq_left (by omega)) hS3.cells hS3.newsLen hS3.one (by omega) rfl fun w3 hO3 E3 hz3 => ?_
   replace E := E.own E3 hn3
   exact Ln (e_K (hK14 _ _ _ _ (Cq fun K15 hK15 => Cr (tW 2 rfl (Ln (e_K (hK15 _ _ _ _ (cR (eT (by simp) (ret1 rfl rfl ⟨hO3.same rfl (ins_grow7 hvl hnl hsl hi), fun x hx => .inr (Lv1 x (by simpa [ob] using hx)), E.mono (by simp)⟩))))))))))
  ·have hroom : n + 1 ≤ c := by omega
   rcases O.2 with ⟨h0, _⟩ | ⟨go, oo, co, cso, hvo, BO, hco1, hco2, hco3, hco4⟩
   ·injection h0 with _ _ h0; omega
   injection hvo with e1 e2 e3
   subst e1; subst e3
   have hgne : g2 ≠ go := fun e => hne go (by simp [ob]) g2 (by simp [ob]) e.symm
   have hcne : cso ≠ [] := by rintro rfl; simp at hco3; omega
   obtain ⟨oA, hoA⟩ := adS_some go oo c (i + 1) 7
   have hob2 : ∀ x ∈ ob (.slice (some ⟨g2, o2, none⟩) 1 c2), x ∉ ob (.slice (some ⟨go, oo, none⟩) n c) := fun x hx => by simp [ob] at hx ⊢; subst hx; exact hgne
   obtain ⟨vs', O3, h3t⟩ := O.extend (m := n + 1) (by omega) hroom
   replace E := Mod.refl (ob (.slice (some ⟨go, oo, none⟩) n c)) w
   refine cK (e_K (hK10 _ _ _ _ (Cq fun K16 hK16 => Cr (tW 3 rfl (Sv (o_addE (r := ((n + 1 : Nat) : Int)) rfl rfl (by rw [wrap64_in _ (by omega)]; omega)) (Sv (o_slto sl23 rfl rfl (by omega) (by omega)) (Za rfl (Ln (e_K (hK16 _ _ _ _ (Cq fun K17 hK17 => Cq fun K18 hK18 => Cr (tW 4 rfl ?_))))))))))))
   refine Sv (o_addE (r := ((i + 1 : Nat) : Int)) rfl rfl (by rw [wrap64_in _ (by omega)]; omega)) (Sv ((o_slfrom sl23 rfl rfl (by omega) (by omega)).to (by rw [hoA])) ?_)
   refine Sv (o_overlaps ovlM sl23 rfl rfl rfl rfl B2 BO hgne hcne) (Sv (o_not rfl) (Ln (e_K (hK18 _ _ _ _ (c_true rfl (Cq fun K19 hK19 => c_drawp [] [0, 1, 2, 3, 4, 5, 6, 7] 8 [] wide (by kernel_rfl) (fun _ _ _ h => h.2) (pw_nil (tU 3 rfl rfl (tv (fun w_ E_ => (o_addE (r := ((i + 1 : Nat) : Int)) rfl rfl (by rw [wrap64_in _ (by omega)]; omega))) rfl rfl (tv (fun w_ E_ => (o_slfrom sl23 rfl rfl (by omega) (by omega))) rfl rfl (tU 2 rfl rfl (tv (fun w_ E_ => (o_slfrom sl23 rfl rfl (by omega) (by omega))) rfl rfl (tw_tail rfl fun w2 E_ => ?_)))))))))))))
   replace E := E.then E_
   replace O3 := O3.mod0 E_
   have hS3 := Src.own (P := Tryz.prog) Tryz.underlying23 (O3.cut (lo := i) (hi := n) (by omega) (by omega)) (fun u hu => hone u (by
    rw [Nat.sub_mul, ← List.drop_take, h3t] at hu
    exact List.mem_of_mem_drop hu))
   refine s_copyat (lo := i + 1) sl23 O3 rfl rfl rfl (k := n - i) (c' := n + 1 - i) ((Nat.min_eq_right (by omega)).trans (by omega)) (by rw [firstCells_any _ _ _ _ _ (n - i) (c - i)]; exact hS3.cells) hS3.newsLen hS3.one (by omega) rfl fun w2 hO4 E4 hz4 => ?_
   replace E := (E.trans' E4 (fun x hx => .inl (by simpa [ob] using hx)))
   refine Ln (e_K (hK19 _ _ _ _ (Cq fun K20 hK20 => Cr (tW 2 rfl (Sv (o_slfrom sl23 rfl rfl (by omega) (by omega)) (Zm rfl ?_))))))
   have hS2 : Src Tryz.prog 7 23 (.slice (some ⟨g2, o2, none⟩) 1 c2) 1 sc w2 := Src.own Tryz.underlying23 (O2.mod E hob2) hs1
   refine s_copyat sl23 hO4 rfl rfl (hS2.len _) (k := 1) (Nat.min_eq_left (by omega)) hS2.cells hsl hs1 (by omega) rfl fun w3 hO5 E5 hz5 => ?_
   replace E := (E.trans' E5 (fun x hx => .inl (by simpa [ob] using hx)))
   exact Ln (e_K (hK20 _ _ _ _ (Cq fun K21 hK21 => Cr (tW 2 rfl (Ln (e_K (hK21 _ _ _ _ (cR (eT (by simp) (ret1 rfl rfl ⟨hO5.same rfl (ins_room7 hvl O3.1 h3t hsl hi), fun x hx => .inl (by simpa [ob] using hx), E⟩))))))))))
end Go.Proofs.YtknndpjacklkeaaGreatDoor.V

set_option linter.unusedVariables false
set_option linter.unusedSimpArgs false
set_option maxRecDepth 10000
namespace Go.Proofs.YtknndpjacklkeaaGreatDoor.V
open Go Go.Proofs
theorem ent59 : Ent Tryz.prog 59 := Ent.of Tryz.func59 (by kernel_rfl) (by kernel_rfl)
theorem ent58 : Ent Tryz.prog 58 := Ent.of Tryz.func58 (by kernel_rfl) (by kernel_rfl)
theorem ent61 : Ent Tryz.prog 61 := Ent.of Tryz.func61 (by kernel_rfl) (by kernel_rfl)
theorem c_jput (A : List Nat) (w : World) (hA : ∀ a ∈ A, a < w.heap.size) (v x : JV) (us zs : List Value) (R : Reps A w v.D us) (Rz : Reps A w x.D zs) (k : Str) (ha : ascM v.tbl) (hn : v.tbl.length ≤ 1353245080310) : Calls Tryz.prog 25 [.agg us.toArray, S k, .agg zs.toArray].toArray w (Ret fun u w' => ∃ us', u = .agg us'.toArray ∧ Reps A w' (JV.obj (putM v.tbl k x)).D us' ∧ Mod [] w w') := by
 refine enter Tryz.func25 rfl rfl rfl (l := [(0, _), (1, _), (2, _)]) ⟨rfl, rfl, rfl, trivial⟩ ?_
 have E := Mod.refl [] w
 obtain ⟨al, cl, am, cm, rfl, Rl, Rm⟩ := JV.cells_ R
 obtain ⟨alz, clz, amz, cmz, rfl, Rlz, Rmz⟩ := JV.cells_ Rz
 have R := JV.reps_ Rl Rm
 have Rz := JV.reps_ Rlz Rmz
 refine Cq fun K1 hK1 => Cr (s_box rfl rfl rfl fun g1 w1 N1 => ?_)
 have Lg1_E := N1.le E
 replace E := E.then N1.mod
 have Bg1 := N1.blk
 refine s_box rfl rfl rfl fun g2 w2 N2 => ?_
 have Lg2_E := N2.le E
 have Dg1_g2 := N2.ne Bg1
 replace Bg1 := Bg1.mod0 N2.mod
 replace E := E.then N2.mod
 have Bg2 := N2.blk
 refine s_alloc zv25 rfl fun g3 w3 N3 => ?_
 have Lg3_E := N3.le E
 have Dg1_g3 := N3.ne Bg1
 have Dg2_g3 := N3.ne Bg2
 replace Bg1 := Bg1.mod0 N3.mod
 replace Bg2 := Bg2.mod0 N3.mod
 replace E := E.then N3.mod
 have Bg3 := N3.blk
 refine Ln (e_K (hK1 _ _ _ _ (Cq fun K2 hK2 => Cr (Sv (o_lda (vs := [_, _, _, _, _, _]) ag25 rfl rfl (Bg1.cs rfl)) (sc (oC ent59 rfl) (c_jtable A w _ v _ R) rfl fun v_ w4 h_ => ?_)))))
 obtain ⟨Rt, E_⟩ := h_
 replace Bg1 := Bg1.mod0 E_
 replace Bg2 := Bg2.mod0 E_
 replace Bg3 := Bg3.mod0 E_
 replace E := E.then E_
 have hlt1 := Bg1.lt
 have hlt2 := Bg2.lt
 have hlt3 := Bg3.lt
 have hsz1 := E.size
 refine sc (oC ent58 rfl) (c_cloneM A w _ v.tbl _ Rt E hn) rfl fun v_ w5 h_ => ?_
 obtain ⟨vs, Oc, hvs, Lc, E_⟩ := h_
 replace Bg1 := Bg1.mod0 E_
 replace Bg2 := Bg2.mod0 E_
 replace Bg3 := Bg3.mod0 E_
 replace E := E.then E_
 have D1 : ∀ x ∈ ob v_, x ≠ g1 := fun x hx e => by have := Lc x hx; omega
 have D2 : ∀ x ∈ ob v_, x ≠ g2 := fun x hx e => by have := Lc x hx; omega
 have D3 : ∀ x ∈ ob v_, x ≠ g3 := fun x hx e => by have := Lc x hx; omega
 have L1 : ∀ x ∈ ob v_, w.heap.size ≤ x := fun x hx => by have := Lc x hx; omega
 obtain ⟨ad3, c3, rfl, hd1, hd2⟩ := Oc.form
 refine Sv (o_build (cs := [_, _, _, _, _, _]) pl25 zv25 rfl rfl) (s_alloc zv25 rfl fun g4 w6 N4 => ?_)
 have Lg4_E := N4.le E
 have Dg1_g4 := N4.ne Bg1
 have Dg2_g4 := N4.ne Bg2
 have Dg3_g4 := N4.ne Bg3
 have Doc_g4 := N4.own_ne Oc
 replace Bg1 := Bg1.mod0 N4.mod
 replace Bg2 := Bg2.mod0 N4.mod
 replace Bg3 := Bg3.mod0 N4.mod
 replace E := E.then N4.mod
 replace Oc := Oc.mod0 N4.mod
 have Bg4 := N4.blk
 refine s_sta (vs := [_, _, _, _, _, _]) ag25 Bg4 rfl rfl rfl (by simp [Value.oneCell']) (by simp) fun w7 P7 => ?_
 replace Bg1 := Bg1.ne P7.mod (Ne.symm (Ne.symm Dg1_g4))
 replace Bg2 := Bg2.ne P7.mod (Ne.symm (Ne.symm Dg2_g4))
 replace Bg3 := Bg3.ne P7.mod (Ne.symm (Ne.symm Dg3_g4))
 replace E := E.own P7.mod Lg4_E
 replace Oc := Oc.put P7.mod Doc_g4
 replace Bg4 : Blk w7 g4 _ [_, _, _, _, _, _] := P7.blk
 refine Ln (e_K (hK2 _ _ _ _ (Cq fun K3 hK3 => Cr (Sv (oA0 fd25_5 rfl) (Sv (oL sc23 rfl (Bg4.cell rfl)) (Zm rfl ?_))))))
 have RO := Own.mem_ (A := []) Oc ((hvs.anti (by simp)).to0 E) rfl (by simp)
 refine sc (oC ent60 rfl) (c_jfind _ v.tbl _ RO k ha hn) rfl fun v_ w8 h_ => ?_
 obtain ⟨rfl, E_⟩ := h_
 replace Bg1 := Bg1.mod0 E_
 replace Bg2 := Bg2.mod0 E_
 replace Bg3 := Bg3.mod0 E_
 replace Bg4 := Bg4.mod0 E_
 replace E := E.then E_
 replace Oc := Oc.mod0 E_
 refine tW 5 rfl (Ln (e_K (hK3 _ _ _ _ (Cq fun K4 hK4 => Cq fun K5 hK5 => Cr (Zm rfl (Ln (e_K (hK5 _ _ _ _ ?_))))))))
 refine c_cond rfl (fun h21 => ?_) (fun h21 => ?_)
 ·have hput := posM_put (x := x) ha h21
  obtain ⟨y, hy, hyk, _⟩ := isM_some ha h21
  have hpl := (List.getElem?_eq_some_iff.1 hy).1
  obtain ⟨ad3, rfl⟩ : ∃ a, ad3 = some a := by
   cases ad3 with
   | some a => exact ⟨a, rfl⟩
   | none => have := JV.none_m RO; rw [this] at hpl; simp at hpl
  refine Cr (Sv (oA0 fd25_5 rfl) (Sv (oL sc23 rfl (Bg4.cell rfl)) (Zm rfl (Sv (o_lda (vs := [_, _, _, _, _, _]) ag25 rfl rfl (Bg2.cs rfl)) (Sv (o_ix sl23 rfl rfl (by omega)) (Sv ((o_fad fd44_1 rfl).to (by rw [Addr.add_add'])) ?_))))))
  refine s_stownp (p := posM v.tbl k * 7 + 1) (us := [_, _, _, _, _, _]) ag25 Oc rfl rfl rfl (by simp [Value.oneCell']) (by omega) fun w9 Oz E9 hz9 => ?_
  replace E := E.trans' E9 (fun x hx => .inr (L1 x (by simpa [ob] using hx)))
  replace Bg3 := Bg3.mod E9 (fun h => D3 ad3.block (by simp [ob]) (List.mem_singleton.1 h).symm)
  replace Bg4 := Bg4.mod E9 (fun h => Doc_g4 ad3.block (by simp [ob]) (List.mem_singleton.1 h).symm)
  have Dz3 := D3
  have Dz4 := Doc_g4
  have Lz := L1
  have hzs := JV.rows_setv hvs hy Rz
  rw [hyk, ← hput] at hzs
  have hzl : (putM v.tbl k x).length = v.tbl.length := by rw [hput, List.length_set]
  refine Ln (e_K (hK4 _ _ _ _ (Cq fun K6 hK6 => Cr (Sv (o_lda (vs := [_, _, _, _, _, _]) ag25 rfl rfl (Bg4.cs rfl)) (s_sta (vs := [_, _, _, _, _, _]) ag25 Bg3 rfl rfl rfl (by simp [Value.oneCell']) (by simp) fun w9 P9 => ?_)))))
  replace Bg4 := Bg4.ne P9.mod (Ne.symm Dg3_g4)
  replace E := E.own P9.mod Lg3_E
  replace Oz := Oz.put P9.mod Dz3
  replace Bg3 : Blk w9 g3 _ [_, _, _, _, _, _] := P9.blk
  exact Ln (e_K (hK6 _ _ _ _ (cR (retc (vs := [_, _, _, _, _, _]) rfl ag25 rfl rfl (Bg3.cs rfl) ⟨_, rfl, JV.obj_repsN hzl (Own.mem_ Oz (hzs.to0 E) hzl (fun x hx h => by have := Lz x hx; have := hA x h; omega)), E⟩))))
 ·have hput := posM_ins (x := x) ha h21
  refine Cr (Sv (oA0 fd25_5 rfl) (Sv (oL sc23 rfl (Bg4.cell rfl)) (tW 2 rfl (Sv (o_lda (vs := [_, _, _, _, _, _]) ag25 rfl rfl (Bg2.cs rfl)) (Sv (o_build (cs := [_, _, _, _, _, _, _]) pl44 zv44 rfl rfl) (s_bslice (cs := [_, _, _, _, _, _, _]) sl23 zv44 rfl rfl rfl (by decide) rfl fun g5 w10 N5 => ?_))))))
  have Lg5_E := N5.le E
  have Dg1_g5 := N5.ne Bg1
  have Dg2_g5 := N5.ne Bg2
  have Dg3_g5 := N5.ne Bg3
  have Dg4_g5 := N5.ne Bg4
  have Doc_g5 := N5.own_ne Oc
  replace Bg1 := Bg1.mod0 N5.mod
  replace Bg2 := Bg2.mod0 N5.mod
  replace Bg3 := Bg3.mod0 N5.mod
  replace Bg4 := Bg4.mod0 N5.mod
  replace E := E.then N5.mod
  replace Oc := Oc.mod0 N5.mod
  have Bg5 := N5.blk
  have hlt4 := Bg4.lt
  have hlt3b := Bg3.lt
  have hsz2 := E.size
  refine sc (oC ent61 rfl) (c_insM _ v.tbl.length vs [_, _, _, _, _, _, _] (posM v.tbl k) _ _ Oc (Own.all (cs := [_, _, _, _, _, _, _]) Bg5 rfl (by omega)) hvs.one (by simp [Value.oneCell']) (fun x hx y hy => by simp only [ob, List.mem_singleton] at hy; subst hy; exact Doc_g5 x hx) posM_le hn) rfl fun v_ w11 h_ => ?_
  obtain ⟨Oz, Oz_in, E_⟩ := h_
  have hzs := JV.rows_ins (p := (k, x)) hvs (posM_le (m := v.tbl) (k := k)) (JV.Dp_reps (p := (k, x)) Rz)
  rw [← hput] at hzs
  have Dz3 : ∀ y ∈ ob v_, y ≠ g3 := fun y hy => (Oz_in y hy).elim (fun h => D3 y h) (fun h e => by omega)
  have Dz4 : ∀ y ∈ ob v_, y ≠ g4 := fun y hy => (Oz_in y hy).elim (fun h => Doc_g4 y h) (fun h e => by omega)
  have Lz : ∀ y ∈ ob v_, w.heap.size ≤ y := fun y hy => (Oz_in y hy).elim (fun h => L1 y h) (fun h => by omega)
  have hzl : (putM v.tbl k x).length = v.tbl.length + 1 := by rw [hput]; simp only [List.length_append, List.length_take, List.length_drop, List.length_singleton]; have := posM_le (m := v.tbl) (k := k); omega
  replace E := E.trans' E_ (fun y hy => .inr (L1 y hy))
  replace Bg3 := Bg3.mod E_ (fun h => D3 g3 h rfl)
  replace Bg4 := Bg4.mod E_ (fun h => Doc_g4 g4 h rfl)
  obtain ⟨ad5, c5, rfl, hf1, hf2⟩ := Oz.form
  refine Sv (oA0 fd25_5 rfl) (s_st sc23 Bg4 rfl rfl rfl (by simp) fun w12 P12 => ?_)
  replace Bg3 := Bg3.ne P12.mod (Ne.symm (Ne.symm Dg3_g4))
  replace E := E.own P12.mod Lg4_E
  replace Oz := Oz.put P12.mod Dz4
  replace Bg4 : Blk w12 g4 _ [_, _, _, _, _, _] := P12.blk
  refine Ln (e_K (hK4 _ _ _ _ (Cq fun K7 hK7 => Cr (Sv (o_lda (vs := [_, _, _, _, _, _]) ag25 rfl rfl (Bg4.cs rfl)) (s_sta (vs := [_, _, _, _, _, _]) ag25 Bg3 rfl rfl rfl (by simp [Value.oneCell']) (by simp) fun w13 P13 => ?_)))))
  replace Bg4 := Bg4.ne P13.mod (Ne.symm Dg3_g4)
  replace E := E.own P13.mod Lg3_E
  replace Oz := Oz.put P13.mod Dz3
  replace Bg3 : Blk w13 g3 _ [_, _, _, _, _, _] := P13.blk
  exact Ln (e_K (hK7 _ _ _ _ (cR (retc (vs := [_, _, _, _, _, _]) rfl ag25 rfl rfl (Bg3.cs rfl) ⟨_, rfl, JV.obj_repsN hzl (Own.mem_ Oz (hzs.to0 E) hzl (fun x hx h => by have := Lz x hx; have := hA x h; omega)), E⟩))))
end Go.Proofs.YtknndpjacklkeaaGreatDoor.V

set_option linter.unusedVariables false
set_option linter.unusedSimpArgs false
set_option maxRecDepth 10000
namespace Go.Proofs.YtknndpjacklkeaaGreatDoor.V
open Go Go.Proofs
theorem ent25 : Ent Tryz.prog 25 := Ent.of Tryz.func25 (by kernel_rfl) (by kernel_rfl)
theorem c_jmap (A : List Nat) (w : World) (hA : ∀ a ∈ A, a < w.heap.size) (m : List (Str × JV)) (v : Value) (R : Rep A w (.sl 7 (m.map JV.Dp)) v) (hm : m.length ≤ 1000000) : Calls Tryz.prog 73 [v].toArray w (Ret fun u w' => ∃ us', u = .agg us'.toArray ∧ Reps A w' (JV.obj (putAll m m.length)).D us' ∧ Mod [] w w') := by
 refine enter Tryz.func73 rfl rfl rfl (l := [(0, _)]) ⟨rfl, trivial⟩ ?_
 have E := Mod.refl [] w
 obtain ⟨ad, c, rfl, hc1, hc2⟩ : ∃ ad c, v = .slice ad m.length c ∧ m.length ≤ c ∧ c ≤ 9223372036854775807 := by
  obtain ⟨ad, c, h1, h2, h3⟩ := R.sl_
  rw [List.length_map] at h1 h2
  exact ⟨ad, c, h1, h2, h3⟩
 refine Cq fun K1 hK1 => Cr (s_alloc zv25 rfl fun g1 w1 N1 => ?_)
 have Lg1_E := N1.le E
 replace E := E.then N1.mod
 have Bg1 := N1.blk
 refine Ln (e_K (hK1 _ _ _ _ (Cq fun K2 hK2 => Cr (Sv (o_build (cs := [_, _, _, _, _, _]) pl25 zv25 rfl rfl) (s_alloc zv25 rfl fun g2 w2 N2 => ?_)))))
 have Lg2_E := N2.le E
 have Dg1_g2 := N2.ne Bg1
 replace Bg1 := Bg1.mod0 N2.mod
 replace E := E.then N2.mod
 have Bg2 := N2.blk
 refine s_sta (vs := [_, _, _, _, _, _]) ag25 Bg2 rfl rfl rfl (by simp [Value.oneCell']) (by simp) fun w3 P3 => ?_
 replace Bg1 := Bg1.ne P3.mod (Ne.symm (Ne.symm Dg1_g2))
 replace E := E.own P3.mod Lg2_E
 replace Bg2 : Blk w3 g2 _ [_, _, _, _, _, _] := P3.blk
 refine Ln (e_K (hK2 _ _ _ _ (Cq fun K3 hK3 => Cq fun K4 hK4 => Cr (Zm rfl (Sv (o_len Tryz.underlying23 rfl) (Zm rfl (Ln (e_K (hK4 _ _ _ _ (cB (c_loop (σ := Nat × Option Addr × Nat × Option Addr × Nat) (fun ⟨k, al, cl, am, cm⟩ => [(2, .pointer (some ⟨g1, 0, none⟩)), (3, .pointer (some ⟨g2, 0, none⟩)), (7, .slice ad m.length c), (8, .int .i64 m.length), (9, .int .i64 (k : Int))]) (fun ⟨k, al, cl, am, cm⟩ w1 => k ≤ m.length ∧ Reps (g1 :: g2 :: A) w1 (JV.obj (putAll m k)).D [.int .i64 5, .bool false, .int .i64 0, S [], .slice al 0 cl, .slice am (putAll m k).length cm] ∧ Blk w1 g2 25 [.int .i64 5, .bool false, .int .i64 0, S [], .slice al 0 cl, .slice am (putAll m k).length cm] ∧ Blk w1 g1 25 [.int .i64 0, .bool false, .int .i64 0, S [], .slice none 0 0, .slice none 0 0] ∧ Mod [] w w1) (fun ⟨k, al, cl, am, cm⟩ => m.length - k) (⟨0, none, 0, none, 0⟩) ⟨rfl, rfl, rfl, rfl, rfl, trivial⟩ (⟨by omega, by rw [putAll_zero]; exact JV.obj_reps Rep.sl_nil, by rw [putAll_zero]; exact Bg2, Bg1, E⟩) ?_)))))))))))
 rintro ⟨k, al, cl, am, cm⟩ w4 ⟨hk, Rk, Bg2, Bg1, E⟩
 have Ek := Mod.refl [] w4
 refine Cq fun K5 hK5 => Cr (Sv (o_lss rfl rfl) (Ln (e_K (hK5 _ _ _ _ (Cq fun K6 hK6 => ?_)))))
 refine c_if rfl (fun h10 => ?_) (fun h10 => ?_)
 ·obtain ⟨x, hx_x⟩ : ∃ x, m[k]? = some x := ⟨_, List.getElem?_eq_getElem (by omega)⟩
  obtain ⟨a_x, us_x, ha_x, R_x, hcs0_x⟩ := JV.at_m R hx_x
  obtain ⟨al_x, cl_x, am_x, cm_x, rfl, Rl_x, Rm_x⟩ := JV.cells_ R_x
  have hcs_x := hcs0_x.mod0 E
  have hcap_x := JV.cap_m R
  obtain rfl := ha_x
  refine cK (e_K (hK6 _ _ _ _ (Cq fun K7 hK7 => cB (Cq fun K8 hK8 => Cr (Sv (o_ix sl23 rfl rfl (by omega)) (Sv (o_lda ag44 rfl rfl hcs_x) (s_alloc zv44 rfl fun g3 w5 N3 => ?_)))))))
  have Lg3_E := N3.le E
  have Lg3_Ek := N3.le Ek
  have Dg2_g3 := N3.ne Bg2
  have Dg1_g3 := N3.ne Bg1
  replace Bg2 := Bg2.mod0 N3.mod
  replace Bg1 := Bg1.mod0 N3.mod
  replace E := E.then N3.mod
  replace Ek := Ek.then N3.mod
  have Bg3 := N3.blk
  refine s_sta (vs := [_, _, _, _, _, _, _]) ag44 Bg3 rfl rfl rfl (by simp [Value.oneCell']) (by simp) fun w6 P6 => ?_
  replace Bg2 := Bg2.ne P6.mod (Ne.symm (Ne.symm Dg2_g3))
  replace Bg1 := Bg1.ne P6.mod (Ne.symm (Ne.symm Dg1_g3))
  replace E := E.own P6.mod Lg3_E
  replace Ek := Ek.own P6.mod Lg3_Ek
  replace Bg3 : Blk w6 g3 _ [_, _, _, _, _, _, _] := P6.blk
  refine Ln (e_K (hK8 _ _ _ _ (Cr (Sv (o_lda (vs := [_, _, _, _, _, _]) ag25 rfl rfl (Bg2.cs rfl)) (Sv (oA0 fd44_0 rfl) (Sv (oL sc9 rfl (Bg3.cell rfl)) (Sv (oA0 fd44_1 rfl) (Sv (o_lda (vs := [_, _, _, _, _, _]) ag25 rfl rfl (Bg3.cs rfl)) ?_))))))))
  have hlt2 := Bg2.lt
  have hlt1 := Bg1.lt
  have hszE := E.size
  refine sc (oC ent25 rfl) (c_jput (g1 :: g2 :: A) _ (fun a ha => by rcases List.mem_cons.1 ha with rfl | ha; exact hlt1; rcases List.mem_cons.1 ha with rfl | ha; exact hlt2; exact Nat.lt_of_lt_of_le (hA a ha) hszE) (JV.obj (putAll m k)) x.2 _ _ (Rk.to0 Ek) ((R_x.more (A' := g1 :: g2 :: A) (fun y hy => (List.mem_cons.1 hy).elim (fun h => .inr (h ▸ Lg1_E)) fun hy => (List.mem_cons.1 hy).elim (fun h => .inr (h ▸ Lg2_E)) .inl)).to0 E) x.1 (by rw [JV.tbl_obj]; exact putAll_asc m k) (by rw [JV.tbl_obj]; have := putAll_len m k; omega)) rfl fun v_ w7 h_ => ?_
  obtain ⟨us2, rfl, Rp, E_⟩ := h_
  replace Bg2 := Bg2.mod0 E_
  replace Bg1 := Bg1.mod0 E_
  replace Bg3 := Bg3.mod0 E_
  replace E := E.then E_
  replace Ek := Ek.then E_
  rw [JV.tbl_obj, ← putAll_succ hx_x] at Rp
  obtain ⟨al2, cl2, am2, cm2, rfl, Rlp, Rmp⟩ := JV.cells_ Rp
  replace Rp := JV.reps_ Rlp Rmp
  refine s_sta (vs := [_, _, _, _, _, _]) ag25 Bg2 rfl rfl rfl (by simp [Value.oneCell']) (by simp) fun w8 P8 => ?_
  replace Bg1 := Bg1.ne P8.mod Dg1_g2
  replace Bg3 := Bg3.ne P8.mod (Ne.symm Dg2_g3)
  replace E := E.own P8.mod Lg2_E
  replace Bg2 : Blk w8 g2 _ [_, _, _, _, _, _] := P8.blk
  have Rp2 := Rp.toM P8.mod (fun y hy => by simp [List.mem_singleton.1 hy])
  exact Ln (eI (by simp) (e_K (hK7 _ _ _ _ (Cr (Sv (o_addN rfl rfl (by omega)) (Zm rfl (Ln (eR (σ := Nat × Option Addr × Nat × Option Addr × Nat) (s := ⟨k, al, cl, am, cm⟩) (⟨k + 1, al2, cl2, am2, cm2⟩) ⟨rfl, rfl, rfl, rfl, rfl, trivial⟩ ⟨by omega, Rp2, Bg2, Bg1, E⟩ (by dsimp only; omega)))))))))
 ·have hkm : k = m.length := by omega
  subst hkm
  refine c_exit (eT (by simp) (eT (by simp) (e_hit (e_K (hK3 _ _ _ _ (Cq fun K9 hK9 => Cr (Sv (o_lda (vs := [_, _, _, _, _, _]) ag25 rfl rfl (Bg2.cs rfl)) ?_)))))))
  have Rf := Rk.to0 Ek
  refine s_sta (vs := [_, _, _, _, _, _]) ag25 Bg1 rfl rfl rfl (by simp [Value.oneCell']) (by simp) fun w9 P9 => ?_
  replace Bg2 := Bg2.ne P9.mod (Ne.symm Dg1_g2)
  replace E := E.own P9.mod Lg1_E
  replace Bg1 : Blk w9 g1 _ [_, _, _, _, _, _] := P9.blk
  have Rf2 := (Rf.toM P9.mod (fun y hy => by simp [List.mem_singleton.1 hy])).anti (A' := A) (fun y hy => List.mem_cons_of_mem _ (List.mem_cons_of_mem _ hy))
  exact Ln (e_K (hK9 _ _ _ _ (cR (retc (vs := [_, _, _, _, _, _]) rfl ag25 rfl rfl (Bg1.cs rfl) ⟨_, rfl, Rf2, E⟩))))
end Go.Proofs.YtknndpjacklkeaaGreatDoor.V

set_option linter.unusedVariables false
set_option linter.unusedSimpArgs false
set_option maxRecDepth 10000
namespace Go.Proofs.YtknndpjacklkeaaGreatDoor.V
open Go Go.Proofs

theorem c_kept (A : List Nat) (w : World) (hA : ∀ a ∈ A, a < w.heap.size) (kind : Str) : Calls Tryz.prog 175 [S kind].toArray w (Ret fun u w' => ∃ u1, u = .tuple #[u1, .bool (decide (kind = kCreate))] ∧ Rep A w' (strD (keptK kind)) u1 ∧ Mod [] w w') := by
 refine enter Tryz.func175 rfl rfl rfl (l := [(0, _)]) ⟨rfl, trivial⟩ ?_
 have E := Mod.refl [] w
 refine Cq fun K1 hK1 => Cr (tW 2 rfl (Ln (e_K (hK1 _ _ _ _ (Cq fun K2 hK2 => Cq fun K3 hK3 => Cr (Zm rfl (Ln (e_K (hK3 _ _ _ _ (cB (Cq fun K4 hK4 => Cr ?_)))))))))))
 refine Sv (o_seq rfl rfl) (Za rfl (Ln (e_K (hK4 _ _ _ _ ?_))))
 refine c_if rfl (fun h5 => ?_) (fun h5 => ?_)
 ·exact Cq fun K5 hK5 => Cr (tW 2 rfl (Ln (e_K (hK5 _ _ _ _ (cR (eI (by simp) (eT (by simp) (ret2 rfl rfl rfl ⟨_, by rw [dT h5], by rw [h5]; exact Rep.nilf A _, E⟩))))))))
 ·refine Cq fun K6 hK6 => Cr (Sv (o_seq rfl rfl) (Za rfl (Ln (e_K (hK6 _ _ _ _ ?_)))))
  refine c_if rfl (fun h7 => ?_) (fun h7 => ?_)
  ·have hK : keptK kind = l_member := by
    unfold keptK
    rw [if_pos h7]
   refine Cq fun K7 hK7 => Cr (s_bslice (cs := [_, _]) sl45 zv9 rfl rfl rfl (by decide) rfl fun g1 w1 N1 => ?_)
   have Lg1_E := N1.le E
   replace E := E.then N1.mod
   have Bg1 := N1.blk
   exact tW 2 rfl (Ln (e_K (hK7 _ _ _ _ (cR (eI (by simp) (eT (by simp) (ret2 rfl rfl rfl ⟨_, by rw [dF h5], by rw [hK]; exact strs_blk (xs := l_member) Bg1 (by decide) (fun h => by have := hA _ h; have := Lg1_E; omega), E⟩)))))))
  ·refine Cq fun K8 hK8 => Cr (Sv (o_seq rfl rfl) (Za rfl (Ln (e_K (hK8 _ _ _ _ ?_)))))
   refine c_if rfl (fun h10 => ?_) (fun h10 => ?_)
   ·have hK : keptK kind = l_join_rules := by
     unfold keptK
     rw [if_neg h7, if_pos h10]
    refine Cq fun K9 hK9 => Cr (s_bslice (cs := [_, _]) sl45 zv9 rfl rfl rfl (by decide) rfl fun g2 w2 N2 => ?_)
    have Lg2_E := N2.le E
    replace E := E.then N2.mod
    have Bg2 := N2.blk
    exact tW 2 rfl (Ln (e_K (hK9 _ _ _ _ (cR (eI (by simp) (eT (by simp) (ret2 rfl rfl rfl ⟨_, by rw [dF h5], by rw [hK]; exact strs_blk (xs := l_join_rules) Bg2 (by decide) (fun h => by have := hA _ h; have := Lg2_E; omega), E⟩)))))))
   ·refine Cq fun K10 hK10 => Cr (Sv (o_seq rfl rfl) (Za rfl (Ln (e_K (hK10 _ _ _ _ ?_)))))
    refine c_if rfl (fun h13 => ?_) (fun h13 => ?_)
    ·have hK : keptK kind = l_power_levels := by
      unfold keptK
      rw [if_neg h7, if_neg h10, if_pos h13]
     refine Cq fun K11 hK11 => Cr (s_bslice (cs := [_, _, _, _, _, _, _, _, _]) sl45 zv9 rfl rfl rfl (by decide) rfl fun g3 w3 N3 => ?_)
     have Lg3_E := N3.le E
     replace E := E.then N3.mod
     have Bg3 := N3.blk
     exact tW 2 rfl (Ln (e_K (hK11 _ _ _ _ (cR (eI (by simp) (eT (by simp) (ret2 rfl rfl rfl ⟨_, by rw [dF h5], by rw [hK]; exact strs_blk (xs := l_power_levels) Bg3 (by decide) (fun h => by have := hA _ h; have := Lg3_E; omega), E⟩)))))))
    ·refine Cq fun K12 hK12 => Cr (Sv (o_seq rfl rfl) (Za rfl (Ln (e_K (hK12 _ _ _ _ ?_)))))
     refine c_if rfl (fun h16 => ?_) (fun h16 => ?_)
     ·have hK : keptK kind = l_history_visibility := by
       unfold keptK
       rw [if_neg h7, if_neg h10, if_neg h13, if_pos h16]
      refine Cq fun K13 hK13 => Cr (s_bslice (cs := [_]) sl45 zv9 rfl rfl rfl (by decide) rfl fun g4 w4 N4 => ?_)
      have Lg4_E := N4.le E
      replace E := E.then N4.mod
      have Bg4 := N4.blk
      exact tW 2 rfl (Ln (e_K (hK13 _ _ _ _ (cR (eI (by simp) (eT (by simp) (ret2 rfl rfl rfl ⟨_, by rw [dF h5], by rw [hK]; exact strs_blk (xs := l_history_visibility) Bg4 (by decide) (fun h => by have := hA _ h; have := Lg4_E; omega), E⟩)))))))
     ·refine Cq fun K14 hK14 => Cr (Sv (o_seq rfl rfl) (Za rfl (Ln (e_K (hK14 _ _ _ _ ?_)))))
      refine c_if rfl (fun h19 => ?_) (fun h19 => ?_)
      ·have hK : keptK kind = l_redaction := by
        unfold keptK
        rw [if_neg h7, if_neg h10, if_neg h13, if_neg h16, if_pos h19]
       refine Cq fun K15 hK15 => Cr (s_bslice (cs := [_]) sl45 zv9 rfl rfl rfl (by decide) rfl fun g5 w5 N5 => ?_)
       have Lg5_E := N5.le E
       replace E := E.then N5.mod
       have Bg5 := N5.blk
       exact tW 2 rfl (Ln (e_K (hK15 _ _ _ _ (cR (eI (by simp) (eT (by simp) (ret2 rfl rfl rfl ⟨_, by rw [dF h5], by rw [hK]; exact strs_blk (xs := l_redaction) Bg5 (by decide) (fun h => by have := hA _ h; have := Lg5_E; omega), E⟩)))))))
      ·have hK : keptK kind = [] := by
        unfold keptK
        rw [if_neg h7, if_neg h10, if_neg h13, if_neg h16, if_neg h19]
       exact cK (eI (by simp) (e_K (hK2 _ _ _ _ (Cq fun K16 hK16 => Cr (tW 2 rfl (Ln (e_K (hK16 _ _ _ _ (cR (ret2 rfl rfl rfl ⟨_, by rw [dF h5], by rw [hK]; exact Rep.nilf A _, E⟩))))))))))

theorem c_keptR (A : List Nat) (w : World) (hA : ∀ a ∈ A, a < w.heap.size) (kind : Str) : Calls Tryz.prog 176 [S kind].toArray w (Ret fun u w' => Rep A w' (strD (keptK kind)) u ∧ Mod [] w w') := by
 refine enter Tryz.func176 rfl rfl rfl (l := [(0, _)]) ⟨rfl, trivial⟩ ?_
 have E := Mod.refl [] w
 refine Cq fun K1 hK1 => Cr (Za rfl (Ln (e_K (hK1 _ _ _ _ (Cq fun K2 hK2 => Cq fun K3 hK3 => Cr (Zm rfl (Ln (e_K (hK3 _ _ _ _ (cB (Cq fun K4 hK4 => Cr ?_)))))))))))
 refine Sv (o_seq rfl rfl) (Za rfl (Ln (e_K (hK4 _ _ _ _ ?_))))
 refine c_if rfl (fun h4 => ?_) (fun h4 => ?_)
 ·have hK : keptK kind = l_member := by
   unfold keptK
   rw [if_pos h4]
  refine Cq fun K5 hK5 => Cr (s_bslice (cs := [_, _]) sl45 zv9 rfl rfl rfl (by decide) rfl fun g1 w1 N1 => ?_)
  have Lg1_E := N1.le E
  replace E := E.then N1.mod
  have Bg1 := N1.blk
  exact Za rfl (Ln (e_K (hK5 _ _ _ _ (cR (eI (by simp) (eT (by simp) (ret1 rfl rfl ⟨by rw [hK]; exact strs_blk (xs := l_member) Bg1 (by decide) (fun h => by have := hA _ h; have := Lg1_E; omega), E⟩)))))))
 ·refine Cq fun K6 hK6 => Cr (Sv (o_seq rfl rfl) (Za rfl (Ln (e_K (hK6 _ _ _ _ ?_)))))
  refine c_if rfl (fun h7 => ?_) (fun h7 => ?_)
  ·have hK : keptK kind = l_join_rules := by
    unfold keptK
    rw [if_neg h4, if_pos h7]
   refine Cq fun K7 hK7 => Cr (s_bslice (cs := [_, _]) sl45 zv9 rfl rfl rfl (by decide) rfl fun g2 w2 N2 => ?_)
   have Lg2_E := N2.le E
   replace E := E.then N2.mod
   have Bg2 := N2.blk
   exact Za rfl (Ln (e_K (hK7 _ _ _ _ (cR (eI (by simp) (eT (by simp) (ret1 rfl rfl ⟨by rw [hK]; exact strs_blk (xs := l_join_rules) Bg2 (by decide) (fun h => by have := hA _ h; have := Lg2_E; omega), E⟩)))))))
  ·refine Cq fun K8 hK8 => Cr (Sv (o_seq rfl rfl) (Za rfl (Ln (e_K (hK8 _ _ _ _ ?_)))))
   refine c_if rfl (fun h10 => ?_) (fun h10 => ?_)
   ·have hK : keptK kind = l_power_levels := by
     unfold keptK
     rw [if_neg h4, if_neg h7, if_pos h10]
    refine Cq fun K9 hK9 => Cr (s_bslice (cs := [_, _, _, _, _, _, _, _, _]) sl45 zv9 rfl rfl rfl (by decide) rfl fun g3 w3 N3 => ?_)
    have Lg3_E := N3.le E
    replace E := E.then N3.mod
    have Bg3 := N3.blk
    exact Za rfl (Ln (e_K (hK9 _ _ _ _ (cR (eI (by simp) (eT (by simp) (ret1 rfl rfl ⟨by rw [hK]; exact strs_blk (xs := l_power_levels) Bg3 (by decide) (fun h => by have := hA _ h; have := Lg3_E; omega), E⟩)))))))
   ·refine Cq fun K10 hK10 => Cr (Sv (o_seq rfl rfl) (Za rfl (Ln (e_K (hK10 _ _ _ _ ?_)))))
    refine c_if rfl (fun h13 => ?_) (fun h13 => ?_)
    ·have hK : keptK kind = l_history_visibility := by
      unfold keptK
      rw [if_neg h4, if_neg h7, if_neg h10, if_pos h13]
     refine Cq fun K11 hK11 => Cr (s_bslice (cs := [_]) sl45 zv9 rfl rfl rfl (by decide) rfl fun g4 w4 N4 => ?_)
     have Lg4_E := N4.le E
     replace E := E.then N4.mod
     have Bg4 := N4.blk
     exact Za rfl (Ln (e_K (hK11 _ _ _ _ (cR (eI (by simp) (eT (by simp) (ret1 rfl rfl ⟨by rw [hK]; exact strs_blk (xs := l_history_visibility) Bg4 (by decide) (fun h => by have := hA _ h; have := Lg4_E; omega), E⟩)))))))
    ·refine Cq fun K12 hK12 => Cr (Sv (o_seq rfl rfl) (Za rfl (Ln (e_K (hK12 _ _ _ _ ?_)))))
     refine c_if rfl (fun h16 => ?_) (fun h16 => ?_)
     ·have hK : keptK kind = l_redaction := by
       unfold keptK
       rw [if_neg h4, if_neg h7, if_neg h10, if_neg h13, if_pos h16]
      refine Cq fun K13 hK13 => Cr (s_bslice (cs := [_]) sl45 zv9 rfl rfl rfl (by decide) rfl fun g5 w5 N5 => ?_)
      have Lg5_E := N5.le E
      replace E := E.then N5.mod
      have Bg5 := N5.blk
      exact Za rfl (Ln (e_K (hK13 _ _ _ _ (cR (eI (by simp) (eT (by simp) (ret1 rfl rfl ⟨by rw [hK]; exact strs_blk (xs := l_redaction) Bg5 (by decide) (fun h => by have := hA _ h; have := Lg5_E; omega), E⟩)))))))
     ·have hK : keptK kind = [] := by
       unfold keptK
       rw [if_neg h4, if_neg h7, if_neg h10, if_neg h13, if_neg h16]
      exact cK (eI (by simp) (e_K (hK2 _ _ _ _ (Cq fun K14 hK14 => Cr (Za rfl (Ln (e_K (hK14 _ _ _ _ (cR (ret1 rfl rfl ⟨by rw [hK]; exact Rep.nilf A _, E⟩))))))))))

theorem c_jwith (A : List Nat) (w : World) (hA : ∀ a ∈ A, a < w.heap.size) (m : List (Str × JV)) (v0 : Value) (R : Rep A w (.sl 7 (m.map JV.Dp)) v0) (kk : Str) (x : JV) (us : List Value) (Rx : Reps A w x.D us) (hn : m.length ≤ 1353245080310) : Calls Tryz.prog 78 [v0, .agg (S kk :: us).toArray].toArray w (Ret fun u w' => Rep A w' (.sl 7 ((putM m kk x).map JV.Dp)) u ∧ Mod [] w w') := by
 refine enter Tryz.func78 rfl rfl rfl (l := [(0, _), (1, _)]) ⟨rfl, rfl, trivial⟩ ?_
 have E := Mod.refl [] w
 obtain ⟨ad, c, rfl, hc1, hc2⟩ : ∃ ad c, v0 = .slice ad m.length c ∧ m.length ≤ c ∧ c ≤ 9223372036854775807 := by
  obtain ⟨ad, c, h1, h2, h3⟩ := R.sl_
  rw [List.length_map] at h1 h2
  exact ⟨ad, c, h1, h2, h3⟩
 obtain ⟨alx, clx, amx, cmx, rfl, Rlx, Rmx⟩ := JV.cells_ Rx
 have Rx := JV.reps_ Rlx Rmx
 refine Cq fun K1 hK1 => Cr (s_box rfl rfl rfl fun g1 w1 N1 => ?_)
 have Lg1_E := N1.le E
 replace E := E.then N1.mod
 have Bg1 := N1.blk
 refine Za rfl (Ln (e_K (hK1 _ _ _ _ (Cq fun K2 hK2 => Cr (Za rfl (Ln (e_K (hK2 _ _ _ _ (Cq fun K3 hK3 => Cq fun K4 hK4 => Cr (Zm rfl (Sv (o_len Tryz.underlying23 rfl) (Zm rfl ?_))))))))))))
 refine Ln (e_K (hK4 _ _ _ _ (cB (c_loop (σ := Nat × Value × List Value) (fun ⟨k, v, vs⟩ => [(0, .slice ad m.length c), (3, .pointer (some ⟨g1, 0, none⟩)), (5, v), (10, .slice ad m.length c), (11, .int .i64 m.length), (12, .int .i64 (k : Int))]) (fun ⟨k, v, vs⟩ w1 => k ≤ m.length ∧ Own w1 44 7 v (((m.take k).filter fun p => bl p.1 kk)).length vs ∧ Reps A w ((((m.take k).filter fun p => bl p.1 kk)).map JV.Dp).flatten vs ∧ (∀ x ∈ ob v, w.heap.size ≤ x) ∧ (∀ x ∈ ob v, x ≠ g1) ∧ Blk w1 g1 44 [S kk, .int .i64 x.kind, .bool x.is, .int .i64 x.num, S x.str, .slice alx x.list.length clx, .slice amx x.map.length cmx] ∧ Mod [] w w1) (fun ⟨k, v, vs⟩ => m.length - k) (⟨0, .slice none 0 0, []⟩) ⟨rfl, rfl, rfl, rfl, rfl, rfl, trivial⟩ (⟨by omega, by simpa using Own.nil w1 44 7, Reps.nil_, by simp [ob], by simp [ob], Bg1, E⟩) ?_))))
 rintro ⟨k, v, vs⟩ w2 ⟨hk, Oa0, hvs, L0, D0, Bg1, E⟩
 refine Cq fun K5 hK5 => Cr (Sv (o_lss rfl rfl) (Ln (e_K (hK5 _ _ _ _ (Cq fun K6 hK6 => ?_)))))
 refine c_if rfl (fun h13 => ?_) (fun h13 => ?_)
 ·have hlt : k < m.length := by omega
  obtain ⟨y, hx_y⟩ : ∃ x, m[k]? = some x := ⟨_, List.getElem?_eq_getElem (by omega)⟩
  obtain ⟨a_y, us_y, ha_y, R_y, hcs0_y⟩ := JV.at_m R hx_y
  obtain ⟨al_y, cl_y, am_y, cm_y, rfl, Rl_y, Rm_y⟩ := JV.cells_ R_y
  have hcs_y := hcs0_y.mod0 E
  have hcap_y := JV.cap_m R
  obtain rfl := ha_y
  have hf1 := List.length_filter_le (fun p => bl p.1 kk) (m.take k)
  have hf2 := List.length_filter_le (fun p => bl kk p.1) (m.take k)
  have hf3 := List.length_filter_le (fun p => bl p.1 kk) m
  have hf4 : (m.take k).length ≤ m.length := by rw [List.length_take]; omega
  have hf5 := flt_len (k := kk) (r := m)
  have hf6 := flt_take (q := fun p => bl kk p.1) (m := m) (k := k)
  have hf7 := flt_take (q := fun p => bl p.1 kk) (m := m) (k := k)
  refine cK (e_K (hK6 _ _ _ _ (Cq fun K7 hK7 => cB (Cq fun K8 hK8 => Cr (Sv (o_ix sl23 rfl rfl (by omega)) (Sv (o_lda ag44 rfl rfl hcs_y) (s_alloc zv44 rfl fun g2 w3 N2 => ?_)))))))
  have Lg2_E := N2.le E
  have Dg1_g2 := N2.ne Bg1
  have Da0_g2 := N2.own_ne Oa0
  replace Bg1 := Bg1.mod0 N2.mod
  replace E := E.then N2.mod
  replace Oa0 := Oa0.mod0 N2.mod
  have Bg2 := N2.blk
  refine s_sta (vs := [_, _, _, _, _, _, _]) ag44 Bg2 rfl rfl rfl (by simp [Value.oneCell']) (by simp) fun w4 P4 => ?_
  replace Bg1 := Bg1.ne P4.mod (Ne.symm (Ne.symm Dg1_g2))
  replace E := E.own P4.mod Lg2_E
  replace Oa0 := Oa0.put P4.mod Da0_g2
  replace Bg2 : Blk w4 g2 _ [_, _, _, _, _, _, _] := P4.blk
  refine Ln (e_K (hK8 _ _ _ _ (Cq fun K9 hK9 => Cr (Sv (oA0 fd44_0 rfl) (Sv (oL sc9 rfl (Bg2.cell rfl)) (Sv (oA0 fd44_0 rfl) (Sv (oL sc9 rfl (Bg1.cell rfl)) (Sv (o_slt rfl rfl) (Ln (e_K (hK9 _ _ _ _ ?_)))))))))))
  refine c_cond rfl (fun h20 => ?_) (fun h20 => ?_)
  ·refine Cr (Zm rfl (Sv (o_lda (vs := [_, _, _, _, _, _, _]) ag44 rfl rfl (Bg2.cs rfl)) (s_bslice (cs := [_, _, _, _, _, _, _]) sl23 zv44 rfl rfl rfl (by decide) rfl fun g3 w5 N3 => ?_)))
   have Lg3_E := N3.le E
   have Dg1_g3 := N3.ne Bg1
   have Dg2_g3 := N3.ne Bg2
   have Da0_g3 := N3.own_ne Oa0
   replace Bg1 := Bg1.mod0 N3.mod
   replace Bg2 := Bg2.mod0 N3.mod
   replace E := E.then N3.mod
   replace Oa0 := Oa0.mod0 N3.mod
   have Bg3 := N3.blk
   refine s_append sl23 rfl rfl Oa0 (Src.own Tryz.underlying23 (Own.all (cs := [_, _, _, _, _, _, _]) Bg3 rfl (by omega)) (by simp [Value.oneCell'])) (by decide) (by omega) (by omega) rfl fun v1 w6 A1 => ?_
   have Dv1_g1 := A1.ne D0 Bg1
   have Dv1_g2 := A1.ne Da0_g2 Bg2
   have Dv1_g3 := A1.ne Da0_g3 Bg3
   have Lv1_E := A1.ge L0 E
   replace Bg1 := Bg1.mod A1.mod (fun hx => D0 _ hx rfl)
   replace Bg2 := Bg2.mod A1.mod (fun hx => Da0_g2 _ hx rfl)
   replace Bg3 := Bg3.mod A1.mod (fun hx => Da0_g3 _ hx rfl)
   replace E := E.trans' A1.mod (fun x hx => .inr (L0 x hx))
   replace Oa0 := A1.own
   exact Za rfl (Ln (eI (by simp) (e_K (hK7 _ _ _ _ (Cr (Sv (o_addN rfl rfl (by omega)) (Zm rfl (Ln (eR (σ := Nat × Value × List Value) (s := ⟨k, v, vs⟩) (⟨k + 1, v1, vs ++ [S y.1, .int .i64 y.2.kind, .bool y.2.is, .int .i64 y.2.num, S y.2.str, .slice al_y y.2.list.length cl_y, .slice am_y y.2.map.length cm_y]⟩) ⟨rfl, rfl, rfl, rfl, rfl, rfl, trivial⟩ ⟨by omega, Oa0.same (by rw [filter_snoc _ hx_y]; simp [h20]) rfl, by rw [filter_snoc _ hx_y, if_pos h20]; exact JV.rows_snoc hvs (JV.Dp_reps R_y), Lv1_E, Dv1_g1, Bg1, E⟩ (by dsimp only; omega))))))))))
  ·exact cK (eI (by simp) (e_K (hK7 _ _ _ _ (Cr (Sv (o_addN rfl rfl (by omega)) (Zm rfl (Ln (eR (σ := Nat × Value × List Value) (s := ⟨k, v, vs⟩) (⟨k + 1, v, vs⟩) ⟨rfl, rfl, rfl, rfl, rfl, rfl, trivial⟩ ⟨by omega, Oa0.same (by rw [filter_snoc _ hx_y]; simp [h20]) rfl, by rw [filter_snoc _ hx_y, if_neg (by rw [h20]; decide), List.append_nil]; exact hvs, L0, D0, Bg1, E⟩ (by dsimp only; omega)))))))))
 ·have hf1 := List.length_filter_le (fun p => bl p.1 kk) (m.take k)
  have hf2 := List.length_filter_le (fun p => bl kk p.1) (m.take k)
  have hf3 := List.length_filter_le (fun p => bl p.1 kk) m
  have hf4 : (m.take k).length ≤ m.length := by rw [List.length_take]; omega
  have hf5 := flt_len (k := kk) (r := m)
  have hf6 := flt_take (q := fun p => bl kk p.1) (m := m) (k := k)
  have hf7 := flt_take (q := fun p => bl p.1 kk) (m := m) (k := k)
  refine c_exit (eT (by simp) (eT (by simp) (e_hit (e_K (hK3 _ _ _ _ (Cq fun K10 hK10 => Cr (Zm rfl (Sv (o_lda (vs := [_, _, _, _, _, _, _]) ag44 rfl rfl (Bg1.cs rfl)) (s_bslice (cs := [_, _, _, _, _, _, _]) sl23 zv44 rfl rfl rfl (by decide) rfl fun g4 w7 N4 => ?_)))))))))
  have Lg4_E := N4.le E
  have Dg1_g4 := N4.ne Bg1
  have Da0_g4 := N4.own_ne Oa0
  replace Bg1 := Bg1.mod0 N4.mod
  replace E := E.then N4.mod
  replace Oa0 := Oa0.mod0 N4.mod
  have Bg4 := N4.blk
  refine s_append sl23 rfl rfl Oa0 (Src.own Tryz.underlying23 (Own.all (cs := [_, _, _, _, _, _, _]) Bg4 rfl (by omega)) (by simp [Value.oneCell'])) (by decide) (by omega) (by omega) rfl fun v2 w8 A2 => ?_
  have Dv2_g1 := A2.ne D0 Bg1
  have Dv2_g4 := A2.ne Da0_g4 Bg4
  have Lv2_E := A2.ge L0 E
  replace Bg1 := Bg1.mod A2.mod (fun hx => D0 _ hx rfl)
  replace Bg4 := Bg4.mod A2.mod (fun hx => Da0_g4 _ hx rfl)
  replace E := E.trans' A2.mod (fun x hx => .inr (L0 x hx))
  replace Oa0 := A2.own
  refine Za rfl (Ln (e_K (hK10 _ _ _ _ (Cq fun K11 hK11 => Cq fun K12 hK12 => Cr (Zm rfl (Sv (o_len Tryz.underlying23 rfl) (Zm rfl (Ln (e_K (hK12 _ _ _ _ (cB (c_loop (σ := Nat × Value × List Value) (fun ⟨k, v, vs⟩ => [(3, .pointer (some ⟨g1, 0, none⟩)), (5, v), (30, .slice ad m.length c), (31, .int .i64 m.length), (32, .int .i64 (k : Int))]) (fun ⟨k, v, vs⟩ w1 => k ≤ m.length ∧ Own w1 44 7 v (((m.filter fun p => bl p.1 kk) ++ [(kk, x)] ++ (m.take k).filter fun p => bl kk p.1)).length vs ∧ Reps A w ((((m.filter fun p => bl p.1 kk) ++ [(kk, x)] ++ (m.take k).filter fun p => bl kk p.1)).map JV.Dp).flatten vs ∧ (∀ x ∈ ob v, w.heap.size ≤ x) ∧ (∀ x ∈ ob v, x ≠ g1) ∧ Blk w1 g1 44 [S kk, .int .i64 x.kind, .bool x.is, .int .i64 x.num, S x.str, .slice alx x.list.length clx, .slice amx x.map.length cmx] ∧ Mod [] w w1) (fun ⟨k, v, vs⟩ => m.length - k) (⟨0, v2, vs ++ [S kk, .int .i64 x.kind, .bool x.is, .int .i64 x.num, S x.str, .slice alx x.list.length clx, .slice amx x.map.length cmx]⟩) ⟨rfl, rfl, rfl, rfl, rfl, trivial⟩ (⟨by omega, Oa0.same (by rw [List.take_of_length_le (by omega)]; simp) rfl, by rw [List.take_of_length_le (by omega)] at hvs; simpa using JV.rows_snoc hvs (JV.Dp_reps (p := (kk, x)) Rx), Lv2_E, Dv2_g1, Bg1, E⟩) ?_))))))))))))
  rintro ⟨k, v, vs⟩ w9 ⟨hk, Oa0, hvs, L0, D0, Bg1, E⟩
  refine Cq fun K13 hK13 => Cr (Sv (o_lss rfl rfl) (Ln (e_K (hK13 _ _ _ _ (Cq fun K14 hK14 => ?_)))))
  refine c_if rfl (fun h33 => ?_) (fun h33 => ?_)
  ·have hlt : k < m.length := by omega
   obtain ⟨y, hx_y⟩ : ∃ x, m[k]? = some x := ⟨_, List.getElem?_eq_getElem (by omega)⟩
   obtain ⟨a_y, us_y, ha_y, R_y, hcs0_y⟩ := JV.at_m R hx_y
   obtain ⟨al_y, cl_y, am_y, cm_y, rfl, Rl_y, Rm_y⟩ := JV.cells_ R_y
   have hcs_y := hcs0_y.mod0 E
   have hcap_y := JV.cap_m R
   obtain rfl := ha_y
   have hf1 := List.length_filter_le (fun p => bl p.1 kk) (m.take k)
   have hf2 := List.length_filter_le (fun p => bl kk p.1) (m.take k)
   have hf3 := List.length_filter_le (fun p => bl p.1 kk) m
   have hf4 : (m.take k).length ≤ m.length := by rw [List.length_take]; omega
   have hf5 := flt_len (k := kk) (r := m)
   have hf6 := flt_take (q := fun p => bl kk p.1) (m := m) (k := k)
   have hf7 := flt_take (q := fun p => bl p.1 kk) (m := m) (k := k)
   refine cK (e_K (hK14 _ _ _ _ (Cq fun K15 hK15 => cB (Cq fun K16 hK16 => Cr (Sv (o_ix sl23 rfl rfl (by omega)) (Sv (o_lda ag44 rfl rfl hcs_y) (s_alloc zv44 rfl fun g5 w10 N5 => ?_)))))))
   have Lg5_E := N5.le E
   have Dg1_g5 := N5.ne Bg1
   have Da0_g5 := N5.own_ne Oa0
   replace Bg1 := Bg1.mod0 N5.mod
   replace E := E.then N5.mod
   replace Oa0 := Oa0.mod0 N5.mod
   have Bg5 := N5.blk
   refine s_sta (vs := [_, _, _, _, _, _, _]) ag44 Bg5 rfl rfl rfl (by simp [Value.oneCell']) (by simp) fun w11 P11 => ?_
   replace Bg1 := Bg1.ne P11.mod (Ne.symm (Ne.symm Dg1_g5))
   replace E := E.own P11.mod Lg5_E
   replace Oa0 := Oa0.put P11.mod Da0_g5
   replace Bg5 : Blk w11 g5 _ [_, _, _, _, _, _, _] := P11.blk
   refine Ln (e_K (hK16 _ _ _ _ (Cq fun K17 hK17 => Cr (Sv (oA0 fd44_0 rfl) (Sv (oL sc9 rfl (Bg5.cell rfl)) (Sv (oA0 fd44_0 rfl) (Sv (oL sc9 rfl (Bg1.cell rfl)) (Sv ((o_sgt rfl rfl).to (by rw [gt_bl])) ?_))))))))
   refine Ln (e_K (hK17 _ _ _ _ ?_))
   refine c_cond rfl (fun h40 => ?_) (fun h40 => ?_)
   ·refine Cr (Zm rfl (Sv (o_lda (vs := [_, _, _, _, _, _, _]) ag44 rfl rfl (Bg5.cs rfl)) (s_bslice (cs := [_, _, _, _, _, _, _]) sl23 zv44 rfl rfl rfl (by decide) rfl fun g6 w12 N6 => ?_)))
    have Lg6_E := N6.le E
    have Dg1_g6 := N6.ne Bg1
    have Dg5_g6 := N6.ne Bg5
    have Da0_g6 := N6.own_ne Oa0
    replace Bg1 := Bg1.mod0 N6.mod
    replace Bg5 := Bg5.mod0 N6.mod
    replace E := E.then N6.mod
    replace Oa0 := Oa0.mod0 N6.mod
    have Bg6 := N6.blk
    refine s_append sl23 rfl rfl Oa0 (Src.own Tryz.underlying23 (Own.all (cs := [_, _, _, _, _, _, _]) Bg6 rfl (by omega)) (by simp [Value.oneCell'])) (by decide) (by simp only [List.length_append, List.length_singleton]; omega) (by simp only [List.length_append, List.length_singleton]; omega) rfl fun v3 w13 A3 => ?_
    have Dv3_g1 := A3.ne D0 Bg1
    have Dv3_g5 := A3.ne Da0_g5 Bg5
    have Dv3_g6 := A3.ne Da0_g6 Bg6
    have Lv3_E := A3.ge L0 E
    replace Bg1 := Bg1.mod A3.mod (fun hx => D0 _ hx rfl)
    replace Bg5 := Bg5.mod A3.mod (fun hx => Da0_g5 _ hx rfl)
    replace Bg6 := Bg6.mod A3.mod (fun hx => Da0_g6 _ hx rfl)
    replace E := E.trans' A3.mod (fun x hx => .inr (L0 x hx))
    replace Oa0 := A3.own
    exact Za rfl (Ln (eI (by simp) (e_K (hK15 _ _ _ _ (Cr (Sv (o_addN rfl rfl (by omega)) (Zm rfl (Ln (eR (σ := Nat × Value × List Value) (s := ⟨k, v, vs⟩) (⟨k + 1, v3, vs ++ [S y.1, .int .i64 y.2.kind, .bool y.2.is, .int .i64 y.2.num, S y.2.str, .slice al_y y.2.list.length cl_y, .slice am_y y.2.map.length cm_y]⟩) ⟨rfl, rfl, rfl, rfl, rfl, trivial⟩ ⟨by omega, Oa0.same (by rw [filter_snoc _ hx_y]; simp [h40]; omega) rfl, by rw [filter_snoc _ hx_y, if_pos h40]; rw [← List.append_assoc]; exact JV.rows_snoc hvs (JV.Dp_reps R_y), Lv3_E, Dv3_g1, Bg1, E⟩ (by dsimp only; omega))))))))))
   ·exact cK (eI (by simp) (e_K (hK15 _ _ _ _ (Cr (Sv (o_addN rfl rfl (by omega)) (Zm rfl (Ln (eR (σ := Nat × Value × List Value) (s := ⟨k, v, vs⟩) (⟨k + 1, v, vs⟩) ⟨rfl, rfl, rfl, rfl, rfl, trivial⟩ ⟨by omega, Oa0.same (by rw [filter_snoc _ hx_y]; simp [h40]) rfl, by rw [filter_snoc _ hx_y, if_neg (by rw [h40]; decide), List.append_nil]; exact hvs, L0, D0, Bg1, E⟩ (by dsimp only; omega)))))))))
  ·have hk2 : k = m.length := by omega
   subst hk2
   exact c_exit (eT (by simp) (eT (by simp) (e_hit (e_K (hK11 _ _ _ _ (Cq fun K18 hK18 => Cr (tW 2 rfl (Ln (e_K (hK18 _ _ _ _ (cR (ret1 rfl rfl ⟨Own.mem_ (m := putM m kk x) Oa0 ((by simpa [putM] using hvs : Reps A w _ _).to0 E) (by simp [putM]) (fun y hy h => by have := L0 y hy; have := hA y h; omega), E⟩))))))))))))
end Go.Proofs.YtknndpjacklkeaaGreatDoor.V

set_option linter.unusedVariables false
set_option linter.unusedSimpArgs false
namespace Go.Proofs.YtknndpjacklkeaaGreatDoor.V
open Go
namespace JV
variable {kind : Str} {v : JV}
def kf (v : JV) (K : List Str) (k : Nat) : List (Str × JV) := (K.take k).foldl (putG v) []
theorem kf_asc {K : List Str} {k : Nat} : ascM (v.kf K k) := foldG_asc List.Pairwise.nil
theorem kf_succ {K : List Str} {k : Nat} {q : Str} (h : K[k]? = some q) : v.kf K (k + 1) = putG v (v.kf K k) q := by
 have hlt := (List.getElem?_eq_some_iff.1 h).1
 rw [kf, List.take_succ_eq_append_getElem hlt, (List.getElem?_eq_some_iff.1 h).2, List.foldl_append]
 rfl
theorem kf_yes {K : List Str} {k : Nat} {q : Str} (h : K[k]? = some q) (hs : (v.get q).isSome = true) : v.kf K (k + 1) = putM (v.kf K k) q ((v.get q).getD nul) := by
 rw [kf_succ h, putG]
 cases hg : v.get q with
 | none => rw [hg] at hs; cases hs
 | some x => rfl
theorem kf_no {K : List Str} {k : Nat} {q : Str} (h : K[k]? = some q) (hs : (v.get q).isSome = false) : v.kf K (k + 1) = v.kf K k := by
 rw [kf_succ h, putG]
 cases hg : v.get q with
 | none => rfl
 | some x => rw [hg] at hs; cases hs
theorem kf_all {K : List Str} {k : Nat} (h : K.length ≤ k) : v.kf K k = v.keep K := by rw [kf, List.take_of_length_le h]; rfl
theorem kf_len {K : List Str} {k : Nat} : (v.kf K k).length ≤ k := by
 induction k with
 | zero => simp [kf]
 | succ k ih =>
  rcases Nat.lt_or_ge k K.length with h | h
  ·rw [kf_succ (List.getElem?_eq_getElem h), putG]
   split
   ·have := putM_len (k := K[k]) (x := ‹JV›) (kf_asc (v := v) (K := K) (k := k))
    omega
   ·omega
  ·have : v.kf K (k + 1) = v.kf K k := by rw [kf_all h, kf_all (by omega)]
   rw [this]
   omega
theorem kept_len (kind : Str) : (keptK kind).length ≤ 9 := by
 unfold keptK
 repeat' split
 all_goals simp
theorem putAll_one (k : Str) (y : JV) : putAll [(k, y)] 1 = [(k, y)] := by simp [putAll, putM]
theorem content_yes (hc : ¬ kind = kCreate) (hs : (v.third.get kSigned).isSome = true) (hm : kind = k_member) : content kind v = obj (putM (v.keep (keptK kind)) kThird (obj (putAll [(kSigned, (v.third.get kSigned).getD nul)] 1))) := by
 rw [putAll_one]
 unfold content contentM
 rw [if_neg hc]
 cases hg : v.third.get kSigned with
 | none => rw [hg] at hs; cases hs
 | some y => simp only [if_pos hm, Option.getD_some]
theorem content_no1 (hc : ¬ kind = kCreate) (hs : (v.third.get kSigned).isSome = false) : content kind v = obj (v.keep (keptK kind)) := by
 unfold content contentM
 rw [if_neg hc]
 cases hg : v.third.get kSigned with
 | none => rfl
 | some y => rw [hg] at hs; cases hs
theorem content_no2 (hc : ¬ kind = kCreate) (hm : ¬ kind = k_member) : content kind v = obj (v.keep (keptK kind)) := by
 unfold content contentM
 rw [if_neg hc]
 cases hg : v.third.get kSigned with
 | none => rfl
 | some y => simp only [if_neg hm]
theorem get_memA {k : Str} {x : JV} (h : v.get k = some x) : (k, x) ∈ v.map := by
 unfold JV.get at h
 split at h
 ·exact look_some h
 ·cases h
end JV
end Go.Proofs.YtknndpjacklkeaaGreatDoor.V
