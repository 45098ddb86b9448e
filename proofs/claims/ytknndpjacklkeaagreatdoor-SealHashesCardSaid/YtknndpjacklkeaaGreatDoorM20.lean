/-
  A part of the proof: an event as a JSON value, in plain Lean; a slice of rows that was built anew is a list that may grow. No condition of its own.
-/
import Derived.Test.YtknndpjacklkeaaGreatDoorM19
import Derived.Test.YtknndpjacklkeaaGreatDoorM4
set_option linter.unusedVariables false
set_option linter.unusedSimpArgs false
namespace Go.Proofs.YtknndpjacklkeaaGreatDoor.V
open Go
namespace JV
def numV (n : Int) : JV := .mk 2 false n [] [] []
def lst (l : List JV) : JV := .mk 4 false 0 [] l []
theorem num_reps {A : List Nat} {w : World} {n : Int} : Reps A w (numV n).D [.int .i64 2, .bool false, .int .i64 n, S [], .slice none 0 0, .slice none 0 0] := by
 have := reps_ (A := A) (w := w) (v := numV n) (al := none) (am := none) (cl := 0) (cm := 0) Rep.sl_nil Rep.sl_nil
 exact this
theorem lst_reps {A : List Nat} {w : World} {l : List JV} {al : Option Addr} {cl : Nat} (R : Rep A w (.sl 6 (l.map D)) (.slice al l.length cl)) : Reps A w (lst l).D [.int .i64 4, .bool false, .int .i64 0, S [], .slice al l.length cl, .slice none 0 0] :=
 reps_ (v := lst l) (am := none) (cm := 0) R Rep.sl_nil
theorem txt_repsN {A : List Nat} {w : World} {s : Str} : Reps A w (txtV s).D [.int .i64 3, .bool false, .int .i64 0, S s, .slice none 0 0, .slice none 0 0] := txt_reps
theorem put_mem {m : List (Str × JV)} {k : Str} {x : JV} {p : Str × JV} (h : p ∈ putM m k x) : p ∈ m ∨ p = (k, x) := by
 unfold putM at h
 simp only [List.mem_append, List.mem_filter, List.mem_singleton] at h
 rcases h with (h | h) | h
 ·exact .inl h.1
 ·exact .inr h
 ·exact .inl h.1
end JV
abbrev kAuth : Str := [97, 117, 116, 104, 95, 101, 118, 101, 110, 116, 115]
abbrev kCont : Str := [99, 111, 110, 116, 101, 110, 116]
abbrev kDepth : Str := [100, 101, 112, 116, 104]
abbrev kHashes : Str := [104, 97, 115, 104, 101, 115]
abbrev kSha : Str := [115, 104, 97, 50, 53, 54]
abbrev kOts : Str := [111, 114, 105, 103, 105, 110, 95, 115, 101, 114, 118, 101, 114, 95, 116, 115]
abbrev kPrev : Str := [112, 114, 101, 118, 95, 101, 118, 101, 110, 116, 115]
abbrev kRoom : Str := [114, 111, 111, 109, 95, 105, 100]
abbrev kSender : Str := [115, 101, 110, 100, 101, 114]
abbrev kSigs : Str := [115, 105, 103, 110, 97, 116, 117, 114, 101, 115]
abbrev kType : Str := [116, 121, 112, 101]
abbrev kState : Str := [115, 116, 97, 116, 101, 95, 107, 101, 121]
namespace EV
open JV
def one (m : List (Str × JV)) (k : Str) : JV := (look m k).getD JV.nul
def sgStep (m : List (Str × JV)) (s : Sig3) : List (Str × JV) := putM m s.srv (obj (putM (one m s.srv).map s.key (txtV s.sig)))
def sg (l : List Sig3) (k : Nat) : List (Str × JV) := (l.take k).foldl sgStep []
theorem sg_zero (l : List Sig3) : sg l 0 = [] := by simp [sg]
theorem sg_succ {l : List Sig3} {k : Nat} {s : Sig3} (h : l[k]? = some s) : sg l (k + 1) = sgStep (sg l k) s := by
 have hlt := (List.getElem?_eq_some_iff.1 h).1
 rw [sg, List.take_succ_eq_append_getElem hlt, (List.getElem?_eq_some_iff.1 h).2, List.foldl_append]
 rfl
structure SgI (m : List (Str × JV)) (n : Nat) : Prop where
 asc : ascM m
 len : m.length ≤ n
 each : ∀ p ∈ m, ∃ m', p.2 = obj m' ∧ ascM m' ∧ m'.length ≤ n
theorem SgI.one_ {m : List (Str × JV)} {n : Nat} (h : SgI m n) (k : Str) : (one m k).tbl = (one m k).map ∧ ascM (one m k).map ∧ (one m k).map.length ≤ n := by
 unfold one
 cases hl : look m k with
 | none => exact ⟨by simp [JV.nul, JV.tbl, JV.map, JV.kind], by simp [JV.nul, JV.map, ascM], by simp [JV.nul, JV.map]⟩
 | some y =>
  obtain ⟨m', h1, h2, h3⟩ := h.each _ (look_some hl)
  have h1' : y = obj m' := h1
  subst h1'
  exact ⟨by simp [obj, tbl, map, kind], h2, h3⟩
theorem SgI.step {m : List (Str × JV)} {n : Nat} {s : Sig3} (h : SgI m n) : SgI (sgStep m s) (n + 1) := by
 obtain ⟨_, h2, h3⟩ := h.one_ s.srv
 refine ⟨ascM_put h.asc, Nat.le_trans (putM_len h.asc) (by have := h.len; omega), fun p hp => ?_⟩
 rcases put_mem hp with hp | rfl
 ·obtain ⟨m', h4, h5, h6⟩ := h.each p hp
  exact ⟨m', h4, h5, by omega⟩
 ·exact ⟨_, rfl, ascM_put h2, Nat.le_trans (putM_len h2) (by omega)⟩
theorem sg_inv (l : List Sig3) : ∀ k, SgI (sg l k) k
 | 0 => by rw [sg_zero]; exact ⟨by simp [ascM], by simp, by simp⟩
 | k + 1 => by
  rcases Nat.lt_or_ge k l.length with h | h
  ·rw [sg_succ (List.getElem?_eq_getElem h)]
   exact (sg_inv l k).step
  ·have e : sg l (k + 1) = sg l k := by unfold sg; rw [List.take_of_length_le (by omega), List.take_of_length_le h]
   rw [e]
   obtain ⟨h1, h2, h3⟩ := sg_inv l k
   exact ⟨h1, by omega, fun p hp => by obtain ⟨m', h4, h5, h6⟩ := h3 p hp; exact ⟨m', h4, h5, by omega⟩⟩
def mem10 (e : EV) : List (Str × JV) := [(kAuth, lst (e.auth.map txtV)), (kCont, e.con), (kDepth, numV e.dep), (kHashes, obj [(kSha, txtV e.hash)]), (kOts, numV e.time), (kPrev, lst (e.prev.map txtV)), (kRoom, txtV e.room), (kSender, txtV e.snd), (kSigs, obj (sg e.sigs e.sigs.length)), (kType, txtV e.ty)]
def memR (e : EV) : List (Str × JV) := e.mem10 ++ (if e.st then [(kState, txtV e.key)] else [])
def memV (e : EV) : List (Str × JV) := if e.st then putM e.mem10 kState (txtV e.key) else e.mem10
def val (e : EV) : JV := obj e.memV
theorem put10 (e : EV) : putAll e.mem10 10 = e.mem10 := by kernel_rfl
theorem putR (e : EV) : putAll e.memR e.memR.length = e.memV := by
 unfold memR memV
 cases e.st with
 | false => rw [if_neg (by simp), if_neg (by simp), List.append_nil]; exact e.put10
 | true =>
  rw [if_pos rfl, if_pos rfl]
  have h1 : (e.mem10 ++ [(kState, txtV e.key)])[10]? = some (kState, txtV e.key) := rfl
  have h2 := putAll_succ h1
  have h3 : putAll (e.mem10 ++ [(kState, txtV e.key)]) 10 = putAll e.mem10 10 := by rw [putAll, putAll]; rfl
  rw [h3, put10] at h2
  exact h2
noncomputable def ern (e : EV) : Int := if e.chk ≠ 0 then e.chk else Go.Proofs.YtknndpjacklkeaaGreatDoor.V.ern (e.val.wr 0 [])
noncomputable def txt (e : EV) : Str := if e.chk ≠ 0 then [] else bts (e.val.wr 0 [])
end EV
end Go.Proofs.YtknndpjacklkeaaGreatDoor.V

set_option linter.unusedVariables false
set_option linter.unusedSimpArgs false
set_option maxRecDepth 10000
namespace Go.Proofs.YtknndpjacklkeaaGreatDoor.V
open Go Go.Proofs
theorem ent75 : Ent Tryz.prog 75 := Ent.of Tryz.func75 (by kernel_rfl) (by kernel_rfl)
theorem ent21 : Ent Tryz.prog 21 := Ent.of Tryz.func21 (by kernel_rfl) (by kernel_rfl)
theorem c_jtext (w : World) (s : Str) : Calls Tryz.prog 75 [S s].toArray w (Ret fun u w' => u = .agg #[.int .i64 3, .bool false, .int .i64 0, S s, .slice none 0 0, .slice none 0 0] ∧ Mod [] w w') := by
 refine enter Tryz.func75 rfl rfl rfl (l := [(0, _)]) ⟨rfl, trivial⟩ ?_
 have E := Mod.refl [] w
 refine Cq fun K1 hK1 => Cr (s_alloc zv25 rfl fun g1 w1 N1 => ?_)
 have Lg1_E := N1.le E
 replace E := E.then N1.mod
 have Bg1 := N1.blk
 refine Ln (e_K (hK1 _ _ _ _ (Cq fun K2 hK2 => Cr (Zm rfl (Sv (o_build (cs := [_, _, _, _, _, _]) pl25 zv25 rfl rfl) (s_sta (vs := [_, _, _, _, _, _]) ag25 Bg1 rfl rfl rfl (by simp [Value.oneCell']) (by simp) fun w2 P2 => ?_))))))
 replace E := E.own P2.mod Lg1_E
 replace Bg1 : Blk w2 g1 _ [_, _, _, _, _, _] := P2.blk
 exact Ln (e_K (hK2 _ _ _ _ (cR (retc (vs := [_, _, _, _, _, _]) rfl ag25 rfl rfl (Bg1.cs rfl) ⟨rfl, E⟩))))

theorem c_text11 (w : World) (s : Str) : Calls Tryz.prog 79 [S s].toArray w (Ret fun u w' => u = .agg #[.int .i64 3, .bool false, .int .i64 0, S s, .slice none 0 0, .slice none 0 0] ∧ Mod [] w w') := by
 refine enter Tryz.func79 rfl rfl rfl (l := [(0, _)]) ⟨rfl, trivial⟩ ?_
 have E := Mod.refl [] w
 refine Cq fun K1 hK1 => Cr (s_alloc zv25 rfl fun g1 w1 N1 => ?_)
 have Lg1_E := N1.le E
 replace E := E.then N1.mod
 have Bg1 := N1.blk
 refine Ln (e_K (hK1 _ _ _ _ (Cq fun K2 hK2 => Cr (Zm rfl (Sv (o_build (cs := [_, _, _, _, _, _]) pl25 zv25 rfl rfl) (s_sta (vs := [_, _, _, _, _, _]) ag25 Bg1 rfl rfl rfl (by simp [Value.oneCell']) (by simp) fun w2 P2 => ?_))))))
 replace E := E.own P2.mod Lg1_E
 replace Bg1 : Blk w2 g1 _ [_, _, _, _, _, _] := P2.blk
 exact Ln (e_K (hK2 _ _ _ _ (cR (retc (vs := [_, _, _, _, _, _]) rfl ag25 rfl rfl (Bg1.cs rfl) ⟨rfl, E⟩))))

theorem c_jnum (w : World) (n : Int) : Calls Tryz.prog 20 [.int .i64 n].toArray w (Ret fun u w' => u = .agg #[.int .i64 2, .bool false, .int .i64 n, S [], .slice none 0 0, .slice none 0 0] ∧ Mod [] w w') := by
 refine enter Tryz.func20 rfl rfl rfl (l := [(0, _)]) ⟨rfl, trivial⟩ ?_
 have E := Mod.refl [] w
 refine Cq fun K1 hK1 => Cr (s_alloc zv25 rfl fun g1 w1 N1 => ?_)
 have Lg1_E := N1.le E
 replace E := E.then N1.mod
 have Bg1 := N1.blk
 refine Ln (e_K (hK1 _ _ _ _ (Cq fun K2 hK2 => Cr (Zm rfl (Sv (o_build (cs := [_, _, _, _, _, _]) pl25 zv25 rfl rfl) (s_sta (vs := [_, _, _, _, _, _]) ag25 Bg1 rfl rfl rfl (by simp [Value.oneCell']) (by simp) fun w2 P2 => ?_))))))
 replace E := E.own P2.mod Lg1_E
 replace Bg1 : Blk w2 g1 _ [_, _, _, _, _, _] := P2.blk
 exact Ln (e_K (hK2 _ _ _ _ (cR (retc (vs := [_, _, _, _, _, _]) rfl ag25 rfl rfl (Bg1.cs rfl) ⟨rfl, E⟩))))

theorem c_jlist (A : List Nat) (w : World) (hA : ∀ a ∈ A, a < w.heap.size) (l : List JV) (v : Value) (R : Rep A w (.sl 6 (l.map JV.D)) v) (hn : l.length ≤ 1000000) : Calls Tryz.prog 21 [v].toArray w (Ret fun u w' => ∃ us', u = .agg us'.toArray ∧ Reps A w' (JV.lst l).D us' ∧ Mod [] w w') := by
 refine enter Tryz.func21 rfl rfl rfl (l := [(0, _)]) ⟨rfl, trivial⟩ ?_
 have E := Mod.refl [] w
 obtain ⟨ad, c, rfl, hc1, hc2⟩ : ∃ ad c, v = .slice ad l.length c ∧ l.length ≤ c ∧ c ≤ 9223372036854775807 := by
  obtain ⟨ad, c, h1, h2, h3⟩ := R.sl_
  rw [List.length_map] at h1 h2
  exact ⟨ad, c, h1, h2, h3⟩
 obtain ⟨vs, hvs, hvl, hsrc⟩ := Src.rep0 (P := Tryz.prog) Tryz.underlying22 R
 rw [List.length_map] at hvl hsrc
 refine Cq fun K1 hK1 => Cr (s_alloc zv25 rfl fun g1 w1 N1 => ?_)
 have Lg1_E := N1.le E
 replace E := E.then N1.mod
 have Bg1 := N1.blk
 refine Ln (e_K (hK1 _ _ _ _ (Cq fun K2 hK2 => Cr (s_bslice (cs := []) sl22 zv25 rfl rfl rfl (by decide) rfl fun g2 w2 N2 => ?_))))
 have Lg2_E := N2.le E
 have Dg1_g2 := N2.ne Bg1
 replace Bg1 := Bg1.mod0 N2.mod
 replace E := E.then N2.mod
 have Bg2 := N2.blk
 refine Zm rfl (s_append sl22 rfl rfl (Own.all (c := 0) (cs := []) Bg2 rfl (by omega)) (hsrc _ E) (by decide) (by omega) (by omega) rfl fun v1 w3 A1 => ?_)
 have L1 : ∀ x ∈ ob v1, w.heap.size ≤ x := fun x hx => (A1.ob_ x hx).elim (fun h => by simp [ob] at h; subst h; exact Lg2_E) (fun h => Nat.le_trans (Nat.le_trans Lg2_E (Nat.le_of_lt Bg2.lt)) h)
 have D1 : ∀ x ∈ ob v1, x ≠ g1 := fun x hx => (A1.ob_ x hx).elim (fun h => by simp [ob] at h; subst h; exact Dg1_g2.symm) (fun h e => by have := Bg1.lt; omega)
 replace Bg1 := Bg1.mod A1.mod (fun h => by simp [ob] at h; exact Dg1_g2 h)
 replace E := E.trans' A1.mod (fun x hx => .inr (by simp [ob] at hx; subst hx; exact Lg2_E))
 have O1 : Own w3 25 6 v1 l.length vs := A1.own.same (by simp) (by simp)
 obtain ⟨ad2, c2, rfl, hd1, hd2⟩ := O1.form
 refine Sv (o_build (cs := [_, _, _, _, _, _]) pl25 zv25 rfl rfl) (s_sta (vs := [_, _, _, _, _, _]) ag25 Bg1 rfl rfl rfl (by simp [Value.oneCell']) (by simp) fun w4 P4 => ?_)
 replace E := E.own P4.mod Lg1_E
 replace O1 := O1.put P4.mod D1
 replace Bg1 : Blk w4 g1 _ [_, _, _, _, _, _] := P4.blk
 exact Ln (e_K (hK2 _ _ _ _ (cR (retc (vs := [_, _, _, _, _, _]) rfl ag25 rfl rfl (Bg1.cs rfl) ⟨_, rfl, JV.lst_reps (Own.rep O1 (hvs.to0 E) (fun r hr => by obtain ⟨x_, _, rfl⟩ := List.mem_map.1 hr; exact JV.D_len _) (by simp) (fun x hx h => by have := L1 x hx; have := hA x h; omega)), E⟩))))

theorem c_etexts (A : List Nat) (w : World) (hA : ∀ a ∈ A, a < w.heap.size) (xs : List Str) (ax : Option Addr) (cx : Nat) (R : Rep [] w (strD xs) (.slice ax xs.length cx)) (hn : xs.length ≤ 1000000) : Calls Tryz.prog 76 [.slice ax xs.length cx].toArray w (Ret fun u w' => ∃ us', u = .agg us'.toArray ∧ Reps A w' (JV.lst (xs.map JV.txtV)).D us' ∧ Mod [] w w') := by
 refine enter Tryz.func76 rfl rfl rfl (l := [(0, _)]) ⟨rfl, trivial⟩ ?_
 have E := Mod.refl [] w
 obtain ⟨_, c9, hfl, hcc1, hcc2⟩ := flat_len R
 injection hfl with _ _ hfc
 subst hfc
 refine Cq fun K1 hK1 => Cr (s_alloc zv25 rfl fun g1 w1 N1 => ?_)
 have Lg1_E := N1.le E
 replace E := E.then N1.mod
 have Bg1 := N1.blk
 refine Ln (e_K (hK1 _ _ _ _ (Cq fun K2 hK2 => Cr (Za rfl (Ln (e_K (hK2 _ _ _ _ (Cq fun K3 hK3 => Cq fun K4 hK4 => Cr (Zm rfl (Sv (o_len Tryz.underlying45 rfl) (Zm rfl (Ln ?_))))))))))))
 refine e_K (hK4 _ _ _ _ (cB (c_loop (σ := Nat × Value × List Value) (fun ⟨k, wv, vs⟩ => [(2, .pointer (some ⟨g1, 0, none⟩)), (3, wv), (6, .slice ax xs.length cx), (7, .int .i64 xs.length), (8, .int .i64 (k : Int))]) (fun ⟨k, wv, vs⟩ w1 => k ≤ xs.length ∧ GL (g1 :: A) w w1 25 6 wv k ((xs.take k).map fun s => (JV.txtV s).D) vs ∧ Blk w1 g1 25 [.int .i64 0, .bool false, .int .i64 0, S [], .slice none 0 0, .slice none 0 0] ∧ Mod [] w w1) (fun ⟨k, wv, vs⟩ => xs.length - k) (⟨0, .slice none 0 0, []⟩) ⟨rfl, rfl, rfl, rfl, rfl, trivial⟩ (⟨by omega, GL.nil (fun a ha => by rcases List.mem_cons.1 ha with rfl | ha; exact Bg1.lt; exact Nat.lt_of_lt_of_le (hA a ha) E.size), Bg1, E⟩) ?_)))
 rintro ⟨k, wv, vs⟩ w2 ⟨hk, GG, Bg1, E⟩
 have Ek := Mod.refl [] w2
 refine Cq fun K5 hK5 => Cr (Sv (o_lss rfl rfl) (Ln (e_K (hK5 _ _ _ _ (Cq fun K6 hK6 => ?_)))))
 refine c_if rfl (fun h9 => ?_) (fun h9 => ?_)
 ·obtain ⟨x, hx_x⟩ : ∃ x, xs[k]? = some x := ⟨_, List.getElem?_eq_getElem (by omega)⟩
  obtain ⟨a_x, ha_x, hcs_x, _⟩ := flat_at (R.to0 E) hx_x
  cases ha_x
  refine cK (e_K (hK6 _ _ _ _ (Cq fun K7 hK7 => cB (Cq fun K8 hK8 => Cr (Sv (o_ix sl45 rfl rfl (by omega)) (Sv (oL sc9 rfl hcs_x.first) (Za rfl (Ln (e_K (hK8 _ _ _ _ (Cr (tW 2 rfl (sc (oC ent75 rfl) (c_jtext _ x) rfl fun v_ w3 h_ => ?_)))))))))))))
  obtain ⟨rfl, E_⟩ := h_
  replace Bg1 := Bg1.mod0 E_
  replace E := E.then E_
  replace Ek := Ek.then E_
  refine s_bslice (cs := [_, _, _, _, _, _]) sl22 zv25 rfl rfl rfl (by decide) rfl fun g2 w4 N2 => ?_
  have Lg2_E := N2.le E
  have Lg2_Ek := N2.le Ek
  have Dg1_g2 := N2.ne Bg1
  replace Bg1 := Bg1.mod0 N2.mod
  replace E := E.then N2.mod
  replace Ek := Ek.then N2.mod
  have Bg2 := N2.blk
  have GN := GG.mod0 Ek
  refine s_append sl22 rfl rfl GN.own (Src.own Tryz.underlying22 (Own.all (cs := [_, _, _, _, _, _]) Bg2 rfl (by omega)) (by simp [Value.oneCell', B8])) (by decide) (by omega) (by omega) rfl fun wv2 w5 AA => ?_
  replace Bg1 := Bg1.mod AA.mod (fun hx => GN.dj _ hx (by simp))
  have GG2 := GN.app E AA rfl JV.txt_repsN
  rw [← take_map_succ (fun s => (JV.txtV s).D) hx_x] at GG2
  replace E := E.trans' AA.mod (fun y hy => .inr (GN.fr y hy))
  exact Za rfl (Ln (eI (by simp) (e_K (hK7 _ _ _ _ (Cr (Sv (o_addN rfl rfl (by omega)) (Zm rfl (Ln (eR (σ := Nat × Value × List Value) (s := ⟨k, wv, vs⟩) (⟨k + 1, wv2, vs ++ _⟩) ⟨rfl, rfl, rfl, rfl, rfl, trivial⟩ ⟨by omega, GG2, Bg1, E⟩ (by dsimp only; omega))))))))))
 ·have hkl : k = xs.length := by omega
  subst hkl
  have RL0 := GG.rep (fun r hr => by obtain ⟨x_, _, rfl⟩ := List.mem_map.1 hr; exact JV.D_len _) (by simp)
  rw [List.take_length, show (xs.map fun s => (JV.txtV s).D) = (xs.map JV.txtV).map JV.D by simp] at RL0
  refine c_exit (eT (by simp) (eT (by simp) (e_hit (e_K (hK3 _ _ _ _ (Cq fun K9 hK9 => Cr (Zm rfl (sc (oC ent21 rfl) (c_jlist (g1 :: A) _ GG.al (xs.map JV.txtV) _ RL0 (by simp; omega)) rfl fun v_ w6 h_ => ?_))))))))
  obtain ⟨us3, rfl, Rx3, E_⟩ := h_
  replace Bg1 := Bg1.mod0 E_
  replace E := E.then E_
  replace Ek := Ek.then E_
  obtain ⟨al3, cl3, am3, cm3, rfl, Rl3, Rm3⟩ := JV.cells_ Rx3
  replace Rx3 := JV.reps_ Rl3 Rm3
  refine s_sta (vs := [_, _, _, _, _, _]) ag25 Bg1 rfl rfl rfl (by simp [Value.oneCell']) (by simp) fun w7 P7 => ?_
  replace E := E.own P7.mod Lg1_E
  replace Bg1 : Blk w7 g1 _ [_, _, _, _, _, _] := P7.blk
  replace Rx3 := Rx3.toM P7.mod (fun a ha => by simp [List.mem_singleton.1 ha])
  exact Ln (e_K (hK9 _ _ _ _ (cR (retc (vs := [_, _, _, _, _, _]) rfl ag25 rfl rfl (Bg1.cs rfl) ⟨_, rfl, Rx3.anti (A' := A) (fun a ha => by simp [ha]), E⟩))))
end Go.Proofs.YtknndpjacklkeaaGreatDoor.V

set_option linter.unusedVariables false
set_option linter.unusedSimpArgs false
namespace Go.Proofs.YtknndpjacklkeaaGreatDoor.V
open Go
theorem GL.new {A : List Nat} {w0 w1 w2 : World} {g e sz n : Nat} {cs : List Value} {rows : List (List D)} (N : New w1 w2 g e cs) (R : Reps A w1 rows.flatten cs) (hA : ∀ a ∈ A, a < w1.heap.size) (h0 : w0.heap.size ≤ w1.heap.size) (hl : cs.length = n * sz) (hn : n ≤ 9223372036854775807) : GL A w0 w2 e sz (.slice (some ⟨g, 0, none⟩) n n) n rows cs := by
 have hg := N.at_
 refine ⟨Own.all N.blk hl hn, Reps.to N.mod (by simp) (fun x hx => ?_) _ _ R, fun y hy => ?_, fun y hy ha => ?_, fun a ha => Nat.lt_of_lt_of_le (hA a ha) N.mod.size⟩
 ·rcases List.mem_append.1 hx with h | h
  ·exact .inl h
  ·simp only [ob, List.mem_singleton] at h
   exact .inr (by omega)
 ·simp only [ob, List.mem_singleton] at hy
  omega
 ·simp only [ob, List.mem_singleton] at hy
  have := hA y ha
  omega
theorem GL.bs {P : Program} {l : List (Nat × Value)} {dd : Option Nat} {t : TypeId} {ty : TypeId} {pos : String} {af : Array Edge} {gg : Option (Nat × Bool)} {ps : List (Nat × Operand)} {us : List (Nat × Value)} {e c sz by_ : Nat} {zs cs : List Value} {A : List Nat} {w0 w : World} {rows : List (List D)} (ht : slB P t e sz by_ = true) (hz : zvB P e zs) (hx : evP l ps = some us)
  (hf : fillF (fun i => some (i * sz, sz)) ((List.replicate c zs).flatten) us = some cs) (hzl : zs.length = sz) (hc : c * sz ≤ 16777216) (R : Reps A w rows.flatten cs) (hA : ∀ a ∈ A, a < w.heap.size) (h0 : w0.heap.size ≤ w.heap.size) (hl : cs.length = c * sz) (hn : c ≤ 9223372036854775807) :
  ∃ v w2, Runs P l ⟨dd, .buildSlice t c ps.toArray, ty, pos, af, gg⟩ w v w2 ∧ Mod [] w w2 ∧ ∃ vs, GL A w0 w2 e sz v c rows vs := by
 have N := New.mk' w e cs
 exact ⟨_, _, r_bslice ht hz hx hf hzl hc, N.mod, cs, GL.new N R hA h0 hl hn⟩
theorem GL.toM {A M : List Nat} {w0 w w' : World} {e sz n : Nat} {wv : Value} {rows : List (List D)} {vs : List Value} (G : GL A w0 w e sz wv n rows vs) (k : Mod M w w') (hM : ∀ x ∈ M, x ∈ A) : GL A w0 w' e sz wv n rows vs :=
 ⟨G.own.mod k (fun x hx h => G.dj x hx (hM x h)), G.rd.toM k (fun x hx => List.mem_append_left _ (hM x hx)), G.fr, G.dj, fun a ha => Nat.lt_of_lt_of_le (G.al a ha) k.size⟩
theorem bslice_blk {P : Program} {l : List (Nat × Value)} {dd : Option Nat} {t : TypeId} {ty : TypeId} {pos : String} {af : Array Edge} {gg : Option (Nat × Bool)} {ps : List (Nat × Operand)} {us : List (Nat × Value)} {e c sz by_ : Nat} {zs cs : List Value} {w : World} (ht : slB P t e sz by_ = true) (hz : zvB P e zs) (hx : evP l ps = some us)
  (hf : fillF (fun i => some (i * sz, sz)) ((List.replicate c zs).flatten) us = some cs) (hzl : zs.length = sz) (hc : c * sz ≤ 16777216) :
  ∃ w2, Runs P l ⟨dd, .buildSlice t c ps.toArray, ty, pos, af, gg⟩ w (.slice (some ⟨w.heap.size, 0, none⟩) c c) w2 ∧ Mod [] w w2 ∧ Blk w2 w.heap.size e cs := by
 have N := New.mk' w e cs
 exact ⟨_, r_bslice ht hz hx hf hzl hc, N.mod, N.blk⟩
theorem Blk.neT {w : World} {g g' T T' : Nat} {cs cs' : List Value} (h : Blk w g T cs) (h' : Blk w g' T' cs') (hT : T ≠ T') : g ≠ g' := fun e => by
 subst e
 unfold Blk at h h'
 rw [h] at h'
 injection h' with h'
 injection h' with _ h'
 exact hT h'
theorem JV.lst_repsN {A : List Nat} {w : World} {l : List JV} {al : Option Addr} {cl n : Nat} (hn : l.length = n) (R : Rep A w (.sl 6 (l.map JV.D)) (.slice al n cl)) : Reps A w (JV.lst l).D [.int .i64 4, .bool false, .int .i64 0, S [], .slice al n cl, .slice none 0 0] := by
 subst hn
 exact JV.lst_reps R
theorem RepRow.flat_ {A A' : List Nat} {w : World} {a : Addr} : ∀ {j : Nat} {r : List D}, (∀ d ∈ r, (∃ x, d = .v x) ∨ ∃ sz, d = .sl sz []) → RepRow A w a j r → RepRow A' w a j r
 | j, [], _, _ => by simp only [RepRow]
 | j, d :: ds, hd, h => by
  simp only [RepRow] at h ⊢
  obtain ⟨⟨u, hc, hr⟩, ht⟩ := h
  refine ⟨⟨u, hc, ?_⟩, RepRow.flat_ (fun d' h' => hd d' (List.mem_cons_of_mem _ h')) ht⟩
  rcases hd d (List.mem_cons_self ..) with ⟨x, rfl⟩ | ⟨sz, rfl⟩
  ·simpa only [Rep] using hr
  ·simp only [Rep] at hr ⊢
   obtain ⟨ad, c, h1, h2, h3, _⟩ := hr
   exact ⟨ad, c, h1, h2, h3, fun h => absurd rfl h⟩
theorem RepRows.flat_ {A A' : List Nat} {w : World} {sz : Nat} {a : Addr} : ∀ {i : Nat} {rows : List (List D)}, (∀ r ∈ rows, ∀ d ∈ r, (∃ x, d = .v x) ∨ ∃ sz, d = .sl sz []) → RepRows A w sz a i rows → RepRows A' w sz a i rows
 | i, [], _, _ => by simp only [RepRows]
 | i, r :: rs, hd, h => by
  simp only [RepRows] at h ⊢
  exact ⟨h.1, RepRow.flat_ (hd r (List.mem_cons_self ..)) h.2.1, RepRows.flat_ (fun r' h' => hd r' (List.mem_cons_of_mem _ h')) h.2.2⟩
theorem JV.txts_off {A : List Nat} {w : World} {xs : List Str} {ad : Option Addr} {n c g T : Nat} (R : Rep A w (.sl 6 ((xs.map JV.txtV).map JV.D)) (.slice ad n c)) (hg : Blk w g T [.int .i64 0, .bool false, .int .i64 0, S [], .slice none 0 0, .slice none 0 0]) : Rep (g :: A) w (.sl 6 ((xs.map JV.txtV).map JV.D)) (.slice ad n c) := by
 cases xs with
 | nil =>
  simp only [List.map_nil] at R ⊢
  simp only [Rep] at R ⊢
  obtain ⟨ad', c', h1, h2, h3, _⟩ := R
  exact ⟨ad', c', h1, h2, h3, fun h => absurd rfl h⟩
 | cons x r =>
  have hD : ∀ y : Str, (JV.txtV y).D = [.v (.int .i64 3), .v (.bool false), .v (.int .i64 0), .v (S y), .sl 6 [], .sl 7 []] := fun y => by rw [JV.D_eq]; rfl
  have R0 := R
  simp only [List.map_cons, hD] at R0
  obtain ⟨a, rfl, ha⟩ := Rep.off_ R0 hg (by simp [S])
  simp only [Rep] at R ⊢
  obtain ⟨ad', c', h1, h2, h3, h4⟩ := R
  refine ⟨ad', c', h1, h2, h3, fun hn => ?_⟩
  obtain ⟨a', h7, h8, h9, h10⟩ := h4 hn
  injection h1 with h1 h5 h6
  have h11 : some a = some a' := h1.trans h7
  injection h11 with h11
  subst h11
  refine ⟨a, h7, fun h => (List.mem_cons.1 h).elim ha h8, h9, RepRows.flat_ (fun r' hr' d hd => ?_) h10⟩
  obtain ⟨v, hv, rfl⟩ := List.mem_map.1 hr'
  obtain ⟨y, _, rfl⟩ := List.mem_map.1 hv
  rw [hD] at hd
  simp only [List.mem_cons, List.not_mem_nil, or_false] at hd
  rcases hd with rfl | rfl | rfl | rfl | rfl | rfl
  all_goals first | exact .inl ⟨_, rfl⟩ | exact .inr ⟨_, rfl⟩
theorem JV.ltx_off {A : List Nat} {w : World} {xs : List Str} {us : List Value} {g T : Nat} (R : Reps A w (JV.lst (xs.map JV.txtV)).D us) (hg : Blk w g T [.int .i64 0, .bool false, .int .i64 0, S [], .slice none 0 0, .slice none 0 0]) : Reps (g :: A) w (JV.lst (xs.map JV.txtV)).D us := by
 obtain ⟨al, cl, am, cm, rfl, rl, rm⟩ := JV.cells_ R
 refine JV.reps_ (JV.txts_off rl hg) ?_
 have rm' : Rep A w (.sl 7 []) (.slice am 0 cm) := rm
 show Rep (g :: A) w (.sl 7 []) (.slice am 0 cm)
 simp only [Rep] at rm' ⊢
 obtain ⟨ad', c', h1, h2, h3, _⟩ := rm'
 exact ⟨ad', c', h1, h2, h3, fun h => absurd rfl h⟩
theorem bslice_ex {P : Program} {l : List (Nat × Value)} {dd : Option Nat} {t : TypeId} {ty : TypeId} {pos : String} {af : Array Edge} {gg : Option (Nat × Bool)} {ps : List (Nat × Operand)} {us : List (Nat × Value)} {e c sz by_ : Nat} {zs cs : List Value} {w : World} {V : Value → World → Prop} (ht : slB P t e sz by_ = true) (hz : zvB P e zs) (hx : evP l ps = some us)
  (hf : fillF (fun i => some (i * sz, sz)) ((List.replicate c zs).flatten) us = some cs) (hzl : zs.length = sz) (hc : c * sz ≤ 16777216) (hV : ∀ w2, Mod [] w w2 → Blk w2 w.heap.size e cs → V (.slice (some ⟨w.heap.size, 0, none⟩) c c) w2) :
  ∃ v w2, Runs P l ⟨dd, .buildSlice t c ps.toArray, ty, pos, af, gg⟩ w v w2 ∧ Mod [] w w2 ∧ V v w2 := by
 obtain ⟨w2, h1, h2, h3⟩ := bslice_blk (P := P) (l := l) (dd := dd) (ty := ty) (pos := pos) (af := af) (gg := gg) ht hz hx hf hzl hc (w := w)
 exact ⟨_, w2, h1, h2, hV w2 h2 h3⟩
theorem JV.rows_cons {A : List Nat} {w : World} {p : Str × JV} {m : List (Str × JV)} {us vs : List Value} (h : Reps A w (JV.Dp p) us) (h' : Reps A w (m.map JV.Dp).flatten vs) : Reps A w ((p :: m).map JV.Dp).flatten (us ++ vs) := by
 rw [List.map_cons, List.flatten_cons]
 exact h.append h'
theorem JV.rows_nil {A : List Nat} {w : World} : Reps A w (([] : List (Str × JV)).map JV.Dp).flatten [] := Reps.nil_
theorem JV.row_len {m : List (Str × JV)} : ∀ r ∈ m.map JV.Dp, r.length = 7 := fun r hr => by
 obtain ⟨x, _, rfl⟩ := List.mem_map.1 hr
 exact JV.Dp_len x
theorem EV.get_one (m : List (Str × JV)) (k : Str) : ((JV.obj m).get k).getD JV.nul = EV.one m k := rfl
end Go.Proofs.YtknndpjacklkeaaGreatDoor.V

set_option linter.unusedVariables false
set_option linter.unusedSimpArgs false
set_option maxRecDepth 10000
namespace Go.Proofs.YtknndpjacklkeaaGreatDoor.V
open Go Go.Proofs
theorem ent76 : Ent Tryz.prog 76 := Ent.of Tryz.func76 (by kernel_rfl) (by kernel_rfl)
theorem ent20 : Ent Tryz.prog 20 := Ent.of Tryz.func20 (by kernel_rfl) (by kernel_rfl)
theorem c_evalue (A : List Nat) (w : World) (hA : ∀ a ∈ A, a < w.heap.size) (e : EV) (us : List Value) (R : Reps A w e.D us) (hs : e.sigs.length ≤ 1000000) (hp : e.prev.length ≤ 1000000) (ha : e.auth.length ≤ 1000000) : Calls Tryz.prog 32 [.agg us.toArray].toArray w (Ret fun u w' => ∃ us', u = .agg us'.toArray ∧ Reps A w' e.val.D us' ∧ Mod [] w w') := by
 refine enter Tryz.func32 rfl rfl rfl (l := [(0, _)]) ⟨rfl, trivial⟩ ?_
 have E := Mod.refl [] w
 obtain ⟨ale, cle, ame, cme, ape, cpe, aae, cae, aSe, cSe, rfl, Rce, Rpe, Rae, Rse⟩ := EV.cells17 R
 have Rp0 := Rpe.anti (A' := []) (by simp)
 have Ra0 := Rae.anti (A' := []) (by simp)
 have Rs0 := Rse.anti (A' := []) (by simp)
 obtain ⟨_, c9a, hfla, hcc1a, hcc2a⟩ := flat_len Rs0
 injection hfla with _ _ hfca
 subst hfca
 refine Cq fun K1 hK1 => Cr (s_box rfl rfl rfl fun g1 w1 N1 => ?_)
 have Lg1_E := N1.le E
 replace E := E.then N1.mod
 have Bg1 := N1.blk
 refine s_alloc zv25 rfl fun g2 w2 N2 => ?_
 have Lg2_E := N2.le E
 have Dg1_g2 := N2.ne Bg1
 replace Bg1 := Bg1.mod0 N2.mod
 replace E := E.then N2.mod
 have Bg2 := N2.blk
 refine Ln (e_K (hK1 _ _ _ _ (Cq fun K2 hK2 => Cr (sc (oC ent73 rfl) (c_jmap (g2 :: A) _ (fun a ha => by rcases List.mem_cons.1 ha with rfl | ha; exact Bg2.lt; exact Nat.lt_of_lt_of_le (hA a ha) E.size) [] _ Rep.sl_nil (by simp)) rfl fun v_ w3 h_ => ?_))))
 obtain ⟨us2, rfl, Ro, E_⟩ := h_
 replace Bg1 := Bg1.mod0 E_
 replace Bg2 := Bg2.mod0 E_
 replace E := E.then E_
 have Ek2 := Mod.refl [] w3
 rw [show putAll ([] : List (Str × JV)) ([] : List (Str × JV)).length = EV.sg e.sigs 0 from rfl] at Ro
 obtain ⟨al0, cl0, am0, cm0, rfl, Rl0, Rm0⟩ := JV.cells_ Ro
 replace Ro := JV.reps_ Rl0 Rm0
 refine s_alloc zv25 rfl fun g3 w4 N3 => ?_
 have Lg3_E := N3.le E
 have Lg3_Ek2 := N3.le Ek2
 have Dg1_g3 := N3.ne Bg1
 have Dg2_g3 := N3.ne Bg2
 replace Bg1 := Bg1.mod0 N3.mod
 replace Bg2 := Bg2.mod0 N3.mod
 replace E := E.then N3.mod
 replace Ek2 := Ek2.then N3.mod
 have Bg3 := N3.blk
 refine s_sta (vs := [_, _, _, _, _, _]) ag25 Bg3 rfl rfl rfl (by simp [Value.oneCell']) (by simp) fun w5 P5 => ?_
 replace Bg1 := Bg1.ne P5.mod (Ne.symm (Ne.symm Dg1_g3))
 replace Bg2 := Bg2.ne P5.mod (Ne.symm (Ne.symm Dg2_g3))
 replace E := E.own P5.mod Lg3_E
 replace Ek2 := Ek2.own P5.mod Lg3_Ek2
 replace Bg3 : Blk w5 g3 _ [_, _, _, _, _, _] := P5.blk
 refine Ln (e_K (hK2 _ _ _ _ (Cq fun K3 hK3 => Cq fun K4 hK4 => ?_)))
 have Ro2 := (Ro.more (A' := (g2 :: g3 :: A)) (fun a ha => by rcases List.mem_cons.1 ha with rfl | ha; exact .inl (by simp); rcases List.mem_cons.1 ha with rfl | ha; exact .inr Lg3_Ek2; exact .inl (by simp [ha]))).to0 Ek2
 refine Cr (Sv (oA0 fd48_11 rfl) (Sv (oL sc46 rfl (Bg1.cell rfl)) (Sv (o_len Tryz.underlying46 rfl) (Zm rfl (Ln (e_K (hK4 _ _ _ _ (cB (c_loop (σ := Nat × Option Addr × Nat × Option Addr × Nat) (fun ⟨k, al, cl, am, cm⟩ => [(1, .pointer (some ⟨g1, 0, none⟩)), (2, .pointer (some ⟨g2, 0, none⟩)), (3, .pointer (some ⟨g3, 0, none⟩)), (11, .slice aSe e.sigs.length cSe), (12, .int .i64 e.sigs.length), (13, .int .i64 (k : Int))]) (fun ⟨k, al, cl, am, cm⟩ w1 => k ≤ e.sigs.length ∧ Reps (g2 :: g3 :: A) w1 (JV.obj (EV.sg e.sigs k)).D [.int .i64 5, .bool false, .int .i64 0, S [], .slice al 0 cl, .slice am ((EV.sg e.sigs k)).length cm] ∧ Blk w1 g3 25 [.int .i64 5, .bool false, .int .i64 0, S [], .slice al 0 cl, .slice am ((EV.sg e.sigs k)).length cm] ∧ Blk w1 g2 25 [.int .i64 0, .bool false, .int .i64 0, S [], .slice none 0 0, .slice none 0 0] ∧ Blk w1 g1 48 [S e.room, S e.snd, S e.ty, .bool e.st, S e.key, .int .i64 e.con.kind, .bool e.con.is, .int .i64 e.con.num, S e.con.str, .slice ale e.con.list.length cle, .slice ame e.con.map.length cme, .slice ape e.prev.length cpe, .slice aae e.auth.length cae, .int .i64 e.dep, .int .i64 e.time, S e.hash, .slice aSe e.sigs.length cSe] ∧ Mod [] w w1) (fun ⟨k, al, cl, am, cm⟩ => e.sigs.length - k) (⟨0, al0, cl0, am0, cm0⟩) ⟨rfl, rfl, rfl, rfl, rfl, rfl, trivial⟩ (⟨by omega, Ro2, Bg3, Bg2, Bg1, E⟩) ?_)))))))))
 rintro ⟨k, al, cl, am, cm⟩ w6 ⟨hk, Rk, Bg3, Bg2, Bg1, E⟩
 have Ek := Mod.refl [] w6
 refine Cq fun K5 hK5 => Cr (Sv (o_lss rfl rfl) (Ln (e_K (hK5 _ _ _ _ (Cq fun K6 hK6 => ?_)))))
 refine c_if rfl (fun h14 => ?_) (fun h14 => ?_)
 ·obtain ⟨x, hx_x⟩ : ∃ x, e.sigs[k]? = some x := ⟨_, List.getElem?_eq_getElem (by omega)⟩
  obtain ⟨a_x, ha_x, hcs_x, _⟩ := flat_at (Rs0.to0 E) hx_x
  cases ha_x
  have hI := EV.sg_inv e.sigs k
  obtain ⟨hI1, hI2, hI3⟩ := hI.one_ x.srv
  have hIl := hI.len
  refine cK (e_K (hK6 _ _ _ _ (Cq fun K7 hK7 => cB (Cq fun K8 hK8 => Cr (Sv (o_ix sl46 rfl rfl (by omega)) (Sv (o_lda ag85 rfl rfl hcs_x) (s_alloc zv85 rfl fun g4 w7 N4 => ?_)))))))
  have Lg4_E := N4.le E
  have Lg4_Ek := N4.le Ek
  have Dg1_g4 := N4.ne Bg1
  have Dg2_g4 := N4.ne Bg2
  have Dg3_g4 := N4.ne Bg3
  replace Bg1 := Bg1.mod0 N4.mod
  replace Bg2 := Bg2.mod0 N4.mod
  replace Bg3 := Bg3.mod0 N4.mod
  replace E := E.then N4.mod
  replace Ek := Ek.then N4.mod
  have Bg4 := N4.blk
  refine s_sta (vs := [_, _, _]) ag85 Bg4 rfl rfl rfl (by simp [Value.oneCell']) (by simp) fun w8 P8 => ?_
  replace Bg1 := Bg1.ne P8.mod (Ne.symm (Ne.symm Dg1_g4))
  replace Bg2 := Bg2.ne P8.mod (Ne.symm (Ne.symm Dg2_g4))
  replace Bg3 := Bg3.ne P8.mod (Ne.symm (Ne.symm Dg3_g4))
  replace E := E.own P8.mod Lg4_E
  replace Ek := Ek.own P8.mod Lg4_Ek
  replace Bg4 : Blk w8 g4 _ [_, _, _] := P8.blk
  refine Ln (e_K (hK8 _ _ _ _ (Cq fun K9 hK9 => Cr (Sv (o_lda (vs := [_, _, _, _, _, _]) ag25 rfl rfl (Bg3.cs rfl)) (Sv (oA0 fd85_0 rfl) (Sv (oL sc9 rfl (Bg4.cell rfl)) (sc (oC ent74 rfl) (c_jget (g2 :: g3 :: A) _ _ Ek (JV.obj (EV.sg e.sigs k)) _ Rk x.srv hI.asc (by show (EV.sg e.sigs k).length ≤ _; omega)) rfl fun v_ w9 h_ => ?_)))))))
  obtain ⟨us3, rfl, Rg0, E_⟩ := h_
  replace Bg1 := Bg1.mod0 E_
  replace Bg2 := Bg2.mod0 E_
  replace Bg3 := Bg3.mod0 E_
  replace Bg4 := Bg4.mod0 E_
  replace E := E.then E_
  replace Ek := Ek.then E_
  rw [EV.get_one] at Rg0
  obtain ⟨al3, cl3, am3, cm3, rfl, Rl3, Rm3⟩ := JV.cells_ Rg0
  replace Rg0 := JV.reps_ Rl3 Rm3
  have Rg := (Rg0.to0 Ek)
  have Ekg := Mod.refl [] w9
  refine tW 3 rfl (s_alloc zv25 rfl fun g5 w10 N5 => ?_)
  have Lg5_E := N5.le E
  have Lg5_Ek := N5.le Ek
  have Lg5_Ekg := N5.le Ekg
  have Dg1_g5 := N5.ne Bg1
  have Dg2_g5 := N5.ne Bg2
  have Dg3_g5 := N5.ne Bg3
  have Dg4_g5 := N5.ne Bg4
  replace Bg1 := Bg1.mod0 N5.mod
  replace Bg2 := Bg2.mod0 N5.mod
  replace Bg3 := Bg3.mod0 N5.mod
  replace Bg4 := Bg4.mod0 N5.mod
  replace E := E.then N5.mod
  replace Ek := Ek.then N5.mod
  replace Ekg := Ekg.then N5.mod
  have Bg5 := N5.blk
  refine s_sta (vs := [_, _, _, _, _, _]) ag25 Bg5 rfl rfl rfl (by simp [Value.oneCell']) (by simp) fun w11 P11 => ?_
  replace Bg1 := Bg1.ne P11.mod (Ne.symm (Ne.symm Dg1_g5))
  replace Bg2 := Bg2.ne P11.mod (Ne.symm (Ne.symm Dg2_g5))
  replace Bg3 := Bg3.ne P11.mod (Ne.symm (Ne.symm Dg3_g5))
  replace Bg4 := Bg4.ne P11.mod (Ne.symm (Ne.symm Dg4_g5))
  replace E := E.own P11.mod Lg5_E
  replace Ek := Ek.own P11.mod Lg5_Ek
  replace Ekg := Ekg.own P11.mod Lg5_Ekg
  replace Bg5 : Blk w11 g5 _ [_, _, _, _, _, _] := P11.blk
  refine Za rfl (Ln (e_K (hK9 _ _ _ _ (c_drawp [] [0, 1, 2, 3, 4, 5, 6, 7, 8, 9, 10] 11 [] wide (by kernel_rfl) (fun _ _ _ h => h.2) (pw_nil (tv (fun w_ E_ => (o_lda (vs := [_, _, _, _, _, _]) ag25 rfl rfl ((Bg3.mod0 E_).cs rfl))) rfl rfl (tv (fun w_ E_ => (oA0 fd85_0 rfl)) rfl rfl (tv (fun w_ E_ => (oL sc9 rfl ((Bg4.mod0 E_).cell rfl))) rfl rfl (tv (fun w_ E_ => (o_lda (vs := [_, _, _, _, _, _]) ag25 rfl rfl ((Bg5.mod0 E_).cs rfl))) rfl rfl (tv (fun w_ E_ => (oA0 fd85_1 rfl)) rfl rfl (tv (fun w_ E_ => (oL sc9 rfl ((Bg4.mod0 E_).cell rfl))) rfl rfl (tv (fun w_ E_ => (oA0 fd85_2 rfl)) rfl rfl (tv (fun w_ E_ => (oL sc9 rfl ((Bg4.mod0 E_).cell rfl))) rfl rfl (tc (fun w_ E_ => oC ent75 rfl) (fun w_ E_ => c_jtext _ x.sig) rfl rfl ?_))))))))))))))
  refine tcr (fun u w_ => ∃ us, u = .agg us.toArray ∧ Reps (g2 :: g3 :: A) w_ ((JV.obj (putM (EV.one (EV.sg e.sigs k) x.srv).map x.key (JV.txtV x.sig)))).D us) (fun v_ w1_ w2_ k_ h_ => by obtain ⟨us_, e_, r_⟩ := h_; exact ⟨us_, e_, r_.to0 k_⟩) (fun w_ E_ => oC ent25 rfl) (fun w_ E_ => Calls.imp (c_jput (g2 :: g3 :: A) _ (fun a ha => by rcases List.mem_cons.1 ha with rfl | ha; exact (Bg2.mod0 E_).lt; rcases List.mem_cons.1 ha with rfl | ha; exact (Bg3.mod0 E_).lt; exact Nat.lt_of_lt_of_le (hA a ha) (E.then E_).size) (EV.one (EV.sg e.sigs k) x.srv) (JV.txtV x.sig) _ _ ((Rg.to0 Ekg).to0 E_) JV.txt_repsN x.key (by rw [hI1]; exact hI2) (by rw [hI1]; omega)) fun r_ w2_ hr => by obtain ⟨us_, e_, r2_, k_⟩ := hr; rw [hI1] at r2_; exact ⟨⟨us_, e_, r2_⟩, k_⟩) rfl rfl rfl ?_
  refine tcr1 (args := fun u_ => [_, _, u_].toArray) (fun u w_ => ∃ us, u = .agg us.toArray ∧ Reps (g2 :: g3 :: A) w_ (JV.obj (EV.sg e.sigs (k + 1))).D us) (fun v_ w1_ w2_ k_ h_ => by obtain ⟨us_, e_, r_⟩ := h_; exact ⟨us_, e_, r_.to0 k_⟩) 33 rfl rfl ⟨_, List.Mem.tail _ (List.Mem.tail _ (List.Mem.tail _ (List.Mem.head _))), rfl⟩ (fun w_ u_ E_ h_ => oC ent25 rfl) (fun w_ u_ E_ h_ => by
   obtain ⟨us_, rfl, r0_⟩ := h_
   exact Calls.imp (c_jput (g2 :: g3 :: A) _ (fun a ha => by rcases List.mem_cons.1 ha with rfl | ha; exact (Bg2.mod0 E_).lt; rcases List.mem_cons.1 ha with rfl | ha; exact (Bg3.mod0 E_).lt; exact Nat.lt_of_lt_of_le (hA a ha) (E.then E_).size) (JV.obj (EV.sg e.sigs k)) (JV.obj (putM (EV.one (EV.sg e.sigs k) x.srv).map x.key (JV.txtV x.sig))) _ _ ((Rk.to0 Ek).to0 E_) r0_ x.srv (by rw [JV.tbl_obj]; exact hI.asc) (by rw [JV.tbl_obj]; omega)) fun r_ w2_ hr => by
    obtain ⟨us_, e_, r2_, k_⟩ := hr
    rw [JV.tbl_obj] at r2_
    have hsg : EV.sg e.sigs (k + 1) = putM (EV.sg e.sigs k) x.srv (JV.obj (putM (EV.one (EV.sg e.sigs k) x.srv).map x.key (JV.txtV x.sig))) := EV.sg_succ hx_x
    rw [← hsg] at r2_
    exact ⟨⟨us_, e_, r2_⟩, k_⟩) rfl rfl rfl ?_
  refine tw_tail1 (t := 34) rfl rfl rfl rfl fun w12 v_ E_ h_ => ?_
  obtain ⟨us8, rfl, Rp⟩ := h_
  obtain ⟨al8, cl8, am8, cm8, rfl, Rl8, Rm8⟩ := JV.cells_ Rp
  replace Rp := JV.reps_ Rl8 Rm8
  replace Bg1 := Bg1.mod0 E_
  replace Bg2 := Bg2.mod0 E_
  replace Bg3 := Bg3.mod0 E_
  replace Bg4 := Bg4.mod0 E_
  replace Bg5 := Bg5.mod0 E_
  replace E := E.then E_
  replace Ek := Ek.then E_
  replace Ekg := Ekg.then E_
  refine s_sta (vs := [_, _, _, _, _, _]) ag25 Bg3 rfl rfl rfl (by simp [Value.oneCell']) (by simp) fun w13 P13 => ?_
  replace Bg1 := Bg1.ne P13.mod (Ne.symm (Ne.symm Dg1_g3))
  replace Bg2 := Bg2.ne P13.mod (Ne.symm (Ne.symm Dg2_g3))
  replace Bg4 := Bg4.ne P13.mod (Ne.symm Dg3_g4)
  replace Bg5 := Bg5.ne P13.mod (Ne.symm Dg3_g5)
  replace E := E.own P13.mod Lg3_E
  replace Bg3 : Blk w13 g3 _ [_, _, _, _, _, _] := P13.blk
  have Rp2 := Rp.toM P13.mod (fun a ha => by simp [List.mem_singleton.1 ha])
  exact Ln (eI (by simp) (e_K (hK7 _ _ _ _ (Cr (Sv (o_addN rfl rfl (by omega)) (Zm rfl (Ln (eR (σ := Nat × Option Addr × Nat × Option Addr × Nat) (s := ⟨k, al, cl, am, cm⟩) (⟨k + 1, al8, cl8, am8, cm8⟩) ⟨rfl, rfl, rfl, rfl, rfl, rfl, trivial⟩ ⟨by omega, Rp2, Bg3, Bg2, Bg1, E⟩ (by dsimp only; omega)))))))))
 ·have hkl : k = e.sigs.length := by omega
  subst hkl
  refine c_exit (eT (by simp) (eT (by simp) (e_hit (e_K (hK3 _ _ _ _ (Cq fun K10 hK10 => ?_))))))
  have Es := E
  refine c_draw wide (by kernel_rfl) (tv (fun w_ E_ => (oA0 fd48_7 rfl)) rfl rfl (tv (fun w_ E_ => (oL sc45 rfl ((Bg1.mod0 E_).cell rfl))) rfl rfl (tcr (fun u w_ => ∃ us, u = .agg us.toArray ∧ Reps (g2 :: A) w_ (JV.lst (e.auth.map JV.txtV)).D us) (fun v_ w1_ w2_ k_ h_ => by obtain ⟨us_, e_, r_⟩ := h_; exact ⟨us_, e_, r_.to0 k_⟩) (fun w_ E_ => oC ent76 rfl) (fun w_ E_ => Calls.imp (c_etexts (g2 :: A) _ (fun a ha => by rcases List.mem_cons.1 ha with rfl | ha; exact (Bg2.mod0 E_).lt; exact Nat.lt_of_lt_of_le (hA a ha) (E.then E_).size) e.auth aae cae (Ra0.to0 (E.then E_)) ha) fun r_ w2_ hr => by obtain ⟨us_, e_, r2_, k_⟩ := hr; exact ⟨⟨us_, e_, r2_⟩, k_⟩) rfl rfl rfl ?_)))
  refine tr1 (fun u w_ => ∃ us, u = .agg (S kAuth :: us).toArray ∧ Reps (g2 :: A) w_ (JV.lst (e.auth.map JV.txtV)).D us) (fun v_ w1_ w2_ k_ h_ => by obtain ⟨us_, e_, r_⟩ := h_; exact ⟨us_, e_, r_.to0 k_⟩) 38 rfl rfl ⟨_, by simp [Op.operands], rfl⟩ (fun w_ u_ E_ h_ => by
   obtain ⟨us_, rfl, r_⟩ := h_
   obtain ⟨ala, cla, ama, cma, rfl, rl_, rm_⟩ := JV.cells_ r_
   exact ⟨_, _, o_build (cs := [_, _, _, _, _, _, _]) pl44 zv44 rfl rfl, Mod.refl [] _, ⟨_, rfl, JV.reps_ rl_ rm_⟩⟩) rfl rfl rfl ?_
  refine tv (fun w_ E_ => (oA0 fd48_5 rfl)) rfl rfl (tv (fun w_ E_ => (o_lda (vs := [_, _, _, _, _, _]) ag25 rfl rfl ((Bg1.mod0 E_).cs rfl))) rfl rfl (tv (fun w_ E_ => (o_build (cs := [_, _, _, _, _, _, _]) pl44 zv44 rfl rfl)) rfl rfl (tv (fun w_ E_ => (oA0 fd48_8 rfl)) rfl rfl (tv (fun w_ E_ => (oL sc3 rfl ((Bg1.mod0 E_).cell rfl))) rfl rfl (tc (fun w_ E_ => oC ent20 rfl) (fun w_ E_ => c_jnum _ e.dep) rfl rfl (tv (fun w_ E_ => (o_build (cs := [_, _, _, _, _, _, _]) pl44 zv44 rfl rfl)) rfl rfl (tv (fun w_ E_ => (oA0 fd48_10 rfl)) rfl rfl (tv (fun w_ E_ => (oL sc9 rfl ((Bg1.mod0 E_).cell rfl))) rfl rfl (tc (fun w_ E_ => oC ent75 rfl) (fun w_ E_ => c_jtext _ e.hash) rfl rfl (tv (fun w_ E_ => (o_build (cs := [_, _, _, _, _, _, _]) pl44 zv44 rfl rfl)) rfl rfl ?_))))))))))
  refine t_bslice (cs := [_, _, _, _, _, _, _]) (fun u w_ => Rep (g2 :: A) w_ (.sl 7 ([(kSha, JV.txtV e.hash)].map JV.Dp)) u) (fun v_ w1_ w2_ k_ h_ => h_.to0 k_) sl23 zv44 rfl rfl rfl (by decide) (fun w_ g w2_ E_ N_ => ?_) rfl rfl ?_
  ·exact Own.mem_ (A := (g2 :: A)) (m := [(kSha, JV.txtV e.hash)]) (Own.all (cs := [_, _, _, _, _, _, _]) N_.blk rfl (by omega)) (by simpa using JV.Dp_reps (p := (kSha, JV.txtV e.hash)) JV.txt_repsN) rfl (fun x hx h => by
    simp only [ob, List.mem_singleton] at hx
    subst hx
    have h1 := N_.ne (Bg2.mod0 E_)
    rcases List.mem_cons.1 h with h | h
    ·exact h1 h.symm
    ·have h3 := hA _ h
     have h4 := N_.at_
     have h5 := (E.then E_).size
     omega)
  refine tcr1 (fun u w_ => ∃ us, u = .agg us.toArray ∧ Reps (g2 :: A) w_ (JV.obj [(kSha, JV.txtV e.hash)]).D us) (fun v_ w1_ w2_ k_ h_ => by obtain ⟨us_, e_, r_⟩ := h_; exact ⟨us_, e_, r_.to0 k_⟩) 51 rfl rfl ⟨_, List.Mem.tail _ (List.Mem.head _), rfl⟩ (fun w_ u_ E_ h_ => oC ent73 rfl) (fun w_ u_ E_ h_ => Calls.imp (c_jmap (g2 :: A) _ (fun a ha => by rcases List.mem_cons.1 ha with rfl | ha; exact (Bg2.mod0 E_).lt; exact Nat.lt_of_lt_of_le (hA a ha) (E.then E_).size) [(kSha, JV.txtV e.hash)] _ h_ (by simp)) fun r_ w2_ hr => by obtain ⟨us_, e_, r2_, k_⟩ := hr; exact ⟨⟨us_, e_, r2_⟩, k_⟩) rfl rfl rfl ?_
  refine tr1 (fun u w_ => ∃ us, u = .agg (S kHashes :: us).toArray ∧ Reps (g2 :: A) w_ (JV.obj [(kSha, JV.txtV e.hash)]).D us) (fun v_ w1_ w2_ k_ h_ => by obtain ⟨us_, e_, r_⟩ := h_; exact ⟨us_, e_, r_.to0 k_⟩) 52 rfl rfl ⟨_, by simp [Op.operands], rfl⟩ (fun w_ u_ E_ h_ => by
   obtain ⟨us_, rfl, r_⟩ := h_
   obtain ⟨ala, cla, ama, cma, rfl, rl_, rm_⟩ := JV.cells_ r_
   exact ⟨_, _, o_build (cs := [_, _, _, _, _, _, _]) pl44 zv44 rfl rfl, Mod.refl [] _, ⟨_, rfl, JV.reps_ rl_ rm_⟩⟩) rfl rfl rfl ?_
  refine tv (fun w_ E_ => (oA0 fd48_9 rfl)) rfl rfl (tv (fun w_ E_ => (oL sc3 rfl ((Bg1.mod0 E_).cell rfl))) rfl rfl (tc (fun w_ E_ => oC ent20 rfl) (fun w_ E_ => c_jnum _ e.time) rfl rfl (tv (fun w_ E_ => (o_build (cs := [_, _, _, _, _, _, _]) pl44 zv44 rfl rfl)) rfl rfl (tv (fun w_ E_ => (oA0 fd48_6 rfl)) rfl rfl (tv (fun w_ E_ => (oL sc45 rfl ((Bg1.mod0 E_).cell rfl))) rfl rfl (tcr (fun u w_ => ∃ us, u = .agg us.toArray ∧ Reps (g2 :: A) w_ (JV.lst (e.prev.map JV.txtV)).D us) (fun v_ w1_ w2_ k_ h_ => by obtain ⟨us_, e_, r_⟩ := h_; exact ⟨us_, e_, r_.to0 k_⟩) (fun w_ E_ => oC ent76 rfl) (fun w_ E_ => Calls.imp (c_etexts (g2 :: A) _ (fun a ha => by rcases List.mem_cons.1 ha with rfl | ha; exact (Bg2.mod0 E_).lt; exact Nat.lt_of_lt_of_le (hA a ha) (E.then E_).size) e.prev ape cpe (Rp0.to0 (E.then E_)) hp) fun r_ w2_ hr => by obtain ⟨us_, e_, r2_, k_⟩ := hr; exact ⟨⟨us_, e_, r2_⟩, k_⟩) rfl rfl rfl ?_))))))
  refine tr1 (fun u w_ => ∃ us, u = .agg (S kPrev :: us).toArray ∧ Reps (g2 :: A) w_ (JV.lst (e.prev.map JV.txtV)).D us) (fun v_ w1_ w2_ k_ h_ => by obtain ⟨us_, e_, r_⟩ := h_; exact ⟨us_, e_, r_.to0 k_⟩) 60 rfl rfl ⟨_, by simp [Op.operands], rfl⟩ (fun w_ u_ E_ h_ => by
   obtain ⟨us_, rfl, r_⟩ := h_
   obtain ⟨ala, cla, ama, cma, rfl, rl_, rm_⟩ := JV.cells_ r_
   exact ⟨_, _, o_build (cs := [_, _, _, _, _, _, _]) pl44 zv44 rfl rfl, Mod.refl [] _, ⟨_, rfl, JV.reps_ rl_ rm_⟩⟩) rfl rfl rfl ?_
  refine tv (fun w_ E_ => (oA0 fd48_0 rfl)) rfl rfl (tv (fun w_ E_ => (oL sc9 rfl ((Bg1.mod0 E_).cell rfl))) rfl rfl (tc (fun w_ E_ => oC ent75 rfl) (fun w_ E_ => c_jtext _ e.room) rfl rfl (tv (fun w_ E_ => (o_build (cs := [_, _, _, _, _, _, _]) pl44 zv44 rfl rfl)) rfl rfl (tv (fun w_ E_ => (oA0 fd48_1 rfl)) rfl rfl (tv (fun w_ E_ => (oL sc9 rfl ((Bg1.mod0 E_).cell rfl))) rfl rfl (tc (fun w_ E_ => oC ent75 rfl) (fun w_ E_ => c_jtext _ e.snd) rfl rfl (tv (fun w_ E_ => (o_build (cs := [_, _, _, _, _, _, _]) pl44 zv44 rfl rfl)) rfl rfl (tv (fun w_ E_ => (o_lda (vs := [_, _, _, _, _, _]) ag25 rfl rfl ((Bg3.mod0 E_).cs rfl))) rfl rfl (tv (fun w_ E_ => (o_build (cs := [_, _, _, _, _, _, _]) pl44 zv44 rfl rfl)) rfl rfl (tv (fun w_ E_ => (oA0 fd48_2 rfl)) rfl rfl (tv (fun w_ E_ => (oL sc9 rfl ((Bg1.mod0 E_).cell rfl))) rfl rfl (tc (fun w_ E_ => oC ent75 rfl) (fun w_ E_ => c_jtext _ e.ty) rfl rfl (tv (fun w_ E_ => (o_build (cs := [_, _, _, _, _, _, _]) pl44 zv44 rfl rfl)) rfl rfl ?_)))))))))))))
  have rc_ := Rce.more (A' := (g2 :: A)) (fun a ha => by rcases List.mem_cons.1 ha with rfl | ha; exact .inr Lg2_E; exact .inl ha)
  have rk_ := Rk.anti (A' := (g2 :: A)) (fun a ha => by rcases List.mem_cons.1 ha with rfl | ha <;> simp [*])
  refine tr3 (fun u w_ => ∃ vs, GL (g2 :: A) w6 w_ 44 7 u 10 (e.mem10.map JV.Dp) vs) (fun v_ w1_ w2_ k_ h_ => by obtain ⟨vs_, h_⟩ := h_; exact ⟨vs_, h_.mod0 k_⟩) 39 53 61 rfl rfl ⟨_, by simp [Op.operands], rfl⟩ rfl rfl ⟨_, by simp [Op.operands], rfl⟩ rfl rfl ⟨_, by simp [Op.operands], rfl⟩ (fun w_ ua ub uc E_ ha_ hb_ hc_ => by
   obtain ⟨usa_, rfl, ra_⟩ := ha_
   obtain ⟨ala_, cla_, ama_, cma_, rfl, rla_, rma_⟩ := JV.cells_ ra_
   replace ra_ := JV.reps_ rla_ rma_
   obtain ⟨usb_, rfl, rh_⟩ := hb_
   obtain ⟨alb_, clb_, amb_, cmb_, rfl, rlb_, rmb_⟩ := JV.cells_ rh_
   replace rh_ := JV.reps_ rlb_ rmb_
   obtain ⟨usc_, rfl, rp_⟩ := hc_
   obtain ⟨alc_, clc_, amc_, cmc_, rfl, rlc_, rmc_⟩ := JV.cells_ rp_
   replace rp_ := JV.reps_ rlc_ rmc_
   have R_ := (JV.rows_cons (JV.Dp_reps (p := (kAuth, JV.lst (e.auth.map JV.txtV))) ra_) (JV.rows_cons (JV.Dp_reps (p := (kCont, e.con)) (rc_.to0 (E.then E_))) (JV.rows_cons (JV.Dp_reps (p := (kDepth, JV.numV e.dep)) JV.num_reps) (JV.rows_cons (JV.Dp_reps (p := (kHashes, JV.obj [(kSha, JV.txtV e.hash)])) rh_) (JV.rows_cons (JV.Dp_reps (p := (kOts, JV.numV e.time)) JV.num_reps) (JV.rows_cons (JV.Dp_reps (p := (kPrev, JV.lst (e.prev.map JV.txtV))) rp_) (JV.rows_cons (JV.Dp_reps (p := (kRoom, JV.txtV e.room)) JV.txt_repsN) (JV.rows_cons (JV.Dp_reps (p := (kSender, JV.txtV e.snd)) JV.txt_repsN) (JV.rows_cons (JV.Dp_reps (p := (kSigs, JV.obj (EV.sg e.sigs e.sigs.length))) ((rk_.to0 Ek).to0 E_)) (JV.rows_cons (JV.Dp_reps (p := (kType, JV.txtV e.ty)) JV.txt_repsN) JV.rows_nil))))))))))
   simp only [List.cons_append, List.nil_append, List.append_nil] at R_
   exact GL.bs (rows := e.mem10.map JV.Dp) sl23 zv44 rfl (by kernel_rfl) rfl (by decide) R_ (fun a ha => by rcases List.mem_cons.1 ha with rfl | ha; exact (Bg2.mod0 E_).lt; exact Nat.lt_of_lt_of_le (hA a ha) (E.then E_).size) E_.size rfl (by omega)) rfl rfl rfl ?_
  refine tr1 (fun u w_ => ∃ vs, GL (g2 :: A) w6 w_ 44 7 u 10 (e.mem10.map JV.Dp) vs) (fun v_ w1_ w2_ k_ h_ => by obtain ⟨vs_, h_⟩ := h_; exact ⟨vs_, h_.mod0 k_⟩) 76 rfl rfl ⟨_, by simp [Op.operands], rfl⟩ (fun w_ u E_ h => ⟨u, w_, o_as rfl, Mod.refl [] w_, h⟩) rfl rfl rfl (tw_nil1 (t := 8) rfl rfl rfl rfl fun w14 v8 E_ h_ => ?_)
  obtain ⟨vs8, G8⟩ := h_
  have Eg := Mod.refl [] w14
  have E8 := E_
  replace Bg1 := Bg1.mod0 E_
  replace Bg2 := Bg2.mod0 E_
  replace Bg3 := Bg3.mod0 E_
  replace E := E.then E_
  replace Ek := Ek.then E_
  skip
  refine e_K (hK10 _ _ _ _ (Cq fun K11 hK11 => Cq fun K12 hK12 => Cr (Sv (oA0 fd48_3 rfl) (Sv (oL sc4 rfl (Bg1.cell rfl)) (Ln (e_K (hK12 _ _ _ _ ?_)))))))
  refine c_cond rfl (fun h78 => ?_) (fun h78 => ?_)
  ·have hR : e.memR = e.mem10 ++ [(kState, JV.txtV e.key)] := by simp [EV.memR, h78]
   refine Cr (Zm rfl (Sv (oA0 fd48_4 rfl) (Sv (oL sc9 rfl (Bg1.cell rfl)) (sc (oC ent75 rfl) (c_jtext _ e.key) rfl fun v_ w15 h_ => ?_))))
   obtain ⟨rfl, E_⟩ := h_
   replace Bg1 := Bg1.mod0 E_
   replace Bg2 := Bg2.mod0 E_
   replace Bg3 := Bg3.mod0 E_
   replace E := E.then E_
   replace Ek := Ek.then E_
   replace Eg := Eg.then E_
   refine Sv (o_build (cs := [_, _, _, _, _, _, _]) pl44 zv44 rfl rfl) (s_bslice (cs := [_, _, _, _, _, _, _]) sl23 zv44 rfl rfl rfl (by decide) rfl fun g6 w16 N6 => ?_)
   have Lg6_E := N6.le E
   have Lg6_Ek := N6.le Ek
   have Lg6_Eg := N6.le Eg
   have Dg1_g6 := N6.ne Bg1
   have Dg2_g6 := N6.ne Bg2
   have Dg3_g6 := N6.ne Bg3
   replace Bg1 := Bg1.mod0 N6.mod
   replace Bg2 := Bg2.mod0 N6.mod
   replace Bg3 := Bg3.mod0 N6.mod
   replace E := E.then N6.mod
   replace Ek := Ek.then N6.mod
   replace Eg := Eg.then N6.mod
   have Bg6 := N6.blk
   have GN := (G8.mod0 Eg)
   refine s_append sl23 rfl rfl GN.own (Src.own Tryz.underlying23 (Own.all (cs := [_, _, _, _, _, _, _]) Bg6 rfl (by omega)) (by simp [Value.oneCell', B8])) (by decide) (by omega) (by omega) rfl fun v9 w17 AA => ?_
   replace Bg2 := Bg2.mod AA.mod (fun hx => GN.dj _ hx (by simp))
   have G9 := GN.app (E8.then Eg) AA rfl (JV.Dp_reps (p := (kState, JV.txtV e.key)) JV.txt_repsN)
   rw [show e.mem10.map JV.Dp ++ [JV.Dp (kState, JV.txtV e.key)] = e.memR.map JV.Dp by rw [hR]; simp] at G9
   replace E := E.trans' AA.mod (fun y hy => .inr (Nat.le_trans Es.size (GN.fr y hy)))
   have Eg9 := Mod.refl [] w17
   refine Za rfl (Ln (e_K (hK11 _ _ _ _ (Cq fun K13 hK13 => Cr (Zm rfl (sc (oC ent73 rfl) (c_jmap (g2 :: A) _ (G9.mod0 Eg9).al e.memR _ ((G9.mod0 Eg9).rep JV.row_len (by rw [List.length_map, hR]; rfl)) (by rw [hR]; simp [EV.mem10])) rfl fun v_ w18 h_ => ?_))))))
   obtain ⟨us9, rfl, Rv, E_⟩ := h_
   replace Bg2 := Bg2.mod0 E_
   replace E := E.then E_
   replace Eg9 := Eg9.then E_
   rw [EV.putR] at Rv
   replace Rv : Reps (g2 :: A) _ e.val.D us9 := Rv
   obtain ⟨al9, cl9, am9, cm9, rfl, Rl9, Rm9⟩ := JV.cells_ Rv
   replace Rv := JV.reps_ Rl9 Rm9
   refine s_sta (vs := [_, _, _, _, _, _]) ag25 Bg2 rfl rfl rfl (by simp [Value.oneCell']) (by simp) fun w19 P19 => ?_
   replace E := E.own P19.mod Lg2_E
   replace Bg2 : Blk w19 g2 _ [_, _, _, _, _, _] := P19.blk
   replace Rv := Rv.toM P19.mod (fun a ha => by simp [List.mem_singleton.1 ha])
   exact Ln (e_K (hK13 _ _ _ _ (cR (retc (vs := [_, _, _, _, _, _]) rfl ag25 rfl rfl (Bg2.cs rfl) ⟨_, rfl, Rv.anti (A' := A) (fun a ha => by simp [ha]), E⟩))))
  ·have hR : e.memR = e.mem10 := by simp [EV.memR, h78]
   have G8m := G8
   rw [← hR] at G8m
   refine cK (e_K (hK11 _ _ _ _ (Cq fun K14 hK14 => Cr (Zm rfl (sc (oC ent73 rfl) (c_jmap (g2 :: A) _ (G8m.mod0 Eg).al e.memR _ ((G8m.mod0 Eg).rep JV.row_len (by rw [List.length_map, hR]; rfl)) (by rw [hR]; simp [EV.mem10])) rfl fun v_ w20 h_ => ?_)))))
   obtain ⟨us9, rfl, Rv, E_⟩ := h_
   replace Bg1 := Bg1.mod0 E_
   replace Bg2 := Bg2.mod0 E_
   replace Bg3 := Bg3.mod0 E_
   replace E := E.then E_
   replace Ek := Ek.then E_
   replace Eg := Eg.then E_
   rw [EV.putR] at Rv
   replace Rv : Reps (g2 :: A) _ e.val.D us9 := Rv
   obtain ⟨al9, cl9, am9, cm9, rfl, Rl9, Rm9⟩ := JV.cells_ Rv
   replace Rv := JV.reps_ Rl9 Rm9
   refine s_sta (vs := [_, _, _, _, _, _]) ag25 Bg2 rfl rfl rfl (by simp [Value.oneCell']) (by simp) fun w21 P21 => ?_
   replace Bg1 := Bg1.ne P21.mod (Ne.symm (Ne.symm Dg1_g2))
   replace Bg3 := Bg3.ne P21.mod (Ne.symm Dg2_g3)
   replace E := E.own P21.mod Lg2_E
   replace Bg2 : Blk w21 g2 _ [_, _, _, _, _, _] := P21.blk
   replace Rv := Rv.toM P21.mod (fun a ha => by simp [List.mem_singleton.1 ha])
   exact Ln (e_K (hK14 _ _ _ _ (cR (retc (vs := [_, _, _, _, _, _]) rfl ag25 rfl rfl (Bg2.cs rfl) ⟨_, rfl, Rv.anti (A' := A) (fun a ha => by simp [ha]), E⟩))))
end Go.Proofs.YtknndpjacklkeaaGreatDoor.V

set_option linter.unusedVariables false
set_option linter.unusedSimpArgs false
set_option maxRecDepth 10000
namespace Go.Proofs.YtknndpjacklkeaaGreatDoor.V
open Go Go.Proofs
theorem ent79 : Ent Tryz.prog 79 := Ent.of Tryz.func79 (by kernel_rfl) (by kernel_rfl)
theorem c_texts11 (A : List Nat) (w : World) (hA : ∀ a ∈ A, a < w.heap.size) (xs : List Str) (ax : Option Addr) (cx : Nat) (R : Rep [] w (strD xs) (.slice ax xs.length cx)) (hn : xs.length ≤ 1000000) : Calls Tryz.prog 80 [.slice ax xs.length cx].toArray w (Ret fun u w' => ∃ us', u = .agg us'.toArray ∧ Reps A w' (JV.lst (xs.map JV.txtV)).D us' ∧ Mod [] w w') := by
 refine enter Tryz.func80 rfl rfl rfl (l := [(0, _)]) ⟨rfl, trivial⟩ ?_
 have E := Mod.refl [] w
 obtain ⟨_, c9, hfl, hcc1, hcc2⟩ := flat_len R
 injection hfl with _ _ hfc
 subst hfc
 refine Cq fun K1 hK1 => Cr (s_alloc zv25 rfl fun g1 w1 N1 => ?_)
 have Lg1_E := N1.le E
 replace E := E.then N1.mod
 have Bg1 := N1.blk
 refine Ln (e_K (hK1 _ _ _ _ (Cq fun K2 hK2 => Cr (Sv (o_build (cs := [_, _, _, _, _, _]) pl25 zv25 rfl rfl) (s_alloc zv25 rfl fun g2 w2 N2 => ?_)))))
 have Lg2_E := N2.le E
 have Dg1_g2 := N2.ne Bg1
 replace Bg1 := Bg1.mod0 N2.mod
 replace E := E.then N2.mod
 have Bg2 := N2.blk
 refine s_sta (vs := [_, _, _, _, _, _]) ag25 Bg2 rfl rfl rfl (by simp [Value.oneCell']) (by simp) fun w3 P3 => ?_
 replace Bg1 := Bg1.ne P3.mod (Ne.symm (Ne.symm Dg1_g2))
 replace E := E.own P3.mod Lg2_E
 replace Bg2 : Blk w3 g2 _ [_, _, _, _, _, _] := P3.blk
 refine Ln (e_K (hK2 _ _ _ _ (Cq fun K3 hK3 => Cq fun K4 hK4 => Cr (Zm rfl (Sv (o_len Tryz.underlying45 rfl) (Zm rfl (Ln (e_K (hK4 _ _ _ _ (cB (c_loop (σ := Nat × Value × List Value) (fun ⟨k, wv, vs⟩ => [(2, .pointer (some ⟨g1, 0, none⟩)), (3, .pointer (some ⟨g2, 0, none⟩)), (7, .slice ax xs.length cx), (8, .int .i64 xs.length), (9, .int .i64 (k : Int))]) (fun ⟨k, wv, vs⟩ w1 => k ≤ xs.length ∧ GL (g1 :: g2 :: A) w w1 25 6 wv k ((xs.take k).map fun s => (JV.txtV s).D) vs ∧ Blk w1 g2 25 [.int .i64 4, .bool false, .int .i64 0, S [], wv, .slice none 0 0] ∧ Blk w1 g1 25 [.int .i64 0, .bool false, .int .i64 0, S [], .slice none 0 0, .slice none 0 0] ∧ Mod [] w w1) (fun ⟨k, wv, vs⟩ => xs.length - k) (⟨0, .slice none 0 0, []⟩) ⟨rfl, rfl, rfl, rfl, rfl, trivial⟩ (⟨by omega, GL.nil (fun a ha => by rcases List.mem_cons.1 ha with rfl | ha; exact Bg1.lt; rcases List.mem_cons.1 ha with rfl | ha; exact Bg2.lt; exact Nat.lt_of_lt_of_le (hA a ha) E.size), Bg2, Bg1, E⟩) ?_)))))))))))
 rintro ⟨k, wv, vs⟩ w4 ⟨hk, GG, Bg2, Bg1, E⟩
 obtain ⟨adw, cw, rfl, hcw1, hcw2⟩ := GG.own.form
 have Ek := Mod.refl [] w4
 refine Cq fun K5 hK5 => Cr (Sv (o_lss rfl rfl) (Ln (e_K (hK5 _ _ _ _ (Cq fun K6 hK6 => ?_)))))
 refine c_if rfl (fun h10 => ?_) (fun h10 => ?_)
 ·obtain ⟨x, hx_x⟩ : ∃ x, xs[k]? = some x := ⟨_, List.getElem?_eq_getElem (by omega)⟩
  obtain ⟨a_x, ha_x, hcs_x, _⟩ := flat_at (R.to0 E) hx_x
  cases ha_x
  refine cK (e_K (hK6 _ _ _ _ (Cq fun K7 hK7 => cB (Cq fun K8 hK8 => Cr (Sv (o_ix sl45 rfl rfl (by omega)) (Sv (oL sc9 rfl hcs_x.first) (Za rfl (Ln (e_K (hK8 _ _ _ _ (c_drawp [] [0, 1, 2, 3, 4] 5 [6, 7] wide (by kernel_rfl) (fun _ _ _ h => h.2) (pw_nil (tv (fun w_ E_ => (oA0 fd25_4 rfl)) rfl rfl ?_)))))))))))))
  refine tv (fun w_ E_ => (oL sc22 rfl ((Bg2.mod0 E_).cell rfl))) rfl rfl (tv (fun w_ E_ => (oM rfl)) rfl rfl (tc (fun w_ E_ => oC ent79 rfl) (fun w_ E_ => c_text11 _ x) rfl rfl (t_bslice (cs := [_, _, _, _, _, _]) (fun u w_ => Own w_ 25 6 u 1 [.int .i64 3, .bool false, .int .i64 0, S x, .slice none 0 0, .slice none 0 0]) (fun v_ w1_ w2_ k_ h_ => h_.mod0 k_) sl22 zv25 rfl rfl rfl (by decide) (fun w_ g w2_ E_ N_ => Own.all (c := 1) N_.blk rfl (by omega)) rfl rfl (tw_tail1 (t := 17) rfl rfl rfl rfl fun w5 v_ E_ O4 => ?_))))
  replace Bg1 := Bg1.mod0 E_
  replace Bg2 := Bg2.mod0 E_
  replace E := E.then E_
  replace Ek := Ek.then E_
  have GN := GG.mod0 Ek
  refine s_append sl22 rfl rfl GN.own (Src.own Tryz.underlying22 O4 (by simp [Value.oneCell', B8])) (by decide) (by omega) (by omega) rfl fun wv2 w6 AA => ?_
  replace Bg1 := Bg1.mod AA.mod (fun hx => GN.dj _ hx (by simp))
  replace Bg2 := Bg2.mod AA.mod (fun hx => GN.dj _ hx (by simp))
  have GG2 := GN.app E AA rfl JV.txt_repsN
  rw [← take_map_succ (fun s => (JV.txtV s).D) hx_x] at GG2
  replace E := E.trans' AA.mod (fun y hy => .inr (GN.fr y hy))
  obtain ⟨adq, cq, rfl, hcq1, hcq2⟩ := GG2.own.form
  refine Sv (oA0 fd25_4 rfl) (s_st sc22 Bg2 rfl rfl rfl (by simp) fun w7 P7 => ?_)
  replace Bg1 := Bg1.ne P7.mod (Ne.symm (Ne.symm Dg1_g2))
  replace E := E.own P7.mod Lg2_E
  replace Bg2 : Blk w7 g2 _ [_, _, _, _, _, _] := P7.blk
  have GG3 := GG2.toM P7.mod (fun a ha => by simp [List.mem_singleton.1 ha])
  exact Ln (eI (by simp) (e_K (hK7 _ _ _ _ (Cr (Sv (o_addN rfl rfl (by omega)) (Zm rfl (Ln (eR (σ := Nat × Value × List Value) (s := ⟨k, .slice adw k cw, vs⟩) (⟨k + 1, .slice adq (k + 1) cq, vs ++ _⟩) ⟨rfl, rfl, rfl, rfl, rfl, trivial⟩ ⟨by omega, GG3, Bg2, Bg1, E⟩ (by dsimp only; omega)))))))))
 ·have hkl : k = xs.length := by omega
  subst hkl
  have RL0 := GG.rep (fun r hr => by obtain ⟨x_, _, rfl⟩ := List.mem_map.1 hr; exact JV.D_len _) (by simp)
  rw [List.take_length, show (xs.map fun s => (JV.txtV s).D) = (xs.map JV.txtV).map JV.D by simp] at RL0
  refine c_exit (eT (by simp) (eT (by simp) (e_hit (e_K (hK3 _ _ _ _ (Cq fun K9 hK9 => Cr (Sv (o_lda (vs := [_, _, _, _, _, _]) ag25 rfl rfl (Bg2.cs rfl)) ?_)))))))
  have RF := JV.lst_repsN (by simp) (RL0.to0 Ek)
  refine s_sta (vs := [_, _, _, _, _, _]) ag25 Bg1 rfl rfl rfl (by simp [Value.oneCell']) (by simp) fun w8 P8 => ?_
  replace Bg2 := Bg2.ne P8.mod (Ne.symm Dg1_g2)
  replace E := E.own P8.mod Lg1_E
  replace Bg1 : Blk w8 g1 _ [_, _, _, _, _, _] := P8.blk
  replace RF := RF.toM P8.mod (fun a ha => by simp [List.mem_singleton.1 ha])
  exact Ln (e_K (hK9 _ _ _ _ (cR (retc (vs := [_, _, _, _, _, _]) rfl ag25 rfl rfl (Bg1.cs rfl) ⟨_, rfl, RF.anti (A' := A) (fun a ha => by simp [ha]), E⟩))))
end Go.Proofs.YtknndpjacklkeaaGreatDoor.V
