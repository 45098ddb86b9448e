/-
  A part of the proof: events: what they stand for in memory; whether one is greater than is played; the pairs that every event needs. No condition of its own.
-/
import Derived.Test.YtebfihecdooneaaDoorM9
import Derived.Test.YtebfihecdooneaaDoorM5
import Derived.Test.YtebfihecdooneaaDoorM4
import Derived.Test.YtebfihecdooneaaDoorM11
import Derived.Test.YtebfihecdooneaaDoorM6
set_option linter.unusedVariables false
set_option linter.unusedSimpArgs false
namespace Go.Proofs.YtebfihecdooneaaDoor.V
open Go
noncomputable def JV.unfit (v : JV) : Bool := !v.rises || decide (ern (v.wr 0 []) ≠ 0)
structure Sig3 where
  srv : Str
  key : Str
  sig : Str
abbrev Sig3.cells (s : Sig3) : List Value := [S s.srv, S s.key, S s.sig]
structure EV where
  room : Str
  snd : Str
  ty : Str
  st : Bool
  key : Str
  con : JV
  prev : List Str
  auth : List Str
  dep : Int
  time : Int
  hash : Str
  sigs : List Sig3
namespace EV
def D (e : EV) : List Go.Proofs.YtebfihecdooneaaDoor.V.D := [.v (S e.room), .v (S e.snd), .v (S e.ty), .v (.bool e.st), .v (S e.key)] ++ (e.con.D ++ [strD e.prev, strD e.auth, .v (.int .i64 e.dep), .v (.int .i64 e.time), .v (S e.hash), flat 3 Sig3.cells e.sigs])
theorem D_len (e : EV) : e.D.length = 17 := by simp [D, JV.D_len]
theorem cells_ {A : List Nat} {w : World} {e : EV} {us : List Value} (R : Reps A w e.D us) : ∃ cs ap cp aa ca aS cS, us = [S e.room, S e.snd, S e.ty, .bool e.st, S e.key] ++ (cs ++ [.slice ap e.prev.length cp, .slice aa e.auth.length ca, .int .i64 e.dep, .int .i64 e.time, S e.hash, .slice aS e.sigs.length cS]) ∧
    Reps A w e.con.D cs ∧ Rep A w (strD e.prev) (.slice ap e.prev.length cp) ∧ Rep A w (strD e.auth) (.slice aa e.auth.length ca) ∧ Rep A w (flat 3 Sig3.cells e.sigs) (.slice aS e.sigs.length cS) := by
  unfold D at R
  obtain ⟨h1, h2⟩ := R.cut
  simp only [List.length_cons, List.length_nil] at h1 h2
  obtain ⟨h3, h4⟩ := h2.cut
  have hus : us = us.take (0 + 1 + 1 + 1 + 1 + 1) ++ ((us.drop (0 + 1 + 1 + 1 + 1 + 1)).take e.con.D.length ++ (us.drop (0 + 1 + 1 + 1 + 1 + 1)).drop e.con.D.length) := by rw [List.take_append_drop, List.take_append_drop]
  obtain ⟨_, _, e1, g1, h1⟩ := h1
  obtain ⟨_, _, rfl, g2, h1⟩ := h1
  obtain ⟨_, _, rfl, g3, h1⟩ := h1
  obtain ⟨_, _, rfl, g4, h1⟩ := h1
  obtain ⟨_, _, rfl, g5, h1⟩ := h1
  obtain rfl := h1
  obtain ⟨_, _, e2, k1, h4⟩ := h4
  obtain ⟨_, _, rfl, k2, h4⟩ := h4
  obtain ⟨_, _, rfl, k3, h4⟩ := h4
  obtain ⟨_, _, rfl, k4, h4⟩ := h4
  obtain ⟨_, _, rfl, k5, h4⟩ := h4
  obtain ⟨_, _, rfl, k6, h4⟩ := h4
  obtain rfl := h4
  obtain rfl := g1.v_eq; obtain rfl := g2.v_eq; obtain rfl := g3.v_eq; obtain rfl := g4.v_eq; obtain rfl := g5.v_eq
  obtain rfl := k3.v_eq; obtain rfl := k4.v_eq; obtain rfl := k5.v_eq
  obtain ⟨ap, cp, rfl, _⟩ := flat_len k1
  obtain ⟨aa, ca, rfl, _⟩ := flat_len k2
  obtain ⟨aS, cS, rfl, _⟩ := flat_len k6
  rw [e1, e2] at hus
  exact ⟨_, ap, cp, aa, ca, aS, cS, hus, h3, k1, k2, k6⟩
theorem cells17 {A : List Nat} {w : World} {e : EV} {us : List Value} (R : Reps A w e.D us) : ∃ al cl am cm ap cp aa ca aS cS, us = [S e.room, S e.snd, S e.ty, .bool e.st, S e.key, .int .i64 e.con.kind, .bool e.con.is, .int .i64 e.con.num, S e.con.str, .slice al e.con.list.length cl, .slice am e.con.map.length cm, .slice ap e.prev.length cp, .slice aa e.auth.length ca, .int .i64 e.dep, .int .i64 e.time, S e.hash, .slice aS e.sigs.length cS] ∧
    Reps A w e.con.D [.int .i64 e.con.kind, .bool e.con.is, .int .i64 e.con.num, S e.con.str, .slice al e.con.list.length cl, .slice am e.con.map.length cm] ∧ Rep A w (strD e.prev) (.slice ap e.prev.length cp) ∧ Rep A w (strD e.auth) (.slice aa e.auth.length ca) ∧ Rep A w (flat 3 Sig3.cells e.sigs) (.slice aS e.sigs.length cS) := by
  obtain ⟨cs, ap, cp, aa, ca, aS, cS, rfl, h1, h2, h3, h4⟩ := cells_ R
  obtain ⟨al, cl, am, cm, rfl, _, _⟩ := JV.cells_ h1
  exact ⟨al, cl, am, cm, ap, cp, aa, ca, aS, cS, rfl, h1, h2, h3, h4⟩
theorem at_ {A : List Nat} {w : World} {es : List EV} {e : EV} {ad : Option Addr} {n c i : Nat} (R : Rep A w (.sl 17 (es.map EV.D)) (.slice ad n c)) (h : es[i]? = some e) : ∃ a us, ad = some a ∧ Reps A w e.D us ∧ Cs w (a.add (i * 17)) us := by
  obtain ⟨a, us, h1, h2, _, h3, _⟩ := Rep.at_ (i := i) (r := e.D) R (by simp [h])
  exact ⟨a, us, h1, h2, h3⟩
/-- all texts and lists in it are no longer than memory -/
def ok (e : EV) : Prop := e.room.length ≤ 140737488351232 ∧ e.snd.length ≤ 140737488351232 ∧ e.ty.length ≤ 140737488351232 ∧ e.key.length ≤ 140737488351232 ∧ e.con.ok ∧ (∀ s ∈ e.prev, s.length ≤ 140737488351232) ∧ e.prev.length ≤ 140737488351232 ∧ (∀ s ∈ e.auth, s.length ≤ 140737488351232) ∧ e.auth.length ≤ 140737488351232 ∧ e.hash.length ≤ 140737488351232 ∧ (∀ s ∈ e.sigs, s.srv.length ≤ 140737488351232 ∧ s.key.length ≤ 140737488351232 ∧ s.sig.length ≤ 140737488351232) ∧ e.sigs.length ≤ 140737488351232
end EV
/-- how much there is, counted on while it isn't more than so much -/
def addW : List Nat → Nat → Nat → Nat
  | [], n, _ => n
  | x :: r, n, most => if n ≤ most then addW r (n + x) most else n
theorem addW_at {l : List Nat} {k n most x : Nat} (h : l[k]? = some x) (hn : n ≤ most) : addW (l.drop k) n most = addW (l.drop (k + 1)) (n + x) most := by
  obtain ⟨hk, rfl⟩ := List.getElem?_eq_some_iff.1 h
  rw [List.drop_eq_getElem_cons hk, addW, if_pos hn]
theorem addW_end {l : List Nat} {k n most : Nat} (h : l.length ≤ k) : addW (l.drop k) n most = n := by
  rw [List.drop_eq_nil_of_le h, addW]
theorem addW_big {l : List Nat} {n most : Nat} (h : ¬ n ≤ most) : addW l n most = n := by cases l <;> simp [addW, h]
namespace EV
def n0 (e : EV) : Nat := e.room.length + e.snd.length + e.ty.length + e.key.length + e.hash.length + e.prev.length + e.auth.length + e.sigs.length
def n1 (e : EV) (most : Nat) : Nat := addW (e.prev.map List.length) e.n0 most
def n2 (e : EV) (most : Nat) : Nat := addW (e.auth.map List.length) (e.n1 most) most
def n3 (e : EV) (most : Nat) : Nat := addW (e.sigs.map fun s => s.srv.length + s.key.length + s.sig.length) (e.n2 most) most
/-- has it more than so many parts and bytes? -/
def great (e : EV) (most : Nat) : Bool := decide (e.n3 most > most) || decide (e.con.weigh ((most : Int) - e.n3 most) 60 < 0)
noncomputable def greatL (e : EV) (es : List EV) : Bool := decide (40 < es.length) || e.great 2048 || e.con.unfit || es.any fun x => x.great 2048 || x.con.unfit
theorem greatL_1 {e : EV} {es : List EV} (h : 40 < es.length) : e.greatL es = true := by unfold greatL; rw [decide_eq_true h]; rfl
theorem greatL_2 {e : EV} {es : List EV} (h : e.great 2048 = true) : e.greatL es = true := by unfold greatL; rw [h]; simp
theorem greatL_3 {e : EV} {es : List EV} (h : e.con.unfit = true) : e.greatL es = true := by unfold greatL; rw [h]; simp
theorem greatL_hit {e x : EV} {es : List EV} {k : Nat} (hx : es[k]? = some x) (h : (x.great 2048 || x.con.unfit) = true) : e.greatL es = true := by
  unfold greatL
  rw [List.any_eq_true.2 ⟨x, List.mem_of_getElem? hx, h⟩]
  simp
theorem greatL_no {e : EV} {es : List EV} (h1 : ¬ 40 < es.length) (h2 : e.great 2048 = false) (h3 : e.con.unfit = false) (h4 : (es.any fun x => x.great 2048 || x.con.unfit) = false) : e.greatL es = false := by
  unfold greatL
  rw [decide_eq_false h1, h2, h3, h4]
  rfl
theorem any_succ {es : List EV} {k : Nat} {x : EV} {p : EV → Bool} (hx : es[k]? = some x) (h : (es.take k).any p = false) (hp : p x = false) : (es.take (k + 1)).any p = false := by
  have hlt := (List.getElem?_eq_some_iff.1 hx).1
  rw [List.take_succ_eq_append_getElem hlt, (List.getElem?_eq_some_iff.1 hx).2, List.any_append, h]
  simp [hp]
theorem greatL_parts {e : EV} {es : List EV} (h : e.greatL es = false) : e.con.unfit = false ∧ es.length ≤ 40 ∧ ∀ x ∈ es, x.con.unfit = false := by
  unfold greatL at h
  simp only [Bool.or_eq_false_iff, decide_eq_false_iff_not, List.any_eq_false] at h
  obtain ⟨⟨⟨h1, h2⟩, h3⟩, h4⟩ := h
  exact ⟨h3, by omega, fun x hx => by have := h4 x hx; simp at this; exact this.2⟩
theorem unfit_rise {v : JV} (h : v.unfit = false) : v.Rise := by
  unfold JV.unfit at h
  simp only [Bool.or_eq_false_iff] at h
  exact JV.rises_iff.1 (by simpa using h.1)
end EV
end Go.Proofs.YtebfihecdooneaaDoor.V

set_option linter.unusedVariables false
set_option linter.unusedSimpArgs false
set_option maxRecDepth 10000
namespace Go.Proofs.YtebfihecdooneaaDoor.V
open Go Go.Proofs
theorem ent33 : Ent Tryd.prog 33 := Ent.of Tryd.func33 (by kernel_rfl) (by kernel_rfl)
theorem c_write_all : ∀ N : Nat, ∀ (w : World) (v : JV) (us : List Value) (deep : Nat) (b : Str) (u0 : Value), v.sz ≤ N → OwB w u0 b → b.length ≤ 65536 → Reps (ob u0) w v.D us → deep ≤ 32 → Tab w → gT ∉ ob u0 → Calls Tryd.prog 41 [u0, .agg us.toArray, .int .i64 (deep : Int)].toArray w (Ret fun u w' => WR w w' u0 (v.wr deep b) u)
  | 0, w, v, us, deep, b, u0, h, O, hb, R, hd, hT, hgt => absurd (JV.sz_eq v) (by omega)
  | N + 1, w, v, us, deep, b, u0, h, O, hb, R, hd, hT, hgt => c_write_step N (c_write_all N) w v us deep b u0 h O hb R hd hT hgt
/-- a value's canonical text, or an error -/
theorem c_write (w : World) (v : JV) (us : List Value) (R : Reps [] w v.D us) (hT : Tab w) : Calls Tryd.prog 41 [.slice none 0 0, .agg us.toArray, .int .i64 0].toArray w (Ret fun u w' => WR w w' (.slice none 0 0) (v.wr 0 []) u) :=
  c_write_all v.sz w v us 0 [] (.slice none 0 0) (Nat.le_refl _) (Own.nil w 5 1) (by simp) R (by omega) hT (by simp [ob])

theorem c_canonR (w : World) (v : JV) (us : List Value) (R : Reps [] w v.D us) (hT : Tab w) : Calls Tryd.prog 33 [.agg us.toArray].toArray w (Ret fun u w' => u = .tuple #[S (bts (v.wr 0 [])), .int .i64 (ern (v.wr 0 []))] ∧ Mod [] w w') := by
  refine enter Tryd.func33 rfl rfl rfl (l := [(0, _)]) ⟨rfl, trivial⟩ ?_
  have E := Mod.refl [] w
  obtain ⟨al, cl, am, cm, rfl, Rl, Rm⟩ := JV.cells_ R
  have R := JV.reps_ Rl Rm
  refine c_seq fun K1 hK1 => ?_
  refine c_region ?_
  refine s_box rfl rfl rfl fun g1 w1 N1 => ?_
  have Lg1_E := N1.le E
  replace E := E.then N1.mod
  have Bg1 := N1.blk
  refine sv (o_as rfl) rfl ?_
  refine sv (o_as rfl) rfl ?_
  refine l_nil ?_
  refine e_K (hK1 _ _ _ _ ?_)
  refine c_seq fun K2 hK2 => ?_
  refine c_region ?_
  refine sv (o_lda (vs := [_, _, _, _, _, _]) ag25 rfl rfl (Bg1.cs rfl)) rfl ?_
  refine sc (o_call ent41 rfl) (c_write _ v _ (R.to0 E) (hT.mod E (by simp))) rfl fun v_ w2 h_ => ?_
  obtain ⟨u6, rfl, hO6, hob6, hm6, hl6⟩ := h_
  replace E := E.then (hm6.mono (by simp [ob]))
  obtain ⟨ad6, c6, rfl, hc61, hc62⟩ := hO6.form
  refine sv (o_mv rfl) rfl ?_
  refine sv (o_ext rfl rfl) rfl ?_
  refine sv (o_ext rfl rfl) rfl ?_
  refine sv (o_as rfl) rfl ?_
  refine sv (o_as rfl) rfl ?_
  refine l_nil ?_
  refine e_K (hK2 _ _ _ _ ?_)
  refine c_seq fun K3 hK3 => ?_
  refine c_region ?_
  refine sv (o_mv rfl) rfl ?_
  refine sv (o_b2s_own (u := bts (v.wr 0 [])) Tryd.underlying76 Tryd.underlying5 Tryd.underlying9 rfl (hO6.same rfl (cells_b8 _))) rfl ?_
  refine sv (o_mv rfl) rfl ?_
  refine sv (o_as rfl) rfl ?_
  refine sv (o_as rfl) rfl ?_
  refine l_nil ?_
  refine e_K (hK3 _ _ _ _ ?_)
  refine c_ret ?_
  exact ret2 rfl rfl rfl ⟨rfl, E⟩

theorem c_unfit (w : World) (v : JV) (us : List Value) (R : Reps [] w v.D us) (hT : Tab w) : Calls Tryd.prog 17 [.agg us.toArray].toArray w (Ret fun u w' => u = .bool v.unfit ∧ Mod [] w w') := by
  refine enter Tryd.func17 rfl rfl rfl (l := [(0, _)]) ⟨rfl, trivial⟩ ?_
  have E := Mod.refl [] w
  obtain ⟨al, cl, am, cm, rfl, Rl, Rm⟩ := JV.cells_ R
  have R := JV.reps_ Rl Rm
  refine c_seq fun K1 hK1 => ?_
  refine c_region ?_
  refine s_box rfl rfl rfl fun g1 w1 N1 => ?_
  have Lg1_E := N1.le E
  replace E := E.then N1.mod
  have Bg1 := N1.blk
  refine sv (o_as rfl) rfl ?_
  refine l_nil ?_
  refine e_K (hK1 _ _ _ _ ?_)
  refine c_seq fun K2 hK2 => ?_
  refine c_seq fun K3 hK3 => ?_
  refine c_region ?_
  refine sv (o_lda (vs := [_, _, _, _, _, _]) ag25 rfl rfl (Bg1.cs rfl)) rfl ?_
  refine sc (o_call ent32 rfl) (c_rises _ v _ (R.to0 E)) rfl fun v_ w2 h_ => ?_
  obtain ⟨rfl, E_⟩ := h_
  replace Bg1 := Bg1.mod0 E_
  replace E := E.then E_
  refine sv (o_not rfl) rfl ?_
  refine l_nil ?_
  refine e_K (hK3 _ _ _ _ ?_)
  refine c_cond rfl (fun h7 => ?_) (fun h7 => ?_)
  · skip
    have hu : v.unfit = true := by unfold JV.unfit; rw [show v.rises = false by simpa using h7]; rfl
    refine c_seq fun K4 hK4 => ?_
    refine c_region ?_
    refine sv (o_as rfl) rfl ?_
    refine l_nil ?_
    refine e_K (hK4 _ _ _ _ ?_)
    refine c_ret ?_
    refine e_then (by simp) ?_
    exact ret1 rfl rfl ⟨by rw [hu], E⟩
  · skip
    have hu : v.unfit = decide (ern (v.wr 0 []) ≠ 0) := by unfold JV.unfit; rw [show v.rises = true by simpa using h7]; rfl
    refine c_skip ?_
    refine e_K (hK2 _ _ _ _ ?_)
    refine c_seq fun K5 hK5 => ?_
    refine c_region ?_
    refine sv (o_lda (vs := [_, _, _, _, _, _]) ag25 rfl rfl (Bg1.cs rfl)) rfl ?_
    refine sc (o_call ent33 rfl) (c_canonR _ v _ (R.to0 E) (hT.mod E (by simp))) rfl fun v_ w3 h_ => ?_
    obtain ⟨rfl, E_⟩ := h_
    replace Bg1 := Bg1.mod0 E_
    replace E := E.then E_
    refine sv (o_mv rfl) rfl ?_
    refine sv (o_ext rfl rfl) rfl ?_
    refine sv (o_ext rfl rfl) rfl ?_
    refine sv (o_as rfl) rfl ?_
    refine sv (o_as rfl) rfl ?_
    refine l_nil ?_
    refine e_K (hK5 _ _ _ _ ?_)
    refine c_seq fun K6 hK6 => ?_
    refine c_region ?_
    refine sv (o_mv rfl) rfl ?_
    refine sv (o_neq rfl rfl) rfl ?_
    refine sv (o_as rfl) rfl ?_
    refine l_nil ?_
    refine e_K (hK6 _ _ _ _ ?_)
    refine c_ret ?_
    exact ret1 rfl rfl ⟨by rw [hu], E⟩
end Go.Proofs.YtebfihecdooneaaDoor.V

set_option linter.unusedVariables false
set_option linter.unusedSimpArgs false
namespace Go.Proofs.YtebfihecdooneaaDoor.V
open Go
def crS : Str := [109, 46, 114, 111, 111, 109, 46, 99, 114, 101, 97, 116, 101]
def pwS : Str := [109, 46, 114, 111, 111, 109, 46, 112, 111, 119, 101, 114, 95, 108, 101, 118, 101, 108, 115]
def mbS : Str := [109, 46, 114, 111, 111, 109, 46, 109, 101, 109, 98, 101, 114]
def ndP (snd : Str) : List Pair := [⟨crS, []⟩, ⟨pwS, []⟩, ⟨mbS, snd⟩]
theorem nd_alive : isortP (ndP [64, 97, 58, 120]) 3 = [⟨crS, []⟩, ⟨mbS, [64, 97, 58, 120]⟩, ⟨pwS, []⟩] := by decide +kernel
theorem nd_apart : apartP (isortP (ndP [64, 97, 58, 120]) 3) := by
  rw [nd_alive]
  intro i a b ha hb
  match i, ha, hb with
  | 0, ha, hb => simp at ha hb; subst ha; subst hb; decide
  | 1, ha, hb => simp at ha hb; subst ha; subst hb; decide
  | i + 2, ha, hb => simp at hb
def msS : Str := [109, 46, 114, 111, 111, 109, 46, 109, 101, 115, 115, 97, 103, 101]
def spS : Str := [115, 112, 97, 114, 101]
end Go.Proofs.YtebfihecdooneaaDoor.V

set_option linter.unusedVariables false
set_option linter.unusedSimpArgs false
set_option maxRecDepth 10000
namespace Go.Proofs.YtebfihecdooneaaDoor.V
open Go Go.Proofs
theorem fd29_2 : fdB Tryd.prog 29 2 2 1 = true := by kernel_rfl
theorem fd29_1 : fdB Tryd.prog 29 1 1 1 = true := by kernel_rfl
theorem ent19 : Ent Tryd.prog 19 := Ent.of Tryd.func19 (by kernel_rfl) (by kernel_rfl)
theorem ent21 : Ent Tryd.prog 21 := Ent.of Tryd.func21 (by kernel_rfl) (by kernel_rfl)
theorem pl29 : plB Tryd.prog 29 [(0, 1), (1, 1), (2, 1), (3, 1), (4, 1), (5, 6), (11, 1), (12, 1), (13, 1), (14, 1), (15, 1), (16, 1)] = true := by kernel_rfl
theorem zv29 : zvB Tryd.prog 29 ([S [], S [], S [], .bool false, S [], .int .i64 0, .bool false, .int .i64 0, S [], .slice none 0 0, .slice none 0 0, .slice none 0 0, .slice none 0 0, .int .i64 0, .int .i64 0, S [], .slice none 0 0]) := by unfold zvB; kernel_rfl
theorem ent8 : Ent Tryd.prog 8 := Ent.of Tryd.func8 (by kernel_rfl) (by kernel_rfl)
theorem c_needed0 (w : World) (snd ty : Str) (z0 z3 z4 z5 z6 z7 z8 z9 z10 z11 z12 z13 z14 z15 z16 : Value) (h1 : ty ≠ crS) (h2 : ty ≠ mbS) (hap : apartP (isortP (ndP snd) 3)) : Calls Tryd.prog 8 [.agg [z0, S snd, S ty, z3, z4, z5, z6, z7, z8, z9, z10, z11, z12, z13, z14, z15, z16].toArray].toArray w (Ret fun u w' => Own w' 35 2 u 3 (((isortP (ndP snd) 3).map Pair.cells).flatten) ∧ (∀ x ∈ ob u, w.heap.size ≤ x) ∧ Mod [] w w') := by
  refine enter Tryd.func8 rfl rfl rfl (l := [(0, _)]) ⟨rfl, trivial⟩ ?_
  have E := Mod.refl [] w
  refine c_seq fun K1 hK1 => ?_
  refine c_region ?_
  refine s_box rfl rfl rfl fun g1 w1 N1 => ?_
  have Lg1_E := N1.le E
  replace E := E.then N1.mod
  have Bg1 := N1.blk
  refine sv (o_as rfl) rfl ?_
  refine l_nil ?_
  refine e_K (hK1 _ _ _ _ ?_)
  refine c_seq fun K2 hK2 => ?_
  refine c_seq fun K3 hK3 => ?_
  refine c_region ?_
  refine sv (o_fa0 fd29_2 rfl) rfl ?_
  refine sv (o_ld sc9 rfl (Bg1.cell rfl)) rfl ?_
  refine sv (o_seq rfl rfl) rfl ?_
  refine l_nil ?_
  refine e_K (hK3 _ _ _ _ ?_)
  refine c_if rfl (fun h9 => ?_) (fun h9 => ?_)
  · skip
    exact absurd h9 h1
  · skip
    refine c_skip ?_
    refine e_K (hK2 _ _ _ _ ?_)
    refine c_seq fun K4 hK4 => ?_
    refine c_region ?_
    refine sv (o_build (cs := [_, _]) pl35 zv35 rfl rfl) rfl ?_
    refine sv (o_build (cs := [_, _]) pl35 zv35 rfl rfl) rfl ?_
    refine sv (o_fa0 fd29_1 rfl) rfl ?_
    refine sv (o_ld sc9 rfl (Bg1.cell rfl)) rfl ?_
    refine sv (o_build (cs := [_, _]) pl35 zv35 rfl rfl) rfl ?_
    refine s_bslice (cs := [_, _, _, _, _, _]) sl32 zv35 rfl rfl rfl (by decide) rfl fun g2 w2 N2 => ?_
    have Lg2_E := N2.le E
    have Dg1_g2 := N2.ne Bg1
    replace Bg1 := Bg1.mod0 N2.mod
    replace E := E.then N2.mod
    have Bg2 := N2.blk
    refine sv (o_as rfl) rfl ?_
    refine l_nil ?_
    refine e_K (hK4 _ _ _ _ ?_)
    refine c_seq fun K5 hK5 => ?_
    refine c_seq fun K6 hK6 => ?_
    refine c_region ?_
    refine sv (o_fa0 fd29_2 rfl) rfl ?_
    refine sv (o_ld sc9 rfl (Bg1.cell rfl)) rfl ?_
    refine sv (o_seq rfl rfl) rfl ?_
    refine l_nil ?_
    refine e_K (hK6 _ _ _ _ ?_)
    refine c_if rfl (fun h18 => ?_) (fun h18 => ?_)
    · skip
      exact absurd h18 h2
    · skip
      refine c_skip ?_
      refine e_K (hK5 _ _ _ _ ?_)
      refine c_seq fun K7 hK7 => ?_
      refine c_region ?_
      refine sv (o_mv rfl) rfl ?_
      have Os0 : Own _ 35 2 (.slice (some ⟨g2, 0, none⟩) 3 3) 3 (((ndP snd).map Pair.cells).flatten) := Own.all (cs := [_, _, _, _, _, _]) Bg2 rfl (by omega)
      refine sc (o_call ent19 rfl) (c_sort _ (ndP snd) _ Os0 (by simp [ndP])) rfl fun v_ w3 h_ => ?_
      obtain ⟨Os, Es⟩ := h_
      replace E := E.own Es Lg2_E
      have RO := Own.pairsN [] Os (isortP_len (Nat.le_refl _)) (by simp)
      refine l_nil ?_
      refine e_K (hK7 _ _ _ _ ?_)
      refine c_seq fun K8 hK8 => ?_
      refine c_region ?_
      refine sv (o_mv rfl) rfl ?_
      refine sc (o_call ent21 rfl) (c_compact0 _ (isortP (ndP snd) 3) _ RO hap) rfl fun v_ w4 h_ => ?_
      obtain ⟨rfl, E_⟩ := h_
      replace E := E.then E_
      replace Os := Os.mod0 E_
      refine sv (o_as rfl) rfl ?_
      refine l_nil ?_
      refine e_K (hK8 _ _ _ _ ?_)
      refine c_ret ?_
      exact ret1 rfl rfl ⟨Os, fun x hx => by simp [ob] at hx; subst hx; exact Lg2_E, E⟩

theorem c_alive (w : World) : Calls Tryd.prog 6 [].toArray w (Ret fun u w' => u = .bool true ∧ Mod [] w w') := by
  refine enter Tryd.func6 rfl rfl rfl (l := []) trivial ?_
  have E := Mod.refl [] w
  refine c_seq fun K1 hK1 => ?_
  refine c_region ?_
  refine sv (o_as rfl) rfl ?_
  refine l_nil ?_
  refine e_K (hK1 _ _ _ _ ?_)
  refine c_seq fun K2 hK2 => ?_
  refine c_region ?_
  refine sv (o_build (cs := [_, _, _, _, _, _, _, _, _, _, _, _, _, _, _, _, _]) pl29 zv29 rfl rfl) rfl ?_
  refine sc (o_call ent8 rfl) (c_needed0 _ [64, 97, 58, 120] msS _ _ _ _ _ _ _ _ _ _ _ _ _ _ _ (by decide) (by decide) nd_apart) rfl fun v_ w1 h_ => ?_
  obtain ⟨On, Ln, E_⟩ := h_
  replace E := E.then E_
  rw [nd_alive] at On
  obtain ⟨adn, cn, rfl, hn1, hn2⟩ := On.form
  have RO := Own.pairsN [] On rfl (by simp)
  obtain ⟨an, han, hcs1, _⟩ := flat_at (i := 1) RO rfl
  obtain ⟨an2, han2, hcs2, _⟩ := flat_at (i := 2) RO rfl
  subst han
  injection han2 with han2
  subst han2
  refine sv (o_as rfl) rfl ?_
  refine l_nil ?_
  refine e_K (hK2 _ _ _ _ ?_)
  refine c_seq fun K3 hK3 => ?_
  refine c_region ?_
  refine sv (o_mv rfl) rfl ?_
  refine sv (o_len Tryd.underlying32 rfl) rfl ?_
  refine sv (o_eql rfl rfl) rfl ?_
  refine sv (o_mv rfl) rfl ?_
  refine sg rfl (rfl) (o_mv rfl) rfl ?_
  refine sg rfl (rfl) (o_ix sl32 rfl rfl (by omega)) rfl ?_
  refine sg rfl (rfl) (o_lda ag35 rfl rfl hcs1) rfl ?_
  refine sg rfl (rfl) (o_build (cs := [_, _]) pl35 zv35 rfl rfl) rfl ?_
  refine sg rfl (rfl) (o_steq (se35 ..) rfl rfl rfl) rfl ?_
  refine sv (o_pickT (rfl) rfl rfl) rfl ?_
  refine sv (o_mv rfl) rfl ?_
  refine sg rfl (rfl) (o_mv rfl) rfl ?_
  refine sg rfl (rfl) (o_ix sl32 rfl rfl (by omega)) rfl ?_
  refine sg rfl (rfl) (o_lda ag35 rfl rfl hcs2) rfl ?_
  refine sg rfl (rfl) (o_build (cs := [_, _]) pl35 zv35 rfl rfl) rfl ?_
  refine sg rfl (rfl) (o_steq (se35 ..) rfl rfl rfl) rfl ?_
  refine sv (o_pickT (rfl) rfl rfl) rfl ?_
  refine sv (o_as rfl) rfl ?_
  refine l_nil ?_
  refine e_K (hK3 _ _ _ _ ?_)
  refine c_ret ?_
  exact ret1 rfl rfl ⟨rfl, E⟩
end Go.Proofs.YtebfihecdooneaaDoor.V
