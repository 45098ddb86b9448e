/-
  A part of the proof: the reader's push, walked; the reader's key, walked; the reader's pop, walked: a list's frame; the reader's pop, walked: a map's frame; the reader's add, walked: a list's frame; the reader's add, walked: a map's frame. No condition of its own.
-/
import Derived.Test.YtknndpjacklkeaaGreatDoorM12
import Derived.Test.YtknndpjacklkeaaGreatDoorM8
set_option linter.unusedVariables false
set_option linter.unusedSimpArgs false
set_option maxRecDepth 10000
namespace Go.Proofs.YtknndpjacklkeaaGreatDoor.V
open Go Go.Proofs
abbrev PTz (Z : List Nat) : PT := ⟨67, 20, 155, 115, 157, 160, 25, 44, Z⟩
theorem fd67_2 : fdB Tryz.prog 67 2 2 1 = true := by kernel_rfl
theorem sl65 : slB Tryz.prog 65 20 1 16 = true := by kernel_rfl
theorem zv20 : zvB Tryz.prog 20 [.nilIface] := by unfold zvB; kernel_rfl
theorem sc65 : scB Tryz.prog 65 = true := by kernel_rfl
theorem Put.eq {w w' : World} {g : Nat} {T : TypeId} {cs cs' : List Value} (h : Put w w' g T cs) (e : cs = cs') : Blk w' g T cs' := e ▸ h.blk
theorem c_push {w1 : World} {g k : Nat} {s : Str} {sk : Value} {Tc : TypeId} {pc : Option Addr} {cs : List Value} (B : Blk w1 g 67 [S s, .int .i64 (k : Int), sk]) (O : Own w1 20 1 sk cs.length cs.reverse) (hgs : ∀ x ∈ ob sk, x ≠ g)
  (hs : s.length ≤ 65536) (hk : k ≤ s.length) (hd : cs.length ≤ 32) :
  Calls Tryz.prog 143 [.pointer (some ⟨g, 0, none⟩), .iface Tc (.pointer pc)].toArray w1 (PnP 110 (g :: ob sk) w1 (if cs.length = 32 then (.error 5 : Except Int Unit) else .ok ()) (fun _ u w' => u = .tuple #[] ∧ ∃ sk', Blk w' g 67 [S s, .int .i64 ((k + 1 : Nat) : Int), sk'] ∧ Own w' 20 1 sk' (cs.length + 1) (cs.reverse ++ [.iface Tc (.pointer pc)]) ∧ ∀ x ∈ ob sk', x ∈ ob sk ∨ w1.heap.size ≤ x)) := by
 refine enter Tryz.func143 rfl rfl rfl (l := [(0, _), (1, _)]) ⟨rfl, rfl, trivial⟩ ?_
 obtain ⟨ad, c0, rfl, hc1, hc2⟩ := O.form
 have hlt := B.lt
 have hO : ∀ {a b : World}, Mod [g] a b → Own a 20 1 (.slice ad cs.length c0) cs.length cs.reverse → Own b 20 1 (.slice ad cs.length c0) cs.length cs.reverse := fun hm_ O_ => O_.mod hm_ (fun x hx e => hgs x hx (by simpa using e))
 have E := Mod.refl [g] w1
 refine Cq fun K1 hK1 => Cq fun K2 hK2 => Cr (tW 2 rfl (Sv (oA0 fd67_2 rfl) (Sv (oL sc65 rfl (B.cell rfl)) (Sv (o_len Tryz.underlying65 rfl) (Sv (oE rfl rfl) (Ln (e_K (hK2 _ _ _ _ ?_))))))))
 refine c_cond rfl (fun h9 => ?_) (fun h9 => ?_)
 ·have h9 : cs.length = 32 := by have := of_decide_eq_true h9; omega
  refine Cr ?_
  refine scp (oC ent53 rfl) (c_fail _ 5) rfl (fun w_ h_ => h_.elim) (fun c_ w7 h_ => ?_) fun v_ w7 h_ => ?_
  ·obtain ⟨rfl, rfl⟩ := h_
   exact eT (by simp) (endp ⟨5, by rw [if_pos h9], by decide, rfl, Mod.refl _ _⟩)
  ·exact h_.elim
 ·have h9 : ¬ cs.length = 32 := fun e => of_decide_eq_false h9 (by omega)
  refine cK (e_K (hK1 _ _ _ _ (Cq fun K3 hK3 => Cr (tW 2 rfl (Sv (oA0 fd67_1 rfl) (Sv (oL sc3 rfl (B.cell rfl)) (Sv (o_addE (r := ((k + 1 : Nat) : Int)) rfl rfl (by rw [wrap64_in _ (by omega)]; omega)) (tW 1 rfl (Sv (oA0 fd67_1 rfl) (s_st sc3 B rfl rfl rfl (by simp) fun w2 P2 => ?_))))))))))
  replace O := hO P2.mod O
  replace B := P2.eq rfl
  replace E := E.trans P2.mod
  refine Ln (e_K (hK3 _ _ _ _ (Cr (tW 3 rfl (Sv (oA0 fd67_2 rfl) (Sv (oL sc65 rfl (B.cell rfl)) (tW 1 rfl (s_bslice (cs := [_]) sl65 zv20 rfl rfl rfl (by decide) rfl fun g1 w3 N1 => ?_))))))))
  have Bg1 := N1.blk
  replace B := B.mod0 N1.mod
  replace O := O.mod0 N1.mod
  replace E := E.then N1.mod
  refine s_append sl65 rfl rfl O (Src.own Tryz.underlying65 (Own.all (cs := [_]) Bg1 rfl (by omega)) (by simp [Value.oneCell'])) (by decide) (by omega) (by omega) rfl fun v1 w4 A1 => ?_
  replace B := B.mod A1.mod (fun hx => hgs _ hx rfl)
  refine tW 1 rfl (Sv (oA0 fd67_2 rfl) ?_)
  obtain ⟨ad', c1, e1, _, _⟩ := A1.own.form
  refine s_st sc65 B rfl rfl (by rw [e1]; rfl) (by simp) fun w5 P5 => ?_
  have hmd : Mod (g :: ob (.slice ad cs.length c0)) w1 w5 := ((E.mono (by simp)).trans (A1.mod.mono (fun x hx => List.mem_cons_of_mem _ hx))).trans (P5.mod.mono (by simp))
  have h5 : ∀ x ∈ ob v1, x ∈ ob (.slice ad cs.length c0) ∨ w1.heap.size ≤ x := fun x hx => (A1.ob_ x hx).imp id (Nat.le_trans E.size)
  refine Ln ?_
  exact end0R rfl ⟨(), by rw [if_neg h9], ⟨rfl, v1, P5.eq rfl, A1.own.mod P5.mod (fun x hx e => by
   rw [List.mem_singleton.1 e] at hx
   rcases h5 g hx with h | h
   ·exact hgs _ h rfl
   ·omega), h5⟩, hmd⟩
end Go.Proofs.YtknndpjacklkeaaGreatDoor.V

set_option linter.unusedVariables false
set_option linter.unusedSimpArgs false
set_option maxRecDepth 10000
namespace Go.Proofs.YtknndpjacklkeaaGreatDoor.V
open Go Go.Proofs
theorem fd160_0 : fdB Tryz.prog 160 0 0 1 = true := by kernel_rfl
theorem fd160_1 : fdB Tryz.prog 160 1 1 1 = true := by kernel_rfl
theorem fd160_2 : fdB Tryz.prog 160 2 2 1 = true := by kernel_rfl
theorem sc158 : scB Tryz.prog 158 = true := by kernel_rfl
theorem mp158 : Tryz.prog.underlying 158 = some (.map 9 4) := by kernel_rfl
theorem zr4 : (Tryz.prog.info? 4).bind (·.zero) = some (.bool false) := by kernel_rfl
theorem ent142 : Ent Tryz.prog 142 := Ent.of Tryz.func142 (by kernel_rfl) (by kernel_rfl)
theorem ent52_ : Ent Tryz.prog 52 := Ent.of Tryz.func52 (by kernel_rfl) (by kernel_rfl)
theorem ent97_ : Ent Tryz.prog 97 := Ent.of Tryz.func97 (by kernel_rfl) (by kernel_rfl)
theorem c_key_ {w : World} {g g1 b k : Nat} {s t0 : Str} {sk wv : Value} {K : List Str} {m : List (Str × JV)} (B : Blk w g 67 [S s, .int .i64 (k : Int), sk]) (B1 : Blk w g1 160 [wv, .map (some b), S t0]) (hm : MapB w b (seenV K)) (hg1 : g1 ≠ g) (hgb : g ≠ b) (h1b : g1 ≠ b)
  (hK : ∀ t, (look m t).isSome = decide (t ∈ K)) (hs : s.length ≤ 65536) (hk : k ≤ s.length) (hE : Env w) (hg : gX < g) :
  Calls Tryz.prog 99 [.pointer (some ⟨g, 0, none⟩), .pointer (some ⟨g1, 0, none⟩)].toArray w (PnP 110 [g, g1, b] w (keyA s k m) (fun x u w' => u = .tuple #[] ∧ Blk w' g 67 [S s, .int .i64 (x.2 : Int), sk] ∧ Blk w' g1 160 [wv, .map (some b), S x.1] ∧ MapB w' b (seenV (K ++ [x.1])) ∧ x.2 ≤ s.length)) := by
 refine enter Tryz.func99 rfl rfl rfl (l := [(0, _), (1, _)]) ⟨rfl, rfl, trivial⟩ ?_
 have E := Mod.refl [g, g1, b] w
 have hws := spanA_le (p := isWs) (s := s) hk
 refine Cq fun K1 hK1 => Cr (Zm rfl (sc (oC ent52_ rfl) (c_blank _ g s k sk B hs hk) rfl fun v_ w1 h_ => ?_))
 obtain ⟨B, E_⟩ := h_
 replace B1 := B1.mod E_ (by simpa using hg1)
 replace hm := hm.mod E_ (by simpa using Ne.symm hgb)
 have hE1 := hE.modg hg E_
 replace E := E.trans (E_.mono (by simp))
 refine Ln (e_K (hK1 _ _ _ _ (Cq fun K2 hK2 => Cr (tW 1 rfl (Zm rfl ?_)))))
 refine scp (oC ent142 rfl) (c_rtext _ g s (spanA isWs s k) sk B hs hws hE1.utf) rfl (fun w_ h_ => h_) (fun c_ w2 h_ => ?_) fun v_ w2 h_ => ?_
 ·obtain ⟨e, he, h0, rfl, E_⟩ := h_
  refine eT (by simp) ?_
  refine endp ⟨e, ?_, h0, rfl, E.trans (E_.mono (by simp))⟩
  unfold keyA
  cases h : strT s (spanA isWs s k) with
  | none => rw [h] at he; exact he
  | some x => rw [h] at he; cases he
 ·obtain ⟨⟨t, k1⟩, he, ⟨rfl, B⟩, E_⟩ := h_
  have ht : strT s (spanA isWs s k) = some (t, k1) := by
   cases h : strT s (spanA isWs s k) with
   | none => rw [h] at he; cases he
   | some x => rw [h] at he; cases he; rfl
  have hk1 : k1 ≤ s.length := (strT_bound ht).2.1
  have hke : keyA s k m = if (look m t).isSome then .error 6 else if hasA s (spanA isWs s k1) [58] then .ok (t, spanA isWs s k1 + 1) else .error 4 := by
   unfold keyA; rw [ht]
  rw [hK t] at hke
  replace B1 := B1.mod E_ (by simpa using hg1)
  replace hm := hm.mod E_ (by simpa using Ne.symm hgb)
  replace E := E.trans (E_.mono (by simp))
  refine tW 1 rfl (Sv (oA0 fd160_2 rfl) (s_st sc9 B1 rfl rfl rfl (by simp) fun w3 P3 => ?_))
  replace B := B.mod P3.mod (by simpa using Ne.symm hg1)
  replace hm := hm.mod P3.mod (by simpa using Ne.symm h1b)
  replace E := E.trans (P3.mod.mono (by simp))
  replace B1 := P3.eq (cs' := [wv, .map (some b), S t]) rfl
  refine Ln (e_K (hK2 _ _ _ _ (Cq fun K3 hK3 => Cq fun K4 hK4 => c_draw wide (by kernel_rfl) (tU 2 rfl rfl (tv (fun w_ E_ => (oA0 fd160_1 rfl)) rfl rfl (tv (fun w_ E_ => (oL sc158 rfl ((B1.mod0 E_).cell rfl))) rfl rfl (tU 2 rfl rfl (tv (fun w_ E_ => (oA0 fd160_2 rfl)) rfl rfl (tv (fun w_ E_ => (oL sc9 rfl ((B1.mod0 E_).cell rfl))) rfl rfl ?_)))))))))
  refine tv (fun w_ E_ => (o_lk mp158 Tryz.underlying9 zr4 rfl (.inr ⟨b, rfl, hm.mod0 E_⟩) rfl).to (v' := .bool (decide (t ∈ K))) (by
   rw [look_seen]
   by_cases h : t ∈ K
   ·rw [if_pos h, dT h]; rfl
   ·rw [if_neg h, dF h]; rfl)) rfl rfl ?_
  refine tw_nil rfl fun w4 E_ => ?_
  replace B := B.mod0 E_
  replace B1 := B1.mod0 E_
  replace hm := hm.mod0 E_
  replace E := E.then E_
  refine e_K (hK4 _ _ _ _ ?_)
  refine c_if rfl (fun h19 => ?_) (fun h19 => ?_)
  ·refine Cr ?_
   refine scp (oC ent53 rfl) (c_fail _ 6) rfl (fun w_ h_ => h_.elim) (fun c_ w7 h_ => ?_) fun v_ w7 h_ => ?_
   ·obtain ⟨rfl, rfl⟩ := h_
    exact eT (by simp) (endp ⟨6, by rw [hke, if_pos (dT h19)], by decide, rfl, E⟩)
   ·exact h_.elim
  ·rw [if_neg (by simpa using h19)] at hke
   refine cK (e_K (hK3 _ _ _ _ (Cq fun K5 hK5 => c_drawt 8 wide (by kernel_rfl) (tU 2 rfl rfl (tv (fun w_ E_ => (oA0 fd160_1 rfl)) rfl rfl (tv (fun w_ E_ => (oL sc158 rfl ((B1.mod0 E_).cell rfl))) rfl rfl (tU 2 rfl rfl (tv (fun w_ E_ => (oA0 fd160_2 rfl)) rfl rfl (tv (fun w_ E_ => (oL sc9 rfl ((B1.mod0 E_).cell rfl))) rfl rfl (tw_tail rfl fun w5 E_ => ?_))))))))))
   replace B := B.mod0 E_
   replace B1 := B1.mod0 E_
   replace hm := hm.mod0 E_
   replace E := E.then E_
   refine s_mset mp158 Tryz.underlying9 rfl hm rfl rfl fun w6 hm6 E_ => ?_
   replace B := B.mod E_ (by simpa using hgb)
   replace B1 := B1.mod E_ (by simpa using h1b)
   replace E := E.trans (E_.mono (by simp))
   rw [seen_set h19] at hm6
   refine Ln (e_K (hK5 _ _ _ _ (Cq fun K6 hK6 => Cr (Zm rfl (sc (oC ent97_ rfl) (c_is_ _ g s k1 sk B hs hk1 58) rfl fun v_ w7 h_ => ?_)))))
   obtain ⟨rfl, B, E_⟩ := h_
   replace B1 := B1.mod E_ (by simpa using hg1)
   replace hm6 := hm6.mod E_ (by simpa using Ne.symm hgb)
   replace E := E.trans (E_.mono (by simp))
   refine Sv (o_not rfl) (Ln (e_K (hK6 _ _ _ _ ?_)))
   refine c_cond rfl (fun h31 => ?_) (fun h31 => ?_)
   ·have h31 : hasA s (spanA isWs s k1) [58] = false := by simpa using h31
    refine Cr ?_
    refine scp (oC ent53 rfl) (c_fail _ 4) rfl (fun w_ h_ => h_.elim) (fun c_ w7 h_ => ?_) fun v_ w7 h_ => ?_
    ·obtain ⟨rfl, rfl⟩ := h_
     exact endp ⟨4, by rw [hke, h31]; rfl, by decide, rfl, E⟩
    ·exact h_.elim
   ·have h31 : hasA s (spanA isWs s k1) [58] = true := by simpa using h31
    rw [h31, if_pos rfl] at hke B
    exact cK (end0R rfl ⟨(t, spanA isWs s k1 + 1), hke, ⟨rfl, B, B1, hm6, by have := hasA_len h31 (by simp); simpa using this⟩, E⟩)
end Go.Proofs.YtknndpjacklkeaaGreatDoor.V

set_option linter.unusedVariables false
set_option linter.unusedSimpArgs false
set_option maxRecDepth 10000
namespace Go.Proofs.YtknndpjacklkeaaGreatDoor.V
open Go Go.Proofs
theorem sc20 : scB Tryz.prog 20 = true := by kernel_rfl
theorem fd157_0 : fdB Tryz.prog 157 0 0 1 = true := by kernel_rfl
theorem pu155 : Tryz.prog.underlying 155 = some (.pointer 157) := by kernel_rfl
theorem pu115 : Tryz.prog.underlying 115 = some (.pointer 160) := by kernel_rfl
theorem zr155 : (Tryz.prog.info? 155).bind (·.zero) = some (.pointer none) := by kernel_rfl
theorem stk_top {w : World} {sv c : Value} {cs : List Value} (O : Own w 20 1 sv (c :: cs).length (c :: cs).reverse) : ∃ ad c0, sv = .slice (some ad) (cs.length + 1) c0 ∧ cs.length + 1 ≤ c0 ∧ c0 ≤ 9223372036854775807 ∧ Cs w ad (cs.reverse ++ [c]) := by
 rcases O.2 with ⟨_, h0⟩ | ⟨g, o, c0, cc, h1, _⟩
 ·simp at h0
 ·subst h1
  have := O.form
  obtain ⟨_, _, h2, h3, h4⟩ := this
  cases h2
  exact ⟨_, _, rfl, h3, h4, by have := O.cs; rwa [List.reverse_cons] at this⟩
theorem stk_cell {w : World} {c : Value} {cs : List Value} {ad : Addr} (C : Cs w ad (cs.reverse ++ [c])) : w.cell? (ad.add ((cs.length : Int).toNat * 1)) = some c := by
 rw [Int.toNat_natCast, Nat.mul_one]
 exact C _ _ (by rw [List.getElem?_append_right (by simp), List.length_reverse, Nat.sub_self]; rfl)
theorem stk_pop {w : World} {c : Value} {cs : List Value} {ad : Addr} {c0 : Nat} (O : Own w 20 1 (.slice (some ad) (cs.length + 1) c0) (c :: cs).length (c :: cs).reverse) : Own w 20 1 (.slice (some ad) cs.length c0) cs.length cs.reverse := by
 have := Own.take (m := cs.length) O (by simp)
 rwa [List.reverse_cons, List.take_append_of_le_length (by simp), List.take_of_length_le (by simp)] at this
/-- the private blocks are as they were -/
def Kp (Z : List Nat) (w w' : World) : Prop := ∀ z ∈ Z, w'.heap[z]? = w.heap[z]?
theorem Kp.of {Z M : List Nat} {w w' : World} (h : Mod M w w') (hl : ∀ z ∈ Z, z < w.heap.size) (hn : ∀ z ∈ Z, z ∉ M) : Kp Z w w' := fun z hz => h.block z (hl z hz) (hn z hz)
theorem PS.zlt {Z : List Nat} {w0 w : World} {g k : Nat} {s : Str} {st : List Fm} {sk : Value} {cs : List Value} {fp : List Nat} (H : PS (PTz Z) w0 w g s k st sk cs fp) : ∀ z ∈ Z, z < w.heap.size ∧ z ≠ g ∧ z ∉ ob sk := fun z hz => by
 have hf := H.stk.z z hz
 exact ⟨H.lt z (by simp [hf]), fun e => H.gn (by subst e; simp [hf]), fun h => H.dj z h hf⟩
theorem c_popLR {w : World} {g k g1 n cl : Nat} {s : Str} {sk : Value} {al : Option Addr} {cs1 : List Value} (B : Blk w g 67 [S s, .int .i64 (k : Int), sk]) (O : Own w 20 1 sk (.iface 155 (.pointer (some ⟨g1, 0, none⟩)) :: cs1).length (.iface 155 (.pointer (some ⟨g1, 0, none⟩)) :: cs1).reverse)
  (B1 : Blk w g1 157 [.slice al n cl]) (n2 : g1 ≠ g) (hgs : ∀ x ∈ ob sk, x ≠ g) (hd : cs1.length ≤ 32) :
  Calls Tryz.prog 98 [.pointer (some ⟨g, 0, none⟩)].toArray w (Ret fun u w' => u = .agg #[.int .i64 4, .bool false, .int .i64 0, S [], .slice al n cl, .slice none 0 0] ∧ (∃ sk', Blk w' g 67 [S s, .int .i64 (k : Int), sk'] ∧ Own w' 20 1 sk' cs1.length cs1.reverse ∧ ob sk' = ob sk) ∧ Mod [g] w w') := by
 refine enter Tryz.func98 rfl rfl rfl (l := [(0, _)]) ⟨rfl, trivial⟩ ?_
 obtain ⟨ad, c0, rfl, hc1, hc2, C⟩ := stk_top O
 have hd' : cs1.length ≤ 32 := hd
 have E := Mod.refl [g] w
 refine Cq fun K1 hK1 => Cr (s_alloc zv25 rfl fun g2 w1 N1 => ?_)
 have Lg2 := N1.le E
 have n3 := N1.ne B
 have n4 := N1.ne B1
 have n5 := N1.own_ne O
 replace B := B.mod0 N1.mod
 replace B1 := B1.mod0 N1.mod
 replace O := O.mod0 N1.mod
 replace C := C.mod N1.mod (by simp)
 replace E := E.then N1.mod
 have B2 := N1.blk
 refine Ln (e_K (hK1 _ _ _ _ (Cq fun K2 hK2 => c_draw wide (by kernel_rfl) (tU 2 rfl rfl (tv (fun w_ E_ => (oA0 fd67_2 rfl)) rfl rfl (tv (fun w_ E_ => (oL sc65 rfl ((B.mod0 E_).cell rfl))) rfl rfl (tU 2 rfl rfl (tv (fun w_ E_ => (oA0 fd67_2 rfl)) rfl rfl (tv (fun w_ E_ => (oL sc65 rfl ((B.mod0 E_).cell rfl))) rfl rfl (tv (fun w_ E_ => (o_len Tryz.underlying65 rfl)) rfl rfl (tv (fun w_ E_ => (o_subE (r := ((cs1.length : Nat) : Int)) rfl rfl (by rw [wrap64_in _ (by omega)]; omega))) rfl rfl (tv (fun w_ E_ => (o_ix sl65 rfl rfl (by omega))) rfl rfl (tv (fun w_ E_ => (oL sc20 rfl (stk_cell (C.mod E_ (by simp))))) rfl rfl ?_)))))))))))))
 refine tv (fun w_ E_ => (o_as rfl)) rfl rfl (tw_nil rfl fun w2 E_ => ?_)
 replace B := B.mod0 E_
 replace B1 := B1.mod0 E_
 replace B2 := B2.mod0 E_
 replace O := O.mod0 E_
 replace E := E.then E_
 refine e_K (hK2 _ _ _ _ (Cq fun K3 hK3 => c_drawt 12 wide (by kernel_rfl) (tU 3 rfl rfl (tv (fun w_ E_ => (oA0 fd67_2 rfl)) rfl rfl (tv (fun w_ E_ => (oL sc65 rfl ((B.mod0 E_).cell rfl))) rfl rfl (tU 2 rfl rfl (tv (fun w_ E_ => (oA0 fd67_2 rfl)) rfl rfl (tv (fun w_ E_ => (oL sc65 rfl ((B.mod0 E_).cell rfl))) rfl rfl (tv (fun w_ E_ => (o_len Tryz.underlying65 rfl)) rfl rfl (tv (fun w_ E_ => (o_subE (r := ((cs1.length : Nat) : Int)) rfl rfl (by rw [wrap64_in _ (by omega)]; omega))) rfl rfl (tv (fun w_ E_ => (o_sl sl65 rfl rfl rfl (by simp only [loV, hiV]; omega) (by omega)).to (v' := .slice (some ad) cs1.length c0) (by simp only [loV, hiV, Int.toNat_natCast]; rw [show (0 : Int).toNat = 0 from rfl, adS_zero]; simp)) rfl rfl (tw_tail rfl fun w3 E_ => ?_))))))))))))
 replace B := B.mod0 E_
 replace B1 := B1.mod0 E_
 replace B2 := B2.mod0 E_
 replace O := O.mod0 E_
 replace E := E.then E_
 refine tW 1 rfl (Sv (oA0 fd67_2 rfl) (s_st sc65 B rfl rfl rfl (by simp) fun w4 P4 => ?_))
 replace B := P4.eq (cs' := [S s, .int .i64 (k : Int), .slice (some ad) cs1.length c0]) rfl
 replace B1 := B1.mod P4.mod (by simpa using n2)
 replace B2 := B2.mod P4.mod (by simpa using Ne.symm n3)
 replace O := (stk_pop O).mod P4.mod (fun x hx e => hgs x hx (by simpa using e))
 replace E := E.trans P4.mod
 refine Ln (e_K (hK3 _ _ _ _ (Cq fun K4 hK4 => Cq fun K5 hK5 => Cr (Zm rfl (Sv (o_ta pu155 rfl rfl) (Zm rfl (Sv (o_ext rfl rfl) (Sv (o_ext rfl rfl) (Za rfl (Za rfl (Ln (e_K (hK5 _ _ _ _ ?_)))))))))))))
 refine Cq fun K6 hK6 => Cr (Zm rfl (Ln (e_K (hK6 _ _ _ _ ?_))))
 refine c_cond rfl (fun h38 => ?_) (fun h38 => absurd h38 (by decide))
 refine Cq fun K7 hK7 => Cr (tW 2 rfl (Sv (oA0 fd157_0 rfl) (Sv (oL sc22 rfl (B1.cell rfl)) (Sv (o_build (cs := [_, _, _, _, _, _]) pl25 zv25 rfl rfl) (s_sta (vs := [_, _, _, _, _, _]) ag25 B2 rfl rfl rfl (by simp [Value.oneCell']) (by simp) fun w5 P5 => ?_)))))
 have B2' := P5.eq (cs' := [.int .i64 4, .bool false, .int .i64 0, S [], .slice al n cl, .slice none 0 0]) rfl
 have hE5 := E.own P5.mod (by omega)
 exact Ln (e_K (hK7 _ _ _ _ (cR (eT (by simp) (retc rfl ag25 rfl rfl (B2'.cs rfl) ⟨rfl, ⟨_, B.mod P5.mod (by simpa using n3), O.mod P5.mod (fun x hx e => n5 x hx (by simpa using e)), rfl⟩, hE5⟩)))))
theorem c_popL {Z : List Nat} {w0 w : World} {g k : Nat} {s : Str} {st : List Fm} {sk : Value} {cs : List Value} {fp : List Nat} {acc : List JV} (H : PS (PTz Z) w0 w g s k (.L acc :: st) sk cs fp) (hd : cs.length ≤ 33) :
  Calls Tryz.prog 98 [.pointer (some ⟨g, 0, none⟩)].toArray w (Ret fun u w' => ∃ us sk' cs1 fp1, u = .agg us.toArray ∧ PS (PTz Z) w0 w' g s k st sk' cs1 fp1 ∧ Stp w w' g sk fp sk' fp1 ∧ Reps (g :: (ob sk' ++ fp1)) w' (JV.lst acc).D us ∧ Kp Z w w') := by
 have O0 := H.own
 have hz := H.zlt
 obtain ⟨g1, wv, vs, cs1, fp1, rfl, rfl, B1, O1, R1, n1, n2, nz, _, HP⟩ := H.topL
 obtain ⟨al, cl, rfl, _, _⟩ := O1.form
 refine Calls.imp (c_popLR H.rd O0 B1 n2 (fun x hx e => H.gn (by subst e; simp [hx])) (by simpa using hd)) fun u w' h_ => ?_
 obtain ⟨rfl, ⟨sk', B', O', hob⟩, E⟩ := h_
 obtain ⟨q1, q2, _, q4⟩ := HP w' sk' E B' O' hob
 exact ⟨_, _, cs1, fp1, rfl, q1, q2, JV.reps_ (v := JV.lst acc) (am := none) (cm := 0) q4 Rep.sl_nil, Kp.of E (fun z hz' => (hz z hz').1) (fun z hz' => by simpa using (hz z hz').2.1)⟩
end Go.Proofs.YtknndpjacklkeaaGreatDoor.V

set_option linter.unusedVariables false
set_option linter.unusedSimpArgs false
set_option maxRecDepth 10000
namespace Go.Proofs.YtknndpjacklkeaaGreatDoor.V
open Go Go.Proofs
theorem ent145 : Ent Tryz.prog 145 := Ent.of Tryz.func145 (by kernel_rfl) (by kernel_rfl)
theorem c_popGR {w wr : World} {A : List Nat} {g k g1 : Nat} {s : Str} {sk m1 t1 wv : Value} {acc : List (Str × JV)} {vs : List Value} {cs1 : List Value} (B : Blk w g 67 [S s, .int .i64 (k : Int), sk]) (O : Own w 20 1 sk (.iface 115 (.pointer (some ⟨g1, 0, none⟩)) :: cs1).length (.iface 115 (.pointer (some ⟨g1, 0, none⟩)) :: cs1).reverse)
  (B1 : Blk w g1 160 [wv, m1, t1]) (O1 : Own w 44 7 wv acc.length vs) (R1 : Reps A wr (acc.map JV.Dp).flatten vs) (hnd : (acc.map (·.1)).Nodup) (n2 : g1 ≠ g) (hgs : ∀ x ∈ ob sk, x ≠ g) (n9 : ∀ x ∈ ob wv, x ≠ g) (n11 : ∀ x ∈ ob sk, x ∉ ob wv) (hd : cs1.length ≤ 32) (hl : acc.length ≤ 1000000) :
  Calls Tryz.prog 98 [.pointer (some ⟨g, 0, none⟩)].toArray w (Ret fun u w' => u = .agg #[.int .i64 5, .bool false, .int .i64 0, S [], .slice none 0 0, wv] ∧ (∃ sk', Blk w' g 67 [S s, .int .i64 (k : Int), sk'] ∧ Own w' 20 1 sk' cs1.length cs1.reverse ∧ ob sk' = ob sk) ∧ Mod (g :: ob wv) w w' ∧ (∃ vs', Own w' 44 7 wv (sortM acc).length vs' ∧ Reps A wr ((sortM acc).map JV.Dp).flatten vs') ∧ (sortM acc).length = acc.length) := by
 refine enter Tryz.func98 rfl rfl rfl (l := [(0, _)]) ⟨rfl, trivial⟩ ?_
 obtain ⟨ad, c0, rfl, hc1, hc2, C⟩ := stk_top O
 obtain ⟨al, cl, rfl, _, _⟩ := O1.form
 have hd' : cs1.length ≤ 32 := hd
 have E := Mod.refl [g] w
 refine Cq fun K1 hK1 => Cr (s_alloc zv25 rfl fun g2 w1 N1 => ?_)
 have Lg2 := N1.le E
 have n3 := N1.ne B
 have n4 := N1.ne B1
 have n5 := N1.own_ne O
 have n10 := N1.own_ne O1
 replace B := B.mod0 N1.mod
 replace B1 := B1.mod0 N1.mod
 replace O1 := O1.mod0 N1.mod
 replace O := O.mod0 N1.mod
 replace C := C.mod N1.mod (by simp)
 replace E := E.then N1.mod
 have B2 := N1.blk
 refine Ln (e_K (hK1 _ _ _ _ (Cq fun K2 hK2 => c_draw wide (by kernel_rfl) (tU 2 rfl rfl (tv (fun w_ E_ => (oA0 fd67_2 rfl)) rfl rfl (tv (fun w_ E_ => (oL sc65 rfl ((B.mod0 E_).cell rfl))) rfl rfl (tU 2 rfl rfl (tv (fun w_ E_ => (oA0 fd67_2 rfl)) rfl rfl (tv (fun w_ E_ => (oL sc65 rfl ((B.mod0 E_).cell rfl))) rfl rfl (tv (fun w_ E_ => (o_len Tryz.underlying65 rfl)) rfl rfl (tv (fun w_ E_ => (o_subE (r := ((cs1.length : Nat) : Int)) rfl rfl (by rw [wrap64_in _ (by omega)]; omega))) rfl rfl (tv (fun w_ E_ => (o_ix sl65 rfl rfl (by omega))) rfl rfl (tv (fun w_ E_ => (oL sc20 rfl (stk_cell (C.mod E_ (by simp))))) rfl rfl ?_)))))))))))))
 refine tv (fun w_ E_ => (o_as rfl)) rfl rfl (tw_nil rfl fun w2 E_ => ?_)
 replace B := B.mod0 E_
 replace B1 := B1.mod0 E_
 replace O1 := O1.mod0 E_
 replace B2 := B2.mod0 E_
 replace O := O.mod0 E_
 replace E := E.then E_
 refine e_K (hK2 _ _ _ _ (Cq fun K3 hK3 => c_drawt 12 wide (by kernel_rfl) (tU 3 rfl rfl (tv (fun w_ E_ => (oA0 fd67_2 rfl)) rfl rfl (tv (fun w_ E_ => (oL sc65 rfl ((B.mod0 E_).cell rfl))) rfl rfl (tU 2 rfl rfl (tv (fun w_ E_ => (oA0 fd67_2 rfl)) rfl rfl (tv (fun w_ E_ => (oL sc65 rfl ((B.mod0 E_).cell rfl))) rfl rfl (tv (fun w_ E_ => (o_len Tryz.underlying65 rfl)) rfl rfl (tv (fun w_ E_ => (o_subE (r := ((cs1.length : Nat) : Int)) rfl rfl (by rw [wrap64_in _ (by omega)]; omega))) rfl rfl (tv (fun w_ E_ => (o_sl sl65 rfl rfl rfl (by simp only [loV, hiV]; omega) (by omega)).to (v' := .slice (some ad) cs1.length c0) (by simp only [loV, hiV, Int.toNat_natCast]; rw [show (0 : Int).toNat = 0 from rfl, adS_zero]; simp)) rfl rfl (tw_tail rfl fun w3 E_ => ?_))))))))))))
 replace B := B.mod0 E_
 replace B1 := B1.mod0 E_
 replace O1 := O1.mod0 E_
 replace B2 := B2.mod0 E_
 replace O := O.mod0 E_
 replace E := E.then E_
 refine tW 1 rfl (Sv (oA0 fd67_2 rfl) (s_st sc65 B rfl rfl rfl (by simp) fun w4 P4 => ?_))
 replace B := P4.eq (cs' := [S s, .int .i64 (k : Int), .slice (some ad) cs1.length c0]) rfl
 replace B1 := B1.mod P4.mod (by simpa using n2)
 replace O1 := O1.mod P4.mod (fun x hx e => n9 x hx (by simpa using e))
 replace B2 := B2.mod P4.mod (by simpa using Ne.symm n3)
 replace O := (stk_pop O).mod P4.mod (fun x hx e => hgs x hx (by simpa using e))
 replace E := E.trans P4.mod
 refine Ln (e_K (hK3 _ _ _ _ (Cq fun K4 hK4 => Cq fun K5 hK5 => Cr (Zm rfl (Sv (o_taF pu155 (by decide) zr155 rfl) (Zm rfl (Sv (o_ext rfl rfl) (Sv (o_ext rfl rfl) (Za rfl (Za rfl (Ln (e_K (hK5 _ _ _ _ ?_)))))))))))))
 refine Cq fun K6 hK6 => Cr (Zm rfl (Ln (e_K (hK6 _ _ _ _ (c_cond rfl (fun h38 => absurd h38 (by decide)) (fun h38 => cK (e_K (hK4 _ _ _ _ (Cq fun K7 hK7 => Cr (Zm rfl (Sv (o_taN pu115 rfl rfl) (tW 1 rfl (Sv (oA0 fd160_0 rfl) ?_)))))))))))))
 refine Sv (oL sc23 rfl (B1.cell rfl)) (Za rfl (Ln (e_K (hK7 _ _ _ _ (Cq fun K8 hK8 => Cr (Zm rfl (sc (oC ent145 rfl) (c_sortA _ O1 R1 hnd hl rfl) rfl fun v_ w5 h_ => ?_)))))))
 obtain ⟨_, E_, vs', O1', R1', hlen⟩ := h_
 replace B := B.mod E_ (fun hx => n9 g hx rfl)
 replace B2 := B2.mod E_ (fun hx => n10 g2 hx rfl)
 replace O := O.mod E_ (fun x hx e => n11 x hx e)
 replace E := (E.mono (N := g :: ob (.slice al acc.length cl)) (by simp)).trans (E_.mono (fun x hx => List.mem_cons_of_mem _ hx))
 refine Ln (e_K (hK8 _ _ _ _ (Cq fun K9 hK9 => Cr (tW 1 rfl (Sv (o_build (cs := [_, _, _, _, _, _]) pl25 zv25 rfl rfl) (s_sta (vs := [_, _, _, _, _, _]) ag25 B2 rfl rfl rfl (by simp [Value.oneCell']) (by simp) fun w6 P6 => ?_))))))
 have B2' := P6.eq (cs' := [.int .i64 5, .bool false, .int .i64 0, S [], .slice none 0 0, .slice al acc.length cl]) rfl
 have hE6 := E.own P6.mod (by omega)
 exact Ln (e_K (hK9 _ _ _ _ (cR (retc rfl ag25 rfl rfl (B2'.cs rfl) ⟨rfl, ⟨_, B.mod P6.mod (by simpa using n3), O.mod P6.mod (fun x hx e => n5 x hx (by simpa using e)), rfl⟩, hE6, ⟨vs', hlen ▸ O1'.mod P6.mod (fun x hx e => n10 x hx (by simpa using e)), R1'⟩, hlen⟩))))
theorem c_popG {Z : List Nat} {w0 w : World} {g k : Nat} {s t : Str} {st : List Fm} {sk : Value} {cs : List Value} {fp : List Nat} {acc : List (Str × JV)} (H : PS (PTz Z) w0 w g s k (.A acc t :: st) sk cs fp) (hd : cs.length ≤ 33) (hl : acc.length ≤ 1000000) :
  Calls Tryz.prog 98 [.pointer (some ⟨g, 0, none⟩)].toArray w (Ret fun u w' => ∃ us sk' cs1 fp1, u = .agg us.toArray ∧ PS (PTz Z) w0 w' g s k st sk' cs1 fp1 ∧ Stp w w' g sk fp sk' fp1 ∧ Reps (g :: (ob sk' ++ fp1)) w' (JV.obj (sortM acc)).D us ∧ Kp Z w w') := by
 have O0 := H.own
 have hz := H.zlt
 obtain ⟨g1, b, wv, vs, cs1, fp1, rfl, rfl, B1, hm, O1, R1, n1, n2, n6, n7, n8, n9, nz, _, HP⟩ := H.topG (fm := .A acc t) (acc := acc) (K := acc.map (fun q : Str × JV => q.1)) (t := t) (fun A w c m h => h)
 have hnd : (acc.map (·.1)).Nodup := by have h := hm.keys; rw [show ∀ L : List Str, (seenV L).map (·.1) = L from fun L => by simp [seenV, Function.comp_def]] at h; exact h
 obtain ⟨al, cl, rfl, _, _⟩ := O1.form
 refine Calls.imp (c_popGR H.rd O0 B1 O1 R1 hnd n2 (fun x hx e => H.gn (by subst e; simp [hx])) n9 (fun x hx h => H.dj x hx (by simp [h])) (by simpa using hd) hl) fun u w' h_ => ?_
 obtain ⟨rfl, ⟨sk', B', O', hob⟩, E, ⟨vs', O2, R2⟩, hlen⟩ := h_
 obtain ⟨q1, q2, q4⟩ := HP w' sk' vs' (sortM acc) E B' O' hob O2 R2
 refine ⟨_, _, cs1, fp1, rfl, q1, q2, ?_, Kp.of E (fun z hz' => (hz z hz').1) (fun z hz' h => ?_)⟩
 ·rw [← hlen] at q4 ⊢
  exact JV.reps_ (v := JV.obj (sortM acc)) (al := none) (cl := 0) Rep.sl_nil q4
 ·rcases List.mem_cons.1 h with h | h
  ·exact (hz z hz').2.1 h
  ·exact nz z hz' (by simp [h])
end Go.Proofs.YtknndpjacklkeaaGreatDoor.V

set_option linter.unusedVariables false
set_option linter.unusedSimpArgs false
set_option maxRecDepth 10000
namespace Go.Proofs.YtknndpjacklkeaaGreatDoor.V
open Go Go.Proofs
theorem own_ne {w : World} {e sz n : Nat} {v : Value} {vs : List Value} (O : Own w e sz v n vs) (hn : n ≠ 0) : ∃ ad c, v = .slice (some ad) n c := by
 rcases O.2 with ⟨_, h0⟩ | ⟨g, o, c, cs, h, _⟩
 ·exact absurd h0 hn
 ·exact ⟨_, _, h⟩
theorem own_end {w : World} {e sz n : Nat} {v : Value} {vs zs us : List Value} (hl : vs.length = n * sz) (hz : zs.length = sz) (O : Own w e sz v (n + 1) ((vs ++ zs).take (n * sz) ++ us ++ (vs ++ zs).drop ((n + 1) * sz))) : Own w e sz v (n + 1) (vs ++ us) := by
 have h1 : (vs ++ zs).take (n * sz) = vs := by rw [List.take_append_of_le_length (by omega), List.take_of_length_le (by omega)]
 have h2 : (vs ++ zs).drop ((n + 1) * sz) = [] := List.drop_eq_nil_of_le (by rw [List.length_append, hl, hz, Nat.add_mul, Nat.one_mul]; exact Nat.le_refl _)
 rwa [h1, h2, List.append_nil] at O
theorem c_addL {Z : List Nat} {w0 w : World} {g k : Nat} {s : Str} {st : List Fm} {sk : Value} {cs : List Value} {fp : List Nat} {acc : List JV} {v : JV} {us : List Value} (H : PS (PTz Z) w0 w g s k (.L acc :: st) sk cs fp) (R : Reps (g :: (ob sk ++ fp)) w v.D us) (hd : cs.length ≤ 32) (ha : acc.length ≤ 1000000) :
  Calls Tryz.prog 96 [.pointer (some ⟨g, 0, none⟩), .agg us.toArray].toArray w (Ret fun u w' => u = .int .u8 93 ∧ ∃ fp', PS (PTz Z) w0 w' g s k (.L (acc ++ [v]) :: st) sk cs fp' ∧ Stp w w' g sk fp sk fp' ∧ Kp Z w w') := by
 refine enter Tryz.func96 rfl rfl rfl (l := [(0, _), (1, _)]) ⟨rfl, rfl, trivial⟩ ?_
 have hz := H.zlt
 have B := H.rd
 have O := H.own
 obtain ⟨g1, wv, vs, cs1, fp1, rfl, rfl, B1, O1, R1, n1, n2, nz, HA, _⟩ := H.topL
 obtain ⟨ad, c0, rfl, hc1, hc2, C⟩ := stk_top O
 have hd' : cs1.length + 1 ≤ 32 := by simpa using hd
 replace B : Blk w g 67 _ := B
 have E := Mod.refl (g1 :: ob wv) w
 have R0 := R
 obtain ⟨al, cl, am, cm, rfl, Rl, Rm⟩ := JV.cells_ R
 refine Cq fun K1 hK1 => Cr (s_box rfl rfl rfl fun g2 w1 N1 => ?_)
 have Lg2 := N1.le E
 have n3 := N1.ne B
 have n4 := N1.ne B1
 have n5 := N1.own_ne O1
 replace B := B.mod0 N1.mod
 replace B1 := B1.mod0 N1.mod
 replace O1 := O1.mod0 N1.mod
 replace C := C.mod N1.mod (by simp)
 replace E := E.then N1.mod
 have B2 := N1.blk
 refine Za rfl (Ln (e_K (hK1 _ _ _ _ (Cq fun K2 hK2 => c_draw wide (by kernel_rfl) (tU 2 rfl rfl (tv (fun w_ E_ => (oA0 fd67_2 rfl)) rfl rfl (tv (fun w_ E_ => (oL sc65 rfl ((B.mod0 E_).cell rfl))) rfl rfl (tU 2 rfl rfl (tv (fun w_ E_ => (oA0 fd67_2 rfl)) rfl rfl (tv (fun w_ E_ => (oL sc65 rfl ((B.mod0 E_).cell rfl))) rfl rfl (tv (fun w_ E_ => (o_len Tryz.underlying65 rfl)) rfl rfl (tv (fun w_ E_ => (o_subE (r := ((cs1.length : Nat) : Int)) rfl rfl (by rw [wrap64_in _ (by omega)]; omega))) rfl rfl (tv (fun w_ E_ => (o_ix sl65 rfl rfl (by omega))) rfl rfl ?_)))))))))))))
 refine tv (fun w_ E_ => (oL sc20 rfl (stk_cell (C.mod E_ (by simp))))) rfl rfl (tv (fun w_ E_ => (o_as rfl)) rfl rfl (tw_nil rfl fun w2 E_ => ?_))
 replace B := B.mod0 E_
 replace B1 := B1.mod0 E_
 replace B2 := B2.mod0 E_
 replace O1 := O1.mod0 E_
 replace E := E.then E_
 refine e_K (hK2 _ _ _ _ (Cq fun K4 hK4 => Cq fun K5 hK5 => Cr (Zm rfl (Sv (o_ta pu155 rfl rfl) (Zm rfl (Sv (o_ext rfl rfl) (Sv (o_ext rfl rfl) (Za rfl (Za rfl (Ln (e_K (hK5 _ _ _ _ (Cq fun K6 hK6 => ?_)))))))))))))
 refine Cr (Zm rfl (Ln (e_K (hK6 _ _ _ _ ?_))))
 refine c_cond rfl (fun h26 => ?_) (fun h26 => absurd h26 (by decide))
 refine Cq fun K7 hK7 => ?_
 obtain ⟨aw, cw, e1, hw1, hw2⟩ := O1.form
 subst e1
 refine c_drawe [] [0, 1, 2, 3, 4, 5, 6] 7 [8, 10, 11] 9 12 wide (by kernel_rfl) (fun _ _ _ h => h.2) (pw_nil (tU 2 rfl rfl (tv (fun w_ E_ => (oA0 fd157_0 rfl)) rfl rfl (tv (fun w_ E_ => (oL sc22 rfl ((B1.mod0 E_).cell rfl))) rfl rfl (tv (fun w_ E_ => (o_lda (vs := [_, _, _, _, _, _]) ag25 rfl rfl ((B2.mod0 E_).cs rfl))) rfl rfl (tv (fun w_ E_ => (o_len Tryz.underlying22 rfl)) rfl rfl (tr (fun u w_ => Own w_ 25 6 u 1 [.int .i64 0, .bool false, .int .i64 0, S [], .slice none 0 0, .slice none 0 0]) (fun v_ w1_ w2_ k_ h_ => h_.mod0 k_) (fun w_ E_ => ⟨_, _, r_bslice (cs := [_, _, _, _, _, _]) sl22 zv25 rfl rfl rfl (by decide), (New.mk' w_ 25 _).mod, Own.all (cs := [_, _, _, _, _, _]) (New.mk' w_ 25 _).blk rfl (by omega)⟩) rfl rfl rfl (tw_tail1 (t := 33) rfl rfl rfl rfl fun w3 v_ E_ h_ => ?_))))))))
 replace B := B.mod0 E_
 replace B1 := B1.mod0 E_
 replace B2 := B2.mod0 E_
 replace O1 := O1.mod0 E_
 replace E := E.then E_
 have E3 := E.size
 have hb3 := B2.lt
 refine s_append sl22 rfl rfl O1 (Src.own Tryz.underlying22 h_ (by simp [Value.oneCell'])) (by decide) (by omega) (by omega) rfl fun v1 w4 A1 => ?_
 obtain ⟨ad1, c1, rfl⟩ := own_ne A1.own (by omega)
 replace B1 := B1.mod A1.mod n1
 replace B2 := B2.mod A1.mod (fun hx => n5 g2 hx rfl)
 replace E := E.trans (A1.mod.mono (fun x hx => List.mem_cons_of_mem _ hx))
 have hnew : ∀ x ∈ ob (.slice (some ad1) (acc.length + 1) c1), x ∈ ob (.slice aw acc.length cw) ∨ w.heap.size ≤ x := fun x hx => (A1.ob_ x hx).imp id (Nat.le_trans E3)
 have n6 : g1 ∉ ob (.slice (some ad1) (acc.length + 1) c1) := fun hx => by
  rcases hnew g1 hx with h | h
  ·exact n1 h
  ·have := H.lt g1 (by simp); omega
 have hEo : ∀ {a b : World}, Mod (ob (.slice (some ad1) (acc.length + 1) c1)) a b → Mod (g1 :: ob (.slice aw acc.length cw)) w a → Mod (g1 :: ob (.slice aw acc.length cw)) w b := fun k_ h_ => h_.trans' k_ fun x hx => (hnew x hx).imp (fun h => List.mem_cons_of_mem _ h) id
 have OA := A1.own
 have hvl : vs.length = acc.length * 6 := O1.len
 refine l_end (pw (fun w_ => o_ix sl22 rfl rfl (by omega)) rfl rfl (pw (fun w_ => o_nilc rfl) rfl rfl (pw (fun w_ => oA0 fd157_0 rfl) rfl rfl (pw_nil ?_))))
 refine ⟨?_, ?_⟩
 ·refine s_stown (us := [_, _, _, _, _, _]) (i := acc.length) ag25 OA rfl rfl rfl (by simp [Value.oneCell']) (by omega) fun w5 O5 M5 _ => ?_
  replace B1 := B1.mod M5 (by simpa [ob] using n6)
  replace E := hEo M5 E
  refine s_st sc22 B1 rfl rfl rfl (by simp) fun w6 P6 => ?_
  replace B1 := P6.eq (cs' := [.slice (some ad1) (acc.length + 1) c1]) rfl
  replace OA := (own_end hvl rfl O5).mod P6.mod (fun x hx e => n6 (by rw [List.mem_singleton.1 e] at hx; exact hx))
  replace E := E.trans (P6.mod.mono (by simp))
  obtain ⟨q1, q2⟩ := HA w6 _ _ v E B1 OA hnew R0
  exact Ln (e_K (hK7 _ _ _ _ (Cq fun K8 hK8 => Cr (Za rfl (Ln (e_K (hK8 _ _ _ _ (cR (eT (by simp) (ret1 rfl rfl ⟨rfl, _, q1, q2, Kp.of E (fun z hz' => (hz z hz').1) nz⟩))))))))))
 ·refine s_st sc22 B1 rfl rfl rfl (by simp) fun w5 P5 => ?_
  replace B1 := P5.eq (cs' := [.slice (some ad1) (acc.length + 1) c1]) rfl
  replace OA := OA.mod P5.mod (fun x hx e => n6 (by rw [List.mem_singleton.1 e] at hx; exact hx))
  replace E := E.trans (P5.mod.mono (by simp))
  refine s_stown (us := [_, _, _, _, _, _]) (i := acc.length) ag25 OA rfl rfl rfl (by simp [Value.oneCell']) (by omega) fun w6 O6 M6 _ => ?_
  replace B1 := B1.mod M6 (by simpa [ob] using n6)
  replace E := hEo M6 E
  replace OA := own_end hvl rfl O6
  obtain ⟨q1, q2⟩ := HA w6 _ _ v E B1 OA hnew R0
  exact Ln (e_K (hK7 _ _ _ _ (Cq fun K8 hK8 => Cr (Za rfl (Ln (e_K (hK8 _ _ _ _ (cR (eT (by simp) (ret1 rfl rfl ⟨rfl, _, q1, q2, Kp.of E (fun z hz' => (hz z hz').1) nz⟩))))))))))
end Go.Proofs.YtknndpjacklkeaaGreatDoor.V

set_option linter.unusedVariables false
set_option linter.unusedSimpArgs false
set_option maxRecDepth 10000
namespace Go.Proofs.YtknndpjacklkeaaGreatDoor.V
open Go Go.Proofs
theorem c_addM {Z : List Nat} {w0 w : World} {g k : Nat} {s : Str} {st : List Fm} {sk : Value} {cs : List Value} {fp : List Nat} {acc : List (Str × JV)} {t : Str} {v : JV} {us : List Value} (H : PS (PTz Z) w0 w g s k (.M acc t :: st) sk cs fp) (R : Reps (g :: (ob sk ++ fp)) w v.D us) (hd : cs.length ≤ 32) (ha : acc.length ≤ 1000000) :
  Calls Tryz.prog 96 [.pointer (some ⟨g, 0, none⟩), .agg us.toArray].toArray w (Ret fun u w' => u = .int .u8 125 ∧ ∃ fp', PS (PTz Z) w0 w' g s k (.A (acc ++ [(t, v)]) t :: st) sk cs fp' ∧ Stp w w' g sk fp sk fp' ∧ Kp Z w w') := by
 refine enter Tryz.func96 rfl rfl rfl (l := [(0, _), (1, _)]) ⟨rfl, rfl, trivial⟩ ?_
 have hz := H.zlt
 have B := H.rd
 have O := H.own
 obtain ⟨g1, b, wv, vs, cs1, fp1, rfl, rfl, B1, hm, O1, R1, n1, n2, n7, n8, n9, n10, nz, HA, _⟩ := H.topG (fm := .M acc t) (acc := acc) (K := acc.map (fun q : Str × JV => q.1) ++ [t]) (t := t) (fun A w c m h => h)
 obtain ⟨ad, c0, rfl, hc1, hc2, C⟩ := stk_top O
 have hd' : cs1.length + 1 ≤ 32 := by simpa using hd
 replace B : Blk w g 67 _ := B
 have E := Mod.refl (g :: g1 :: b :: ob wv) w
 have R0 := R
 obtain ⟨al, cl, am, cm, rfl, Rl, Rm⟩ := JV.cells_ R
 refine Cq fun K1 hK1 => ?_
 refine Cr ?_
 refine s_box rfl rfl rfl fun g2 w1 N1 => ?_
 have Lg2 := N1.le E
 have n3 := N1.ne B
 have n4 := N1.ne B1
 have n5 := N1.own_ne O1
 replace B := B.mod0 N1.mod
 replace B1 := B1.mod0 N1.mod
 replace hm := hm.mod0 N1.mod
 replace O1 := O1.mod0 N1.mod
 replace C := C.mod N1.mod (by simp)
 replace E := E.then N1.mod
 have B2 := N1.blk
 refine sv (o_as rfl) rfl ?_
 refine Ln ?_
 refine e_K (hK1 _ _ _ _ ?_)
 refine Cq fun K2 hK2 => ?_
 refine c_draw wide (by kernel_rfl) ?_
 refine tU 2 rfl rfl ?_
 refine tv (fun w_ E_ => (oA0 fd67_2 rfl)) rfl rfl ?_
 refine tv (fun w_ E_ => (oL sc65 rfl ((B.mod0 E_).cell rfl))) rfl rfl ?_
 refine tU 2 rfl rfl ?_
 refine tv (fun w_ E_ => (oA0 fd67_2 rfl)) rfl rfl ?_
 refine tv (fun w_ E_ => (oL sc65 rfl ((B.mod0 E_).cell rfl))) rfl rfl ?_
 refine tv (fun w_ E_ => (o_len Tryz.underlying65 rfl)) rfl rfl ?_
 refine tv (fun w_ E_ => (o_subE (r := ((cs1.length : Nat) : Int)) rfl rfl (by rw [wrap64_in _ (by omega)]; omega))) rfl rfl ?_
 refine tv (fun w_ E_ => (o_ix sl65 rfl rfl (by omega))) rfl rfl ?_
 refine tv (fun w_ E_ => (oL sc20 rfl (stk_cell (C.mod E_ (by simp))))) rfl rfl ?_
 refine tv (fun w_ E_ => (o_as rfl)) rfl rfl ?_
 refine tw_nil rfl fun w2 E_ => ?_
 replace B := B.mod0 E_
 replace B1 := B1.mod0 E_
 replace hm := hm.mod0 E_
 replace B2 := B2.mod0 E_
 replace O1 := O1.mod0 E_
 replace E := E.then E_
 refine e_K (hK2 _ _ _ _ ?_)
 refine Cq fun K4 hK4 => ?_
 refine Cq fun K5 hK5 => ?_
 refine Cr ?_
 refine sv (oM rfl) rfl ?_
 refine sv (o_taF pu155 (show ¬ (115 : Nat) = 155 by decide) zr155 rfl) rfl ?_
 refine sv (oM rfl) rfl ?_
 refine sv (o_ext rfl rfl) rfl ?_
 refine sv (o_ext rfl rfl) rfl ?_
 refine sv (o_as rfl) rfl ?_
 refine sv (o_as rfl) rfl ?_
 refine Ln ?_
 refine e_K (hK5 _ _ _ _ ?_)
 refine Cq fun K6 hK6 => ?_
 refine Cr ?_
 refine sv (oM rfl) rfl ?_
 refine Ln ?_
 refine e_K (hK6 _ _ _ _ ?_)
 refine c_cond rfl (fun h26 => absurd h26 (by decide)) (fun h26 => ?_)
 refine cK ?_
 refine e_K (hK4 _ _ _ _ ?_)
 refine Cq fun K9 hK9 => ?_
 refine Cr ?_
 refine sv (oM rfl) rfl ?_
 refine sv (o_taN pu115 rfl rfl) rfl ?_
 refine sv (o_as rfl) rfl ?_
 refine Ln ?_
 refine e_K (hK9 _ _ _ _ ?_)
 refine Cq fun K7 hK7 => ?_
 obtain ⟨aw, cw, e1, hw1, hw2⟩ := O1.form
 subst e1
 refine c_drawe [] [0, 1, 2, 3, 4, 5, 6, 7, 8, 9, 10, 11] 12 [13, 15, 16] 14 17 wide (by kernel_rfl) (fun _ _ _ h => h.2) ?_
 refine pw_nil ?_
 refine tU 2 rfl rfl ?_
 refine tv (fun w_ E_ => (oA0 fd160_0 rfl)) rfl rfl ?_
 refine tv (fun w_ E_ => (oL sc23 rfl ((B1.mod0 E_).cell rfl))) rfl rfl ?_
 refine tU 2 rfl rfl ?_
 refine tv (fun w_ E_ => (oA0 fd160_2 rfl)) rfl rfl ?_
 refine tv (fun w_ E_ => (oL sc9 rfl ((B1.mod0 E_).cell rfl))) rfl rfl ?_
 refine tv (fun w_ E_ => (o_lda (vs := [_, _, _, _, _, _]) ag25 rfl rfl ((B2.mod0 E_).cs rfl))) rfl rfl ?_
 refine tv (fun w_ E_ => (o_build (cs := [_, _, _, _, _, _, _]) pl44 zv44 rfl rfl)) rfl rfl ?_
 refine tv (fun w_ E_ => (o_len Tryz.underlying23 rfl)) rfl rfl ?_
 refine tr (fun u w_ => Own w_ 44 7 u 1 [S [], .int .i64 0, .bool false, .int .i64 0, S [], .slice none 0 0, .slice none 0 0]) (fun v_ w1_ w2_ k_ h_ => h_.mod0 k_) (fun w_ E_ => ⟨_, _, r_bslice (cs := [_, _, _, _, _, _, _]) sl23 zv44 rfl rfl rfl (by decide), (New.mk' w_ 44 _).mod, Own.all (cs := [_, _, _, _, _, _, _]) (New.mk' w_ 44 _).blk rfl (by omega)⟩) rfl rfl rfl ?_
 refine tw_tail1 (t := 51) rfl rfl rfl rfl fun w3 v_ E_ h_ => ?_
 replace B := B.mod0 E_
 replace B1 := B1.mod0 E_
 replace hm := hm.mod0 E_
 replace B2 := B2.mod0 E_
 replace O1 := O1.mod0 E_
 replace E := E.then E_
 have E3 := E.size
 have hb3 := B2.lt
 refine s_append sl23 rfl rfl O1 (Src.own Tryz.underlying23 h_ (by simp [Value.oneCell'])) (by decide) (by omega) (by omega) rfl fun v1 w4 A1 => ?_
 obtain ⟨ad1, c1, rfl⟩ := own_ne A1.own (by omega)
 replace B1 := B1.mod A1.mod n1
 replace B2 := B2.mod A1.mod (fun hx => n5 g2 hx rfl)
 replace E := E.trans (A1.mod.mono (fun x hx => List.mem_cons_of_mem _ (List.mem_cons_of_mem _ (List.mem_cons_of_mem _ hx))))
 replace hm := hm.mod A1.mod n9
 replace B := B.mod A1.mod (fun hx => n10 g hx rfl)
 have hnew : ∀ x ∈ ob (.slice (some ad1) (acc.length + 1) c1), x ∈ ob (.slice aw acc.length cw) ∨ w.heap.size ≤ x := fun x hx => (A1.ob_ x hx).imp id (Nat.le_trans E3)
 have n6 : g1 ∉ ob (.slice (some ad1) (acc.length + 1) c1) := fun hx => by
  rcases hnew g1 hx with h | h
  ·exact n1 h
  ·have := H.lt g1 (by simp); omega
 have n11 : b ∉ ob (.slice (some ad1) (acc.length + 1) c1) := fun hx => by
  rcases hnew b hx with h | h
  ·exact n9 h
  ·have := H.lt b (by simp); omega
 have n12 : g ∉ ob (.slice (some ad1) (acc.length + 1) c1) := fun hx => by
  rcases hnew g hx with h | h
  ·exact n10 g h rfl
  ·have := H.lt g (by simp); omega
 have hEo : ∀ {u_ v_ : World}, Mod (ob (.slice (some ad1) (acc.length + 1) c1)) u_ v_ → Mod (g :: g1 :: b :: ob (.slice aw acc.length cw)) w u_ → Mod (g :: g1 :: b :: ob (.slice aw acc.length cw)) w v_ := fun k_ h_ => h_.trans' k_ fun x hx => (hnew x hx).imp (fun h => List.mem_cons_of_mem _ (List.mem_cons_of_mem _ (List.mem_cons_of_mem _ h))) id
 have OA := A1.own
 have hvl : vs.length = acc.length * 7 := O1.len
 refine l_end ?_
 refine pw (fun w_ => o_ix sl23 rfl rfl (by omega)) rfl rfl ?_
 refine pw (fun w_ => o_nilc rfl) rfl rfl ?_
 refine pw (fun w_ => oA0 fd160_0 rfl) rfl rfl ?_
 refine pw_nil ?_
 refine ⟨?_, ?_⟩
 ·refine s_stown (us := [_, _, _, _, _, _, _]) (i := acc.length) ag44 OA rfl rfl rfl (by simp [Value.oneCell']) (by omega) fun w5 O5 M5 _ => ?_
  replace B1 := B1.mod M5 (by simpa [ob] using n6)
  replace hm := hm.mod M5 (by simpa [ob] using n11)
  replace B := B.mod M5 (by simpa [ob] using n12)
  replace E := hEo M5 E
  refine s_st sc23 B1 rfl rfl rfl (by simp) fun w6 P6 => ?_
  replace B1 := P6.eq (cs' := [.slice (some ad1) (acc.length + 1) c1, .map (some b), S t]) rfl
  replace OA := (own_end hvl rfl O5).mod P6.mod (fun x hx e => n6 (by rw [List.mem_singleton.1 e] at hx; exact hx))
  replace E := E.trans (P6.mod.mono (by simp))
  replace hm := hm.mod P6.mod (by simpa using Ne.symm n8)
  replace B := B.mod P6.mod (by simpa using Ne.symm n2)
  obtain ⟨q1, q2⟩ := HA w6 _ _ k (.A (acc ++ [(t, v)]) t) (acc ++ [(t, v)]) (acc.map (fun q : Str × JV => q.1) ++ [t]) t E B B1 hm (by rw [List.length_append]; exact OA) hnew (JV.rows_snoc R1 (JV.Dp_reps (p := (t, v)) R0)) (fun A w c m h => by rw [show acc.map (fun q : Str × JV => q.1) ++ [t] = (acc ++ [(t, v)]).map (fun q : Str × JV => q.1) by simp] at h; exact h)
  refine Ln ?_
  refine e_K (hK7 _ _ _ _ ?_)
  refine Cq fun K8 hK8 => ?_
  refine Cr ?_
  refine sv (o_as rfl) rfl ?_
  refine Ln ?_
  refine e_K (hK8 _ _ _ _ ?_)
  refine cR ?_
  exact ret1 rfl rfl ⟨rfl, _, q1, q2, Kp.of E (fun z hz' => (hz z hz').1) (fun z hz' h => (List.mem_cons.1 h).elim (hz z hz').2.1 (nz z hz'))⟩
 ·refine s_st sc23 B1 rfl rfl rfl (by simp) fun w5 P5 => ?_
  replace B1 := P5.eq (cs' := [.slice (some ad1) (acc.length + 1) c1, .map (some b), S t]) rfl
  replace OA := OA.mod P5.mod (fun x hx e => n6 (by rw [List.mem_singleton.1 e] at hx; exact hx))
  replace E := E.trans (P5.mod.mono (by simp))
  replace hm := hm.mod P5.mod (by simpa using Ne.symm n8)
  replace B := B.mod P5.mod (by simpa using Ne.symm n2)
  refine s_stown (us := [_, _, _, _, _, _, _]) (i := acc.length) ag44 OA rfl rfl rfl (by simp [Value.oneCell']) (by omega) fun w6 O6 M6 _ => ?_
  replace B1 := B1.mod M6 (by simpa [ob] using n6)
  replace hm := hm.mod M6 (by simpa [ob] using n11)
  replace B := B.mod M6 (by simpa [ob] using n12)
  replace E := hEo M6 E
  replace OA := own_end hvl rfl O6
  obtain ⟨q1, q2⟩ := HA w6 _ _ k (.A (acc ++ [(t, v)]) t) (acc ++ [(t, v)]) (acc.map (fun q : Str × JV => q.1) ++ [t]) t E B B1 hm (by rw [List.length_append]; exact OA) hnew (JV.rows_snoc R1 (JV.Dp_reps (p := (t, v)) R0)) (fun A w c m h => by rw [show acc.map (fun q : Str × JV => q.1) ++ [t] = (acc ++ [(t, v)]).map (fun q : Str × JV => q.1) by simp] at h; exact h)
  refine Ln ?_
  refine e_K (hK7 _ _ _ _ ?_)
  refine Cq fun K8 hK8 => ?_
  refine Cr ?_
  refine sv (o_as rfl) rfl ?_
  refine Ln ?_
  refine e_K (hK8 _ _ _ _ ?_)
  refine cR ?_
  exact ret1 rfl rfl ⟨rfl, _, q1, q2, Kp.of E (fun z hz' => (hz z hz').1) (fun z hz' h => (List.mem_cons.1 h).elim (hz z hz').2.1 (nz z hz'))⟩
end Go.Proofs.YtknndpjacklkeaaGreatDoor.V
