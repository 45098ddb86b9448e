/-
  A part of the proof: the reader's begin, walked; what the reader's value asks of the plain machine; a block made private. No condition of its own.
-/
import Derived.Test.YtknndpjacklkeaaGreatDoorM13
set_option linter.unusedVariables false
set_option linter.unusedSimpArgs false
set_option maxRecDepth 10000
namespace Go.Proofs.YtknndpjacklkeaaGreatDoor.V
open Go Go.Proofs
theorem blk_nm {w : World} {g T b : Nat} {cs : List Value} {m : List (Str × Value)} (B : Blk w g T cs) (I : MapB w b m) : g ≠ b := fun e => by
 subst e
 obtain ⟨es, c, h, _⟩ := I.at_
 rw [show w.heap[g]? = _ from B] at h
 cases h
abbrev NUL6 : List Value := [.int .i64 0, .bool false, .int .i64 0, S [], .slice none 0 0, .slice none 0 0]
theorem beg_word {s : Str} {k n : Nat} {x : JV × Nat} (h : wordA s (spanA isWs s k) = some x) : begA s k n = .ok (.inl x) := by
 unfold wordA at h
 unfold begA
 dsimp only
 split at h
 ·rename_i h1; rw [if_pos h1]; injection h with h; rw [h]
 ·rename_i h1
  rw [if_neg h1]
  split at h
  ·rename_i h2; rw [if_pos h2]; injection h with h; rw [h]
  ·rename_i h2
   rw [if_neg h2]
   split at h
   ·rename_i h3; rw [if_pos h3]; injection h with h; rw [h]
   ·cases h
noncomputable def begR (s : Str) (k n : Nat) : Except Int (Sum (JV × Nat) (Fm × Nat)) :=
 if hasA s k [34] then
  match strT s k with
  | none => .error 4
  | some (t, k1) => .ok (.inl (JV.txtV t, k1))
 else if hasA s k [91] || hasA s k [123] then
  if n = 32 then .error 5
  else
   let k1 := spanA isWs s (k + 1)
   if hasA s k [91] then
    if hasA s k1 [93] then .ok (.inl (JV.lst [], k1 + 1)) else .ok (.inr (.L [], k1))
   else
    if hasA s k1 [125] then .ok (.inl (JV.obj [], k1 + 1))
    else match keyA s k1 [] with
     | .error e => .error e
     | .ok (t, k2) => .ok (.inr (.M [] t, k2))
 else match numA s k with
  | .error e => .error e
  | .ok x => .ok (.inl x)
theorem beg_rest {s : Str} {k n : Nat} (h : wordA s (spanA isWs s k) = none) : begA s k n = begR s (spanA isWs s k) n := by
 unfold wordA at h
 unfold begA begR
 dsimp only
 split at h
 ·cases h
 ·rename_i h1
  rw [if_neg h1]
  split at h
  ·cases h
  ·rename_i h2
   rw [if_neg h2]
   split at h
   ·cases h
   ·rename_i h3
    rw [if_neg h3]
    rfl
theorem begR_end {s : Str} {k n : Nat} (h : k = s.length) : begR s k n = .error 4 := by
 have h0 : ∀ c : UInt8, hasA s k [c] = false := fun c => hasA_off (by omega) (by simp)
 have hz : s.drop k = [] := List.drop_eq_nil_of_le (by omega)
 have hn : numA s k = .error 4 := by
  unfold numA numW
  rw [hz, List.take_nil, if_pos (by decide)]
  rfl
 unfold begR
 rw [h0, h0, h0, hn]
 rfl
theorem has_c {s : Str} {k : Nat} {c : UInt8} (hc : s[k]? = some c) (d : UInt8) : hasA s k [d] = decide (c = d) := hasA_at hc
theorem begR_txt {s : Str} {k n : Nat} (hc : s[k]? = some 34) : begR s k n = match strT s k with | none => .error 4 | some (t, k1) => .ok (.inl (JV.txtV t, k1)) := by
 unfold begR
 rw [has_c hc, if_pos (by decide)]
theorem begR_lst {s : Str} {k n : Nat} (hc : s[k]? = some 91) : begR s k n = if n = 32 then .error 5 else if hasA s (spanA isWs s (k + 1)) [93] then .ok (.inl (JV.lst [], spanA isWs s (k + 1) + 1)) else .ok (.inr (.L [], spanA isWs s (k + 1))) := by
 unfold begR
 rw [has_c hc, has_c hc, has_c hc, if_neg (by decide), if_pos (by decide)]
 by_cases hn : n = 32
 ·rw [if_pos hn, if_pos hn]
 ·rw [if_neg hn, if_neg hn]
  exact if_pos (by decide)
theorem begR_map {s : Str} {k n : Nat} (hc : s[k]? = some 123) : begR s k n = if n = 32 then .error 5 else if hasA s (spanA isWs s (k + 1)) [125] then .ok (.inl (JV.obj [], spanA isWs s (k + 1) + 1)) else match keyA s (spanA isWs s (k + 1)) [] with | .error e => .error e | .ok (t, k2) => .ok (.inr (.M [] t, k2)) := by
 unfold begR
 rw [has_c hc, has_c hc, has_c hc, if_neg (by decide), if_pos (by decide)]
 by_cases hn : n = 32
 ·rw [if_pos hn, if_pos hn]
 ·rw [if_neg hn, if_neg hn]
  exact if_neg (by decide)
theorem begR_num {s : Str} {k n : Nat} {c : UInt8} (hc : s[k]? = some c) (h1 : ¬ c = 34) (h2 : ¬ c = 91) (h3 : ¬ c = 123) : begR s k n = match numA s k with | .error e => .error e | .ok x => .ok (.inl x) := by
 unfold begR
 rw [has_c hc, has_c hc, has_c hc, decide_eq_false h1, decide_eq_false h2, decide_eq_false h3]
 rfl
def BgQ (Z : List Nat) (w0 w : World) (g : Nat) (s : Str) (st : List Fm) (sk : Value) (fp : List Nat) : Sum (JV × Nat) (Fm × Nat) → Value → World → Prop
 | .inl (v, k1), u, w' => ∃ us sk' cs' fp', u = .tuple #[.agg us.toArray, .bool true] ∧ PS (PTz Z) w0 w' g s k1 st sk' cs' fp' ∧ Stp w w' g sk fp sk' fp' ∧ Reps (g :: (ob sk' ++ fp')) w' v.D us ∧ Kp Z w w'
 | .inr (fm, k1), u, w' => ∃ us sk' cs' fp', u = .tuple #[.agg us.toArray, .bool false] ∧ us = NUL6 ∧ PS (PTz Z) w0 w' g s k1 (fm :: st) sk' cs' fp' ∧ Stp w w' g sk fp sk' fp' ∧ Kp Z w w'
theorem ent141 : Ent Tryz.prog 141 := Ent.of Tryz.func141 (by kernel_rfl) (by kernel_rfl)
theorem ent143 : Ent Tryz.prog 143 := Ent.of Tryz.func143 (by kernel_rfl) (by kernel_rfl)
theorem ent144 : Ent Tryz.prog 144 := Ent.of Tryz.func144 (by kernel_rfl) (by kernel_rfl)
theorem ent75_ : Ent Tryz.prog 75 := Ent.of Tryz.func75 (by kernel_rfl) (by kernel_rfl)
theorem ent98 : Ent Tryz.prog 98 := Ent.of Tryz.func98 (by kernel_rfl) (by kernel_rfl)
theorem ent99 : Ent Tryz.prog 99 := Ent.of Tryz.func99 (by kernel_rfl) (by kernel_rfl)
theorem pl157 : plB Tryz.prog 157 [(0, 1)] = true := by kernel_rfl
theorem zv157 : zvB Tryz.prog 157 [.slice none 0 0] := by unfold zvB; kernel_rfl
theorem pl160 : plB Tryz.prog 160 [(0, 1), (1, 1), (2, 1)] = true := by kernel_rfl
theorem zv160 : zvB Tryz.prog 160 [.slice none 0 0, .map none, S []] := by unfold zvB; kernel_rfl
theorem c_begin {Z : List Nat} {w0 w : World} {g k : Nat} {s : Str} {st : List Fm} {sk : Value} {cs : List Value} {fp : List Nat} (H : PS (PTz Z) w0 w g s k st sk cs fp) (hs : s.length ≤ 65536) (hk : k ≤ s.length) (hd : cs.length ≤ 32) (hE : Env w) (hg : gX < g) (hgo : ∀ x ∈ ob sk, gX < x) :
  Calls Tryz.prog 95 [.pointer (some ⟨g, 0, none⟩)].toArray w (PnP 110 (g :: ob sk) w (begA s k st.length) (BgQ Z w0 w g s st sk fp)) := by
 refine enter Tryz.func95 rfl rfl rfl (l := [(0, _)]) ⟨rfl, trivial⟩ ?_
 have hEw := hE
 have hlen := H.len
 have hz := H.zlt
 have B : Blk w g 67 _ := H.rd
 have hgs : ∀ x ∈ ob sk, x ≠ g := fun x hx e => H.gn (by subst e; simp [hx])
 have E := Mod.refl [g] w
 have hws : spanA isWs s k ≤ s.length := spanA_le hk
 refine Cq fun K1 hK1 => ?_
 refine Cr ?_
 refine s_alloc zv25 rfl fun g2 w1 N1 => ?_
 have Lg2 := N1.le E
 have n2 := N1.ne B
 have n5 := N1.own_ne H.own
 replace B := B.mod0 N1.mod
 replace E := E.then N1.mod
 have B2 := N1.blk
 refine sv (o_as rfl) rfl ?_
 refine Ln ?_
 refine e_K (hK1 _ _ _ _ ?_)
 refine Cq fun K2 hK2 => ?_
 refine Cr ?_
 refine sv (oM rfl) rfl ?_
 refine sc (oC ent52_ rfl) (c_blank _ g s k sk B hs hk) rfl fun v_ w2 h_ => ?_
 obtain ⟨B, E_⟩ := h_
 replace B2 := B2.mod E_ (by simpa using Ne.symm n2)
 replace E := E.trans E_
 refine Ln ?_
 refine e_K (hK2 _ _ _ _ ?_)
 refine Cq fun K3 hK3 => ?_
 refine Cq fun K4 hK4 => ?_
 refine Cr ?_
 refine sv (oM rfl) rfl ?_
 refine sc (oC ent141 rfl) (c_word _ g s _ sk B hs hws) rfl fun v_ w3 h_ => ?_
 obtain ⟨us, rfl, hy, hn, E_⟩ := h_
 replace B2 := B2.mod E_ (by simpa using Ne.symm n2)
 replace E := E.trans E_
 cases hw : wordA s (spanA isWs s k) with
 | some x =>
  obtain ⟨v, q⟩ := x
  obtain ⟨v', q', hvq, R, B⟩ := hy (by rw [hw]; rfl)
  obtain ⟨al, cl, am, cm, rfl, _, _⟩ := JV.cells_ (R [] w)
  refine sv (oM rfl) rfl ?_
  refine sv (o_ext rfl rfl) rfl ?_
  refine sv (o_ext rfl rfl) rfl ?_
  refine s_alloc zv25 rfl fun g4 w4 N4 => ?_
  have Lg4 := N4.le E
  have n3 := N4.ne B
  have n4 := N4.ne B2
  replace B := B.mod0 N4.mod
  replace B2 := B2.mod0 N4.mod
  replace E := E.then N4.mod
  refine s_sta (vs := [_, _, _, _, _, _]) ag25 N4.blk rfl rfl rfl (by simp [Value.oneCell']) (by simp) fun w5 P5 => ?_
  have B4 := P5.eq (cs' := [_, _, _, _, _, _]) rfl
  replace B := B.mod P5.mod (by simpa using n3)
  replace B2 := B2.mod P5.mod (by simpa using n4)
  replace E := E.own P5.mod Lg4
  refine sv (o_as rfl) rfl ?_
  refine Ln ?_
  refine e_K (hK4 _ _ _ _ ?_)
  refine Cq fun K5 hK5 => ?_
  refine Cr ?_
  refine sv (oM rfl) rfl ?_
  refine Ln ?_
  refine e_K (hK5 _ _ _ _ ?_)
  refine c_cond rfl (fun h14 => ?_) (fun h14 => absurd h14 (by simp))
  refine Cq fun K6 hK6 => ?_
  refine Cr ?_
  refine sv (o_lda (vs := [_, _, _, _, _, _]) ag25 rfl rfl (B4.cs rfl)) rfl ?_
  refine s_sta (vs := [_, _, _, _, _, _]) ag25 B2 rfl rfl rfl (by simp [Value.oneCell']) (by simp) fun w6 P6 => ?_
  have B2' := P6.eq (cs' := [_, _, _, _, _, _]) rfl
  replace B := B.mod P6.mod (by simpa using n2)
  replace E := E.own P6.mod Lg2
  refine sv (o_as rfl) rfl ?_
  refine Ln ?_
  refine e_K (hK6 _ _ _ _ ?_)
  refine cR ?_
  refine eT (by simp) ?_
  exact retctR (vs := [_, _, _, _, _, _]) rfl ag25 rfl rfl (B2'.cs rfl) rfl ⟨.inl (v', q'), beg_word hvq, ⟨_, sk, cs, fp, rfl, H.rstep B E, Stp.of E, R _ _, (Kp.of E (fun z hz' => (hz z hz').1) (fun z hz' => by simpa using (hz z hz').2.1))⟩, E.mono (by simp)⟩
 | none =>
  obtain ⟨_, rfl, B⟩ := hn (by rw [hw]; rfl)
  have hbg := beg_rest (n := st.length) hw
  refine sv (oM rfl) rfl ?_
  refine sv (o_ext rfl rfl) rfl ?_
  refine sv (o_ext rfl rfl) rfl ?_
  refine s_alloc zv25 rfl fun g4 w4 N4 => ?_
  have Lg4 := N4.le E
  have n3 := N4.ne B
  have n4 := N4.ne B2
  replace B := B.mod0 N4.mod
  replace B2 := B2.mod0 N4.mod
  replace E := E.then N4.mod
  refine s_sta (vs := [_, _, _, _, _, _]) ag25 N4.blk rfl rfl rfl (by simp [Value.oneCell']) (by simp) fun w5 P5 => ?_
  have B4 := P5.eq (cs' := NUL6) rfl
  replace B := B.mod P5.mod (by simpa using n3)
  replace B2 := B2.mod P5.mod (by simpa using n4)
  replace E := E.own P5.mod Lg4
  refine sv (o_as rfl) rfl ?_
  refine Ln ?_
  refine e_K (hK4 _ _ _ _ ?_)
  refine Cq fun K5 hK5 => ?_
  refine Cr ?_
  refine sv (oM rfl) rfl ?_
  refine Ln ?_
  refine e_K (hK5 _ _ _ _ ?_)
  refine c_cond rfl (fun h14 => absurd h14 (by simp)) (fun h14 => ?_)
  refine cK ?_
  refine e_K (hK3 _ _ _ _ ?_)
  refine Cq fun K7 hK7 => ?_
  refine cB ?_
  refine Cq fun K8 hK8 => ?_
  refine c_draw wide (by kernel_rfl) ?_
  refine tU 2 rfl rfl ?_
  refine tv (fun w_ E_ => (oA0 fd67_1 rfl)) rfl rfl ?_
  refine tv (fun w_ E_ => (oL sc3 rfl ((B.mod0 E_).cell rfl))) rfl rfl ?_
  refine tU 2 rfl rfl ?_
  refine tv (fun w_ E_ => (oA0 fd67_0 rfl)) rfl rfl ?_
  refine tv (fun w_ E_ => (oL sc9 rfl ((B.mod0 E_).cell rfl))) rfl rfl ?_
  refine tv (fun w_ E_ => (o_slen Tryz.underlying9 rfl)) rfl rfl ?_
  refine tv (fun w_ E_ => (oE rfl rfl)) rfl rfl ?_
  refine tv (fun w_ E_ => (o_as rfl)) rfl rfl ?_
  refine tw_nil rfl fun w6 E_ => ?_
  replace B := B.mod0 E_
  replace B2 := B2.mod0 E_
  replace E := E.then E_
  refine e_K (hK8 _ _ _ _ ?_)
  refine c_if rfl (fun h16 => ?_) (fun h16 => ?_)
  ·refine Cr ?_
   refine scp (oC ent53 rfl) (c_fail _ 4) rfl (fun w_ h_ => h_.elim) (fun c_ w7 h_ => ?_) fun v_ w7 h_ => ?_
   ·obtain ⟨rfl, rfl⟩ := h_
    refine eI (by simp) ?_
    refine eT (by simp) ?_
    exact endp ⟨4, by rw [hbg, begR_end (by omega)], by decide, rfl, E.mono (by simp)⟩
   ·exact h_.elim
  ·obtain ⟨c, hc⟩ : ∃ c, s[spanA isWs s k]? = some c := ⟨_, List.getElem?_eq_getElem (by omega)⟩
   refine Cq fun K9 hK9 => ?_
   refine c_draw wide (by kernel_rfl) ?_
   refine tU 2 rfl rfl ?_
   refine tv (fun w_ E_ => (oA0 fd67_0 rfl)) rfl rfl ?_
   refine tv (fun w_ E_ => (oL sc9 rfl ((B.mod0 E_).cell rfl))) rfl rfl ?_
   refine tU 2 rfl rfl ?_
   refine tv (fun w_ E_ => (oA0 fd67_1 rfl)) rfl rfl ?_
   refine tv (fun w_ E_ => (oL sc3 rfl ((B.mod0 E_).cell rfl))) rfl rfl ?_
   refine tv (fun w_ E_ => (o_sidx Tryz.underlying9 rfl rfl (by omega) (by rw [Int.toNat_natCast]; exact hc))) rfl rfl ?_
   refine tv (fun w_ E_ => (oE rfl rfl)) rfl rfl ?_
   refine tv (fun w_ E_ => (o_as rfl)) rfl rfl ?_
   refine tw_nil rfl fun wK9 E_ => ?_
   replace B := B.mod0 E_
   replace B2 := B2.mod0 E_
   replace E := E.then E_
   refine e_K (hK9 _ _ _ _ ?_)
   refine c_if rfl (fun h28 => ?_) (fun h28 => ?_)
   ·obtain rfl : c = 34 := u8_eq (by rw [h28]; rfl)
    rw [begR_txt hc] at hbg
    refine Cq fun K10 hK10 => ?_
    refine Cr ?_
    refine sv (oM rfl) rfl ?_
    refine scp (oC ent142 rfl) (c_rtext _ g s (spanA isWs s k) sk B hs hws (hEw.modg hg E).utf) rfl (fun w_ h_ => h_) (fun c_ w7 h_ => ?_) fun v_ w7 h_ => ?_
    ·obtain ⟨e, he, h0, rfl, E_⟩ := h_
     refine eT (by simp) ?_
     refine eI (by simp) ?_
     refine eT (by simp) ?_
     refine endp ⟨e, ?_, h0, rfl, (E.trans E_).mono (by simp)⟩
     rw [hbg]
     cases h : strT s (spanA isWs s k) with
     | none => rw [h] at he; cases he; rfl
     | some x => rw [h] at he; cases he
    ·obtain ⟨⟨t, k1⟩, he, ⟨rfl, B⟩, E_⟩ := h_
     have ht : strT s (spanA isWs s k) = some (t, k1) := by
      cases h : strT s (spanA isWs s k) with
      | none => rw [h] at he; cases he
      | some x => rw [h] at he; cases he; rfl
     rw [ht] at hbg
     replace B2 := B2.mod E_ (by simpa using Ne.symm n2)
     replace E := E.trans E_
     refine sc (oC ent75_ rfl) (c_jtext _ t) rfl fun v_ w8 h_ => ?_
     obtain ⟨rfl, E_⟩ := h_
     replace B := B.mod0 E_
     replace B2 := B2.mod0 E_
     replace E := E.then E_
     refine s_sta (vs := [_, _, _, _, _, _]) ag25 B2 rfl rfl rfl (by simp [Value.oneCell']) (by simp) fun w9 P9 => ?_
     have B2' := P9.eq (cs' := [_, _, _, _, _, _]) rfl
     replace B := B.mod P9.mod (by simpa using n2)
     replace E := E.own P9.mod Lg2
     refine sv (o_as rfl) rfl ?_
     refine Ln ?_
     refine e_K (hK10 _ _ _ _ ?_)
     refine cR ?_
     refine eI (by simp) ?_
     refine eT (by simp) ?_
     exact retctR (vs := [_, _, _, _, _, _]) rfl ag25 rfl rfl (B2'.cs rfl) rfl ⟨.inl (JV.txtV t, k1), hbg, ⟨_, sk, cs, fp, rfl, H.rstep B E, Stp.of E, JV.reps_ (v := JV.txtV t) (al := none) (am := none) (cl := 0) (cm := 0) Rep.sl_nil Rep.sl_nil, (Kp.of E (fun z hz' => (hz z hz').1) (fun z hz' => by simpa using (hz z hz').2.1))⟩, E.mono (by simp)⟩
   ·have hc34 : ¬ c = 34 := fun e => h28 (by rw [e]; rfl)
    refine Cq fun K11 hK11 => ?_
    refine c_draw wide (by kernel_rfl) ?_
    refine tU 2 rfl rfl ?_
    refine tv (fun w_ E_ => (oA0 fd67_0 rfl)) rfl rfl ?_
    refine tv (fun w_ E_ => (oL sc9 rfl ((B.mod0 E_).cell rfl))) rfl rfl ?_
    refine tU 2 rfl rfl ?_
    refine tv (fun w_ E_ => (oA0 fd67_1 rfl)) rfl rfl ?_
    refine tv (fun w_ E_ => (oL sc3 rfl ((B.mod0 E_).cell rfl))) rfl rfl ?_
    refine tv (fun w_ E_ => (o_sidx Tryz.underlying9 rfl rfl (by omega) (by rw [Int.toNat_natCast]; exact hc))) rfl rfl ?_
    refine tv (fun w_ E_ => (oE rfl rfl)) rfl rfl ?_
    refine tv (fun w_ E_ => (o_as rfl)) rfl rfl ?_
    refine tw_nil rfl fun wK11 E_ => ?_
    replace B := B.mod0 E_
    replace B2 := B2.mod0 E_
    replace E := E.then E_
    refine e_K (hK11 _ _ _ _ ?_)
    refine c_if rfl (fun h42 => ?_) (fun h42 => ?_)
    ·obtain rfl : c = 91 := u8_eq (by rw [h42]; rfl)
     rw [begR_lst hc] at hbg
     refine Cq fun K12 hK12 => ?_
     refine Cr ?_
     refine sv (oM rfl) rfl ?_
     refine sv (o_build (us := []) (cs := [_]) pl157 zv157 rfl rfl) rfl ?_
     refine s_box rfl rfl rfl fun g5 w7 N5 => ?_
     have Lg5 := N5.le E
     have n6 := N5.ne B
     have n7 := N5.ne B2
     replace B := B.mod0 N5.mod
     replace B2 := B2.mod0 N5.mod
     have hb2 := B2.lt
     replace E := E.then N5.mod
     have B5 := N5.blk
     refine sv (o_mki pu155 rfl rfl) rfl ?_
     refine scp (oC ent143 rfl) (c_push B (H.own.mod E (fun x hx e => hgs x hx (by simpa using e))) hgs hs hws hd) rfl (fun w_ h_ => h_) (fun c_ w8 h_ => ?_) fun v_ w8 h_ => ?_
     ·obtain ⟨e, he, h0, rfl, E_⟩ := h_
      refine eT (by simp) ?_
      refine eI (by simp) ?_
      refine eT (by simp) ?_
      refine endp ⟨e, ?_, h0, rfl, (E.mono (by simp)).trans E_⟩
      by_cases h32 : cs.length = 32
      ·rw [if_pos h32] at he
       rw [hbg, if_pos (by omega)]
       cases he; rfl
      ·rw [if_neg h32] at he; cases he
     obtain ⟨_, he, ⟨_, sk', B, O', hnk⟩, E_⟩ := h_
     have h32 : ¬ cs.length = 32 := fun h => by rw [if_pos h] at he; cases he
     rw [if_neg (by omega)] at hbg
     have hc1 : cs.length + 1 ≤ 32 := by omega
     have n8 : g5 ∉ g :: ob sk := fun h => by
      rcases List.mem_cons.1 h with h | h
      ·exact n6 h.symm
      ·have := H.lt g5 (by simp [h]); omega
     have n9 : g2 ∉ g :: ob sk := fun h => by
      rcases List.mem_cons.1 h with h | h
      ·exact n2 h.symm
      ·have := H.lt g2 (by simp [h]); omega
     replace B2 := B2.mod E_ n9
     replace B5 := B5.mod E_ n8
     have hl8 := E.size
     have hb5 := N5.blk.lt
     have hnw : ∀ x ∈ ob sk', x ∈ ob sk ∨ w7.heap.size ≤ x := hnk
     replace E : Mod (g :: ob sk) w w8 := (E.mono (by simp)).trans E_
     have hg2 : ∀ x ∈ ob sk', x ≠ g2 := fun x hx e => by
      subst e
      rcases hnk x hx with h | h
      ·exact n9 (by simp [h])
      ·omega
     have hg5 : ∀ x ∈ ob sk', x ≠ g5 := fun x hx e => by
      subst e
      rcases hnk x hx with h | h
      ·exact n8 (by simp [h])
      ·omega
     have hgk : ∀ x ∈ ob sk', x ≠ g := fun x hx e => by
      subst e
      rcases hnk x hx with h | h
      ·exact hgs x h rfl
      ·have := H.rd.lt; have := N5.at_; omega
     have hzn : ∀ z ∈ Z, z ∉ g :: ob sk := fun z hz' h => by
      rcases List.mem_cons.1 h with h | h
      ·exact (hz z hz').2.1 h
      ·exact (hz z hz').2.2 h
     refine Ln ?_
     refine e_K (hK12 _ _ _ _ ?_)
     refine Cq fun K13 hK13 => ?_
     refine Cq fun K14 hK14 => ?_
     refine Cr ?_
     refine sv (oM rfl) rfl ?_
     have hk1 : spanA isWs s k + 1 ≤ s.length := (List.getElem?_eq_some_iff.1 hc).1
     refine sc (oC ent97_ rfl) (c_is_ _ g s _ sk' B hs hk1 93) rfl fun v_ w9 h_ => ?_
     obtain ⟨rfl, B, E_⟩ := h_
     replace B2 := B2.mod E_ (by simpa using Ne.symm n2)
     replace B5 := B5.mod E_ (by simpa using Ne.symm n6)
     replace O' := O'.mod E_ (fun x hx e => hgk x hx (by simpa using e))
     replace E := E.trans (E_.mono (by simp))
     refine Ln ?_
     refine e_K (hK14 _ _ _ _ ?_)
     refine c_cond rfl (fun h59 => ?_) (fun h59 => ?_)
     ·rw [if_pos h59] at hbg B
      refine Cq fun K15 hK15 => ?_
      refine Cr ?_
      refine sv (oM rfl) rfl ?_
      refine sc (oC ent98 rfl) (c_popLR B (by simpa using O') B5 (Ne.symm n6) hgk (by omega)) rfl fun v_ w10 h_ => ?_
      obtain ⟨rfl, ⟨sk2, B, O2, hob⟩, E_⟩ := h_
      replace B2 := B2.mod E_ (by simpa using Ne.symm n2)
      replace E := E.trans (E_.mono (by simp))
      refine s_sta (vs := [_, _, _, _, _, _]) ag25 B2 rfl rfl rfl (by simp [Value.oneCell']) (by simp) fun w11 P11 => ?_
      have B2' := P11.eq (cs' := [_, _, _, _, _, _]) rfl
      replace B := B.mod P11.mod (by simpa using n2)
      replace E := E.own P11.mod Lg2
      refine sv (o_as rfl) rfl ?_
      refine Ln ?_
      refine e_K (hK15 _ _ _ _ ?_)
      refine cR ?_
      refine eT (by simp) ?_
      refine eI (by simp) ?_
      refine eT (by simp) ?_
      obtain ⟨q1, q2⟩ := H.rebase E B (O2.mod P11.mod (fun x hx e => hg2 x (hob ▸ hx) (by simpa using e))) (fun x hx => (hnw x (hob ▸ hx)).imp id (fun h => by have := N5.at_; omega))
      exact retctR (vs := [_, _, _, _, _, _]) rfl ag25 rfl rfl (B2'.cs rfl) rfl ⟨.inl (JV.lst [], _), hbg, ⟨_, _, cs, fp, rfl, q1, q2, JV.reps_ (v := JV.lst []) (al := none) (am := none) (cl := 0) (cm := 0) Rep.sl_nil Rep.sl_nil, (Kp.of E (fun z hz' => (hz z hz').1) hzn)⟩, E⟩
     ·rw [if_neg (by simpa using h59)] at hbg B
      refine cK ?_
      refine e_K (hK13 _ _ _ _ ?_)
      refine Cq fun K16 hK16 => ?_
      refine Cr ?_
      refine sv (o_build (us := []) (cs := [_, _, _, _, _, _]) pl25 zv25 rfl rfl) rfl ?_
      refine s_sta (vs := [_, _, _, _, _, _]) ag25 B2 rfl rfl rfl (by simp [Value.oneCell']) (by simp) fun w11 P11 => ?_
      have B2' := P11.eq (cs' := [_, _, _, _, _, _]) rfl
      replace B := B.mod P11.mod (by simpa using n2)
      replace B5 := B5.mod P11.mod (by simpa using Ne.symm n7)
      replace E := E.own P11.mod Lg2
      refine sv (o_as rfl) rfl ?_
      refine Ln ?_
      refine e_K (hK16 _ _ _ _ ?_)
      refine cR ?_
      refine eI (by simp) ?_
      refine eT (by simp) ?_
      obtain ⟨q1, q2⟩ := H.push (N := w7.heap.size) (fm := .L []) (c := .iface 155 (.pointer (some ⟨g5, 0, none⟩))) (m := [g5]) E (by have := N5.at_; omega) (fun x hx => by rw [List.mem_singleton.1 hx]; exact ⟨Lg5, hb5⟩) B (O'.mod P11.mod (fun x hx e => hg2 x hx (by simpa using e))) hnw (fun A => ⟨g5, .slice none 0 0, rfl, ⟨B5, ⟨[], Own.nil _ _ _, Reps.nil_⟩, by simp [ob]⟩, rfl⟩)
      exact retctR (vs := [_, _, _, _, _, _]) rfl ag25 rfl rfl (B2'.cs rfl) rfl ⟨.inr (.L [], _), hbg, ⟨_, _, _, _, rfl, rfl, q1, q2, (Kp.of E (fun z hz' => (hz z hz').1) hzn)⟩, E⟩
    ·have hc91 : ¬ c = 91 := fun e => h42 (by rw [e]; rfl)
     refine Cq fun K17 hK17 => ?_
     refine c_draw wide (by kernel_rfl) ?_
     refine tU 2 rfl rfl ?_
     refine tv (fun w_ E_ => (oA0 fd67_0 rfl)) rfl rfl ?_
     refine tv (fun w_ E_ => (oL sc9 rfl ((B.mod0 E_).cell rfl))) rfl rfl ?_
     refine tU 2 rfl rfl ?_
     refine tv (fun w_ E_ => (oA0 fd67_1 rfl)) rfl rfl ?_
     refine tv (fun w_ E_ => (oL sc3 rfl ((B.mod0 E_).cell rfl))) rfl rfl ?_
     refine tv (fun w_ E_ => (o_sidx Tryz.underlying9 rfl rfl (by omega) (by rw [Int.toNat_natCast]; exact hc))) rfl rfl ?_
     refine tv (fun w_ E_ => (oE rfl rfl)) rfl rfl ?_
     refine tv (fun w_ E_ => (o_as rfl)) rfl rfl ?_
     refine tw_nil rfl fun wK17 E_ => ?_
     replace B := B.mod0 E_
     replace B2 := B2.mod0 E_
     replace E := E.then E_
     refine e_K (hK17 _ _ _ _ ?_)
     refine c_if rfl (fun h63 => ?_) (fun h63 => ?_)
     ·obtain rfl : c = 123 := u8_eq (by rw [h63]; rfl)
      rw [begR_map hc] at hbg
      refine Cq fun K18 hK18 => ?_
      refine Cr ?_
      refine s_mmap rfl fun b wb hmb hbe Mb => ?_
      have Lb : w.heap.size ≤ b := by have := E.size; omega
      replace B := B.mod0 Mb
      replace B2 := B2.mod0 Mb
      replace E := E.then Mb
      have nb1 := blk_nm B hmb
      have nb2 := blk_nm B2 hmb
      refine sv (o_build (cs := [_, _, _]) pl160 zv160 rfl rfl) rfl ?_
      refine s_box rfl rfl rfl fun g5 w7 N5 => ?_
      have Lg5 := N5.le E
      have n6 := N5.ne B
      have n7 := N5.ne B2
      replace B := B.mod0 N5.mod
      replace B2 := B2.mod0 N5.mod
      replace hmb := hmb.mod0 N5.mod
      have hb2 := B2.lt
      have hbb := hmb.lt
      replace E := E.then N5.mod
      have B5 := N5.blk
      have nb5 := blk_nm B5 hmb
      refine sv (o_as rfl) rfl ?_
      refine Ln ?_
      refine e_K (hK18 _ _ _ _ ?_)
      refine Cq fun K19 hK19 => ?_
      refine Cr ?_
      refine sv (oM rfl) rfl ?_
      refine sv (oM rfl) rfl ?_
      refine sv (o_mki pu115 rfl rfl) rfl ?_
      refine scp (oC ent143 rfl) (c_push B (H.own.mod E (fun x hx e => hgs x hx (by simpa using e))) hgs hs hws hd) rfl (fun w_ h_ => h_) (fun c_ w8 h_ => ?_) fun v_ w8 h_ => ?_
      ·obtain ⟨e, he, h0, rfl, E_⟩ := h_
       refine eT (by simp) ?_
       refine eI (by simp) ?_
       refine eT (by simp) ?_
       refine endp ⟨e, ?_, h0, rfl, (E.mono (by simp)).trans E_⟩
       by_cases h32 : cs.length = 32
       ·rw [if_pos h32] at he
        rw [hbg, if_pos (by omega)]
        cases he; rfl
       ·rw [if_neg h32] at he; cases he
      obtain ⟨_, he, ⟨_, sk', B, O', hnk⟩, E_⟩ := h_
      have h32 : ¬ cs.length = 32 := fun h => by rw [if_pos h] at he; cases he
      rw [if_neg (by omega)] at hbg
      have hc1 : cs.length + 1 ≤ 32 := by omega
      have n8 : g5 ∉ g :: ob sk := fun h => by
       rcases List.mem_cons.1 h with h | h
       ·exact n6 h.symm
       ·have := H.lt g5 (by simp [h]); omega
      have nb8 : b ∉ g :: ob sk := fun h => by
       rcases List.mem_cons.1 h with h | h
       ·exact nb1 h.symm
       ·have := H.lt b (by simp [h]); omega
      have n9 : g2 ∉ g :: ob sk := fun h => by
       rcases List.mem_cons.1 h with h | h
       ·exact n2 h.symm
       ·have := H.lt g2 (by simp [h]); omega
      replace B2 := B2.mod E_ n9
      replace B5 := B5.mod E_ n8
      replace hmb := hmb.mod E_ nb8
      have hl8 := E.size
      have hb5 := N5.blk.lt
      have hnw : ∀ x ∈ ob sk', x ∈ ob sk ∨ w7.heap.size ≤ x := hnk
      replace E : Mod (g :: ob sk) w w8 := (E.mono (by simp)).trans E_
      have hg2 : ∀ x ∈ ob sk', x ≠ g2 := fun x hx e => by
       subst e
       rcases hnk x hx with h | h
       ·exact n9 (by simp [h])
       ·omega
      have hg5 : ∀ x ∈ ob sk', x ≠ g5 := fun x hx e => by
       subst e
       rcases hnk x hx with h | h
       ·exact n8 (by simp [h])
       ·omega
      have hgb : ∀ x ∈ ob sk', x ≠ b := fun x hx e => by
       subst e
       rcases hnk x hx with h | h
       ·exact nb8 (by simp [h])
       ·omega
      have hgk : ∀ x ∈ ob sk', x ≠ g := fun x hx e => by
       subst e
       rcases hnk x hx with h | h
       ·exact hgs x h rfl
       ·have := H.rd.lt; have := N5.at_; omega
      have hzn : ∀ z ∈ Z, z ∉ g :: ob sk := fun z hz' h => by
       rcases List.mem_cons.1 h with h | h
       ·exact (hz z hz').2.1 h
       ·exact (hz z hz').2.2 h
      refine Ln ?_
      refine e_K (hK19 _ _ _ _ ?_)
      refine Cq fun K20 hK20 => ?_
      refine Cq fun K21 hK21 => ?_
      refine Cr ?_
      refine sv (oM rfl) rfl ?_
      have hk1 : spanA isWs s k + 1 ≤ s.length := (List.getElem?_eq_some_iff.1 hc).1
      refine sc (oC ent97_ rfl) (c_is_ _ g s _ sk' B hs hk1 125) rfl fun v_ w9 h_ => ?_
      obtain ⟨rfl, B, E_⟩ := h_
      replace B2 := B2.mod E_ (by simpa using Ne.symm n2)
      replace B5 := B5.mod E_ (by simpa using Ne.symm n6)
      replace hmb := hmb.mod E_ (by simpa using Ne.symm nb1)
      replace O' := O'.mod E_ (fun x hx e => hgk x hx (by simpa using e))
      replace E := E.trans (E_.mono (by simp))
      refine Ln ?_
      refine e_K (hK21 _ _ _ _ ?_)
      refine c_cond rfl (fun h82 => ?_) (fun h82 => ?_)
      ·rw [if_pos h82] at hbg B
       refine Cq fun K22 hK22 => ?_
       refine Cr ?_
       refine sv (oM rfl) rfl ?_
       refine sc (oC ent98 rfl) (c_popGR (A := []) (wr := w) (acc := []) (vs := []) B (by simpa using O') B5 (Own.nil _ _ _) Reps.nil_ List.nodup_nil (Ne.symm n6) hgk (by simp [ob]) (by simp [ob]) (by omega) (by simp)) rfl fun v_ w10 h_ => ?_
       obtain ⟨rfl, ⟨sk2, B, O2, hob⟩, E_, _, _⟩ := h_
       replace E_ : Mod [g] w9 w10 := E_
       replace B2 := B2.mod E_ (by simpa using Ne.symm n2)
       replace E := E.trans (E_.mono (by simp))
       refine s_sta (vs := [_, _, _, _, _, _]) ag25 B2 rfl rfl rfl (by simp [Value.oneCell']) (by simp) fun w11 P11 => ?_
       have B2' := P11.eq (cs' := [_, _, _, _, _, _]) rfl
       replace B := B.mod P11.mod (by simpa using n2)
       replace E := E.own P11.mod Lg2
       refine sv (o_as rfl) rfl ?_
       refine Ln ?_
       refine e_K (hK22 _ _ _ _ ?_)
       refine cR ?_
       refine eT (by simp) ?_
       refine eI (by simp) ?_
       refine eT (by simp) ?_
       obtain ⟨q1, q2⟩ := H.rebase E B (O2.mod P11.mod (fun x hx e => hg2 x (hob ▸ hx) (by simpa using e))) (fun x hx => (hnw x (hob ▸ hx)).imp id (fun h => by have := N5.at_; omega))
       exact retctR (vs := [_, _, _, _, _, _]) rfl ag25 rfl rfl (B2'.cs rfl) rfl ⟨.inl (JV.obj [], _), hbg, ⟨_, _, cs, fp, rfl, q1, q2, JV.reps_ (v := JV.obj []) (al := none) (am := none) (cl := 0) (cm := 0) Rep.sl_nil Rep.sl_nil, (Kp.of E (fun z hz' => (hz z hz').1) hzn)⟩, E⟩
      ·rw [if_neg (by simpa using h82)] at hbg B
       refine cK ?_
       refine e_K (hK20 _ _ _ _ ?_)
       refine Cq fun K22 hK22 => ?_
       refine Cr ?_
       refine sv (oM rfl) rfl ?_
       refine sv (oM rfl) rfl ?_
       refine scp (oC ent99 rfl) (c_key_ (K := []) (m := []) B B5 hmb (Ne.symm n6) nb1 nb5 (fun t => by simp [look]) hs (spanA_le hk1) (hEw.mod E (fun x hx => by
        rcases List.mem_cons.1 hx with rfl | hx
        ·exact hg
        ·exact hgo x hx)) hg) rfl (fun w_ h_ => h_) (fun c_ w10 h_ => ?_) fun v_ w10 h_ => ?_
       ·obtain ⟨e, he, h0, rfl, E_⟩ := h_
        refine eT (by simp) ?_
        refine eI (by simp) ?_
        refine eT (by simp) ?_
        refine endp ⟨e, by rw [hbg, he], h0, rfl, E.trans' E_ (fun x hx => ?_)⟩
        simp only [List.mem_cons, List.not_mem_nil, or_false] at hx
        rcases hx with rfl | rfl | rfl
        ·exact .inl (by simp)
        ·exact .inr Lg5
        ·exact .inr Lb
       obtain ⟨⟨t, k2⟩, he, ⟨rfl, B, B5, hmb, _⟩, E_⟩ := h_
       rw [he] at hbg
       have hnm : ∀ {x : Nat}, x ≠ g → x ≠ g5 → x ≠ b → x ∉ [g, g5, b] := fun h1 h2 h3 => by simp [h1, h2, h3]
       replace B2 := B2.mod E_ (hnm (Ne.symm n2) n7 nb2)
       replace O' := O'.mod E_ (fun x hx => hnm (hgk x hx) (hg5 x hx) (hgb x hx))
       replace E := E.trans' E_ (fun x hx => by
        simp only [List.mem_cons, List.not_mem_nil, or_false] at hx
        rcases hx with rfl | rfl | rfl
        ·exact .inl (by simp)
        ·exact .inr Lg5
        ·exact .inr Lb)
       refine Ln ?_
       refine e_K (hK22 _ _ _ _ ?_)
       refine Cq fun K23 hK23 => ?_
       refine Cr ?_
       refine sv (o_build (us := []) (cs := [_, _, _, _, _, _]) pl25 zv25 rfl rfl) rfl ?_
       refine s_sta (vs := [_, _, _, _, _, _]) ag25 B2 rfl rfl rfl (by simp [Value.oneCell']) (by simp) fun w11 P11 => ?_
       have B2' := P11.eq (cs' := [_, _, _, _, _, _]) rfl
       replace B := B.mod P11.mod (by simpa using n2)
       replace B5 := B5.mod P11.mod (by simpa using Ne.symm n7)
       replace hmb := hmb.mod P11.mod (by simpa using Ne.symm nb2)
       replace E := E.own P11.mod Lg2
       refine sv (o_as rfl) rfl ?_
       refine Ln ?_
       refine e_K (hK23 _ _ _ _ ?_)
       refine cR ?_
       refine eI (by simp) ?_
       refine eT (by simp) ?_
       obtain ⟨q1, q2⟩ := H.push (N := w7.heap.size) (fm := .M [] t) (c := .iface 115 (.pointer (some ⟨g5, 0, none⟩))) (m := [g5, b]) E (by have := N5.at_; omega) (fun x hx => by
        simp only [List.mem_cons, List.not_mem_nil, or_false] at hx
        rcases hx with rfl | rfl
        ·exact ⟨Lg5, hb5⟩
        ·exact ⟨Lb, hbb⟩) B (O'.mod P11.mod (fun x hx e => hg2 x hx (by simpa using e))) hnw (fun A => ⟨g5, b, .slice none 0 0, rfl, ⟨B5, hmb, ⟨[], Own.nil _ _ _, Reps.nil_⟩, nb5, by simp [ob], by simp [ob]⟩, rfl⟩)
       exact retctR (vs := [_, _, _, _, _, _]) rfl ag25 rfl rfl (B2'.cs rfl) rfl ⟨.inr (.M [] t, k2), hbg, ⟨_, _, _, _, rfl, rfl, q1, q2, (Kp.of E (fun z hz' => (hz z hz').1) hzn)⟩, E⟩
     ·have hc123 : ¬ c = 123 := fun e => h63 (by rw [e]; rfl)
      refine cK ?_
      refine eI (by simp) ?_
      refine e_K (hK7 _ _ _ _ ?_)
      rw [begR_num hc hc34 hc91 hc123] at hbg
      refine Cq fun K24 hK24 => ?_
      refine Cr ?_
      refine sv (oM rfl) rfl ?_
      refine scp (oC ent144 rfl) (c_number_ _ g s (spanA isWs s k) sk B hs hws (hEw.modg hg E) hg) rfl (fun w_ h_ => h_) (fun c_ w7 h_ => ?_) fun v_ w7 h_ => ?_
      ·obtain ⟨e, he, h0, rfl, E_⟩ := h_
       refine eT (by simp) ?_
       exact endp ⟨e, by rw [hbg, he], h0, rfl, (E.trans E_).mono (by simp)⟩
      ·obtain ⟨⟨v, k1⟩, he, ⟨us, rfl, R, B⟩, E_⟩ := h_
       rw [he] at hbg
       obtain ⟨al, cl, am, cm, rfl, _, _⟩ := JV.cells_ (R [] w)
       replace B2 := B2.mod E_ (by simpa using Ne.symm n2)
       replace E := E.trans E_
       refine s_sta (vs := [_, _, _, _, _, _]) ag25 B2 rfl rfl rfl (by simp [Value.oneCell']) (by simp) fun w9 P9 => ?_
       have B2' := P9.eq (cs' := [_, _, _, _, _, _]) rfl
       replace B := B.mod P9.mod (by simpa using n2)
       replace E := E.own P9.mod Lg2
       refine sv (o_as rfl) rfl ?_
       refine Ln ?_
       refine e_K (hK24 _ _ _ _ ?_)
       refine cR ?_
       exact retctR (vs := [_, _, _, _, _, _]) rfl ag25 rfl rfl (B2'.cs rfl) rfl ⟨.inl (v, k1), hbg, ⟨_, sk, cs, fp, rfl, H.rstep B E, Stp.of E, R _ _, (Kp.of E (fun z hz' => (hz z hz').1) (fun z hz' => by simpa using (hz z hz').2.1))⟩, E.mono (by simp)⟩
end Go.Proofs.YtknndpjacklkeaaGreatDoor.V

set_option linter.unusedVariables false
set_option linter.unusedSimpArgs false
namespace Go.Proofs.YtknndpjacklkeaaGreatDoor.V
open Go Go.Proofs
theorem spanA_idem (p : UInt8 → Bool) (s : Str) : ∀ (n k : Nat), s.length - k ≤ n → spanA p s (spanA p s k) = spanA p s k
 | 0, k, h => by
  have e : spanA p s k = k := spanA_end (by omega)
  rw [e, e]
 | n + 1, k, h => by
  rcases Nat.lt_or_ge k s.length with hk | hk
  ·obtain ⟨c, hc⟩ : ∃ c, s[k]? = some c := ⟨_, List.getElem?_eq_getElem hk⟩
   cases hp : p c with
   | true => rw [← spanA_go hc hp]; exact spanA_idem p s n (k + 1) (by omega)
   | false =>
    have e := spanA_stop hc hp
    rw [e, e]
  ·have e : spanA p s k = k := spanA_end hk
   rw [e, e]
theorem spanA_id {p : UInt8 → Bool} {s : Str} {k : Nat} : spanA p s (spanA p s k) = spanA p s k := spanA_idem p s _ k (Nat.le_refl _)
def Fm.sz : Fm → Nat
 | .L acc => acc.length
 | .M acc _ => acc.length
 | .A acc _ => acc.length
section
variable {s : Str} {k : Nat} {st : List Fm} {r : PR}
theorem run_err {e : Int} (h : Run s none k st r) (hb : begA s k st.length = .error e) : r = .error e := by
 cases h with
 | err h1 => rw [hb] at h1; injection h1 with h1; rw [h1]
 | whole h1 _ => rw [hb] at h1; cases h1
 | push h1 _ => rw [hb] at h1; cases h1
theorem run_whole {v : JV} {k1 : Nat} (h : Run s none k st r) (hb : begA s k st.length = .ok (.inl (v, k1))) : Run s (some v) k1 st r := by
 cases h with
 | err h1 => rw [hb] at h1; cases h1
 | whole h1 h2 => rw [hb] at h1; cases h1; exact h2
 | push h1 _ => rw [hb] at h1; cases h1
theorem run_push {x : Fm} {k1 : Nat} (h : Run s none k st r) (hb : begA s k st.length = .ok (.inr (x, k1))) : Run s none k1 (x :: st) r := by
 cases h with
 | err h1 => rw [hb] at h1; cases h1
 | whole h1 h2 => rw [hb] at h1; cases h1
 | push h1 h2 => rw [hb] at h1; cases h1; exact h2
theorem run_done {v : JV} (h : Run s (some v) k [] r) : r = .ok (v, k) := by cases h; rfl
theorem run_endL {v : JV} {acc : List JV} (h : Run s (some v) k (.L acc :: st) r) (h1 : hasA s (spanA isWs s k) [93] = true) : Run s (some (JV.lst (acc ++ [v]))) (spanA isWs s k + 1) st r := by
 cases h with
 | endL _ h3 => exact h3
 | nextL h2 _ _ => rw [h1] at h2; cases h2
 | errL h2 _ => rw [h1] at h2; cases h2
theorem run_nextL {v : JV} {acc : List JV} (h : Run s (some v) k (.L acc :: st) r) (h1 : hasA s (spanA isWs s k) [93] = false) (h2 : hasA s (spanA isWs s k) [44] = true) : Run s none (spanA isWs s k + 1) (.L (acc ++ [v]) :: st) r := by
 cases h with
 | endL h3 _ => rw [h1] at h3; cases h3
 | nextL _ _ h3 => exact h3
 | errL _ h3 => rw [h2] at h3; cases h3
theorem run_errL {v : JV} {acc : List JV} (h : Run s (some v) k (.L acc :: st) r) (h1 : hasA s (spanA isWs s k) [93] = false) (h2 : hasA s (spanA isWs s k) [44] = false) : r = .error 4 := by
 cases h with
 | endL h3 _ => rw [h1] at h3; cases h3
 | nextL _ h3 _ => rw [h2] at h3; cases h3
 | errL _ h3 => rfl
theorem run_endM {v : JV} {acc : List (Str × JV)} {t : Str} (h : Run s (some v) k (.M acc t :: st) r) (h1 : hasA s (spanA isWs s k) [125] = true) : Run s (some (JV.obj (sortM (acc ++ [(t, v)])))) (spanA isWs s k + 1) st r := by
 cases h with
 | endM _ h3 => exact h3
 | nextM h2 _ _ _ => rw [h1] at h2; cases h2
 | keyM h2 _ _ => rw [h1] at h2; cases h2
 | errM h2 _ => rw [h1] at h2; cases h2
theorem run_nextM {v : JV} {acc : List (Str × JV)} {t t' : Str} {k' : Nat} (h : Run s (some v) k (.M acc t :: st) r) (h1 : hasA s (spanA isWs s k) [125] = false) (h2 : hasA s (spanA isWs s k) [44] = true) (h3 : keyA s (spanA isWs s k + 1) (sortM (acc ++ [(t, v)])) = .ok (t', k')) : Run s none k' (.M (acc ++ [(t, v)]) t' :: st) r := by
 cases h with
 | endM h4 _ => rw [h1] at h4; cases h4
 | nextM _ _ h4 h5 => rw [h3] at h4; cases h4; exact h5
 | keyM _ _ h4 => rw [h3] at h4; cases h4
 | errM _ h4 => rw [h2] at h4; cases h4
theorem run_keyM {v : JV} {acc : List (Str × JV)} {t : Str} {e : Int} (h : Run s (some v) k (.M acc t :: st) r) (h1 : hasA s (spanA isWs s k) [125] = false) (h2 : hasA s (spanA isWs s k) [44] = true) (h3 : keyA s (spanA isWs s k + 1) (sortM (acc ++ [(t, v)])) = .error e) : r = .error e := by
 cases h with
 | endM h4 _ => rw [h1] at h4; cases h4
 | nextM _ _ h4 h5 => rw [h3] at h4; cases h4
 | keyM _ _ h4 => rw [h3] at h4; injection h4 with h4; rw [h4]
 | errM _ h4 => rw [h2] at h4; cases h4
theorem run_errM {v : JV} {acc : List (Str × JV)} {t : Str} (h : Run s (some v) k (.M acc t :: st) r) (h1 : hasA s (spanA isWs s k) [125] = false) (h2 : hasA s (spanA isWs s k) [44] = false) : r = .error 4 := by
 cases h with
 | endM h4 _ => rw [h1] at h4; cases h4
 | nextM _ h4 _ _ => rw [h2] at h4; cases h4
 | keyM _ h4 _ => rw [h2] at h4; cases h4
 | errM _ h4 => rfl
theorem run_A {v : JV} {acc : List (Str × JV)} {t : Str} (h : Run s (some v) k (.A acc t :: st) r) : False := by cases h
end
theorem word_bound {s : Str} {k q : Nat} {v : JV} (h : wordA s k = some (v, q)) : k < q ∧ q ≤ s.length := by
 unfold wordA at h
 split at h
 ·rename_i h1; have := hasA_len h1 (by decide); cases h; simp [JV.tNull] at this; omega
 ·split at h
  ·rename_i h1; have := hasA_len h1 (by decide); cases h; simp [JV.tTrue] at this; omega
  ·split at h
   ·rename_i h1; have := hasA_len h1 (by decide); cases h; simp [JV.tFalse] at this; omega
   ·cases h
theorem beg_inl {s : Str} {k n k1 : Nat} {v : JV} (h : begA s k n = .ok (.inl (v, k1))) (hk : k ≤ s.length) : k < k1 ∧ k1 ≤ s.length := by
 have hg := spanA_ge isWs s k
 have hl := spanA_le (p := isWs) hk
 cases hw : wordA s (spanA isWs s k) with
 | some x =>
  rw [beg_word hw] at h
  cases h
  have := word_bound hw
  omega
 | none =>
  rw [beg_rest hw] at h
  unfold begR at h
  split at h
  ·cases ht : strT s (spanA isWs s k) with
   | none => rw [ht] at h; cases h
   | some x =>
    rw [ht] at h
    cases h
    have := strT_bound ht
    omega
  ·split at h
   ·split at h
    ·cases h
    ·rename_i h3 h4
     have h5 : spanA isWs s k < s.length := by
      rcases Nat.lt_or_ge (spanA isWs s k) s.length with h6 | h6
      ·exact h6
      ·rw [hasA_off h6 (by simp), hasA_off h6 (by simp)] at h3; cases h3
     have h7 := spanA_ge isWs s (spanA isWs s k + 1)
     dsimp only at h
     split at h
     ·split at h
      ·rename_i h8
       have := hasA_len h8 (by simp)
       cases h
       simp at this
       omega
      ·cases h
     ·split at h
      ·rename_i h8
       have := hasA_len h8 (by simp)
       cases h
       simp at this
       omega
      ·cases hx : keyA s (spanA isWs s (spanA isWs s k + 1)) [] with
       | error e => rw [hx] at h; cases h
       | ok x => rw [hx] at h; cases h
   ·cases hx : numA s (spanA isWs s k) with
    | error e => rw [hx] at h; cases h
    | ok x =>
     rw [hx] at h
     cases h
     have := numA_bound hx hl
     omega
theorem beg_inr {s : Str} {k n k1 : Nat} {fm : Fm} (h : begA s k n = .ok (.inr (fm, k1))) (hk : k ≤ s.length) : k < k1 ∧ k1 ≤ s.length ∧ n ≠ 32 ∧ fm.sz = 0 := by
 have hg := spanA_ge isWs s k
 cases hw : wordA s (spanA isWs s k) with
 | some x => rw [beg_word hw] at h; cases h
 | none =>
  rw [beg_rest hw] at h
  unfold begR at h
  split at h
  ·cases ht : strT s (spanA isWs s k) with
   | none => rw [ht] at h; cases h
   | some x => rw [ht] at h; cases h
  ·split at h
   ·split at h
    ·cases h
    ·rename_i h3 h4
     have h5 : spanA isWs s k < s.length := by
      rcases Nat.lt_or_ge (spanA isWs s k) s.length with h6 | h6
      ·exact h6
      ·rw [hasA_off h6 (by simp), hasA_off h6 (by simp)] at h3; cases h3
     have h7 := spanA_ge isWs s (spanA isWs s k + 1)
     have h9 := spanA_le (p := isWs) (show spanA isWs s k + 1 ≤ s.length by omega)
     dsimp only at h
     split at h
     ·split at h
      ·cases h
      ·cases h
       exact ⟨by omega, h9, h4, rfl⟩
     ·split at h
      ·cases h
      ·cases hx : keyA s (spanA isWs s (spanA isWs s k + 1)) [] with
       | error e => rw [hx] at h; cases h
       | ok x =>
        rw [hx] at h
        cases h
        have := keyA_bound hx
        exact ⟨by omega, by omega, h4, rfl⟩
   ·cases hx : numA s (spanA isWs s k) with
    | error e => rw [hx] at h; cases h
    | ok x => rw [hx] at h; cases h
theorem FrI.anyz {Z Z' A : List Nat} {w : World} {fm : Fm} {c : Value} {m : List Nat} (h : FrI (PTz Z) A w fm c m) : FrI (PTz Z') A w fm c m := by
 cases fm with
 | L acc => obtain ⟨g, wv, h1, h2, h3⟩ := h; exact ⟨g, wv, h1, ⟨h2.blk, h2.own, h2.gw⟩, h3⟩
 | M acc t => obtain ⟨g, b, wv, h1, h2, h3⟩ := h; exact ⟨g, b, wv, h1, ⟨h2.blk, h2.map, h2.own, h2.gb, h2.gw, h2.bw⟩, h3⟩
 | A acc t => obtain ⟨g, b, wv, h1, h2, h3⟩ := h; exact ⟨g, b, wv, h1, ⟨h2.blk, h2.map, h2.own, h2.gb, h2.gw, h2.bw⟩, h3⟩
theorem PS.addz {Z : List Nat} {w0 w w' : World} {g k z : Nat} {s : Str} {st : List Fm} {sk : Value} {cs : List Value} {fp : List Nat} (H : PS (PTz Z) w0 w g s k st sk cs fp) (hm : Mod [] w w') (hz : w.heap.size ≤ z) (hz' : z < w'.heap.size) :
  ∃ fp', PS (PTz (z :: Z)) w0 w' g s k st sk cs fp' ∧ (∀ x ∈ fp', x ∈ fp ∨ x = z) := by
 have hlt := H.lt
 have key : ∀ {A : List Nat} {st : List Fm} {cs : List Value} {f : List Nat}, StkI (PTz Z) A w st cs f → (∀ x ∈ f, x < w.heap.size) → ∀ A', (∀ x ∈ A', x ∈ A ∨ w.heap.size ≤ x) → ∃ f', StkI (PTz (z :: Z)) A' w' st cs f' ∧ ∀ x, x ∈ f' ↔ (x ∈ f ∨ x = z) := by
  intro A st
  induction st with
  | nil =>
   intro cs f h hf A' hA
   obtain ⟨h1, h2, h3⟩ := h
   refine ⟨z :: Z, ⟨h1, rfl, fun x hx => ?_⟩, fun x => ?_⟩
   ·rcases List.mem_cons.1 hx with rfl | hx
    ·exact hz'
    ·exact Nat.lt_of_lt_of_le (h3 x hx) hm.size
   ·rw [h2]
    simp only [List.mem_cons]
    exact Or.comm
  | cons fm st ih =>
   intro cs f h hf A' hA
   obtain ⟨c, cs', m, f2, rfl, rfl, h1, h2, h3⟩ := h
   obtain ⟨f', h4, h5⟩ := ih h2 (fun x hx => hf x (by simp [hx])) A' hA
   refine ⟨m ++ f', ⟨c, cs', m, f', rfl, rfl, (h1.to hm (by simp) (by simp) hA).anyz, h4, fun x hx h => ?_⟩, fun x => ?_⟩
   ·rcases (h5 x).1 h with h | h
    ·exact h3 x hx h
    ·have := hf x (by simp [hx]); omega
   ·simp only [List.mem_append, h5]
    exact or_assoc.symm
 have hA0 : ∀ f', (∀ x, x ∈ f' ↔ (x ∈ fp ∨ x = z)) → ∀ x ∈ g :: (ob sk ++ f'), x ∈ g :: (ob sk ++ fp) ∨ w.heap.size ≤ x := fun f' h5 x hx => by
  simp only [List.mem_cons, List.mem_append, h5] at hx ⊢
  rcases hx with hx | hx | hx | hx
  ·exact .inl (.inl hx)
  ·exact .inl (.inr (.inl hx))
  ·exact .inl (.inr (.inr hx))
  ·exact .inr (by omega)
 obtain ⟨f', h4, h5⟩ := key H.stk (fun x hx => hlt x (by simp [hx])) (g :: (ob sk ++ fp) ++ [z]) (fun x hx => by
  simp only [List.mem_append, List.mem_singleton] at hx
  rcases hx with hx | hx
  ·exact .inl hx
  ·exact .inr (by omega))
 refine ⟨f', ⟨H.rd.mod0 hm, H.own.mod0 hm, h4.to (Mod.refl [] _) (by simp) (fun x hx => ?_) (by simp), fun h => ?_, fun x hx h => ?_, fun x hx => ?_, H.mod.then hm⟩, fun x hx => (h5 x).1 hx⟩
 ·simp only [List.mem_cons, List.mem_append, h5, List.not_mem_nil, or_false] at hx ⊢
  rcases hx with hx | hx | hx | hx
  ·exact .inl (.inl (.inl hx))
  ·exact .inl (.inl (.inr (.inl hx)))
  ·exact .inl (.inl (.inr (.inr hx)))
  ·exact .inl (.inr hx)
 ·rcases List.mem_append.1 h with h | h
  ·exact H.gn (by simp [h])
  ·rcases (h5 g).1 h with h | h
   ·exact H.gn (by simp [h])
   ·have := H.rd.lt; omega
 ·rcases (h5 x).1 h with h | h
  ·exact H.dj x hx h
  ·have := hlt x (by simp [hx]); omega
 ·rcases List.mem_append.1 hx with hx | hx
  ·exact H.fr x (by simp [hx])
  ·rcases (h5 x).1 hx with h | h
   ·exact H.fr x (by simp [h])
   ·have := H.mod.size; omega
end Go.Proofs.YtknndpjacklkeaaGreatDoor.V
