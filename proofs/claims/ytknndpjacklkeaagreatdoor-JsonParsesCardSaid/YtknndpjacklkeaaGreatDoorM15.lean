/-
  A part of the proof: the reader's value, walked; json.Parse, walked; two texts read: the law's own example, a number with a point; the canonical text of the law's own example; a text between quotes, read. No condition of its own.
-/
import Derived.Test.YtknndpjacklkeaaGreatDoorM14
import Derived.Test.YtknndpjacklkeaaGreatDoorM9
import Derived.Test.YtknndpjacklkeaaGreatDoorM10
import Derived.Test.YtknndpjacklkeaaGreatDoorM4
import Derived.Test.YtknndpjacklkeaaGreatDoorM8
set_option linter.unusedVariables false
set_option linter.unusedSimpArgs false
set_option maxRecDepth 10000
namespace Go.Proofs.YtknndpjacklkeaaGreatDoor.V
open Go Go.Proofs
theorem six {us : List Value} (h : us.length = 6) : ∃ a b c d e f, us = [a, b, c, d, e, f] := by
 match us, h with
 | [a, b, c, d, e, f], _ => exact ⟨a, b, c, d, e, f, rfl⟩
theorem zr115 : (Tryz.prog.info? 115).bind (·.zero) = some (.pointer none) := by kernel_rfl
theorem ent95 : Ent Tryz.prog 95 := Ent.of Tryz.func95 (by kernel_rfl) (by kernel_rfl)
theorem ent96 : Ent Tryz.prog 96 := Ent.of Tryz.func96 (by kernel_rfl) (by kernel_rfl)
abbrev VSt := Option JV × List Value × Nat × List Fm × Value × List Value × List Nat
abbrev OSt := Nat × List Fm × Value × List Value × List Nat × List Nat
structure OI (wI w0 w : World) (g g2 : Nat) (s : Str) (r : PR) (k : Nat) (st : List Fm) (sk : Value) (cs : List Value) (fp Z : List Nat) : Prop where
 run : Run s none k st r
 ps : PS (PTz Z) w0 w g s k st sk cs fp
 z2 : g2 ∈ Z
 b2 : Blk w g2 25 NUL6
 kl : k ≤ s.length
 cl : cs.length ≤ 32
 sz : ∀ fm ∈ st, fm.sz ≤ k
 md : Mod [g] wI w
 zz : ∀ z, z < wI.heap.size → z ≠ g → z ∈ Z
structure VI (wI w0 w : World) (g g2 g3 : Nat) (s : Str) (r : PR) (Z : List Nat) (k0 : Nat) (ov : Option JV) (us : List Value) (k : Nat) (st : List Fm) (sk : Value) (cs : List Value) (fp : List Nat) : Prop where
 run : Run s ov k st r
 ps : PS (PTz Z) w0 w g s k st sk cs fp
 z2 : g2 ∈ Z
 z3 : g3 ∈ Z
 n23 : g2 ≠ g3
 b2 : Blk w g2 25 NUL6
 b3 : Blk w g3 25 us
 ul : us.length = 6
 uo : ∀ u ∈ us, u.oneCell' = true
 vr : ∀ v, ov = some v → Reps (g :: (ob sk ++ fp)) w v.D us
 kl : k ≤ s.length
 k0 : k0 < k
 cl : cs.length ≤ 32
 sz : ∀ fm ∈ st, fm.sz + ov.isSome.toNat ≤ k
 md : Mod [g] wI w
def w00 (w : World) : World := { w with heap := #[] }
theorem md_of {wI w w' : World} {Z M : List Nat} {g k : Nat} {s : Str} {st : List Fm} {sk : Value} {cs : List Value} {fp : List Nat} (zz : ∀ z, z < wI.heap.size → z ≠ g → z ∈ Z) (md : Mod [g] wI w) (E : Mod M w w') (hM : ∀ x ∈ M, x ≠ g → x ∉ Z) : Mod [g] wI w' :=
 ⟨E.os.trans md.os, E.tape.trans md.tape, E.output.trans md.output, Nat.le_trans md.size E.size, fun i hi hx => (E.block i (Nat.lt_of_lt_of_le hi md.size) (fun h => hM i h (by simpa using hx) (zz i hi (by simpa using hx)))).trans (md.block i hi hx)⟩
theorem md_kp {wI w w' : World} {Z : List Nat} {g k : Nat} {s : Str} {st : List Fm} {sk : Value} {cs : List Value} {fp : List Nat} (zz : ∀ z, z < wI.heap.size → z ≠ g → z ∈ Z) (md : Mod [g] wI w) (q : PS (PTz Z) (w00 wI) w' g s k st sk cs fp) (kp : Kp Z w w') (hs : w.heap.size ≤ w'.heap.size) : Mod [g] wI w' :=
 ⟨q.mod.os, q.mod.tape, q.mod.output, Nat.le_trans md.size hs, fun i hi hx => (kp i (zz i hi (by simpa using hx))).trans (md.block i hi hx)⟩
theorem go_of {wI w : World} {Z : List Nat} {g k : Nat} {s : Str} {st : List Fm} {sk : Value} {cs : List Value} {fp : List Nat} (zz : ∀ z, z < wI.heap.size → z ≠ g → z ∈ Z) (hE : Env wI) (q : PS (PTz Z) (w00 wI) w g s k st sk cs fp) : ∀ x ∈ ob sk, gX < x := fun x hx => by
 rcases Nat.lt_or_ge x wI.heap.size with h | h
 ·by_cases hg : x = g
  ·subst hg; exact absurd (List.mem_append_left _ hx) q.gn
  ·exact absurd hx (q.zlt x (zz x h hg)).2.2
 ·exact Nat.lt_of_lt_of_le hE.sz h
theorem c_rvalue {wI : World} {g : Nat} {s : Str} {r : PR} (B0 : Blk wI g 67 [S s, .int .i64 ((0 : Nat) : Int), .slice none 0 0]) (hs : s.length ≤ 65536) (hE : Env wI) (hg : gX < g) (hr : Run s none 0 [] r) :
  Calls Tryz.prog 51 [.pointer (some ⟨g, 0, none⟩)].toArray wI (PnP 110 [g] wI r (fun x u w' => ∃ us sk', u = .agg us.toArray ∧ Reps (g :: List.range wI.heap.size) w' x.1.D us ∧ Blk w' g 67 [S s, .int .i64 (x.2 : Int), sk'] ∧ x.2 ≤ s.length)) := by
 refine enter Tryz.func51 rfl rfl rfl (l := [(0, _)]) ⟨rfl, trivial⟩ ?_
 refine Cq fun K0 hK0 => ?_
 refine Cr ?_
 refine s_alloc zv25 rfl fun g2 w1 N1 => ?_
 have Lg2 : wI.heap.size ≤ g2 := N1.le (Mod.refl [g] wI)
 have n2 := N1.ne B0
 have B := B0.mod0 N1.mod
 obtain ⟨Z0, hZ0⟩ : ∃ Z0, Z0 = g2 :: (List.range wI.heap.size).filter (· ≠ g) := ⟨_, rfl⟩
 have HP0 : PS (PTz Z0) (w00 wI) w1 g s 0 [] (.slice none 0 0) [] Z0 := PS.init (T := PTz Z0) B ⟨N1.mod.os, N1.mod.tape, N1.mod.output, Nat.zero_le _, fun i hi => absurd hi (Nat.not_lt_zero _)⟩ (fun x hx => by
  have hx : x ∈ Z0 := hx
  rw [hZ0] at hx
  rcases List.mem_cons.1 hx with rfl | hx
  ·exact ⟨Nat.zero_le _, N1.blk.lt, Ne.symm n2⟩
  ·simp only [List.mem_filter, List.mem_range, decide_eq_true_eq] at hx
   exact ⟨Nat.zero_le _, Nat.lt_of_lt_of_le hx.1 N1.mod.size, hx.2⟩)
 have hzz0 : ∀ z, z < wI.heap.size → z ≠ g → z ∈ Z0 := fun z h1 h2 => by
  rw [hZ0]
  exact List.mem_cons_of_mem _ (by simp only [List.mem_filter, List.mem_range, decide_eq_true_eq]; exact ⟨h1, h2⟩)
 refine Ln ?_
 refine e_K (hK0 _ _ _ _ ?_)
 refine cB ?_
 refine c_loop (σ := OSt) (fun _ => [(0, .pointer (some ⟨g, 0, none⟩)), (2, .pointer (some ⟨g2, 0, none⟩))]) (fun x w1 => OI wI (w00 wI) w1 g g2 s r x.1 x.2.1 x.2.2.1 x.2.2.2.1 x.2.2.2.2.1 x.2.2.2.2.2) (fun x => s.length - x.1) (0, [], .slice none 0 0, [], Z0, Z0) ⟨rfl, rfl, trivial⟩ ⟨hr, HP0, by dsimp only; rw [hZ0]; simp, N1.blk, by simp, by simp, by simp, N1.mod.mono (by simp), hzz0⟩ ?_
 rintro ⟨k, st, sk, cs, fp, Z⟩ w2 hI
 obtain ⟨hrun, H, z2, B2, hkl, hcl, hsz, md, zz⟩ := hI
 dsimp only at hrun H z2 hkl hcl hsz zz
 refine cB ?_
 refine Cq fun K1 hK1 => ?_
 refine Cr ?_
 refine sv (oM rfl) rfl ?_
 have hlen := H.len
 refine scp (oC ent95 rfl) (c_begin H hs hkl hcl (hE.modg hg md) hg (go_of zz hE H)) rfl (fun w_ h_ => h_) (fun c_ w3 h_ => ?_) fun v_ w3 h_ => ?_
 ·obtain ⟨e, he, h0, rfl, E_⟩ := h_
  refine eT (by simp) ?_
  refine eI (by simp) ?_
  refine eT (by simp) ?_
  refine eI (by simp) ?_
  exact endp ⟨e, run_err hrun he, h0, rfl, md_of (k := k) (s := s) (st := st) (sk := sk) (cs := cs) (fp := fp) zz md E_ (fun x hx hxg hz => (List.mem_cons.1 hx).elim hxg (fun h => (H.zlt x hz).2.2 h))⟩
 obtain ⟨x, hx, hq, E_⟩ := h_
 obtain ⟨ov, us, k1, st1, sk1, cs1, fp1, rfl, hrun1, q1, kp, hul, huo, hvr, hkl1, hk01, hcl1, hsz1⟩ : ∃ ov us k1 st1 sk1 cs1 fp1, v_ = .tuple #[.agg us.toArray, .bool (Option.isSome ov)] ∧ Run s ov k1 st1 r ∧ PS (PTz Z) (w00 wI) w3 g s k1 st1 sk1 cs1 fp1 ∧ Kp Z w2 w3 ∧ us.length = 6 ∧ (∀ u ∈ us, u.oneCell' = true) ∧ (∀ v, ov = some v → Reps (g :: (ob sk1 ++ fp1)) w3 v.D us) ∧ k1 ≤ s.length ∧ k < k1 ∧ cs1.length ≤ 32 ∧ (∀ fm ∈ st1, fm.sz + ov.isSome.toNat ≤ k1) := by
  rcases x with ⟨v, k1⟩ | ⟨fm, k1⟩
  ·obtain ⟨us, sk1, cs1, fp1, h1, h2, h3, h4, h5⟩ := hq
   have hb := beg_inl hx hkl
   have h6 := JV.cells_one h4
   exact ⟨some v, us, k1, st, sk1, cs1, fp1, h1, run_whole hrun hx, h2, h5, h6.1, h6.2, fun v' hv => by cases hv; exact h4, hb.2, hb.1, by rw [h2.len]; omega, fun fm hf => by have := hsz fm hf; simp; omega⟩
  ·obtain ⟨us, sk1, cs1, fp1, h1, h2, h3, h4, h5⟩ := hq
   have hb := beg_inr hx hkl
   subst h2
   exact ⟨none, _, k1, fm :: st, sk1, cs1, fp1, h1, run_push hrun hx, h3, h5, rfl, by simp [Value.oneCell'], fun v' hv => (by cases hv), hb.2.1, hb.1, by rw [h3.len, List.length_cons]; omega, fun f hf => by
    rcases List.mem_cons.1 hf with rfl | hf
    ·rw [hb.2.2.2]; simp
    ·have := hsz f hf; simp; omega⟩
 replace B2 : Blk w3 g2 25 NUL6 := (kp g2 z2).trans B2
 replace md := md_kp zz md q1 kp E_.size
 obtain ⟨u1, u2, u3, u4, u5, u6, rfl⟩ := six hul
 refine sv (oM rfl) rfl ?_
 refine sv (o_ext rfl rfl) rfl ?_
 refine sv (o_ext rfl rfl) rfl ?_
 refine s_alloc zv25 rfl fun g3 w4 N4 => ?_
 have hat := N4.at_
 have md0 := md
 have n23 := N4.ne B2
 obtain ⟨fp2, q2, hfp⟩ := q1.addz N4.mod (Nat.le_of_eq hat.symm) N4.blk.lt
 refine s_sta (vs := [_, _, _, _, _, _]) ag25 N4.blk rfl rfl rfl huo (by simp) fun w5 P5 => ?_
 have B3 := P5.eq (cs' := [u1, u2, u3, u4, u5, u6]) rfl
 replace B2 := (B2.mod0 N4.mod).mod P5.mod (by simpa using n23)
 have q3 := q2.priv (List.mem_cons_self ..) P5.mod
 replace md := (md.then N4.mod).own P5.mod (by have := md.size; omega)
 have hvr2 : ∀ v, ov = some v → Reps (g :: (ob sk1 ++ fp2)) w5 v.D [u1, u2, u3, u4, u5, u6] := fun v hv => by
  have h1 : Reps (g :: (ob sk1 ++ fp2)) w4 v.D [u1, u2, u3, u4, u5, u6] := Reps.to N4.mod (by simp) (fun x hx => by
   simp only [List.mem_cons, List.mem_append] at hx ⊢
   rcases hx with hx | hx | hx
   ·exact .inl (.inl hx)
   ·exact .inl (.inr (.inl hx))
   ·rcases hfp x hx with h | h
    ·exact .inl (.inr (.inr h))
    ·exact .inr (by omega)) _ _ (hvr v hv)
  exact h1.toM P5.mod (fun x hx => by
   rw [List.mem_singleton.1 hx]
   have := q2.stk.z g3 (List.mem_cons_self ..)
   simp [this])
 refine sv (o_as rfl) rfl ?_
 refine Ln ?_
 refine e_K (hK1 _ _ _ _ ?_)
 refine cB ?_
 clear hvr hul hq hx
 refine c_loop (σ := VSt) (fun x => [(0, .pointer (some ⟨g, 0, none⟩)), (2, .pointer (some ⟨g2, 0, none⟩)), (3, .pointer (some ⟨g3, 0, none⟩)), (4, .bool x.1.isSome)]) (fun x w1 => VI wI (w00 wI) w1 g g2 g3 s r (g3 :: Z) k x.1 x.2.1 x.2.2.1 x.2.2.2.1 x.2.2.2.2.1 x.2.2.2.2.2.1 x.2.2.2.2.2.2) (fun x => s.length - x.2.2.1) (ov, [u1, u2, u3, u4, u5, u6], k1, st1, sk1, cs1, fp2) ⟨rfl, rfl, rfl, rfl, trivial⟩ ⟨hrun1, q3, List.mem_cons_of_mem _ z2, List.mem_cons_self .., n23, B2, B3, rfl, huo, hvr2, hkl1, hk01, hcl1, hsz1, md⟩ ?_
 have zz2 : ∀ z, z < wI.heap.size → z ≠ g → z ∈ g3 :: Z := fun z h1 h2 => List.mem_cons_of_mem _ (zz z h1 h2)
 have hl3 : wI.heap.size ≤ g3 := by have := N4.le md0; exact this
 clear md md0 zz
 clear hrun H B2 hkl hcl hsz q1 q2 q3 B3 hvr2 hkl1 hk01 hcl1 hsz1 hrun1 hfp hlen kp
 rintro ⟨ov, us, kk, st, sk, cs, fp⟩ w6 hV
 obtain ⟨hrun, H, z2, z3, n23, B2, B3, hul, huo, hvr, hkl, hk0, hcl, hsz, md⟩ := hV
 dsimp only at hrun H B3 hul huo hvr hkl hk0 hcl hsz
 have hlen := H.len
 cases ov with
 | none =>
  refine Cq fun K2 hK2 => ?_
  refine Cq fun K3 hK3 => ?_
  refine Cr ?_
  refine sv (oM rfl) rfl ?_
  refine Ln ?_
  refine e_K (hK3 _ _ _ _ ?_)
  refine c_cond rfl (fun h13 => absurd h13 (by simp)) (fun h13 => ?_)
  refine c_exit ?_
  refine eT (by simp) ?_
  refine eT (by simp) ?_
  refine e_hit ?_
  refine eI (by simp) ?_
  exact eR (σ := OSt) (s := (k, _)) (kk, st, sk, cs, fp, g3 :: Z) ⟨rfl, rfl, trivial⟩ ⟨hrun, H, z2, B2, hkl, hcl, fun fm hf => by have := hsz fm hf; simpa using this, md, zz2⟩ (by dsimp only; omega)
 | some v =>
  have R := hvr v rfl
  refine Cq fun K2 hK2 => ?_
  refine Cq fun K3 hK3 => ?_
  refine Cr ?_
  refine sv (oM rfl) rfl ?_
  refine Ln ?_
  refine e_K (hK3 _ _ _ _ ?_)
  refine c_cond rfl (fun h13 => ?_) (fun h13 => absurd h13 (by simp))
  refine cK ?_
  refine e_K (hK2 _ _ _ _ ?_)
  refine cB ?_
  refine Cq fun K4 hK4 => ?_
  refine Cq fun K5 hK5 => ?_
  have B : Blk w6 g 67 _ := H.rd
  obtain ⟨ad, c0, e1, hc1, hc2⟩ := H.own.form
  subst e1
  refine Cr ?_
  refine tW 2 rfl ?_
  refine sv (oA0 fd67_2 rfl) rfl ?_
  refine sv (oL sc65 rfl (B.cell rfl)) rfl ?_
  refine sv (o_len Tryz.underlying65 rfl) rfl ?_
  refine sv (oE rfl rfl) rfl ?_
  refine Ln ?_
  refine e_K (hK5 _ _ _ _ ?_)
  have hz := H.zlt
  obtain ⟨u1, u2, u3, u4, u5, u6, rfl⟩ := six hul
  cases st with
  | nil =>
   refine c_if rfl (fun h19 => ?_) (fun h19 => absurd (show ((cs.length : Nat) : Int) = 0 by rw [hlen]; rfl) h19)
   refine Cq fun K6 hK6 => ?_
   refine Cr ?_
   refine sv (o_lda (vs := [_, _, _, _, _, _]) ag25 rfl rfl (B3.cs rfl)) rfl ?_
   refine s_sta (vs := [_, _, _, _, _, _]) ag25 B2 rfl rfl rfl huo (by simp) fun w7 P7 => ?_
   have B2' := P7.eq (cs' := [_, _, _, _, _, _]) rfl
   have q := H.priv z2 P7.mod
   refine Ln ?_
   refine e_K (hK6 _ _ _ _ ?_)
   refine cR ?_
   refine eT (by simp) ?_
   refine eI (by simp) ?_
   refine eT (by simp) ?_
   refine eI (by simp) ?_
   refine eI (by simp) ?_
   refine eT (by simp) ?_
   refine eI (by simp) ?_
   have hzf := H.stk.z g2 z2
   exact retcR (vs := [_, _, _, _, _, _]) rfl ag25 rfl rfl (B2'.cs rfl) ⟨(v, kk), run_done hrun, ⟨_, _, rfl, (R.toM P7.mod (fun x hx => by rw [List.mem_singleton.1 hx]; simp [hzf])).anti (fun x hx => by
    rcases List.mem_cons.1 hx with rfl | hx
    ·simp
    ·by_cases hxg : x = g
     ·simp [hxg]
     ·have := H.stk.z x (zz2 x (List.mem_range.1 hx) hxg)
      simp [this]), q.rd, hkl⟩, md.own P7.mod Lg2⟩
  | cons fm st =>
   refine c_if rfl (fun h19 => absurd h19 (by rw [hlen, List.length_cons]; omega)) (fun h19 => ?_)
   refine cK ?_
   refine e_K (hK4 _ _ _ _ ?_)
   refine Cq fun K7 hK7 => ?_
   refine Cr ?_
   refine sv (oM rfl) rfl ?_
   refine sv (o_lda (vs := [_, _, _, _, _, _]) ag25 rfl rfl (B3.cs rfl)) rfl ?_
   have hsz0 := hsz fm (List.mem_cons_self ..)
   have hszr : ∀ f ∈ st, f.sz + 1 ≤ kk := fun f hf => by have := hsz f (List.mem_cons_of_mem _ hf); simpa using this
   have hws : spanA isWs s kk ≤ s.length := spanA_le hkl
   have hwg := spanA_ge isWs s kk
   cases fm with
   | A acc t => exact absurd (run_A hrun) id
   | L acc =>
    have hac : acc.length ≤ 1000000 := by simp [Fm.sz] at hsz0; omega
    refine sc (oC ent96 rfl) (c_addL H R hcl hac) rfl fun v_ w7 h_ => ?_
    obtain ⟨rfl, fp', q1, S1, kp⟩ := h_
    replace md := md_kp zz2 md q1 kp S1.mod.size
    replace B2 : Blk w7 g2 25 NUL6 := (kp g2 z2).trans B2
    replace B3 : Blk w7 g3 25 _ := (kp g3 z3).trans B3
    have hz1 := q1.zlt
    refine sv (o_as rfl) rfl ?_
    refine Ln ?_
    refine e_K (hK7 _ _ _ _ ?_)
    refine Cq fun K8 hK8 => ?_
    refine Cq fun K9 hK9 => ?_
    refine Cr ?_
    refine sv (oM rfl) rfl ?_
    refine sv (oM rfl) rfl ?_
    refine sc (oC ent97_ rfl) (c_is_ _ g s kk _ q1.rd hs hkl 93) rfl fun v_ w8 h_ => ?_
    obtain ⟨rfl, B, E_⟩ := h_
    have q2 := q1.rstep B E_
    replace md := md.trans E_
    replace B2 := B2.mod E_ (by simpa using (hz1 g2 z2).2.1)
    replace B3 := B3.mod E_ (by simpa using (hz1 g3 z3).2.1)
    have hz2 := q2.zlt
    refine Ln ?_
    refine e_K (hK9 _ _ _ _ ?_)
    refine c_cond rfl (fun h26 => ?_) (fun h26 => ?_)
    ·have h26 : hasA s (spanA isWs s kk) [93] = true := h26
     have hl1 := hasA_len h26 (by simp)
     have hl2 : spanA isWs s kk + 1 ≤ s.length := by simpa using hl1
     rw [if_pos h26] at q2
     refine Cq fun K10 hK10 => ?_
     refine Cr ?_
     refine sv (oM rfl) rfl ?_
     refine sc (oC ent98 rfl) (c_popL q2 (by omega)) rfl fun v_ w9 h_ => ?_
     obtain ⟨us', sk', cs', fp2, rfl, q3, S3, R3, kp⟩ := h_
     replace md := md_kp zz2 md q3 kp S3.mod.size
     replace B2 : Blk w9 g2 25 NUL6 := (kp g2 z2).trans B2
     replace B3 : Blk w9 g3 25 _ := (kp g3 z3).trans B3
     obtain ⟨hul', huo'⟩ := JV.cells_one R3
     obtain ⟨y1, y2, y3, y4, y5, y6, rfl⟩ := six hul'
     refine s_sta (vs := [_, _, _, _, _, _]) ag25 B3 rfl rfl rfl huo' (by simp) fun w10 P10 => ?_
     replace B3 := P10.eq (cs' := [y1, y2, y3, y4, y5, y6]) rfl
     replace B2 := B2.mod P10.mod (by simpa using n23)
     have q4 := q3.priv z3 P10.mod
     replace md := md.own P10.mod hl3
     have hzf := q3.stk.z g3 z3
     refine Ln ?_
     refine e_K (hK10 _ _ _ _ ?_)
     refine c_exit ?_
     refine eT (by simp) ?_
     refine e_hit ?_
     have hlen3 := q3.len
     rw [List.length_cons] at hlen
     exact eR (σ := VSt) (s := (some v, _, kk, _)) (some (JV.lst (acc ++ [v])), [y1, y2, y3, y4, y5, y6], spanA isWs s kk + 1, st, sk', cs', fp2) ⟨rfl, rfl, rfl, rfl, trivial⟩ ⟨run_endL hrun h26, q4, z2, z3, n23, B2, B3, rfl, huo', fun v' hv => by cases hv; exact R3.toM P10.mod (fun x hx => by rw [List.mem_singleton.1 hx]; simp [hzf]), hl2, by dsimp only; omega, by dsimp only; omega, fun f hf => by have := hszr f hf; simp; omega, md⟩ (by dsimp only; omega)
    ·have h26 : hasA s (spanA isWs s kk) [93] = false := h26
     rw [if_neg (by rw [h26]; simp)] at q2
     refine cK ?_
     refine e_K (hK8 _ _ _ _ ?_)
     refine Cq fun K11 hK11 => ?_
     refine Cq fun K12 hK12 => ?_
     refine Cr ?_
     refine sv (oM rfl) rfl ?_
     refine sc (oC ent97_ rfl) (c_is_ _ g s _ _ q2.rd hs hws 44) rfl fun v_ w9 h_ => ?_
     obtain ⟨rfl, B, E_⟩ := h_
     have q3 := q2.rstep B E_
     replace md := md.trans E_
     rw [spanA_id] at q3
     replace B2 := B2.mod E_ (by simpa using (hz2 g2 z2).2.1)
     replace B3 := B3.mod E_ (by simpa using (hz2 g3 z3).2.1)
     refine sv (o_not rfl) rfl ?_
     refine Ln ?_
     refine e_K (hK12 _ _ _ _ ?_)
     refine c_cond rfl (fun h31 => ?_) (fun h31 => ?_)
     ·have h31 : hasA s (spanA isWs s kk) [44] = false := by rw [spanA_id] at h31; simpa using h31
      refine Cr ?_
      refine scp (oC ent53 rfl) (c_fail _ 4) rfl (fun w_ h_ => h_.elim) (fun c_ w10 h_ => ?_) fun v_ w10 h_ => ?_
      ·obtain ⟨rfl, rfl⟩ := h_
       refine eT (by simp) ?_
       refine eI (by simp) ?_
       refine eT (by simp) ?_
       refine eI (by simp) ?_
       refine eI (by simp) ?_
       refine eT (by simp) ?_
       refine eI (by simp) ?_
       exact endp ⟨4, run_errL hrun h26 h31, by decide, rfl, md⟩
      ·exact h_.elim
     ·have h31 : hasA s (spanA isWs s kk) [44] = true := by rw [spanA_id] at h31; simpa using h31
      rw [if_pos h31] at q3
      have hl2 : spanA isWs s kk + 1 ≤ s.length := by have := hasA_len h31 (by simp); simpa using this
      refine cK ?_
      refine e_K (hK11 _ _ _ _ ?_)
      refine Cq fun K13 hK13 => ?_
      refine Cq fun K14 hK14 => ?_
      obtain ⟨g1, wv, vs, cs1, fp1, rfl, _⟩ := q3.topL
      obtain ⟨ad, c0, e1, hc1, hc2, C⟩ := stk_top q3.own
      injection e1 with e1 e2 e3
      subst e1
      subst e3
      have q4 := q3
      have B : Blk w9 g 67 _ := q3.rd
      refine c_draw wide (by kernel_rfl) ?_
      refine tU 2 rfl rfl ?_
      refine tv (fun w_ E_ => (oA0 fd67_2 rfl)) rfl rfl ?_
      refine tv (fun w_ E_ => (oL sc65 rfl ((B.mod0 E_).cell rfl))) rfl rfl ?_
      refine tU 2 rfl rfl ?_
      refine tv (fun w_ E_ => (oA0 fd67_2 rfl)) rfl rfl ?_
      refine tv (fun w_ E_ => (oL sc65 rfl ((B.mod0 E_).cell rfl))) rfl rfl ?_
      refine tv (fun w_ E_ => (o_len Tryz.underlying65 rfl)) rfl rfl ?_
      refine tv (fun w_ E_ => (o_subE (r := ((cs1.length : Nat) : Int)) rfl rfl (by rw [wrap64_in _ (by simp at hcl; omega)]; simp))) rfl rfl ?_
      refine tv (fun w_ E_ => (o_ix sl65 rfl rfl (by simp; omega))) rfl rfl ?_
      refine tv (fun w_ E_ => (oL sc20 rfl (stk_cell (C.mod E_ (by simp))))) rfl rfl ?_
      refine tv (fun w_ E_ => (o_taF pu115 (show ¬ (155 : Nat) = 115 by decide) zr115 rfl)) rfl rfl ?_
      refine tv (fun w_ E_ => (oM rfl)) rfl rfl ?_
      refine tv (fun w_ E_ => (o_ext rfl rfl)) rfl rfl ?_
      refine tv (fun w_ E_ => (o_ext rfl rfl)) rfl rfl ?_
      refine tv (fun w_ E_ => (o_as rfl)) rfl rfl ?_
      refine tv (fun w_ E_ => (o_as rfl)) rfl rfl ?_
      refine tw_nil rfl fun w10 E_ => ?_
      replace B2 := B2.mod0 E_
      replace B3 := B3.mod0 E_
      refine e_K (hK14 _ _ _ _ ?_)
      refine Cq fun K15 hK15 => ?_
      refine Cr ?_
      refine sv (oM rfl) rfl ?_
      refine Ln ?_
      refine e_K (hK15 _ _ _ _ ?_)
      refine c_cond rfl (fun h49 => absurd h49 (by simp)) (fun h49 => ?_)
      refine cK ?_
      refine e_K (hK13 _ _ _ _ ?_)
      refine Cr ?_
      refine sv (o_as rfl) rfl ?_
      refine Ln ?_
      refine eI (by simp) ?_
      exact eR (σ := VSt) (s := (some v, _, kk, _)) (none, [u1, u2, u3, u4, u5, u6], spanA isWs s kk + 1, .L (acc ++ [v]) :: st, _, _, fp') ⟨rfl, rfl, rfl, rfl, trivial⟩ ⟨run_nextL hrun h26 h31, q4.mod0 E_, z2, z3, n23, B2, B3, rfl, huo, fun v' hv => (by cases hv), hl2, by dsimp only; omega, hcl, fun f hf => by
       rcases List.mem_cons.1 hf with rfl | hf
       ·simp [Fm.sz] at hsz0 ⊢; omega
       ·have := hszr f hf; simp; omega, md.then E_⟩ (by dsimp only; omega)
   | M acc t =>
    have hac : acc.length ≤ 1000000 := by simp [Fm.sz] at hsz0; omega
    refine sc (oC ent96 rfl) (c_addM H R hcl hac) rfl fun v_ w7 h_ => ?_
    obtain ⟨rfl, fp', q1, S1, kp⟩ := h_
    replace md := md_kp zz2 md q1 kp S1.mod.size
    replace B2 : Blk w7 g2 25 NUL6 := (kp g2 z2).trans B2
    replace B3 : Blk w7 g3 25 _ := (kp g3 z3).trans B3
    have hz1 := q1.zlt
    refine sv (o_as rfl) rfl ?_
    refine Ln ?_
    refine e_K (hK7 _ _ _ _ ?_)
    refine Cq fun K8 hK8 => ?_
    refine Cq fun K9 hK9 => ?_
    refine Cr ?_
    refine sv (oM rfl) rfl ?_
    refine sv (oM rfl) rfl ?_
    refine sc (oC ent97_ rfl) (c_is_ _ g s kk _ q1.rd hs hkl 125) rfl fun v_ w8 h_ => ?_
    obtain ⟨rfl, B, E_⟩ := h_
    have q2 := q1.rstep B E_
    replace md := md.trans E_
    replace B2 := B2.mod E_ (by simpa using (hz1 g2 z2).2.1)
    replace B3 := B3.mod E_ (by simpa using (hz1 g3 z3).2.1)
    have hz2 := q2.zlt
    refine Ln ?_
    refine e_K (hK9 _ _ _ _ ?_)
    refine c_cond rfl (fun h26 => ?_) (fun h26 => ?_)
    ·have h26 : hasA s (spanA isWs s kk) [125] = true := h26
     have hl1 := hasA_len h26 (by simp)
     have hl2 : spanA isWs s kk + 1 ≤ s.length := by simpa using hl1
     rw [if_pos h26] at q2
     refine Cq fun K10 hK10 => ?_
     refine Cr ?_
     refine sv (oM rfl) rfl ?_
     refine sc (oC ent98 rfl) (c_popG q2 (by omega) (by simp [Fm.sz] at hsz0 ⊢; omega)) rfl fun v_ w9 h_ => ?_
     obtain ⟨us', sk', cs', fp2, rfl, q3, S3, R3, kp⟩ := h_
     replace md := md_kp zz2 md q3 kp S3.mod.size
     replace B2 : Blk w9 g2 25 NUL6 := (kp g2 z2).trans B2
     replace B3 : Blk w9 g3 25 _ := (kp g3 z3).trans B3
     obtain ⟨hul', huo'⟩ := JV.cells_one R3
     obtain ⟨y1, y2, y3, y4, y5, y6, rfl⟩ := six hul'
     refine s_sta (vs := [_, _, _, _, _, _]) ag25 B3 rfl rfl rfl huo' (by simp) fun w10 P10 => ?_
     replace B3 := P10.eq (cs' := [y1, y2, y3, y4, y5, y6]) rfl
     replace B2 := B2.mod P10.mod (by simpa using n23)
     have q4 := q3.priv z3 P10.mod
     replace md := md.own P10.mod hl3
     have hzf := q3.stk.z g3 z3
     refine Ln ?_
     refine e_K (hK10 _ _ _ _ ?_)
     refine c_exit ?_
     refine eT (by simp) ?_
     refine e_hit ?_
     have hlen3 := q3.len
     rw [List.length_cons] at hlen
     exact eR (σ := VSt) (s := (some v, _, kk, _)) (some (JV.obj (sortM (acc ++ [(t, v)]))), [y1, y2, y3, y4, y5, y6], spanA isWs s kk + 1, st, sk', cs', fp2) ⟨rfl, rfl, rfl, rfl, trivial⟩ ⟨run_endM hrun h26, q4, z2, z3, n23, B2, B3, rfl, huo', fun v' hv => by cases hv; exact R3.toM P10.mod (fun x hx => by rw [List.mem_singleton.1 hx]; simp [hzf]), hl2, by dsimp only; omega, by dsimp only; omega, fun f hf => by have := hszr f hf; simp; omega, md⟩ (by dsimp only; omega)
    ·have h26 : hasA s (spanA isWs s kk) [125] = false := h26
     rw [if_neg (by rw [h26]; simp)] at q2
     refine cK ?_
     refine e_K (hK8 _ _ _ _ ?_)
     refine Cq fun K11 hK11 => ?_
     refine Cq fun K12 hK12 => ?_
     refine Cr ?_
     refine sv (oM rfl) rfl ?_
     refine sc (oC ent97_ rfl) (c_is_ _ g s _ _ q2.rd hs hws 44) rfl fun v_ w9 h_ => ?_
     obtain ⟨rfl, B, E_⟩ := h_
     have q3 := q2.rstep B E_
     replace md := md.trans E_
     rw [spanA_id] at q3
     replace B2 := B2.mod E_ (by simpa using (hz2 g2 z2).2.1)
     replace B3 := B3.mod E_ (by simpa using (hz2 g3 z3).2.1)
     refine sv (o_not rfl) rfl ?_
     refine Ln ?_
     refine e_K (hK12 _ _ _ _ ?_)
     refine c_cond rfl (fun h31 => ?_) (fun h31 => ?_)
     ·have h31 : hasA s (spanA isWs s kk) [44] = false := by rw [spanA_id] at h31; simpa using h31
      refine Cr ?_
      refine scp (oC ent53 rfl) (c_fail _ 4) rfl (fun w_ h_ => h_.elim) (fun c_ w10 h_ => ?_) fun v_ w10 h_ => ?_
      ·obtain ⟨rfl, rfl⟩ := h_
       refine eT (by simp) ?_
       refine eI (by simp) ?_
       refine eT (by simp) ?_
       refine eI (by simp) ?_
       refine eI (by simp) ?_
       refine eT (by simp) ?_
       refine eI (by simp) ?_
       exact endp ⟨4, run_errM hrun h26 h31, by decide, rfl, md⟩
      ·exact h_.elim
     ·have h31 : hasA s (spanA isWs s kk) [44] = true := by rw [spanA_id] at h31; simpa using h31
      rw [if_pos h31] at q3
      have hl2 : spanA isWs s kk + 1 ≤ s.length := by have := hasA_len h31 (by simp); simpa using this
      refine cK ?_
      refine e_K (hK11 _ _ _ _ ?_)
      refine Cq fun K13 hK13 => ?_
      refine Cq fun K14 hK14 => ?_
      have hT := q3.topG (fm := .A (acc ++ [(t, v)]) t) (acc := acc ++ [(t, v)]) (K := (acc ++ [(t, v)]).map (fun q : Str × JV => q.1)) (t := t) (fun A w c m h => h)
      obtain ⟨g1, b, wv, vs, cs1, fp1, rfl, rfl, B1, hm, O1, R1, n1, n2, n7, n8, n9, n10, nz, HA, _⟩ := hT
      obtain ⟨ad, c0, e1, hc1, hc2, C⟩ := stk_top q3.own
      injection e1 with e1 e2 e3
      subst e1
      subst e3
      have B : Blk w9 g 67 _ := q3.rd
      refine c_draw wide (by kernel_rfl) ?_
      refine tU 2 rfl rfl ?_
      refine tv (fun w_ E_ => (oA0 fd67_2 rfl)) rfl rfl ?_
      refine tv (fun w_ E_ => (oL sc65 rfl ((B.mod0 E_).cell rfl))) rfl rfl ?_
      refine tU 2 rfl rfl ?_
      refine tv (fun w_ E_ => (oA0 fd67_2 rfl)) rfl rfl ?_
      refine tv (fun w_ E_ => (oL sc65 rfl ((B.mod0 E_).cell rfl))) rfl rfl ?_
      refine tv (fun w_ E_ => (o_len Tryz.underlying65 rfl)) rfl rfl ?_
      refine tv (fun w_ E_ => (o_subE (r := ((cs1.length : Nat) : Int)) rfl rfl (by rw [wrap64_in _ (by simp at hcl; omega)]; simp))) rfl rfl ?_
      refine tv (fun w_ E_ => (o_ix sl65 rfl rfl (by simp; omega))) rfl rfl ?_
      refine tv (fun w_ E_ => (oL sc20 rfl (stk_cell (C.mod E_ (by simp))))) rfl rfl ?_
      refine tv (fun w_ E_ => (o_ta pu115 rfl rfl)) rfl rfl ?_
      refine tv (fun w_ E_ => (oM rfl)) rfl rfl ?_
      refine tv (fun w_ E_ => (o_ext rfl rfl)) rfl rfl ?_
      refine tv (fun w_ E_ => (o_ext rfl rfl)) rfl rfl ?_
      refine tv (fun w_ E_ => (o_as rfl)) rfl rfl ?_
      refine tv (fun w_ E_ => (o_as rfl)) rfl rfl ?_
      refine tw_nil rfl fun w10 E_ => ?_
      replace B2 := B2.mod0 E_
      replace B3 := B3.mod0 E_
      refine e_K (hK14 _ _ _ _ ?_)
      refine Cq fun K15 hK15 => ?_
      refine Cr ?_
      refine sv (oM rfl) rfl ?_
      refine Ln ?_
      refine e_K (hK15 _ _ _ _ ?_)
      refine c_cond rfl (fun h49 => ?_) (fun h49 => absurd h49 (by simp))
      refine Cr ?_
      refine sv (oM rfl) rfl ?_
      refine sv (oM rfl) rfl ?_
      have M9 := E_
      have B10 : Blk w10 g 67 _ := B.mod0 M9
      refine scp (oC ent99 rfl) (c_key_ (K := (acc ++ [(t, v)]).map (fun q : Str × JV => q.1)) (m := sortM (acc ++ [(t, v)])) B10 (B1.mod0 M9) (hm.mod0 M9) n2 (Ne.symm n7) n8 (fun t => look_sort t _) hs hl2 (hE.modg hg (md.then M9)) hg) rfl (fun w_ h_ => h_) (fun c_ w11 h_ => ?_) fun v_ w11 h_ => ?_
      ·obtain ⟨e, he, h0, rfl, E_⟩ := h_
       refine eT (by simp) ?_
       refine eI (by simp) ?_
       refine eT (by simp) ?_
       refine eI (by simp) ?_
       refine eI (by simp) ?_
       refine eT (by simp) ?_
       refine eI (by simp) ?_
       exact endp ⟨e, run_keyM hrun h26 h31 he, h0, rfl, md_of (k := k) (s := s) (st := st) (sk := wv) (cs := cs1) (fp := fp1) zz2 (md.then M9) E_ (fun x hx hxg hzq => by
        simp only [List.mem_cons, List.not_mem_nil, or_false] at hx
        rcases hx with h | h | h
        ·exact hxg h
        ·exact nz x hzq (by simp [h])
        ·exact nz x hzq (by simp [h]))⟩
      obtain ⟨⟨t', k2⟩, he, ⟨rfl, B', B1', hm', hk2⟩, E_⟩ := h_
      have hkb := keyA_bound he
      have hnm : ∀ {x : Nat}, x ≠ g → x ≠ g1 → x ≠ b → x ∉ [g, g1, b] := fun h1 h2 h3 => by simp [h1, h2, h3]
      have hzz : ∀ z ∈ g3 :: Z, z ∉ [g, g1, b] := fun z hz' => hnm (hz2 z hz').2.1 (fun e => nz z hz' (by simp [e])) (fun e => nz z hz' (by simp [e]))
      replace B2 := B2.mod E_ (hzz g2 z2)
      replace B3 := B3.mod E_ (hzz g3 z3)
      have md11 := md_of (k := k) (s := s) (st := st) (sk := wv) (cs := cs1) (fp := fp1) zz2 (md.then M9) E_ (fun x hx _ hz => hzz x hz hx)
      obtain ⟨q5, _⟩ := HA w11 wv vs k2 (.M (acc ++ [(t, v)]) t') (acc ++ [(t, v)]) _ t' ((M9.mono (by simp)).trans (E_.mono (by simp))) B' B1' hm' ((O1.mod0 M9).mod E_ (fun x hx => hnm (n10 x hx) (fun e => n1 (e ▸ hx)) (fun e => n9 (e ▸ hx)))) (fun x hx => .inl hx) R1 (fun A w c m h => h)
      refine Ln ?_
      refine e_K (hK13 _ _ _ _ ?_)
      refine Cr ?_
      refine sv (o_as rfl) rfl ?_
      refine Ln ?_
      refine eI (by simp) ?_
      exact eR (σ := VSt) (s := (some v, _, kk, _)) (none, [u1, u2, u3, u4, u5, u6], k2, .M (acc ++ [(t, v)]) t' :: st, _, _, _) ⟨rfl, rfl, rfl, rfl, trivial⟩ ⟨run_nextM hrun h26 h31 he, q5, z2, z3, n23, B2, B3, rfl, huo, fun v' hv => (by cases hv), hk2, by dsimp only; omega, hcl, fun f hf => by
       rcases List.mem_cons.1 hf with rfl | hf
       ·simp [Fm.sz] at hsz0 ⊢; omega
       ·have := hszr f hf; simp; omega, md11⟩ (by dsimp only; omega)
end Go.Proofs.YtknndpjacklkeaaGreatDoor.V

set_option linter.unusedVariables false
set_option linter.unusedSimpArgs false
set_option maxRecDepth 10000
namespace Go.Proofs.YtknndpjacklkeaaGreatDoor.V
open Go Go.Proofs
section
variable {P : Program} {fn : Func} {l : List (Nat × Value)} {w : World} {n : Nat} {ds : List Deferred} {R : Ending → World → Prop} {t t' : Nat}
theorem results_ac {a : Act} {T T' c : Nat} {ad ad' : Addr} {vs : List Value} {v' : Value} (ha : Has n ds l a) (hr : fn.results = #[.cell t T, .cell t' T']) (ht : agB P T c = true) (ht' : scB P T' = true) (hv : lk t l = some (.pointer (some ad))) (hv' : lk t' l = some (.pointer (some ad')))
  (hn : vs.length = c) (hc : Cs w ad vs) (hc' : w.cell? ad' = some v') : (results fn a.tmps).run P w = .ok (.tuple #[.agg vs.toArray, v']) w := by
 simp [results, hr, ha.get _ _ hv, ha.get _ _ hv', asAddr, run_loadVar_ag ht hn hc, run_loadVar_sc ht' hc']
end
noncomputable def parV (s : Str) : JV := match parse s with
 | .ok v => v
 | .error _ => JV.nul
noncomputable def parE (s : Str) : Int := match parse s with
 | .ok _ => 0
 | .error e => e
theorem pl67 : plB Tryz.prog 67 [(0, 1), (1, 1), (2, 1)] = true := by kernel_rfl
theorem zv67 : zvB Tryz.prog 67 [S [], .int .i64 0, .slice none 0 0] := by unfold zvB; kernel_rfl
theorem ent49 : Ent Tryz.prog 49 := Ent.of Tryz.func49 (by kernel_rfl) (by kernel_rfl)
theorem ent51 : Ent Tryz.prog 51 := Ent.of Tryz.func51 (by kernel_rfl) (by kernel_rfl)
theorem c_par1r (w : World) (ge gs : Nat) (B : Blk w ge 26 [.int .i64 0]) : CallsD Tryz.prog 49 [.pointer (some ⟨ge, 0, none⟩), .pointer (some ⟨gs, 0, none⟩)].toArray .returning w (fun e u' w' => (∃ v, e = .returned v) ∧ u' = .returning ∧ Mod [] w w') := by
 refine rec_enter Tryz.func49 rfl rfl rfl (l := [(0, _), (1, _)]) ⟨rfl, rfl, trivial⟩ rfl rfl (.inl ⟨rfl, rfl, rfl⟩) (by rintro u w ⟨⟨v, hv⟩, _⟩; cases hv) fun K1 hK1 => ?_
 have E := Mod.refl [] w
 refine sc (oC ent50 rfl) (c_caught0 _ _) rfl fun v_ w1 h_ => ?_
 obtain ⟨_, E_⟩ := h_
 replace B := B.mod0 E_
 replace E := E.then E_
 refine Ln ?_
 refine e_K (hK1 _ _ _ _ ?_)
 refine Cq fun K2 hK2 => ?_
 refine Cr ?_
 refine sv (oL sc26 rfl (B.cell rfl)) rfl ?_
 refine sv (o_neq rfl rfl) rfl ?_
 refine Ln ?_
 refine e_K (hK2 _ _ _ _ ?_)
 refine c_if rfl (fun h5 => ?_) (fun h5 => ?_)
 ·exact absurd rfl h5
 ·refine cK ?_
  exact end0R rfl ⟨⟨_, rfl⟩, rfl, E⟩
theorem c_par1p (w : World) (ge gs : Nat) (z : Value) (e : Int) (zs : List Value) (hzs : zs.length = 6) (B : Blk w ge 26 [z]) (B2 : Blk w gs 25 zs) (hne : ge ≠ gs) (he : e ≠ 0) : CallsD Tryz.prog 49 [.pointer (some ⟨ge, 0, none⟩), .pointer (some ⟨gs, 0, none⟩)].toArray (.panicking (pEnt 110 e)) w (fun en u' w' => (∃ v, en = .returned v) ∧ u' = .panicking [{ v := .iface 110 (.agg #[.int .i64 e]), recovered := true }] ∧ Blk w' ge 26 [.int .i64 e] ∧ Blk w' gs 25 NUL6 ∧ Mod [ge, gs] w w') := by
 refine rec_enter Tryz.func49 rfl rfl rfl (l := [(0, _), (1, _)]) ⟨rfl, rfl, trivial⟩ rfl rfl (.inr ⟨rfl, rfl⟩) (by rintro u w ⟨⟨v, hv⟩, _⟩; cases hv) fun K1 hK1 => ?_
 have E := Mod.refl [ge, gs] w
 refine sc (oC ent50 rfl) (c_caught1 _ ge z e B) rfl fun v_ w1 h_ => ?_
 obtain ⟨B9, E_⟩ := h_
 replace E := E.trans' E_ (fun x hx => .inl (by simp at hx; simp [hx]))
 replace B2 := B2.mod E_ (by simp; exact fun h => hne h.symm)
 clear B
 have B := B9
 refine Ln ?_
 refine e_K (hK1 _ _ _ _ ?_)
 refine Cq fun K2 hK2 => ?_
 refine Cr ?_
 refine sv (oL sc26 rfl (B.cell rfl)) rfl ?_
 refine sv (o_neq rfl rfl) rfl ?_
 refine Ln ?_
 refine e_K (hK2 _ _ _ _ ?_)
 refine c_if rfl (fun h5 => ?_) (fun h5 => ?_)
 ·obtain ⟨z1, z2, z3, z4, z5, z6, rfl⟩ := six hzs
  refine Cr ?_
  refine sv (o_build (us := []) (cs := [_, _, _, _, _, _]) pl25 zv25 rfl rfl) rfl ?_
  refine s_sta (vs := [_, _, _, _, _, _]) ag25 B2 rfl rfl rfl (by simp [Value.oneCell']) (by simp) fun w9 P9 => ?_
  replace E := E.trans' P9.mod (fun x hx => .inl (by simp at hx; simp [hx]))
  replace B := B.mod P9.mod (by simp; exact hne)
  have B2' := P9.eq (cs' := NUL6) rfl
  refine Ln ?_
  exact end0R rfl ⟨⟨_, rfl⟩, rfl, B, B2', E⟩
 ·exact absurd he h5
theorem c_parse (w : World) (s : Str) (hE : Env w) : Calls Tryz.prog 14 [S s].toArray w (Ret fun u w' => ∃ us, u = .tuple #[.agg us.toArray, .int .i64 (parE s)] ∧ Reps (List.range w.heap.size) w' (parV s).D us ∧ Mod [] w w') := by
 refine enterD Tryz.func14 rfl rfl rfl (l := [(0, _)]) ⟨rfl, trivial⟩ ?_
 have E := Mod.refl [] w
 refine Cq fun K1 hK1 => ?_
 refine Cr ?_
 refine s_alloc zv25 rfl fun g2 w1 N1 => ?_
 have L2 := N1.le E
 replace E := E.then N1.mod
 have B2 := N1.blk
 refine s_alloc zv26 rfl fun g3 w2 N2 => ?_
 have L3 := N2.le E
 have n23 := N2.ne B2
 replace B2 := B2.mod0 N2.mod
 replace E := E.then N2.mod
 have B3 := N2.blk
 refine Ln ?_
 refine e_K (hK1 _ _ _ _ ?_)
 refine Cq fun K2 hK2 => ?_
 refine Cq fun K3 hK3 => ?_
 refine Cr ?_
 refine sv (oM rfl) rfl ?_
 refine sv (o_slen Tryz.underlying9 rfl) rfl ?_
 refine sv (o_gtr rfl rfl) rfl ?_
 refine Ln ?_
 refine e_K (hK3 _ _ _ _ ?_)
 refine c_if rfl (fun h7 => ?_) (fun h7 => ?_)
 ·have hp : parse s = .error 3 := by unfold parse; rw [if_pos (by omega)]
  refine Cq fun K4 hK4 => ?_
  refine Cr ?_
  refine sv (o_build (us := []) (cs := [_, _, _, _, _, _]) pl25 zv25 rfl rfl) rfl ?_
  refine s_sta (vs := [_, _, _, _, _, _]) ag25 B2 rfl rfl rfl (by simp [Value.oneCell']) (by simp) fun w3 P3 => ?_
  have B2' := P3.eq (cs' := NUL6) rfl
  replace B3 := B3.mod P3.mod (by simpa using Ne.symm n23)
  replace E := E.own P3.mod L2
  refine s_st sc26 B3 rfl rfl rfl (by simp) fun w4 P4 => ?_
  replace B2' := B2'.mod P4.mod (by simpa using n23)
  replace E := E.own P4.mod L3
  have B3' := P4.eq (cs' := [.int .i64 3]) rfl
  refine Ln ?_
  refine e_K (hK4 _ _ _ _ ?_)
  refine cR ?_
  refine eT (by simp) ?_
  refine we_ret fun a ha => ?_
  exact ⟨_, results_ac ha rfl ag25 sc26 rfl rfl rfl (B2'.cs rfl) (B3'.cell rfl), ⟨_, by unfold parE; rw [hp], by unfold parV; rw [hp]; exact JV.nul_reps, E⟩⟩
 ·have hs : s.length ≤ 65536 := by omega
  refine cK ?_
  refine e_K (hK2 _ _ _ _ ?_)
  refine Cq fun K5 hK5 => ?_
  refine Cr ?_
  refine sv (o_mkf rfl rfl) rfl ?_
  refine s_defer rfl ?_
  refine Ln ?_
  refine e_K (hK5 _ _ _ _ ?_)
  refine Cq fun K6 hK6 => ?_
  refine Cr ?_
  refine sv (oM rfl) rfl ?_
  refine sv (o_build (cs := [_, _, _]) pl67 zv67 rfl rfl) rfl ?_
  refine s_box rfl rfl rfl fun g4 w3 N3 => ?_
  have L4 := N3.le E
  have n24 := N3.ne B2
  have n34 := N3.ne B3
  replace B2 := B2.mod0 N3.mod
  replace B3 := B3.mod0 N3.mod
  replace E := E.then N3.mod
  have B : Blk w3 g4 67 [S s, .int .i64 ((0 : Nat) : Int), .slice none 0 0] := N3.blk
  have hg4 : gX < g4 := Nat.lt_of_lt_of_le hE.sz L4
  refine sv (o_as rfl) rfl ?_
  refine Ln ?_
  refine e_K (hK6 _ _ _ _ ?_)
  refine Cq fun K7 hK7 => ?_
  refine Cr ?_
  refine sv (oM rfl) rfl ?_
  have hlp : parse s = match rdA s with
   | .error e => .error e
   | .ok (v, k) => if spanA isWs s k < s.length then .error 4 else .ok v := by unfold parse; rw [if_neg (by omega)]; rfl
  refine scp (oC ent51 rfl) (c_rvalue B hs (hE.mod0 E) hg4 (run_all s)) rfl (fun w_ h_ => h_) (fun c_ w4 h_ => ?_) fun v_ w4 h_ => ?_
  ·obtain ⟨e, he, h0, rfl, E_⟩ := h_
   rw [he] at hlp
   replace B2 := B2.mod E_ (by simpa using n24)
   replace B3 := B3.mod E_ (by simpa using n34)
   replace E := E.own E_ L4
   refine eT (by simp) ?_
   refine we_panic fun a ha => leavesD (by simp) ent49 (c_par1p _ g3 g2 _ e _ rfl B3 B2 (Ne.symm n23) h0) fun en u9 w9 h9 => ?_
   obtain ⟨⟨v9, rfl⟩, rfl, B3, B2, E9⟩ := h9
   exact ⟨v9, rfl, rfl, _, results_ac ha rfl ag25 sc26 rfl rfl rfl (B2.cs rfl) (B3.cell rfl), ⟨_, by unfold parE; rw [hlp], by unfold parV; rw [hlp]; exact JV.nul_reps, E.trans' E9 (fun x hx => .inr (by simp at hx; rcases hx with rfl | rfl <;> assumption))⟩⟩
  obtain ⟨⟨v, k⟩, he, ⟨us, sk, rfl, R, B, hk⟩, E_⟩ := h_
  rw [he] at hlp
  dsimp only at hlp R B hk
  obtain ⟨h6, h61⟩ := JV.cells_one R
  obtain ⟨u1, u2, u3, u4, u5, u6, rfl⟩ := six h6
  replace B2 := B2.mod E_ (by simpa using n24)
  replace B3 := B3.mod E_ (by simpa using n34)
  replace E := E.own E_ L4
  have hA3 : ∀ x ∈ g2 :: g3 :: List.range w.heap.size, x ∈ g4 :: List.range w3.heap.size := fun x hx => by
   have h1 := (N1.mod.trans (N2.mod.trans N3.mod)).size
   have h2 := N1.blk.lt
   have h3 := N2.blk.lt
   have h4 := N2.mod.size
   have h5 := N3.mod.size
   simp only [List.mem_cons, List.mem_range] at hx ⊢
   rcases hx with rfl | rfl | hx <;> right <;> omega
  have R2 : Reps (g2 :: g3 :: g4 :: List.range w.heap.size) w4 v.D [u1, u2, u3, u4, u5, u6] := R.anti (fun x hx => by
   rcases List.mem_cons.1 hx with rfl | hx
   ·exact hA3 _ (by simp)
   rcases List.mem_cons.1 hx with rfl | hx
   ·exact hA3 _ (by simp)
   rcases List.mem_cons.1 hx with rfl | hx
   ·simp
   ·exact hA3 _ (by simp only [List.mem_cons]; exact .inr (.inr hx)))
  refine s_sta (vs := [_, _, _, _, _, _]) ag25 B2 rfl rfl rfl h61 (by simp) fun w5 P5 => ?_
  replace B2 := P5.eq (cs' := [u1, u2, u3, u4, u5, u6]) rfl
  replace B := B.mod P5.mod (by simpa using Ne.symm n24)
  replace B3 := B3.mod P5.mod (by simpa using Ne.symm n23)
  replace R2 := R2.toM P5.mod (fun x hx => by rw [List.mem_singleton.1 hx]; simp)
  replace E := E.own P5.mod L2
  refine Ln ?_
  refine e_K (hK7 _ _ _ _ ?_)
  refine Cq fun K8 hK8 => ?_
  refine Cq fun K9 hK9 => ?_
  refine Cr ?_
  refine sv (oM rfl) rfl ?_
  refine sc (oC ent52_ rfl) (c_blank _ g4 s k sk B hs hk) rfl fun v_ w6 h_ => ?_
  obtain ⟨B, E_⟩ := h_
  replace B2 := B2.mod E_ (by simpa using n24)
  replace B3 := B3.mod E_ (by simpa using n34)
  replace R2 := R2.toM E_ (fun x hx => by rw [List.mem_singleton.1 hx]; simp)
  replace E := E.own E_ L4
  refine Ln ?_
  refine e_K (hK9 _ _ _ _ ?_)
  refine Cq fun K10 hK10 => ?_
  refine Cr ?_
  refine tW 2 rfl ?_
  refine sv (oA0 fd67_1 rfl) rfl ?_
  refine sv (oL sc3 rfl (B.cell rfl)) rfl ?_
  refine sv (oM rfl) rfl ?_
  refine sv (o_slen Tryz.underlying9 rfl) rfl ?_
  refine sv (o_lss rfl rfl) rfl ?_
  refine Ln ?_
  refine e_K (hK10 _ _ _ _ ?_)
  refine c_if rfl (fun h23 => ?_) (fun h23 => ?_)
  ·rw [if_pos (by omega)] at hlp
   refine Cr ?_
   refine scp (oC ent53 rfl) (c_fail _ 4) rfl (fun w_ h_ => h_.elim) (fun c_ w7 h_ => ?_) fun v_ w7 h_ => ?_
   ·obtain ⟨rfl, rfl⟩ := h_
    refine eT (by simp) ?_
    refine we_panic fun a ha => leavesD (by simp) ent49 (c_par1p _ g3 g2 _ 4 _ rfl B3 B2 (Ne.symm n23) (by decide)) fun en u9 w9 h9 => ?_
    obtain ⟨⟨v9, rfl⟩, rfl, B3, B2, E9⟩ := h9
    exact ⟨v9, rfl, rfl, _, results_ac ha rfl ag25 sc26 rfl rfl rfl (B2.cs rfl) (B3.cell rfl), ⟨_, by unfold parE; rw [hlp], by unfold parV; rw [hlp]; exact JV.nul_reps, E.trans' E9 (fun x hx => .inr (by simp at hx; rcases hx with rfl | rfl <;> assumption))⟩⟩
   ·exact h_.elim
  ·rw [if_neg (by omega)] at hlp
   refine cK ?_
   refine e_K (hK8 _ _ _ _ ?_)
   refine Cq fun K11 hK11 => ?_
   refine Cr ?_
   refine sv (o_lda (vs := [_, _, _, _, _, _]) ag25 rfl rfl (B2.cs rfl)) rfl ?_
   refine s_sta (vs := [_, _, _, _, _, _]) ag25 B2 rfl rfl rfl h61 (by simp) fun w7 P7 => ?_
   replace B2 := P7.eq (cs' := [u1, u2, u3, u4, u5, u6]) rfl
   replace B3 := B3.mod P7.mod (by simpa using Ne.symm n23)
   replace R2 := R2.toM P7.mod (fun x hx => by rw [List.mem_singleton.1 hx]; simp)
   replace E := E.own P7.mod L2
   refine s_st sc26 B3 rfl rfl rfl (by simp) fun w8 P8 => ?_
   replace B2 := B2.mod P8.mod (by simpa using n23)
   have B3' := P8.eq (cs' := [.int .i64 0]) rfl
   replace R2 := R2.toM P8.mod (fun x hx => by rw [List.mem_singleton.1 hx]; simp)
   replace E := E.own P8.mod L3
   refine Ln ?_
   refine e_K (hK11 _ _ _ _ ?_)
   refine cR ?_
   refine we_ret fun a ha => leavesD (by simp) ent49 (c_par1r _ g3 g2 B3') fun en u9 w9 h9 => ?_
   obtain ⟨⟨v9, rfl⟩, rfl, E9⟩ := h9
   exact ⟨v9, rfl, rfl, _, results_ac ha rfl ag25 sc26 rfl rfl rfl ((B2.mod0 E9).cs rfl) ((B3'.mod0 E9).cell rfl), ⟨_, by unfold parE; rw [hlp], by unfold parV; rw [hlp]; exact (R2.to0 E9).anti (fun x hx => by simp only [List.mem_cons]; exact .inr (.inr (.inr hx))), E.then E9⟩⟩
end Go.Proofs.YtknndpjacklkeaaGreatDoor.V

set_option linter.unusedVariables false
set_option linter.unusedSimpArgs false
set_option maxRecDepth 10000
namespace Go.Proofs.YtknndpjacklkeaaGreatDoor.V
open Go
end Go.Proofs.YtknndpjacklkeaaGreatDoor.V

set_option linter.unusedVariables false
set_option linter.unusedSimpArgs false
namespace Go.Proofs.YtknndpjacklkeaaGreatDoor.V
open Go
end Go.Proofs.YtknndpjacklkeaaGreatDoor.V

set_option linter.unusedVariables false
set_option linter.unusedSimpArgs false
set_option maxRecDepth 10000
namespace Go.Proofs.YtknndpjacklkeaaGreatDoor.V
open Go Go.Proofs
theorem ent14 : Ent Tryz.prog 14 := Ent.of Tryz.func14 (by kernel_rfl) (by kernel_rfl)
theorem c_parse2 (w : World) (s : Str) (hE : Env w) {v : JV} {e : Int} (hv : parV s = v) (he : parE s = e) : Calls Tryz.prog 14 [S s].toArray w (Ret fun u w' => ∃ us, u = .tuple #[.agg us.toArray, .int .i64 e] ∧ Reps [] w' v.D us ∧ Mod [] w w') := by
 subst hv; subst he
 exact Calls.imp (c_parse w s hE) fun u w' h => by
  obtain ⟨us, h1, h2, h3⟩ := h
  exact ⟨us, h1, h2.anti (by simp), h3⟩
end Go.Proofs.YtknndpjacklkeaaGreatDoor.V

set_option linter.unusedVariables false
set_option linter.unusedSimpArgs false
namespace Go.Proofs.YtknndpjacklkeaaGreatDoor.V
open Go
theorem runeR_pre {l l' : Str} (h0 : (runeR l).2 ≠ 0) (h : l.take (runeR l).2 <+: l') : runeR l' = runeR l := by
 cases l with
 | nil => exact absurd rfl h0
 | cons b r =>
  obtain ⟨y, rfl⟩ := h
  by_cases hb : b.toNat < 128
  ·rw [runeR_small hb]
   show runeR ((b :: r).take 1 ++ y) = _
   exact runeR_small hb
  ·obtain ⟨n, lo, c, hH⟩ : ∃ n lo c, runeH b.toNat = (n, lo, c) := ⟨_, _, _, rfl⟩
   by_cases hn : n = 0 ∨ (b :: r).length < n
   ·exact absurd (by rw [runeR_short hb hH hn]) h0
   have h2 : (runeR (b :: r)).2 = n := by
    rw [runeR_at hb hH hn] at h0 ⊢
    split at h0
    ·exact absurd rfl h0
    ·split at h0
     ·exact absurd rfl h0
     ·rename_i hc; rw [if_neg hc]
   rw [h2, runeR_at hb hH hn]
   obtain ⟨m, rfl⟩ : ∃ m, n = m + 1 := ⟨n - 1, by omega⟩
   simp only [List.length_cons] at hn
   rw [List.take_succ_cons, List.cons_append, runeR_at hb hH (by simp only [List.length_cons, List.length_append, List.length_take]; omega)]
   rw [show m + 1 - 1 = m from rfl, List.take_append_of_le_length (by rw [List.length_take]; omega), List.take_take, Nat.min_self]
theorem hexv_dig : ∀ k, k < 16 → hexv (hexD.getD k 0) = some k := by decide
theorem encB_small {b : UInt8} (h : b.toNat < 128) : encB b.toNat = [b] := by
 have := encB_take (l := [b]) (by simp) (by rw [runeR_small h]; simp)
 rw [runeR_small h] at this
 simpa using this
theorem strF_lit {f : Nat} {b : UInt8} {X : Str} {i : Nat} {out : Str} (hb : b.toNat < 128) : strF (f + 1) (escQ b ++ X) i out = strF f X (i + (escQ b).length) (out ++ [b]) := by
 have two : ∀ x : UInt8, escC x = some b.toNat → escQ b = [92, x] → strF (f + 1) (escQ b ++ X) i out = strF f X (i + (escQ b).length) (out ++ [b]) := by
  intro x hx he
  have hr : escR (92 :: x :: X) = (b.toNat, 2) := by
   unfold escR
   simp only
   rw [hx]
  rw [he]
  show strF (f + 1) (92 :: (x :: X)) i out = _
  rw [strF, if_neg (by decide), if_pos rfl]
  simp only
  rw [hr, if_neg (by simp), encB_small hb]
  rfl
 unfold escQ at two ⊢
 by_cases h1 : b = 34 ∨ b = 92
 ·rw [if_pos h1] at two ⊢
  rcases h1 with rfl | rfl
  ·exact two 34 rfl rfl
  ·exact two 92 rfl rfl
 rw [if_neg h1] at two ⊢
 by_cases h2 : b = 8
 ·rw [if_pos h2] at two ⊢; subst h2; exact two 98 rfl rfl
 rw [if_neg h2] at two ⊢
 by_cases h3 : b = 9
 ·rw [if_pos h3] at two ⊢; subst h3; exact two 116 rfl rfl
 rw [if_neg h3] at two ⊢
 by_cases h4 : b = 10
 ·rw [if_pos h4] at two ⊢; subst h4; exact two 110 rfl rfl
 rw [if_neg h4] at two ⊢
 by_cases h5 : b = 12
 ·rw [if_pos h5] at two ⊢; subst h5; exact two 102 rfl rfl
 rw [if_neg h5] at two ⊢
 by_cases h6 : b = 13
 ·rw [if_pos h6] at two ⊢; subst h6; exact two 114 rfl rfl
 rw [if_neg h6] at two ⊢
 clear two
 by_cases h7 : b.toNat < 32
 ·rw [if_pos h7]
  have d1 := hexv_dig (b.toNat / 16) (by omega)
  have d2 := hexv_dig (b.toNat % 16) (by omega)
  generalize hexD.getD (b.toNat / 16) 0 = x at d1
  generalize hexD.getD (b.toNat % 16) 0 = y at d2
  have hr : escR (92 :: 117 :: 48 :: 48 :: x :: y :: X) = (b.toNat, 6) := by
   have hu : hexU (92 :: 117 :: 48 :: 48 :: x :: y :: X) = some b.toNat := by
    show hexF 4 (48 :: 48 :: x :: y :: X) 0 = _
    have e0 : hexv 48 = some 0 := rfl
    simp only [hexF, e0, d1, d2]
    congr 1
    omega
   unfold escR
   simp only
   rw [show escC 117 = none from rfl]
   simp only
   rw [hu]
   simp only
   rw [if_neg (by omega), if_pos (by omega)]
  show strF (f + 1) (92 :: (117 :: 48 :: 48 :: x :: y :: X)) i out = _
  rw [strF, if_neg (by decide), if_pos rfl]
  simp only
  rw [hr, if_neg (by simp), encB_small hb]
  rfl
 ·rw [if_neg h7]
  show strF (f + 1) (b :: X) i out = _
  have h34 : b ≠ 34 := fun h => h1 (.inl h)
  have h92 : b ≠ 92 := fun h => h1 (.inr h)
  rw [strF, if_neg h34, if_neg h92]
  simp only
  rw [runeR_small hb, if_neg (by simp; omega), encB_small hb]
  rfl
theorem escs_cons (c : UInt8) (t : Str) : escs (c :: t) = escQ c ++ escs t := by simp [escs]
theorem escs_app (a b : Str) : escs (a ++ b) = escs a ++ escs b := by simp [escs]
theorem escQ_pos (c : UInt8) : 1 ≤ (escQ c).length := by
 unfold escQ
 repeat' split
 all_goals simp
theorem strF_put : ∀ (N : Nat) (t : Str), t.length ≤ N → validR t = true → ∀ (f i : Nat) (out rest : Str), (escs t).length + 1 ≤ f → strF f (escs t ++ 34 :: rest) i out = some (out ++ t, i + (escs t).length + 1)
 | N, [], _, _, f, i, out, rest, hf => by
  obtain ⟨g, rfl⟩ : ∃ g, f = g + 1 := ⟨f - 1, by omega⟩
  show strF (g + 1) (34 :: rest) i out = _
  rw [strF, if_pos rfl]
  simp [escs]
 | 0, b :: r, h, _, _, _, _, _, _ => by simp at h
 | N + 1, b :: r, hN, hv, f, i, out, rest, hf => by
  have hne : (b :: r) ≠ [] := by simp
  have h0 := valid_pos hne hv
  have hv' := hv
  rw [validR_go hne h0] at hv'
  obtain ⟨g, rfl⟩ : ∃ g, f = g + 1 := ⟨f - 1, by omega⟩
  by_cases hc : (runeR (b :: r)).1 < 128
  ·obtain ⟨x, hx, hxc⟩ := rune_byte hne h0 hc
   have hn1 : (runeR (b :: r)).2 = 1 := by
    have := congrArg List.length hx
    rw [List.length_take, List.length_singleton] at this
    have := runeR_le (b :: r)
    omega
   rw [hn1] at hx hv'
   simp only [List.take_succ_cons, List.take_zero, List.cons.injEq, and_true] at hx
   subst hx
   rw [List.drop_succ_cons, List.drop_zero] at hv'
   have hq := escQ_pos b
   rw [escs_cons, List.length_append] at hf
   rw [escs_cons, List.append_assoc, strF_lit (by omega), strF_put N r (by simpa using hN) hv' g _ _ rest (by omega)]
   simp only [List.length_append, List.append_assoc, List.singleton_append, Option.some.injEq, Prod.mk.injEq, true_and]
   omega
  ·have hb := rune_bytes hne h0 (by omega)
   have hle := runeR_le (b :: r)
   generalize hn : (runeR (b :: r)).2 = n at *
   have hsp : escs (b :: r) = (b :: r).take n ++ escs ((b :: r).drop n) := by
    conv => lhs; rw [← List.take_append_drop n (b :: r)]
    rw [escs_app, escs_big hb]
   have hrr : runeR ((b :: r).take n ++ (escs ((b :: r).drop n) ++ 34 :: rest)) = runeR (b :: r) := runeR_pre (by omega) (by rw [hn]; exact List.prefix_append _ _)
   have henc : encB (runeR (b :: r)).1 = (b :: r).take n := by rw [encB_take hne (by omega), hn]
   have hl : ((b :: r).take n).length = n := by rw [List.length_take]; omega
   have hfst : (b :: r).take n = b :: (r.take (n - 1)) := by
    obtain ⟨m, rfl⟩ : ∃ m, n = m + 1 := ⟨n - 1, by omega⟩
    rfl
   have hb128 : 128 ≤ b.toNat := hb b (by rw [hfst]; simp)
   rw [hsp, List.length_append, hl] at hf
   rw [hsp, List.append_assoc]
   have hstep : strF (g + 1) ((b :: r).take n ++ (escs ((b :: r).drop n) ++ 34 :: rest)) i out = strF g (escs ((b :: r).drop n) ++ 34 :: rest) (i + n) (out ++ (b :: r).take n) := by
    have hdr : ((b :: r).take n ++ (escs ((b :: r).drop n) ++ 34 :: rest)).drop n = escs ((b :: r).drop n) ++ 34 :: rest := List.drop_left' hl
    generalize hZ : (b :: r).take n ++ (escs ((b :: r).drop n) ++ 34 :: rest) = Z at hrr hdr ⊢
    cases Z with
    | nil => rw [hfst] at hZ; cases hZ
    | cons z Z' =>
     have hz : z = b := by
      rw [hfst] at hZ
      injection hZ with hZ
      exact hZ.symm
     subst hz
     have h34 : ¬ z = 34 := fun h => by rw [h] at hb128; revert hb128; decide
     have h92 : ¬ z = 92 := fun h => by rw [h] at hb128; revert hb128; decide
     rw [strF, if_neg h34, if_neg h92]
     simp only
     rw [hrr, hn, if_neg (by omega), hdr, henc]
   rw [hstep, strF_put N _ (by rw [List.length_drop]; simp only [List.length_cons] at hN ⊢; omega) hv' g _ _ rest (by omega)]
   simp only [List.length_append, hl, List.append_assoc, List.take_append_drop, Option.some.injEq, Prod.mk.injEq, true_and]
   omega
theorem strT_put {s t rest : Str} {k : Nat} (hv : validR t = true) (h : s.drop k = putQ t ++ rest) : strT s k = some (t, k + (putQ t).length) := by
 have h' : s.drop k = 34 :: (escs t ++ 34 :: rest) := by rw [h]; simp [putQ]
 have hk : s[k]? = some 34 := by
  have := congrArg (fun l => l[0]?) h'
  simpa [List.getElem?_drop] using this
 have hd : s.drop (k + 1) = escs t ++ 34 :: rest := by
  rw [drop_get hk] at h'
  injection h'
 have hlen := congrArg List.length h'
 simp only [List.length_drop, List.length_cons, List.length_append] at hlen
 unfold strT
 rw [if_pos hk, hd, strF_put t.length t (Nat.le_refl _) hv _ _ _ _ (by omega)]
 simp only [putQ, List.length_append, List.length_cons, List.length_nil, List.nil_append, Option.some.injEq, Prod.mk.injEq, true_and]
 omega
end Go.Proofs.YtknndpjacklkeaaGreatDoor.V
