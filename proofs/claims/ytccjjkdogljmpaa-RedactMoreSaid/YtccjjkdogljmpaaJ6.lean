/-
  A part of the proof: walks of functions, and the plain laws of what they compute. No condition of its own.
-/
import Derived.Test.YtccjjkdogljmpaaJ5
import Derived.Test.YtccjjkdogljmpaaU6
set_option linter.unusedVariables false
set_option linter.unusedSimpArgs false
set_option maxRecDepth 10000
namespace Go.Proofs.Ytccjjkdogljmpaa.V
open Go Go.Proofs
theorem ent47 : Ent Try.prog 47 := Ent.of Try.func47 (by kernel_rfl) (by kernel_rfl)
theorem ent46 : Ent Try.prog 46 := Ent.of Try.func46 (by kernel_rfl) (by kernel_rfl)
theorem ent48 : Ent Try.prog 48 := Ent.of Try.func48 (by kernel_rfl) (by kernel_rfl)
theorem c_jput (A : List Nat) (w : World) (hA : ∀ a ∈ A, a < w.heap.size) (v x : JV) (us zs : List Value) (R : Reps A w v.D us) (Rz : Reps A w x.D zs) (k : Str) (ha : ascM v.tbl) (hn : v.tbl.length ≤ 1353245080310) : Calls Try.prog 36 [.agg us.toArray, S k, .agg zs.toArray].toArray w (Ret fun u w' => ∃ us', u = .agg us'.toArray ∧ Reps A w' (JV.obj (putM v.tbl k x)).D us' ∧ Mod [] w w') := by
  refine enter Try.func36 rfl rfl rfl (l := [(0, _), (1, _), (2, _)]) ⟨rfl, rfl, rfl, trivial⟩ ?_
  have E := Mod.refl [] w
  obtain ⟨al, cl, am, cm, rfl, Rl, Rm⟩ := JV.cells_ R
  obtain ⟨alz, clz, amz, cmz, rfl, Rlz, Rmz⟩ := JV.cells_ Rz
  have R := JV.reps_ Rl Rm
  have Rz := JV.reps_ Rlz Rmz
  refine c_seq fun K1 hK1 => ?_
  refine c_region ?_
  refine s_box rfl rfl rfl fun g1 w1 N1 => ?_
  have Lg1_E := N1.le E
  replace E := E.then N1.mod
  have Bg1 := N1.blk
  refine s_box rfl rfl rfl fun g2 w2 N2 => ?_
  have Lg2_E := N2.le E
  have Dg1_g2 := N2.ne Bg1
  replace Bg1 := Bg1.mod0 N2.mod
  replace E := E.then N2.mod
  have Bg2 := N2.blk
  refine s_alloc zv38 rfl fun g3 w3 N3 => ?_
  have Lg3_E := N3.le E
  have Dg1_g3 := N3.ne Bg1
  have Dg2_g3 := N3.ne Bg2
  replace Bg1 := Bg1.mod0 N3.mod
  replace Bg2 := Bg2.mod0 N3.mod
  replace E := E.then N3.mod
  have Bg3 := N3.blk
  refine l_nil ?_
  refine e_K (hK1 _ _ _ _ ?_)
  refine c_seq fun K2 hK2 => ?_
  refine c_region ?_
  refine sv (o_lda (vs := [_, _, _, _, _, _]) ag38 rfl rfl (Bg1.cs rfl)) rfl ?_
  refine sc (o_call ent47 rfl) (c_jtable A w _ v _ R) rfl fun v_ w4 h_ => ?_
  obtain ⟨Rt, E_⟩ := h_
  replace Bg1 := Bg1.mod0 E_
  replace Bg2 := Bg2.mod0 E_
  replace Bg3 := Bg3.mod0 E_
  replace E := E.then E_
  have hlt1 := Bg1.lt
  have hlt2 := Bg2.lt
  have hlt3 := Bg3.lt
  have hsz1 := E.size
  refine sc (o_call ent46 rfl) (c_cloneM A w _ v.tbl _ Rt E hn) rfl fun v_ w5 h_ => ?_
  obtain ⟨vs, Oc, hvs, Lc, E_⟩ := h_
  replace Bg1 := Bg1.mod0 E_
  replace Bg2 := Bg2.mod0 E_
  replace Bg3 := Bg3.mod0 E_
  replace E := E.then E_
  have D1 : ∀ x ∈ ob v_, x ≠ g1 := fun x hx e => by have := Lc x hx; omega
  have D2 : ∀ x ∈ ob v_, x ≠ g2 := fun x hx e => by have := Lc x hx; omega
  have D3 : ∀ x ∈ ob v_, x ≠ g3 := fun x hx e => by have := Lc x hx; omega
  have L1 : ∀ x ∈ ob v_, w.heap.size ≤ x := fun x hx => by have := Lc x hx; omega
  obtain ⟨ad3, c3, rfl, hd1, hd2⟩ := Oc.form
  refine sv (o_build (cs := [_, _, _, _, _, _]) pl38 zv38 rfl rfl) rfl ?_
  refine s_alloc zv38 rfl fun g4 w6 N4 => ?_
  have Lg4_E := N4.le E
  have Dg1_g4 := N4.ne Bg1
  have Dg2_g4 := N4.ne Bg2
  have Dg3_g4 := N4.ne Bg3
  have Doc_g4 := N4.own_ne Oc
  replace Bg1 := Bg1.mod0 N4.mod
  replace Bg2 := Bg2.mod0 N4.mod
  replace Bg3 := Bg3.mod0 N4.mod
  replace E := E.then N4.mod
  replace Oc := Oc.mod0 N4.mod
  have Bg4 := N4.blk
  refine s_sta (vs := [_, _, _, _, _, _]) ag38 Bg4 rfl rfl rfl (by simp [Value.oneCell']) (by simp) fun w7 P7 => ?_
  replace Bg1 := Bg1.ne P7.mod (Ne.symm (Ne.symm Dg1_g4))
  replace Bg2 := Bg2.ne P7.mod (Ne.symm (Ne.symm Dg2_g4))
  replace Bg3 := Bg3.ne P7.mod (Ne.symm (Ne.symm Dg3_g4))
  replace E := E.own P7.mod Lg4_E
  replace Oc := Oc.put P7.mod Doc_g4
  replace Bg4 : Blk w7 g4 _ [_, _, _, _, _, _] := P7.blk
  refine l_nil ?_
  refine e_K (hK2 _ _ _ _ ?_)
  refine c_seq fun K3 hK3 => ?_
  refine c_region ?_
  refine sv (o_fa0 fd38_5 rfl) rfl ?_
  refine sv (o_ld sc36 rfl (Bg4.cell rfl)) rfl ?_
  refine sv (o_mv rfl) rfl ?_
  have RO := Own.mem_ (A := []) Oc ((hvs.anti (by simp)).to0 E) rfl (by simp)
  refine sc (o_call ent45 rfl) (c_jfind _ v.tbl _ RO k ha hn) rfl fun v_ w8 h_ => ?_
  obtain ⟨rfl, E_⟩ := h_
  replace Bg1 := Bg1.mod0 E_
  replace Bg2 := Bg2.mod0 E_
  replace Bg3 := Bg3.mod0 E_
  replace Bg4 := Bg4.mod0 E_
  replace E := E.then E_
  replace Oc := Oc.mod0 E_
  refine sv (o_mv rfl) rfl ?_
  refine sv (o_ext rfl rfl) rfl ?_
  refine sv (o_ext rfl rfl) rfl ?_
  refine sv (o_as rfl) rfl ?_
  refine sv (o_as rfl) rfl ?_
  refine l_nil ?_
  refine e_K (hK3 _ _ _ _ ?_)
  refine c_seq fun K4 hK4 => ?_
  refine c_seq fun K5 hK5 => ?_
  refine c_region ?_
  refine sv (o_mv rfl) rfl ?_
  refine l_nil ?_
  refine e_K (hK5 _ _ _ _ ?_)
  refine c_cond rfl (fun h21 => ?_) (fun h21 => ?_)
  · skip
    have hput := posM_put (x := x) ha h21
    obtain ⟨y, hy, hyk, _⟩ := isM_some ha h21
    have hpl := (List.getElem?_eq_some_iff.1 hy).1
    obtain ⟨ad3, rfl⟩ : ∃ a, ad3 = some a := by
      cases ad3 with
      | some a => exact ⟨a, rfl⟩
      | none => have := JV.none_m RO; rw [this] at hpl; simp at hpl
    refine c_region ?_
    refine sv (o_fa0 fd38_5 rfl) rfl ?_
    refine sv (o_ld sc36 rfl (Bg4.cell rfl)) rfl ?_
    refine sv (o_mv rfl) rfl ?_
    refine sv (o_lda (vs := [_, _, _, _, _, _]) ag38 rfl rfl (Bg2.cs rfl)) rfl ?_
    refine sv (o_ix sl36 rfl rfl (by omega)) rfl ?_
    refine sv ((o_fad fd49_1 rfl).to (by rw [Addr.add_add'])) rfl ?_
    refine s_stownp (p := posM v.tbl k * 7 + 1) (us := [_, _, _, _, _, _]) ag38 Oc rfl rfl rfl (by simp [Value.oneCell']) (by omega) fun w9 Oz E9 hz9 => ?_
    replace E := E.trans' E9 (fun x hx => .inr (L1 x (by simpa [ob] using hx)))
    replace Bg3 := Bg3.mod E9 (fun h => D3 ad3.block (by simp [ob]) (List.mem_singleton.1 h).symm)
    replace Bg4 := Bg4.mod E9 (fun h => Doc_g4 ad3.block (by simp [ob]) (List.mem_singleton.1 h).symm)
    have Dz3 := D3
    have Dz4 := Doc_g4
    have Lz := L1
    have hzs := JV.rows_setv hvs hy Rz
    rw [hyk, ← hput] at hzs
    have hzl : (putM v.tbl k x).length = v.tbl.length := by rw [hput, List.length_set]
    refine l_nil ?_
    refine e_K (hK4 _ _ _ _ ?_)
    refine c_seq fun K6 hK6 => ?_
    refine c_region ?_
    refine sv (o_lda (vs := [_, _, _, _, _, _]) ag38 rfl rfl (Bg4.cs rfl)) rfl ?_
    refine s_sta (vs := [_, _, _, _, _, _]) ag38 Bg3 rfl rfl rfl (by simp [Value.oneCell']) (by simp) fun w9 P9 => ?_
    replace Bg4 := Bg4.ne P9.mod (Ne.symm Dg3_g4)
    replace E := E.own P9.mod Lg3_E
    replace Oz := Oz.put P9.mod Dz3
    replace Bg3 : Blk w9 g3 _ [_, _, _, _, _, _] := P9.blk
    refine l_nil ?_
    refine e_K (hK6 _ _ _ _ ?_)
    refine c_ret ?_
    exact retc (vs := [_, _, _, _, _, _]) rfl ag38 rfl rfl (Bg3.cs rfl) ⟨_, rfl, JV.obj_repsN hzl (Own.mem_ Oz (hzs.to0 E) hzl (fun x hx h => by have := Lz x hx; have := hA x h; omega)), E⟩
  · skip
    have hput := posM_ins (x := x) ha h21
    refine c_region ?_
    refine sv (o_fa0 fd38_5 rfl) rfl ?_
    refine sv (o_ld sc36 rfl (Bg4.cell rfl)) rfl ?_
    refine sv (o_mv rfl) rfl ?_
    refine sv (o_mv rfl) rfl ?_
    refine sv (o_lda (vs := [_, _, _, _, _, _]) ag38 rfl rfl (Bg2.cs rfl)) rfl ?_
    refine sv (o_build (cs := [_, _, _, _, _, _, _]) pl49 zv49 rfl rfl) rfl ?_
    refine s_bslice (cs := [_, _, _, _, _, _, _]) sl36 zv49 rfl rfl rfl (by decide) rfl fun g5 w10 N5 => ?_
    have Lg5_E := N5.le E
    have Dg1_g5 := N5.ne Bg1
    have Dg2_g5 := N5.ne Bg2
    have Dg3_g5 := N5.ne Bg3
    have Dg4_g5 := N5.ne Bg4
    have Doc_g5 := N5.own_ne Oc
    replace Bg1 := Bg1.mod0 N5.mod
    replace Bg2 := Bg2.mod0 N5.mod
    replace Bg3 := Bg3.mod0 N5.mod
    replace Bg4 := Bg4.mod0 N5.mod
    replace E := E.then N5.mod
    replace Oc := Oc.mod0 N5.mod
    have Bg5 := N5.blk
    have hlt4 := Bg4.lt
    have hlt3b := Bg3.lt
    have hsz2 := E.size
    refine sc (o_call ent48 rfl) (c_insM _ v.tbl.length vs [_, _, _, _, _, _, _] (posM v.tbl k) _ _ Oc (Own.all (cs := [_, _, _, _, _, _, _]) Bg5 rfl (by omega)) hvs.one (by simp [Value.oneCell']) (fun x hx y hy => by simp only [ob, List.mem_singleton] at hy; subst hy; exact Doc_g5 x hx) posM_le hn) rfl fun v_ w11 h_ => ?_
    obtain ⟨Oz, Oz_in, E_⟩ := h_
    have hzs := JV.rows_ins (p := (k, x)) hvs (posM_le (m := v.tbl) (k := k)) (JV.Dp_reps (p := (k, x)) Rz)
    rw [← hput] at hzs
    have Dz3 : ∀ y ∈ ob v_, y ≠ g3 := fun y hy => (Oz_in y hy).elim (fun h => D3 y h) (fun h e => by omega)
    have Dz4 : ∀ y ∈ ob v_, y ≠ g4 := fun y hy => (Oz_in y hy).elim (fun h => Doc_g4 y h) (fun h e => by omega)
    have Lz : ∀ y ∈ ob v_, w.heap.size ≤ y := fun y hy => (Oz_in y hy).elim (fun h => L1 y h) (fun h => by omega)
    have hzl : (putM v.tbl k x).length = v.tbl.length + 1 := by rw [hput]; simp only [List.length_append, List.length_take, List.length_drop, List.length_singleton]; have := posM_le (m := v.tbl) (k := k); omega
    replace E := E.trans' E_ (fun y hy => .inr (L1 y hy))
    replace Bg3 := Bg3.mod E_ (fun h => D3 g3 h rfl)
    replace Bg4 := Bg4.mod E_ (fun h => Doc_g4 g4 h rfl)
    obtain ⟨ad5, c5, rfl, hf1, hf2⟩ := Oz.form
    refine sv (o_fa0 fd38_5 rfl) rfl ?_
    refine s_st sc36 Bg4 rfl rfl rfl (by simp) fun w12 P12 => ?_
    replace Bg3 := Bg3.ne P12.mod (Ne.symm (Ne.symm Dg3_g4))
    replace E := E.own P12.mod Lg4_E
    replace Oz := Oz.put P12.mod Dz4
    replace Bg4 : Blk w12 g4 _ [_, _, _, _, _, _] := P12.blk
    refine l_nil ?_
    refine e_K (hK4 _ _ _ _ ?_)
    refine c_seq fun K7 hK7 => ?_
    refine c_region ?_
    refine sv (o_lda (vs := [_, _, _, _, _, _]) ag38 rfl rfl (Bg4.cs rfl)) rfl ?_
    refine s_sta (vs := [_, _, _, _, _, _]) ag38 Bg3 rfl rfl rfl (by simp [Value.oneCell']) (by simp) fun w13 P13 => ?_
    replace Bg4 := Bg4.ne P13.mod (Ne.symm Dg3_g4)
    replace E := E.own P13.mod Lg3_E
    replace Oz := Oz.put P13.mod Dz3
    replace Bg3 : Blk w13 g3 _ [_, _, _, _, _, _] := P13.blk
    refine l_nil ?_
    refine e_K (hK7 _ _ _ _ ?_)
    refine c_ret ?_
    exact retc (vs := [_, _, _, _, _, _]) rfl ag38 rfl rfl (Bg3.cs rfl) ⟨_, rfl, JV.obj_repsN hzl (Own.mem_ Oz (hzs.to0 E) hzl (fun x hx h => by have := Lz x hx; have := hA x h; omega)), E⟩
end Go.Proofs.Ytccjjkdogljmpaa.V
