/-
  A part of the proof: walks of functions. No condition of its own.
-/
import Derived.Test.YthmohmpalbnjoaaM16
set_option linter.unusedVariables false
set_option linter.unusedSimpArgs false
set_option maxRecDepth 10000
namespace Go.Proofs.Ythmohmpalbnjoaa.V
open Go Go.Proofs
theorem ent21 : Ent Try.prog 21 := Ent.of Try.func21 (by kernel_rfl) (by kernel_rfl)
theorem ent23 : Ent Try.prog 23 := Ent.of Try.func23 (by kernel_rfl) (by kernel_rfl)
theorem c_DagAdds (w : World) (cs : Gm) (v0 : Value) (R : Rep [] w (ndD cs) v0) (hC : CSm cs) (s : Str) (hs : s.length ≤ 140737488351232) : Calls Try.prog 6 [v0, S s].toArray w (Ret fun u w' => u = .bool true ∧ Mod [] w w') := by
  refine enter Try.func6 rfl rfl rfl (l := [(0, _), (1, _)]) ⟨rfl, rfl, trivial⟩ ?_
  have E := Mod.refl [] w
  refine c_seq fun K1 hK1 => ?_
  refine c_region ?_
  refine sv (o_as rfl) rfl ?_
  refine l_nil ?_
  refine e_K (hK1 _ _ _ _ ?_)
  refine c_seq fun K2 hK2 => ?_
  refine c_seq fun K3 hK3 => ?_
  refine c_region ?_
  refine sc (o_call ent10 rfl) (c_alive _) rfl fun v_ w1 h_ => ?_
  obtain ⟨rfl, E_⟩ := h_
  replace E := E.then E_
  refine sv ((o_not rfl).to (v' := .bool false) rfl) rfl ?_
  refine l_nil ?_
  refine e_K (hK3 _ _ _ _ ?_)
  refine c_false rfl ?_
  refine c_skip ?_
  refine e_K (hK2 _ _ _ _ ?_)
  refine c_seq fun K4 hK4 => ?_
  refine c_seq fun K5 hK5 => ?_
  by_cases hk16 : greatC cs = true
  · skip
    refine c_region ?_
    refine sv (o_mv rfl) rfl ?_
    refine sc (o_call ent11 rfl) (c_great _ cs _ (R.to0 E) hC) rfl fun v_ w2 h_ => ?_
    obtain ⟨rfl, E_⟩ := h_
    replace E := E.then E_
    refine sv (o_mv rfl) rfl ?_
    refine sn rfl (fun e_ => absurd ((hk16).symm.trans e_) (by decide)) rfl ?_
    refine sn rfl (fun e_ => absurd ((hk16).symm.trans e_) (by decide)) rfl ?_
    refine sn rfl (fun e_ => absurd ((hk16).symm.trans e_) (by decide)) rfl ?_
    refine sv (o_pickT (hk16) rfl rfl) rfl ?_
    refine l_nil ?_
    refine e_K (hK5 _ _ _ _ ?_)
    refine c_true rfl ?_
    refine c_seq fun K6 hK6 => ?_
    refine c_region ?_
    refine sv (o_as rfl) rfl ?_
    refine l_nil ?_
    refine e_K (hK6 _ _ _ _ ?_)
    refine c_ret ?_
    refine e_then (by simp) ?_
    exact ret1 rfl rfl ⟨rfl, E⟩
  · skip
    by_cases hk20 : ((s.length : Nat) : Int) > 1024
    · skip
      refine c_region ?_
      refine sv (o_mv rfl) rfl ?_
      refine sc (o_call ent11 rfl) (c_great _ cs _ (R.to0 E) hC) rfl fun v_ w3 h_ => ?_
      obtain ⟨rfl, E_⟩ := h_
      replace E := E.then E_
      refine sv (o_mv rfl) rfl ?_
      refine sg rfl (Bool.eq_false_iff.2 hk16) (o_mv rfl) rfl ?_
      refine sg rfl (Bool.eq_false_iff.2 hk16) (o_slen Try.underlying9 rfl) rfl ?_
      refine sg rfl (Bool.eq_false_iff.2 hk16) (o_gtr rfl rfl) rfl ?_
      refine sv (o_pickF (Bool.eq_false_iff.2 hk16) rfl rfl) rfl ?_
      refine l_nil ?_
      refine e_K (hK5 _ _ _ _ ?_)
      refine c_if rfl (fun h21 => ?_) (fun h21 => absurd hk20 h21)
      refine c_seq fun K7 hK7 => ?_
      refine c_region ?_
      refine sv (o_as rfl) rfl ?_
      refine l_nil ?_
      refine e_K (hK7 _ _ _ _ ?_)
      refine c_ret ?_
      refine e_then (by simp) ?_
      exact ret1 rfl rfl ⟨rfl, E⟩
    · skip
      refine c_region ?_
      refine sv (o_mv rfl) rfl ?_
      refine sc (o_call ent11 rfl) (c_great _ cs _ (R.to0 E) hC) rfl fun v_ w4 h_ => ?_
      obtain ⟨rfl, E_⟩ := h_
      replace E := E.then E_
      refine sv (o_mv rfl) rfl ?_
      refine sg rfl (Bool.eq_false_iff.2 hk16) (o_mv rfl) rfl ?_
      refine sg rfl (Bool.eq_false_iff.2 hk16) (o_slen Try.underlying9 rfl) rfl ?_
      refine sg rfl (Bool.eq_false_iff.2 hk16) (o_gtr rfl rfl) rfl ?_
      refine sv (o_pickF (Bool.eq_false_iff.2 hk16) rfl rfl) rfl ?_
      refine l_nil ?_
      refine e_K (hK5 _ _ _ _ ?_)
      refine c_if rfl (fun h21 => absurd h21 hk20) (fun h21 => ?_)
      refine c_skip ?_
      refine e_K (hK4 _ _ _ _ ?_)
      refine c_seq fun K8 hK8 => ?_
      refine c_region ?_
      refine sv (o_mv rfl) rfl ?_
      have hCF := great_no (Bool.eq_false_iff.2 hk16)
      refine sc (o_call ent12 rfl) (c_built _ cs _ (R.to0 E) hCF) rfl fun v_ w5 h_ => ?_
      obtain ⟨g, bA, bB, vr, rfl, G, RV, E_⟩ := h_
      replace E := E.then E_
      have Eg := Mod.refl [] w5
      obtain ⟨adr, cr, rfl, hr1, hr2⟩ := ndD_len RV.rep
      have RV0 := RV.rep.anti (A' := []) (by simp)
      refine sv (o_mv rfl) rfl ?_
      refine sv (o_ext rfl rfl) rfl ?_
      refine sv (o_ext rfl rfl) rfl ?_
      refine sv (o_ext rfl rfl) rfl ?_
      refine sv (o_as rfl) rfl ?_
      refine sv (o_as rfl) rfl ?_
      refine sv (o_as rfl) rfl ?_
      refine l_nil ?_
      refine e_K (hK8 _ _ _ _ ?_)
      refine c_seq fun K9 hK9 => ?_
      refine c_region ?_
      refine sv (o_mv rfl) rfl ?_
      refine sv (o_mv rfl) rfl ?_
      refine sc (o_call ent19 rfl) (g_get [] _ (bm cs) _ (RV0.to0 Eg) s) rfl fun v_ w6 h_ => ?_
      obtain ⟨lv, rfl, RL, E_⟩ := h_
      replace E := E.then E_
      replace Eg := Eg.then E_
      have Ek := Mod.refl [] w6
      obtain ⟨adl, cl, rfl, _, _⟩ := flat_len RL
      refine sv (o_mv rfl) rfl ?_
      refine sv (o_ext rfl rfl) rfl ?_
      refine sv (o_ext rfl rfl) rfl ?_
      refine s_alloc zv42 rfl fun g1 w7 N1 => ?_
      have Lg1_E := N1.le E
      have Lg1_Eg := N1.le Eg
      have Lg1_Ek := N1.le Ek
      replace E := E.then N1.mod
      replace Eg := Eg.then N1.mod
      replace Ek := Ek.then N1.mod
      have Bg1 := N1.blk
      refine s_sta (vs := [_, _]) ag42 Bg1 rfl rfl rfl (by simp [Value.oneCell']) (by simp) fun w8 P8 => ?_
      replace E := E.own P8.mod Lg1_E
      replace Eg := Eg.own P8.mod Lg1_Eg
      replace Ek := Ek.own P8.mod Lg1_Ek
      replace Bg1 : Blk w8 g1 _ [_, _] := P8.blk
      refine sv (o_as rfl) rfl ?_
      refine l_nil ?_
      refine e_K (hK9 _ _ _ _ ?_)
      refine c_seq fun K10 hK10 => ?_
      refine c_region ?_
      refine sv (o_as rfl) rfl ?_
      refine l_nil ?_
      refine e_K (hK10 _ _ _ _ ?_)
      refine c_seq fun K11 hK11 => ?_
      refine c_region ?_
      refine sv (o_mv rfl) rfl ?_
      refine sc (o_call ent13 rfl) (c_orderN _ _ _) rfl fun v_ w9 h_ => ?_
      obtain ⟨rfl, E_⟩ := h_
      replace Bg1 := Bg1.mod0 E_
      replace E := E.then E_
      replace Eg := Eg.then E_
      replace Ek := Ek.then E_
      refine sv (o_mv rfl) rfl ?_
      refine sv (o_ext rfl rfl) rfl ?_
      refine sv (o_ext rfl rfl) rfl ?_
      refine sv (o_as rfl) rfl ?_
      refine sv (o_as rfl) rfl ?_
      refine l_nil ?_
      refine e_K (hK11 _ _ _ _ ?_)
      refine c_seq fun K12 hK12 => ?_
      refine c_draw wide (by kernel_rfl) ?_
      refine tv (fun w_ E_ => (o_mv rfl)) rfl rfl ?_
      refine tv (fun w_ E_ => (o_mv rfl)) rfl rfl ?_
      refine tvg rfl (rfl) (fun w_ E_ => (o_mv rfl)) rfl rfl ?_
      refine tvg rfl (rfl) (fun w_ E_ => (o_mv rfl)) rfl rfl ?_
      refine tcg rfl (rfl) (fun w_ E_ => o_call ent20 rfl) (fun w_ E_ => c_has [] _ g bA bB _ (G.mod0 (Eg.then E_)) s) rfl rfl ?_
      refine tvg rfl (rfl) (fun w_ E_ => (o_mv rfl)) rfl rfl ?_
      refine tvg rfl (rfl) (fun w_ E_ => ((o_bseq Try.underlying4 rfl rfl).to (v' := .bool true) (by simp))) rfl rfl ?_
      refine tv (fun w_ E_ => (o_pickT (rfl) rfl rfl)) rfl rfl ?_
      refine tv (fun w_ E_ => (o_mv rfl)) rfl rfl ?_
      refine tvg rfl (rfl) (fun w_ E_ => (o_mv rfl)) rfl rfl ?_
      refine tvg rfl (rfl) (fun w_ E_ => (o_mv rfl)) rfl rfl ?_
      refine tcrg (fun u w2 => OwnS w2 9 u ((bm cs).ahd s)) (fun v w1 w2 k h => Own.mod0 h k) rfl rfl (fun w_ E_ => o_call ent21 rfl) (fun w_ E_ => Calls.imp (c_ahead [] _ g bA bB _ (G.mod0 (Eg.then E_)) s) fun u w' h => ⟨h.1, h.2.2⟩) rfl rfl rfl ?_
      refine tvg rfl (rfl) (fun w_ E_ => (o_fa0 fd42_1 rfl)) rfl rfl ?_
      refine tvg rfl (rfl) (fun w_ E_ => (o_ld sc23 rfl ((Bg1.mod0 E_).cell rfl))) rfl rfl ?_
      refine tc1g (args := fun u_ => [u_, .slice adl ((bm cs).ahd s).length cl].toArray) (v := .bool true) 50 rfl rfl rfl rfl ⟨_, List.Mem.tail _ (List.Mem.head _), rfl⟩ (fun w_ u E_ h => o_call ent15 rfl) (fun w_ u E_ h => Calls.imp (g_same _ ((bm cs).ahd s) ((bm cs).ahd s) _ _ (OwnS.rep [] h (by simp)) (RL.to0 (Ek.then E_))) fun r w' hr => ⟨hr.1.trans (by simp), hr.2⟩) rfl rfl ?_
      refine tv (fun w_ E_ => (o_pickT (rfl) rfl rfl)) rfl rfl ?_
      refine tv (fun w_ E_ => (o_mv rfl)) rfl rfl ?_
      refine tvg rfl (rfl) (fun w_ E_ => (o_mv rfl)) rfl rfl ?_
      refine tcrg (fun u w2 => OwnS w2 9 u (heads (bm cs))) (fun v w1 w2 k h => Own.mod0 h k) rfl rfl (fun w_ E_ => o_call ent22 rfl) (fun w_ E_ => Calls.imp (c_headsG [] _ g bA bB _ (G.mod0 (Eg.then E_))) fun u w' h => ⟨h.1, h.2.2⟩) rfl rfl rfl ?_
      refine tvg rfl (rfl) (fun w_ E_ => (o_mv rfl)) rfl rfl ?_
      refine tcrg (fun u w2 => Rep [] w2 (strD (heads (bm cs))) u) (fun v w1 w2 k h => Rep.to0 h k) rfl rfl (fun w_ E_ => o_call ent23 rfl) (fun w_ E_ => g_headsR _ (bm cs) _ (RV0.to0 (Eg.then E_)) (by have := bm_len cs; have := hCF.len; omega)) rfl rfl rfl ?_
      refine tc2g (v := .bool true) 57 59 rfl rfl rfl rfl ⟨_, List.Mem.tail _ (List.Mem.head _), rfl⟩ rfl rfl ⟨_, List.Mem.tail _ (List.Mem.tail _ (List.Mem.head _)), rfl⟩ (fun w_ u u' E_ h h' => o_call ent15 rfl) (fun w_ u u' E_ h h' => Calls.imp (g_same _ (heads (bm cs)) (heads (bm cs)) _ _ (OwnS.rep [] h (by simp)) h') fun r w' hr => ⟨hr.1.trans (by simp), hr.2⟩) rfl rfl ?_
      refine tv (fun w_ E_ => (o_pickT (rfl) rfl rfl)) rfl rfl ?_
      refine tv (fun w_ E_ => (o_mv rfl)) rfl rfl ?_
      refine tvg rfl (rfl) (fun w_ E_ => (o_mv rfl)) rfl rfl ?_
      refine tvg rfl (rfl) (fun w_ E_ => ((o_eql rfl rfl).to (v' := .bool true) (by simp))) rfl rfl ?_
      refine tv (fun w_ E_ => (o_pickT (rfl) rfl rfl)) rfl rfl ?_
      refine tv (fun w_ E_ => (o_mv rfl)) rfl rfl ?_
      refine tvg rfl (rfl) (fun w_ E_ => (o_mv rfl)) rfl rfl ?_
      refine tvg rfl (rfl) (fun w_ E_ => (o_mv rfl)) rfl rfl ?_
      refine tcg rfl (rfl) (fun w_ E_ => o_call ent24 rfl) (fun w_ E_ => c_addN _ s _) rfl rfl ?_
      refine tvg rfl (rfl) (fun w_ E_ => ((o_eql rfl rfl).to (v' := .bool true) (by simp))) rfl rfl ?_
      refine tv (fun w_ E_ => (o_pickT (rfl) rfl rfl)) rfl rfl ?_
      refine tv (fun w_ E_ => (o_mv rfl)) rfl rfl ?_
      refine tvg rfl (rfl) (fun w_ E_ => (o_mv rfl)) rfl rfl ?_
      refine tvg rfl (rfl) (fun w_ E_ => (o_mv rfl)) rfl rfl ?_
      refine tcg rfl (rfl) (fun w_ E_ => o_call ent20 rfl) (fun w_ E_ => c_hasN _ s) rfl rfl ?_
      refine tvg rfl (rfl) (fun w_ E_ => ((o_not rfl).to (v' := .bool true) rfl)) rfl rfl ?_
      refine tv (fun w_ E_ => (o_pickT (rfl) rfl rfl)) rfl rfl ?_
      refine tv (fun w_ E_ => (o_mv rfl)) rfl rfl ?_
      refine tvg rfl (rfl) (fun w_ E_ => (o_mv rfl)) rfl rfl ?_
      refine tvg rfl (rfl) (fun w_ E_ => (o_mv rfl)) rfl rfl ?_
      refine tcg rfl (rfl) (fun w_ E_ => o_call ent21 rfl) (fun w_ E_ => c_aheadN _ s) rfl rfl ?_
      refine tvg rfl (rfl) (fun w_ E_ => (o_len Try.underlying23 rfl)) rfl rfl ?_
      refine tvg rfl (rfl) (fun w_ E_ => ((o_eql rfl rfl).to (v' := .bool true) (by simp))) rfl rfl ?_
      refine tv (fun w_ E_ => (o_pickT (rfl) rfl rfl)) rfl rfl ?_
      refine tv (fun w_ E_ => (o_mv rfl)) rfl rfl ?_
      refine tvg rfl (rfl) (fun w_ E_ => (o_mv rfl)) rfl rfl ?_
      refine tvg rfl (rfl) (fun w_ E_ => (o_mv rfl)) rfl rfl ?_
      refine t_bsliceg (cs := [_]) (fun u w2 => OwnS w2 9 u [s]) (fun v w1 w2 k h => Own.mod0 h k) rfl rfl sl23 zv9 rfl rfl rfl (by decide) (fun w_ g w2_ E_ N_ => OwnS.to (Own.all (sz := 1) (c := 1) N_.blk rfl (by omega)) rfl rfl) rfl rfl ?_
      refine tcr1g (args := fun u_ => [.pointer none, u_].toArray) (fun u w2 => OwnS w2 9 u []) (fun v w1 w2 k h => Own.mod0 h k) 88 rfl rfl rfl rfl ⟨_, List.Mem.tail _ (List.Mem.tail _ (List.Mem.head _)), rfl⟩ (fun w_ u E_ h => o_call ent16 rfl) (fun w_ u E_ h => by have h2 : OwnS w_ 9 u [s] := h; exact c_PastN w_ [s] u (OwnS.rep [] h2 (by simp)) (by rw [List.length_singleton]; omega)) rfl rfl rfl ?_
      refine tv1g (v := .int .i64 0) 89 rfl rfl rfl rfl ⟨_, List.Mem.head _, rfl⟩ (fun w_ u E_ h => by obtain ⟨ad_, c_, rfl, _, _⟩ := Own.form h; exact o_len Try.underlying23 rfl) rfl rfl ?_
      refine tvg rfl (rfl) (fun w_ E_ => ((o_eql rfl rfl).to (v' := .bool true) (by simp))) rfl rfl ?_
      refine tv (fun w_ E_ => (o_pickT (rfl) rfl rfl)) rfl rfl ?_
      refine tv (fun w_ E_ => (o_mv rfl)) rfl rfl ?_
      refine tvg rfl (rfl) (fun w_ E_ => (o_mv rfl)) rfl rfl ?_
      refine tcg rfl (rfl) (fun w_ E_ => o_call ent22 rfl) (fun w_ E_ => c_headsN _) rfl rfl ?_
      refine tvg rfl (rfl) (fun w_ E_ => (o_len Try.underlying23 rfl)) rfl rfl ?_
      refine tvg rfl (rfl) (fun w_ E_ => ((o_eql rfl rfl).to (v' := .bool true) (by simp))) rfl rfl ?_
      refine tv (fun w_ E_ => (o_pickT (rfl) rfl rfl)) rfl rfl ?_
      refine tv (fun w_ E_ => (o_mv rfl)) rfl rfl ?_
      refine tvg rfl (rfl) (fun w_ E_ => (o_mv rfl)) rfl rfl ?_
      refine tcg rfl (rfl) (fun w_ E_ => o_call ent25 rfl) (fun w_ E_ => c_lenGN _) rfl rfl ?_
      refine tvg rfl (rfl) (fun w_ E_ => ((o_eql rfl rfl).to (v' := .bool true) (by simp))) rfl rfl ?_
      refine tv (fun w_ E_ => (o_pickT (rfl) rfl rfl)) rfl rfl ?_
      refine tv (fun w_ E_ => (o_as rfl)) rfl rfl ?_
      refine tw_nil rfl fun w10 E_ => ?_
      replace Bg1 := Bg1.mod0 E_
      replace E := E.then E_
      replace Eg := Eg.then E_
      replace Ek := Ek.then E_
      refine e_K (hK12 _ _ _ _ ?_)
      refine c_ret ?_
      exact ret1 rfl rfl ⟨rfl, E⟩
end Go.Proofs.Ythmohmpalbnjoaa.V
