/-
  A part of the proof: what the laws of graphs ask of pasts and heads; a past put together of the pasts it has behind it. No condition of its own.
-/
import Derived.Test.YthmohmpalbnjoaaM16
import Derived.Test.YthmohmpalbnjoaaM15
set_option linter.unusedVariables false
set_option linter.unusedSimpArgs false
set_option maxRecDepth 10000
namespace Go.Proofs.Ythmohmpalbnjoaa.V
open Go Go.Proofs
theorem ent21 : Ent Try.prog 21 := Ent.of Try.func21 (by kernel_rfl) (by kernel_rfl)
theorem ent23 : Ent Try.prog 23 := Ent.of Try.func23 (by kernel_rfl) (by kernel_rfl)
theorem c_DagAdds (w : World) (cs : Gm) (v0 : Value) (R : Rep [] w (ndD cs) v0) (hC : CSm cs) (s : Str) (hs : s.length ≤ 140737488351232) : Calls Try.prog 6 [v0, S s].toArray w (Ret fun u w' => u = .bool true ∧ Mod [] w w') := by
  refine enter Try.func6 rfl rfl rfl (l := [(0, _), (1, _)]) ⟨rfl, rfl, trivial⟩ ?_
  have E := Mod.refl [] w
  refine c_seq fun K1 hK1 => ?_
  refine c_region ?_
  refine sv (o_as rfl) rfl ?_
  refine l_nil ?_
  refine e_K (hK1 _ _ _ _ ?_)
  refine c_seq fun K2 hK2 => ?_
  refine c_seq fun K3 hK3 => ?_
  refine c_region ?_
  refine sc (o_call ent10 rfl) (c_alive _) rfl fun v_ w1 h_ => ?_
  obtain ⟨rfl, E_⟩ := h_
  replace E := E.then E_
  refine sv ((o_not rfl).to (v' := .bool false) rfl) rfl ?_
  refine l_nil ?_
  refine e_K (hK3 _ _ _ _ ?_)
  refine c_false rfl ?_
  refine c_skip ?_
  refine e_K (hK2 _ _ _ _ ?_)
  refine c_seq fun K4 hK4 => ?_
  refine c_seq fun K5 hK5 => ?_
  by_cases hk16 : greatC cs = true
  · skip
    refine c_region ?_
    refine sv (o_mv rfl) rfl ?_
    refine sc (o_call ent11 rfl) (c_great _ cs _ (R.to0 E) hC) rfl fun v_ w2 h_ => ?_
    obtain ⟨rfl, E_⟩ := h_
    replace E := E.then E_
    refine sv (o_mv rfl) rfl ?_
    refine sn rfl (fun e_ => absurd ((hk16).symm.trans e_) (by decide)) rfl ?_
    refine sn rfl (fun e_ => absurd ((hk16).symm.trans e_) (by decide)) rfl ?_
    refine sn rfl (fun e_ => absurd ((hk16).symm.trans e_) (by decide)) rfl ?_
    refine sv (o_pickT (hk16) rfl rfl) rfl ?_
    refine l_nil ?_
    refine e_K (hK5 _ _ _ _ ?_)
    refine c_true rfl ?_
    refine c_seq fun K6 hK6 => ?_
    refine c_region ?_
    refine sv (o_as rfl) rfl ?_
    refine l_nil ?_
    refine e_K (hK6 _ _ _ _ ?_)
    refine c_ret ?_
    refine e_then (by simp) ?_
    exact ret1 rfl rfl ⟨rfl, E⟩
  · skip
    by_cases hk20 : ((s.length : Nat) : Int) > 1024
    · skip
      refine c_region ?_
      refine sv (o_mv rfl) rfl ?_
      refine sc (o_call ent11 rfl) (c_great _ cs _ (R.to0 E) hC) rfl fun v_ w3 h_ => ?_
      obtain ⟨rfl, E_⟩ := h_
      replace E := E.then E_
      refine sv (o_mv rfl) rfl ?_
      refine sg rfl (Bool.eq_false_iff.2 hk16) (o_mv rfl) rfl ?_
      refine sg rfl (Bool.eq_false_iff.2 hk16) (o_slen Try.underlying9 rfl) rfl ?_
      refine sg rfl (Bool.eq_false_iff.2 hk16) (o_gtr rfl rfl) rfl ?_
      refine sv (o_pickF (Bool.eq_false_iff.2 hk16) rfl rfl) rfl ?_
      refine l_nil ?_
      refine e_K (hK5 _ _ _ _ ?_)
      refine c_if rfl (fun h21 => ?_) (fun h21 => absurd hk20 h21)
      refine c_seq fun K7 hK7 => ?_
      refine c_region ?_
      refine sv (o_as rfl) rfl ?_
      refine l_nil ?_
      refine e_K (hK7 _ _ _ _ ?_)
      refine c_ret ?_
      refine e_then (by simp) ?_
      exact ret1 rfl rfl ⟨rfl, E⟩
    · skip
      refine c_region ?_
      refine sv (o_mv rfl) rfl ?_
      refine sc (o_call ent11 rfl) (c_great _ cs _ (R.to0 E) hC) rfl fun v_ w4 h_ => ?_
      obtain ⟨rfl, E_⟩ := h_
      replace E := E.then E_
      refine sv (o_mv rfl) rfl ?_
      refine sg rfl (Bool.eq_false_iff.2 hk16) (o_mv rfl) rfl ?_
      refine sg rfl (Bool.eq_false_iff.2 hk16) (o_slen Try.underlying9 rfl) rfl ?_
      refine sg rfl (Bool.eq_false_iff.2 hk16) (o_gtr rfl rfl) rfl ?_
      refine sv (o_pickF (Bool.eq_false_iff.2 hk16) rfl rfl) rfl ?_
      refine l_nil ?_
      refine e_K (hK5 _ _ _ _ ?_)
      refine c_if rfl (fun h21 => absurd h21 hk20) (fun h21 => ?_)
      refine c_skip ?_
      refine e_K (hK4 _ _ _ _ ?_)
      refine c_seq fun K8 hK8 => ?_
      refine c_region ?_
      refine sv (o_mv rfl) rfl ?_
      have hCF := great_no (Bool.eq_false_iff.2 hk16)
      refine sc (o_call ent12 rfl) (c_built _ cs _ (R.to0 E) hCF) rfl fun v_ w5 h_ => ?_
      obtain ⟨g, bA, bB, vr, rfl, G, RV, E_⟩ := h_
      replace E := E.then E_
      have Eg := Mod.refl [] w5
      obtain ⟨adr, cr, rfl, hr1, hr2⟩ := ndD_len RV.rep
      have RV0 := RV.rep.anti (A' := []) (by simp)
      refine sv (o_mv rfl) rfl ?_
      refine sv (o_ext rfl rfl) rfl ?_
      refine sv (o_ext rfl rfl) rfl ?_
      refine sv (o_ext rfl rfl) rfl ?_
      refine sv (o_as rfl) rfl ?_
      refine sv (o_as rfl) rfl ?_
      refine sv (o_as rfl) rfl ?_
      refine l_nil ?_
      refine e_K (hK8 _ _ _ _ ?_)
      refine c_seq fun K9 hK9 => ?_
      refine c_region ?_
      refine sv (o_mv rfl) rfl ?_
      refine sv (o_mv rfl) rfl ?_
      refine sc (o_call ent19 rfl) (g_get [] _ (bm cs) _ (RV0.to0 Eg) s) rfl fun v_ w6 h_ => ?_
      obtain ⟨lv, rfl, RL, E_⟩ := h_
      replace E := E.then E_
      replace Eg := Eg.then E_
      have Ek := Mod.refl [] w6
      obtain ⟨adl, cl, rfl, _, _⟩ := flat_len RL
      refine sv (o_mv rfl) rfl ?_
      refine sv (o_ext rfl rfl) rfl ?_
      refine sv (o_ext rfl rfl) rfl ?_
      refine s_alloc zv42 rfl fun g1 w7 N1 => ?_
      have Lg1_E := N1.le E
      have Lg1_Eg := N1.le Eg
      have Lg1_Ek := N1.le Ek
      replace E := E.then N1.mod
      replace Eg := Eg.then N1.mod
      replace Ek := Ek.then N1.mod
      have Bg1 := N1.blk
      refine s_sta (vs := [_, _]) ag42 Bg1 rfl rfl rfl (by simp [Value.oneCell']) (by simp) fun w8 P8 => ?_
      replace E := E.own P8.mod Lg1_E
      replace Eg := Eg.own P8.mod Lg1_Eg
      replace Ek := Ek.own P8.mod Lg1_Ek
      replace Bg1 : Blk w8 g1 _ [_, _] := P8.blk
      refine sv (o_as rfl) rfl ?_
      refine l_nil ?_
      refine e_K (hK9 _ _ _ _ ?_)
      refine c_seq fun K10 hK10 => ?_
      refine c_region ?_
      refine sv (o_as rfl) rfl ?_
      refine l_nil ?_
      refine e_K (hK10 _ _ _ _ ?_)
      refine c_seq fun K11 hK11 => ?_
      refine c_region ?_
      refine sv (o_mv rfl) rfl ?_
      refine sc (o_call ent13 rfl) (c_orderN _ _ _) rfl fun v_ w9 h_ => ?_
      obtain ⟨rfl, E_⟩ := h_
      replace Bg1 := Bg1.mod0 E_
      replace E := E.then E_
      replace Eg := Eg.then E_
      replace Ek := Ek.then E_
      refine sv (o_mv rfl) rfl ?_
      refine sv (o_ext rfl rfl) rfl ?_
      refine sv (o_ext rfl rfl) rfl ?_
      refine sv (o_as rfl) rfl ?_
      refine sv (o_as rfl) rfl ?_
      refine l_nil ?_
      refine e_K (hK11 _ _ _ _ ?_)
      refine c_seq fun K12 hK12 => ?_
      refine c_draw wide (by kernel_rfl) ?_
      refine tv (fun w_ E_ => (o_mv rfl)) rfl rfl ?_
      refine tv (fun w_ E_ => (o_mv rfl)) rfl rfl ?_
      refine tvg rfl (rfl) (fun w_ E_ => (o_mv rfl)) rfl rfl ?_
      refine tvg rfl (rfl) (fun w_ E_ => (o_mv rfl)) rfl rfl ?_
      refine tcg rfl (rfl) (fun w_ E_ => o_call ent20 rfl) (fun w_ E_ => c_has [] _ g bA bB _ (G.mod0 (Eg.then E_)) s) rfl rfl ?_
      refine tvg rfl (rfl) (fun w_ E_ => (o_mv rfl)) rfl rfl ?_
      refine tvg rfl (rfl) (fun w_ E_ => ((o_bseq Try.underlying4 rfl rfl).to (v' := .bool true) (by simp))) rfl rfl ?_
      refine tv (fun w_ E_ => (o_pickT (rfl) rfl rfl)) rfl rfl ?_
      refine tv (fun w_ E_ => (o_mv rfl)) rfl rfl ?_
      refine tvg rfl (rfl) (fun w_ E_ => (o_mv rfl)) rfl rfl ?_
      refine tvg rfl (rfl) (fun w_ E_ => (o_mv rfl)) rfl rfl ?_
      refine tcrg (fun u w2 => OwnS w2 9 u ((bm cs).ahd s)) (fun v w1 w2 k h => Own.mod0 h k) rfl rfl (fun w_ E_ => o_call ent21 rfl) (fun w_ E_ => Calls.imp (c_ahead [] _ g bA bB _ (G.mod0 (Eg.then E_)) s) fun u w' h => ⟨h.1, h.2.2⟩) rfl rfl rfl ?_
      refine tvg rfl (rfl) (fun w_ E_ => (o_fa0 fd42_1 rfl)) rfl rfl ?_
      refine tvg rfl (rfl) (fun w_ E_ => (o_ld sc23 rfl ((Bg1.mod0 E_).cell rfl))) rfl rfl ?_
      refine tc1g (args := fun u_ => [u_, .slice adl ((bm cs).ahd s).length cl].toArray) (v := .bool true) 50 rfl rfl rfl rfl ⟨_, List.Mem.tail _ (List.Mem.head _), rfl⟩ (fun w_ u E_ h => o_call ent15 rfl) (fun w_ u E_ h => Calls.imp (g_same _ ((bm cs).ahd s) ((bm cs).ahd s) _ _ (OwnS.rep [] h (by simp)) (RL.to0 (Ek.then E_))) fun r w' hr => ⟨hr.1.trans (by simp), hr.2⟩) rfl rfl ?_
      refine tv (fun w_ E_ => (o_pickT (rfl) rfl rfl)) rfl rfl ?_
      refine tv (fun w_ E_ => (o_mv rfl)) rfl rfl ?_
      refine tvg rfl (rfl) (fun w_ E_ => (o_mv rfl)) rfl rfl ?_
      refine tcrg (fun u w2 => OwnS w2 9 u (heads (bm cs))) (fun v w1 w2 k h => Own.mod0 h k) rfl rfl (fun w_ E_ => o_call ent22 rfl) (fun w_ E_ => Calls.imp (c_headsG [] _ g bA bB _ (G.mod0 (Eg.then E_))) fun u w' h => ⟨h.1, h.2.2⟩) rfl rfl rfl ?_
      refine tvg rfl (rfl) (fun w_ E_ => (o_mv rfl)) rfl rfl ?_
      refine tcrg (fun u w2 => Rep [] w2 (strD (heads (bm cs))) u) (fun v w1 w2 k h => Rep.to0 h k) rfl rfl (fun w_ E_ => o_call ent23 rfl) (fun w_ E_ => g_headsR _ (bm cs) _ (RV0.to0 (Eg.then E_)) (by have := bm_len cs; have := hCF.len; omega)) rfl rfl rfl ?_
      refine tc2g (v := .bool true) 57 59 rfl rfl rfl rfl ⟨_, List.Mem.tail _ (List.Mem.head _), rfl⟩ rfl rfl ⟨_, List.Mem.tail _ (List.Mem.tail _ (List.Mem.head _)), rfl⟩ (fun w_ u u' E_ h h' => o_call ent15 rfl) (fun w_ u u' E_ h h' => Calls.imp (g_same _ (heads (bm cs)) (heads (bm cs)) _ _ (OwnS.rep [] h (by simp)) h') fun r w' hr => ⟨hr.1.trans (by simp), hr.2⟩) rfl rfl ?_
      refine tv (fun w_ E_ => (o_pickT (rfl) rfl rfl)) rfl rfl ?_
      refine tv (fun w_ E_ => (o_mv rfl)) rfl rfl ?_
      refine tvg rfl (rfl) (fun w_ E_ => (o_mv rfl)) rfl rfl ?_
      refine tvg rfl (rfl) (fun w_ E_ => ((o_eql rfl rfl).to (v' := .bool true) (by simp))) rfl rfl ?_
      refine tv (fun w_ E_ => (o_pickT (rfl) rfl rfl)) rfl rfl ?_
      refine tv (fun w_ E_ => (o_mv rfl)) rfl rfl ?_
      refine tvg rfl (rfl) (fun w_ E_ => (o_mv rfl)) rfl rfl ?_
      refine tvg rfl (rfl) (fun w_ E_ => (o_mv rfl)) rfl rfl ?_
      refine tcg rfl (rfl) (fun w_ E_ => o_call ent24 rfl) (fun w_ E_ => c_addN _ s _) rfl rfl ?_
      refine tvg rfl (rfl) (fun w_ E_ => ((o_eql rfl rfl).to (v' := .bool true) (by simp))) rfl rfl ?_
      refine tv (fun w_ E_ => (o_pickT (rfl) rfl rfl)) rfl rfl ?_
      refine tv (fun w_ E_ => (o_mv rfl)) rfl rfl ?_
      refine tvg rfl (rfl) (fun w_ E_ => (o_mv rfl)) rfl rfl ?_
      refine tvg rfl (rfl) (fun w_ E_ => (o_mv rfl)) rfl rfl ?_
      refine tcg rfl (rfl) (fun w_ E_ => o_call ent20 rfl) (fun w_ E_ => c_hasN _ s) rfl rfl ?_
      refine tvg rfl (rfl) (fun w_ E_ => ((o_not rfl).to (v' := .bool true) rfl)) rfl rfl ?_
      refine tv (fun w_ E_ => (o_pickT (rfl) rfl rfl)) rfl rfl ?_
      refine tv (fun w_ E_ => (o_mv rfl)) rfl rfl ?_
      refine tvg rfl (rfl) (fun w_ E_ => (o_mv rfl)) rfl rfl ?_
      refine tvg rfl (rfl) (fun w_ E_ => (o_mv rfl)) rfl rfl ?_
      refine tcg rfl (rfl) (fun w_ E_ => o_call ent21 rfl) (fun w_ E_ => c_aheadN _ s) rfl rfl ?_
      refine tvg rfl (rfl) (fun w_ E_ => (o_len Try.underlying23 rfl)) rfl rfl ?_
      refine tvg rfl (rfl) (fun w_ E_ => ((o_eql rfl rfl).to (v' := .bool true) (by simp))) rfl rfl ?_
      refine tv (fun w_ E_ => (o_pickT (rfl) rfl rfl)) rfl rfl ?_
      refine tv (fun w_ E_ => (o_mv rfl)) rfl rfl ?_
      refine tvg rfl (rfl) (fun w_ E_ => (o_mv rfl)) rfl rfl ?_
      refine tvg rfl (rfl) (fun w_ E_ => (o_mv rfl)) rfl rfl ?_
      refine t_bsliceg (cs := [_]) (fun u w2 => OwnS w2 9 u [s]) (fun v w1 w2 k h => Own.mod0 h k) rfl rfl sl23 zv9 rfl rfl rfl (by decide) (fun w_ g w2_ E_ N_ => OwnS.to (Own.all (sz := 1) (c := 1) N_.blk rfl (by omega)) rfl rfl) rfl rfl ?_
      refine tcr1g (args := fun u_ => [.pointer none, u_].toArray) (fun u w2 => OwnS w2 9 u []) (fun v w1 w2 k h => Own.mod0 h k) 88 rfl rfl rfl rfl ⟨_, List.Mem.tail _ (List.Mem.tail _ (List.Mem.head _)), rfl⟩ (fun w_ u E_ h => o_call ent16 rfl) (fun w_ u E_ h => by have h2 : OwnS w_ 9 u [s] := h; exact c_PastN w_ [s] u (OwnS.rep [] h2 (by simp)) (by rw [List.length_singleton]; omega)) rfl rfl rfl ?_
      refine tv1g (v := .int .i64 0) 89 rfl rfl rfl rfl ⟨_, List.Mem.head _, rfl⟩ (fun w_ u E_ h => by obtain ⟨ad_, c_, rfl, _, _⟩ := Own.form h; exact o_len Try.underlying23 rfl) rfl rfl ?_
      refine tvg rfl (rfl) (fun w_ E_ => ((o_eql rfl rfl).to (v' := .bool true) (by simp))) rfl rfl ?_
      refine tv (fun w_ E_ => (o_pickT (rfl) rfl rfl)) rfl rfl ?_
      refine tv (fun w_ E_ => (o_mv rfl)) rfl rfl ?_
      refine tvg rfl (rfl) (fun w_ E_ => (o_mv rfl)) rfl rfl ?_
      refine tcg rfl (rfl) (fun w_ E_ => o_call ent22 rfl) (fun w_ E_ => c_headsN _) rfl rfl ?_
      refine tvg rfl (rfl) (fun w_ E_ => (o_len Try.underlying23 rfl)) rfl rfl ?_
      refine tvg rfl (rfl) (fun w_ E_ => ((o_eql rfl rfl).to (v' := .bool true) (by simp))) rfl rfl ?_
      refine tv (fun w_ E_ => (o_pickT (rfl) rfl rfl)) rfl rfl ?_
      refine tv (fun w_ E_ => (o_mv rfl)) rfl rfl ?_
      refine tvg rfl (rfl) (fun w_ E_ => (o_mv rfl)) rfl rfl ?_
      refine tcg rfl (rfl) (fun w_ E_ => o_call ent25 rfl) (fun w_ E_ => c_lenGN _) rfl rfl ?_
      refine tvg rfl (rfl) (fun w_ E_ => ((o_eql rfl rfl).to (v' := .bool true) (by simp))) rfl rfl ?_
      refine tv (fun w_ E_ => (o_pickT (rfl) rfl rfl)) rfl rfl ?_
      refine tv (fun w_ E_ => (o_as rfl)) rfl rfl ?_
      refine tw_nil rfl fun w10 E_ => ?_
      replace Bg1 := Bg1.mod0 E_
      replace E := E.then E_
      replace Eg := Eg.then E_
      replace Ek := Ek.then E_
      refine e_K (hK12 _ _ _ _ ?_)
      refine c_ret ?_
      exact ret1 rfl rfl ⟨rfl, E⟩
end Go.Proofs.Ythmohmpalbnjoaa.V

set_option linter.unusedVariables false
set_option linter.unusedSimpArgs false
namespace Go.Proofs.Ythmohmpalbnjoaa.V
open Go
theorem ahd_look {m : Gm} {x z : Str} (hx : x ∈ m.ahd z) : ∃ l, look m z = some l ∧ m.ahd z = l := by
  unfold Gm.ahd at *
  cases hl : look m z with
  | none => rw [hl] at hx; simp at hx
  | some l => exact ⟨l, rfl, rfl⟩
theorem ahd_key {m : Gm} {x z : Str} (hx : x ∈ m.ahd z) : z ∈ m.keys := by
  obtain ⟨l, h1, _⟩ := ahd_look hx
  exact look_keys.1 (by rw [h1]; rfl)
theorem reach_ahd {m : Gm} (h : GWf m) {x s : Str} (r : Reach m (m.ahd s) x) : posG m x < posG m s := by
  induction r with
  | base h1 _ => exact ahd_pos h h1
  | step _ hx ih => exact Nat.lt_trans (ahd_pos h hx) ih
theorem not_past_self {m : Gm} (h : GWf m) (s : Str) : s ∉ past m (m.ahd s) := fun hs => Nat.lt_irrefl _ (reach_ahd h ((past_mem h).1 hs))
theorem mem_heads {m : Gm} {y : Str} : y ∈ heads m ↔ y ∈ m.keys ∧ ∀ q ∈ m, y ∉ q.2 := by
  unfold heads Gm.keys
  rw [setS_mem]
  constructor
  · intro h
    obtain ⟨p, hp, rfl⟩ := List.mem_map.1 h
    obtain ⟨h1, h2⟩ := List.mem_filter.1 hp
    exact ⟨List.mem_map_of_mem h1, fun q hq => by simpa using List.all_eq_true.1 h2 q hq⟩
  · intro ⟨h1, h2⟩
    obtain ⟨p, hp, rfl⟩ := List.mem_map.1 h1
    exact List.mem_map_of_mem (List.mem_filter.2 ⟨hp, List.all_eq_true.2 fun q hq => by simpa using h2 q hq⟩)
theorem head_not_past {m : Gm} (h : GWf m) {x y : Str} (hy : y ∈ heads m) (hn : y ≠ x) : y ∉ past m [x] := fun hp => by
  have r := (past_mem h).1 hp
  cases r with
  | base h1 _ => exact hn (by simpa using h1)
  | step _ hx =>
    obtain ⟨l, h1, h2⟩ := ahd_look hx
    exact (mem_heads.1 hy).2 _ (look_some h1) (h2 ▸ hx)
theorem heads_all {m : Gm} (h : GWf m) : ∀ (k : Nat) (y : Str), y ∈ m.keys → m.length - posG m y ≤ k → Reach m (heads m) y
  | k, y, hy, hk => by
    by_cases hh : y ∈ heads m
    · exact .base hh hy
    · have hlt : posG m y < m.length := by
        have := List.idxOf_lt_length_of_mem hy
        simpa [posG, Gm.keys] using this
      have : ∃ q ∈ m, y ∈ q.2 := Classical.byContradiction fun hc => hh (mem_heads.2 ⟨hy, fun q hq hy' => hc ⟨q, hq, hy'⟩⟩)
      obtain ⟨q, hq, hyq⟩ := this
      obtain ⟨i, hi⟩ := List.mem_iff_getElem?.1 hq
      have ha : m.ahd q.1 = q.2 := by unfold Gm.ahd; rw [h.look_ hi]; rfl
      have hyq' : y ∈ m.ahd q.1 := ha.symm ▸ hyq
      have hp := ahd_pos h hyq'
      have hqk : q.1 ∈ m.keys := List.mem_map_of_mem hq
      cases k with
      | zero => omega
      | succ k => exact .step (heads_all h k q.1 hqk (by omega)) hyq'
theorem heads_reach {m : Gm} (h : GWf m) {y : Str} (hy : y ∈ m.keys) : Reach m (heads m) y := heads_all h _ y hy (Nat.le_refl _)
theorem reach_nil {m : Gm} {y : Str} (r : Reach m [] y) : False := by
  induction r with
  | base h _ => simp at h
  | step _ _ ih => exact ih
theorem heads_le (m : Gm) : (heads m).length ≤ m.length := by
  unfold heads
  refine Nat.le_trans setS_len ?_
  rw [List.length_map]
  exact List.length_filter_le _ _
theorem heads_pos {m : Gm} (h : GWf m) (hm : m.length ≠ 0) : 0 < (heads m).length := by
  rcases m with _ | ⟨p, m⟩
  · simp at hm
  · have r := heads_reach h (y := p.1) (by simp [Gm.keys])
    rcases hh : heads (p :: m) with _ | ⟨a, b⟩
    · rw [hh] at r; exact (reach_nil r).elim
    · simp
theorem past_heads {m : Gm} (h : GWf m) : (past m (heads m)).length = m.length := by
  have h1 := past_len m (heads m)
  have h2 := nodup_len h.nodup (k := past m (heads m)) fun x hx => (past_mem h).2 (heads_reach h hx)
  simp only [Gm.keys, List.length_map] at h2
  omega
end Go.Proofs.Ythmohmpalbnjoaa.V

set_option linter.unusedVariables false
set_option linter.unusedSimpArgs false
set_option maxRecDepth 10000
namespace Go.Proofs.Ythmohmpalbnjoaa.V
open Go Go.Proofs

theorem c_DagEnds (w : World) (cs : Gm) (v0 : Value) (R : Rep [] w (ndD cs) v0) (hC : CSm cs) (s : Str) (hs : s.length ≤ 140737488351232) : Calls Try.prog 7 [v0, S s].toArray w (Ret fun u w' => u = .bool true ∧ Mod [] w w') := by
  refine enter Try.func7 rfl rfl rfl (l := [(0, _), (1, _)]) ⟨rfl, rfl, trivial⟩ ?_
  have E := Mod.refl [] w
  have W := bm_wf cs
  refine c_seq fun K1 hK1 => ?_
  refine c_region ?_
  refine sv (o_as rfl) rfl ?_
  refine l_nil ?_
  refine e_K (hK1 _ _ _ _ ?_)
  refine c_seq fun K2 hK2 => ?_
  refine c_seq fun K3 hK3 => ?_
  refine c_region ?_
  refine sc (o_call ent10 rfl) (c_alive _) rfl fun v_ w1 h_ => ?_
  obtain ⟨rfl, E_⟩ := h_
  replace E := E.then E_
  refine sv ((o_not rfl).to (v' := .bool false) rfl) rfl ?_
  refine l_nil ?_
  refine e_K (hK3 _ _ _ _ ?_)
  refine c_false rfl ?_
  refine c_skip ?_
  refine e_K (hK2 _ _ _ _ ?_)
  refine c_seq fun K4 hK4 => ?_
  refine c_seq fun K5 hK5 => ?_
  by_cases hk17 : greatC cs = true
  · skip
    refine c_region ?_
    refine sv (o_mv rfl) rfl ?_
    refine sc (o_call ent11 rfl) (c_great _ cs _ (R.to0 E) hC) rfl fun v_ w2 h_ => ?_
    obtain ⟨rfl, E_⟩ := h_
    replace E := E.then E_
    refine sv (o_mv rfl) rfl ?_
    refine sn rfl (fun e_ => absurd ((hk17).symm.trans e_) (by decide)) rfl ?_
    refine sn rfl (fun e_ => absurd ((hk17).symm.trans e_) (by decide)) rfl ?_
    refine sn rfl (fun e_ => absurd ((hk17).symm.trans e_) (by decide)) rfl ?_
    refine sv (o_pickT (hk17) rfl rfl) rfl ?_
    refine l_nil ?_
    refine e_K (hK5 _ _ _ _ ?_)
    refine c_true rfl ?_
    refine c_seq fun K6 hK6 => ?_
    refine c_region ?_
    refine sv (o_as rfl) rfl ?_
    refine l_nil ?_
    refine e_K (hK6 _ _ _ _ ?_)
    refine c_ret ?_
    refine e_then (by simp) ?_
    exact ret1 rfl rfl ⟨rfl, E⟩
  · skip
    by_cases hk21 : ((s.length : Nat) : Int) > 1024
    · skip
      refine c_region ?_
      refine sv (o_mv rfl) rfl ?_
      refine sc (o_call ent11 rfl) (c_great _ cs _ (R.to0 E) hC) rfl fun v_ w3 h_ => ?_
      obtain ⟨rfl, E_⟩ := h_
      replace E := E.then E_
      refine sv (o_mv rfl) rfl ?_
      refine sg rfl (Bool.eq_false_iff.2 hk17) (o_mv rfl) rfl ?_
      refine sg rfl (Bool.eq_false_iff.2 hk17) (o_slen Try.underlying9 rfl) rfl ?_
      refine sg rfl (Bool.eq_false_iff.2 hk17) (o_gtr rfl rfl) rfl ?_
      refine sv (o_pickF (Bool.eq_false_iff.2 hk17) rfl rfl) rfl ?_
      refine l_nil ?_
      refine e_K (hK5 _ _ _ _ ?_)
      refine c_if rfl (fun h22 => ?_) (fun h22 => absurd hk21 h22)
      refine c_seq fun K7 hK7 => ?_
      refine c_region ?_
      refine sv (o_as rfl) rfl ?_
      refine l_nil ?_
      refine e_K (hK7 _ _ _ _ ?_)
      refine c_ret ?_
      refine e_then (by simp) ?_
      exact ret1 rfl rfl ⟨rfl, E⟩
    · skip
      refine c_region ?_
      refine sv (o_mv rfl) rfl ?_
      refine sc (o_call ent11 rfl) (c_great _ cs _ (R.to0 E) hC) rfl fun v_ w4 h_ => ?_
      obtain ⟨rfl, E_⟩ := h_
      replace E := E.then E_
      refine sv (o_mv rfl) rfl ?_
      refine sg rfl (Bool.eq_false_iff.2 hk17) (o_mv rfl) rfl ?_
      refine sg rfl (Bool.eq_false_iff.2 hk17) (o_slen Try.underlying9 rfl) rfl ?_
      refine sg rfl (Bool.eq_false_iff.2 hk17) (o_gtr rfl rfl) rfl ?_
      refine sv (o_pickF (Bool.eq_false_iff.2 hk17) rfl rfl) rfl ?_
      refine l_nil ?_
      refine e_K (hK5 _ _ _ _ ?_)
      refine c_if rfl (fun h22 => absurd h22 hk21) (fun h22 => ?_)
      refine c_skip ?_
      refine e_K (hK4 _ _ _ _ ?_)
      refine c_seq fun K8 hK8 => ?_
      refine c_region ?_
      refine sv (o_mv rfl) rfl ?_
      have hCF := great_no (Bool.eq_false_iff.2 hk17)
      refine sc (o_call ent12 rfl) (c_built _ cs _ (R.to0 E) hCF) rfl fun v_ w5 h_ => ?_
      obtain ⟨g, bA, bB, vr, rfl, G, RV, E_⟩ := h_
      replace E := E.then E_
      have Eg := Mod.refl [] w5
      obtain ⟨adr, cr, rfl, hr1, hr2⟩ := ndD_len RV.rep
      have RV0 := RV.rep.anti (A' := []) (by simp)
      refine sv (o_mv rfl) rfl ?_
      refine sv (o_ext rfl rfl) rfl ?_
      refine sv (o_ext rfl rfl) rfl ?_
      refine sv (o_ext rfl rfl) rfl ?_
      refine sv (o_as rfl) rfl ?_
      refine sv (o_as rfl) rfl ?_
      refine sv (o_as rfl) rfl ?_
      refine l_nil ?_
      refine e_K (hK8 _ _ _ _ ?_)
      refine c_seq fun K9 hK9 => ?_
      refine c_region ?_
      refine sv (o_mv rfl) rfl ?_
      refine sv (o_mv rfl) rfl ?_
      refine sv (o_mv rfl) rfl ?_
      refine sc (o_call ent21 rfl) (c_ahead [] _ g bA bB _ (G.mod0 Eg) s) rfl fun v_ w6 h_ => ?_
      obtain ⟨OA, LA, E_⟩ := h_
      replace E := E.then E_
      replace Eg := Eg.then E_
      refine sc (o_call ent16 rfl) (c_Past [] _ g bA bB _ (G.mod0 Eg) ((bm cs).ahd s) _ (OwnS.rep [] OA (by simp)) (W.ahd_le (by have := bm_len cs; have := hCF.len; omega) s)) rfl fun v_ w7 h_ => ?_
      obtain ⟨OP, LP, E_⟩ := h_
      replace E := E.then E_
      replace Eg := Eg.then E_
      refine sv (o_as rfl) rfl ?_
      refine l_nil ?_
      refine e_K (hK9 _ _ _ _ ?_)
      refine c_seq fun K10 hK10 => ?_
      refine c_seq fun K11 hK11 => ?_
      refine c_region ?_
      refine sv (o_mv rfl) rfl ?_
      refine sv (o_mv rfl) rfl ?_
      refine sc (o_call ent18 rfl) (g_in _ (past (bm cs) ((bm cs).ahd s)) _ (OwnS.rep [] OP (by simp)) s) rfl fun v_ w8 h_ => ?_
      obtain ⟨h36, E_⟩ := h_
      replace E := E.then E_
      replace Eg := Eg.then E_
      obtain rfl : v_ = .bool false := h36.trans (by rw [decide_eq_false (not_past_self W s)])
      refine l_nil ?_
      refine e_K (hK11 _ _ _ _ ?_)
      refine c_false rfl ?_
      refine c_skip ?_
      refine e_K (hK10 _ _ _ _ ?_)
      refine c_seq fun K12 hK12 => ?_
      refine c_region ?_
      refine sv (o_mv rfl) rfl ?_
      refine sc (o_call ent22 rfl) (c_headsG [] _ g bA bB _ (G.mod0 Eg)) rfl fun v_ w9 h_ => ?_
      obtain ⟨OH, LH, E_⟩ := h_
      replace E := E.then E_
      replace Eg := Eg.then E_
      replace G := G.mod0 Eg
      replace RV0 := RV0.to0 Eg
      clear Eg
      obtain ⟨adh, ch, rfl, hh1, hh2⟩ := Own.form OH
      have RH := OwnS.rep [] OH (by simp)
      obtain ⟨wH, hwH⟩ : ∃ x, x = w9 := ⟨_, rfl⟩
      subst hwH
      have Eh := Mod.refl [] wH
      refine sv (o_as rfl) rfl ?_
      refine l_nil ?_
      refine e_K (hK12 _ _ _ _ ?_)
      refine c_seq fun K13 hK13 => ?_
      refine c_seq fun K14 hK14 => ?_
      refine c_region ?_
      refine sv (o_mv rfl) rfl ?_
      refine sv (o_len Try.underlying30 rfl) rfl ?_
      refine sv (o_mv rfl) rfl ?_
      refine l_nil ?_
      refine e_K (hK14 _ _ _ _ ?_)
      refine c_block ?_
      refine c_loop (σ := Nat) (fun k => [(5, .pointer (some ⟨g, 0, none⟩)), (6, .slice adr (bm cs).length cr), (9, .slice adh (heads (bm cs)).length ch), (39, .slice adr (bm cs).length cr), (40, .int .i64 (bm cs).length), (41, .int .i64 (k : Int))]) (fun k w1 => k ≤ (bm cs).length ∧ Mod [] w w1 ∧ Mod [] wH w1) (fun k => (bm cs).length - k) (0) ⟨rfl, rfl, rfl, rfl, rfl, rfl, trivial⟩ (⟨by omega, E, Eh⟩) ?_
      rintro k w10 ⟨hk, E, Eh⟩
      refine c_seq fun K15 hK15 => ?_
      refine c_region ?_
      refine sv (o_lss rfl rfl) rfl ?_
      refine l_nil ?_
      refine e_K (hK15 _ _ _ _ ?_)
      refine c_seq fun K16 hK16 => ?_
      refine c_if rfl (fun h42 => ?_) (fun h42 => ?_)
      · skip
        have hlt : k < (bm cs).length := by omega
        obtain ⟨x, hx_x⟩ : ∃ x, ((bm cs))[k]? = some x := ⟨_, List.getElem?_eq_getElem (by omega)⟩
        obtain ⟨a_x, u_x, ha_x, hcs_x, R_x⟩ := ndD_at RV0 hx_x
        replace hcs_x := hcs_x.mod0 Eh
        obtain rfl := ha_x
        obtain ⟨a1_x, c1_x, rfl, h1_x, h2_x⟩ := flat_len R_x
        refine c_skip ?_
        refine e_K (hK16 _ _ _ _ ?_)
        refine c_seq fun K17 hK17 => ?_
        refine c_block ?_
        refine c_seq fun K18 hK18 => ?_
        refine c_region ?_
        refine sv (o_ix sl30 rfl rfl (by omega)) rfl ?_
        refine sv (o_lda ag42 rfl rfl hcs_x) rfl ?_
        refine s_alloc zv42 rfl fun g1 w11 N1 => ?_
        have Lg1_E := N1.le E
        have Lg1_Eh := N1.le Eh
        replace E := E.then N1.mod
        replace Eh := Eh.then N1.mod
        have Bg1 := N1.blk
        refine s_sta (vs := [_, _]) ag42 Bg1 rfl rfl rfl (by simp [Value.oneCell']) (by simp) fun w12 P12 => ?_
        replace E := E.own P12.mod Lg1_E
        replace Eh := Eh.own P12.mod Lg1_Eh
        replace Bg1 : Blk w12 g1 _ [_, _] := P12.blk
        refine l_nil ?_
        refine e_K (hK18 _ _ _ _ ?_)
        refine c_seq fun K19 hK19 => ?_
        refine c_region ?_
        refine sv (o_mv rfl) rfl ?_
        refine sv (o_len Try.underlying23 rfl) rfl ?_
        refine sv (o_mv rfl) rfl ?_
        refine l_nil ?_
        refine e_K (hK19 _ _ _ _ ?_)
        refine c_block ?_
        refine c_loop (σ := Nat) (fun j => [(5, .pointer (some ⟨g, 0, none⟩)), (6, .slice (some a_x) (bm cs).length cr), (9, .slice adh (heads (bm cs)).length ch), (39, .slice (some a_x) (bm cs).length cr), (40, .int .i64 (bm cs).length), (41, .int .i64 (k : Int)), (11, .pointer (some ⟨g1, 0, none⟩)), (45, .slice adh (heads (bm cs)).length ch), (46, .int .i64 (heads (bm cs)).length), (47, .int .i64 (j : Int))]) (fun j w1 => j ≤ (heads (bm cs)).length ∧ Blk w1 g1 42 [S x.1, .slice a1_x x.2.length c1_x] ∧ Mod [] w w1 ∧ Mod [] wH w1) (fun j => (heads (bm cs)).length - j) (0) ⟨rfl, rfl, rfl, rfl, rfl, rfl, rfl, rfl, rfl, rfl, trivial⟩ (⟨by omega, Bg1, E, Eh⟩) ?_
        rintro j w13 ⟨hj, Bg1, E, Eh⟩
        refine c_seq fun K20 hK20 => ?_
        refine c_region ?_
        refine sv (o_lss rfl rfl) rfl ?_
        refine l_nil ?_
        refine e_K (hK20 _ _ _ _ ?_)
        refine c_seq fun K21 hK21 => ?_
        refine c_if rfl (fun h48 => ?_) (fun h48 => ?_)
        · skip
          have hlt2 : j < (heads (bm cs)).length := by omega
          obtain ⟨y, hx_y⟩ : ∃ y, (heads (bm cs))[j]? = some y := ⟨_, List.getElem?_eq_getElem (by omega)⟩
          obtain ⟨a_y, ha_y, hcs_y, _⟩ := flat_at (RH.to0 Eh) hx_y
          subst ha_y
          have hyh := List.mem_of_getElem? hx_y
          refine c_skip ?_
          refine e_K (hK21 _ _ _ _ ?_)
          refine c_seq fun K22 hK22 => ?_
          refine c_block ?_
          refine c_seq fun K23 hK23 => ?_
          refine c_region ?_
          refine sv (o_ix sl23 rfl rfl (by omega)) rfl ?_
          refine sv (o_ld sc9 rfl hcs_y.c0) rfl ?_
          refine sv (o_as rfl) rfl ?_
          refine l_nil ?_
          refine e_K (hK23 _ _ _ _ ?_)
          refine c_seq fun K24 hK24 => ?_
          by_cases hk54 : y = x.1
          · skip
            have hn54 : ¬ y ≠ x.1 := fun h => h hk54
            refine c_region ?_
            refine sv (o_mv rfl) rfl ?_
            refine sv (o_fa0 fd42_0 rfl) rfl ?_
            refine sv (o_ld sc9 rfl (Bg1.cell rfl)) rfl ?_
            refine sv (o_sne rfl rfl) rfl ?_
            refine sv (o_mv rfl) rfl ?_
            refine sn rfl (fun e_ => absurd ((decide_eq_false hn54).symm.trans e_) (by decide)) rfl ?_
            refine sn rfl (fun e_ => absurd ((decide_eq_false hn54).symm.trans e_) (by decide)) rfl ?_
            refine sn rfl (fun e_ => absurd ((decide_eq_false hn54).symm.trans e_) (by decide)) rfl ?_
            refine sn rfl (fun e_ => absurd ((decide_eq_false hn54).symm.trans e_) (by decide)) rfl ?_
            refine sn rfl (fun e_ => absurd ((decide_eq_false hn54).symm.trans e_) (by decide)) rfl ?_
            refine sn rfl (fun e_ => absurd ((decide_eq_false hn54).symm.trans e_) (by decide)) rfl ?_
            refine sn rfl (fun e_ => absurd ((decide_eq_false hn54).symm.trans e_) (by decide)) rfl ?_
            refine sv (o_pickF (decide_eq_false hn54) rfl rfl) rfl ?_
            refine l_nil ?_
            refine e_K (hK24 _ _ _ _ ?_)
            refine c_false rfl ?_
            refine c_skip ?_
            refine e_in (by simp) ?_
            refine e_K (hK22 _ _ _ _ ?_)
            refine c_region ?_
            refine sv (o_addN rfl rfl (by omega)) rfl ?_
            refine sv (o_mv rfl) rfl ?_
            refine l_nil ?_
            exact e_round (σ := Nat) (s := j) (j + 1) ⟨rfl, rfl, rfl, rfl, rfl, rfl, rfl, rfl, rfl, rfl, trivial⟩ ⟨by omega, Bg1, E, Eh⟩ (by first | omega | (dsimp only; omega))
          · skip
            have hn54 : y ≠ x.1 := hk54
            refine c_region ?_
            refine sv (o_mv rfl) rfl ?_
            refine sv (o_fa0 fd42_0 rfl) rfl ?_
            refine sv (o_ld sc9 rfl (Bg1.cell rfl)) rfl ?_
            refine sv (o_sne rfl rfl) rfl ?_
            refine sv (o_mv rfl) rfl ?_
            refine sg rfl (decide_eq_true hn54) (o_mv rfl) rfl ?_
            refine sg rfl (decide_eq_true hn54) (o_fa0 fd42_0 rfl) rfl ?_
            refine sg rfl (decide_eq_true hn54) (o_ld sc9 rfl (Bg1.cell rfl)) rfl ?_
            refine sgw rfl (decide_eq_true hn54) ?_
            refine s_bslice (cs := [_]) sl23 zv9 rfl rfl rfl (by decide) rfl fun g2 w14 N2 => ?_
            have Lg2_E := N2.le E
            have Lg2_Eh := N2.le Eh
            have Dg1_g2 := N2.ne Bg1
            replace Bg1 := Bg1.mod0 N2.mod
            replace E := E.then N2.mod
            replace Eh := Eh.then N2.mod
            have Bg2 := N2.blk
            refine sgc rfl (decide_eq_true hn54) (o_call ent16 rfl) (c_Past [] _ g bA bB _ (G.mod0 Eh) [x.1] _ (OwnS.rep [] (OwnS.to (l' := [x.1]) (Own.all (sz := 1) (c := 1) (cs := [_]) Bg2 rfl (by omega)) rfl rfl) (by simp [ob])) (by rw [List.length_singleton]; omega)) rfl fun v_ w15 h_ => ?_
            obtain ⟨OP2, LP2, E_⟩ := h_
            replace Bg1 := Bg1.mod0 E_
            replace Bg2 := Bg2.mod0 E_
            replace E := E.then E_
            replace Eh := Eh.then E_
            refine sg rfl (decide_eq_true hn54) (o_mv rfl) rfl ?_
            refine sgc rfl (decide_eq_true hn54) (o_call ent18 rfl) (g_in _ (past (bm cs) [x.1]) _ (OwnS.rep [] OP2 (by simp)) y) rfl fun v_ w16 h_ => ?_
            obtain ⟨h62, E_⟩ := h_
            replace Bg1 := Bg1.mod0 E_
            replace Bg2 := Bg2.mod0 E_
            replace E := E.then E_
            replace Eh := Eh.then E_
            obtain rfl : v_ = .bool false := h62.trans (by rw [decide_eq_false (head_not_past W hyh hk54)])
            refine sv (o_pickT (decide_eq_true hn54) rfl rfl) rfl ?_
            refine l_nil ?_
            refine e_K (hK24 _ _ _ _ ?_)
            refine c_false rfl ?_
            refine c_skip ?_
            refine e_in (by simp) ?_
            refine e_K (hK22 _ _ _ _ ?_)
            refine c_region ?_
            refine sv (o_addN rfl rfl (by omega)) rfl ?_
            refine sv (o_mv rfl) rfl ?_
            refine l_nil ?_
            exact e_round (σ := Nat) (s := j) (j + 1) ⟨rfl, rfl, rfl, rfl, rfl, rfl, rfl, rfl, rfl, rfl, trivial⟩ ⟨by omega, Bg1, E, Eh⟩ (by first | omega | (dsimp only; omega))
        · skip
          refine c_exit ?_
          refine e_then (by simp) ?_
          refine e_then (by simp) ?_
          refine e_hit ?_
          refine e_in (by simp) ?_
          refine e_K (hK17 _ _ _ _ ?_)
          refine c_region ?_
          refine sv (o_addN rfl rfl (by omega)) rfl ?_
          refine sv (o_mv rfl) rfl ?_
          refine l_nil ?_
          exact e_round (σ := Nat) (s := k) (k + 1) ⟨rfl, rfl, rfl, rfl, rfl, rfl, trivial⟩ ⟨by omega, E, Eh⟩ (by first | omega | (dsimp only; omega))
      · skip
        refine c_exit ?_
        refine e_then (by simp) ?_
        refine e_then (by simp) ?_
        refine e_hit ?_
        refine e_K (hK13 _ _ _ _ ?_)
        refine c_seq fun K25 hK25 => ?_
        by_cases hk68 : (((bm cs).length : Nat) : Int) = 0
        · skip
          refine c_region ?_
          refine sv (o_mv rfl) rfl ?_
          refine sv (o_len Try.underlying30 rfl) rfl ?_
          refine sv (o_eql rfl rfl) rfl ?_
          refine sv (o_mv rfl) rfl ?_
          refine sn rfl (fun e_ => absurd ((decide_eq_true hk68).symm.trans e_) (by decide)) rfl ?_
          refine sn rfl (fun e_ => absurd ((decide_eq_true hk68).symm.trans e_) (by decide)) rfl ?_
          refine sn rfl (fun e_ => absurd ((decide_eq_true hk68).symm.trans e_) (by decide)) rfl ?_
          refine sn rfl (fun e_ => absurd ((decide_eq_true hk68).symm.trans e_) (by decide)) rfl ?_
          refine snu rfl rfl rfl ?_
          refine snu rfl rfl rfl ?_
          refine snu rfl rfl rfl ?_
          refine snu rfl rfl rfl ?_
          refine snu rfl rfl rfl ?_
          refine snu rfl rfl rfl ?_
          refine snu rfl rfl rfl ?_
          refine sn rfl (fun e_ => absurd ((decide_eq_true hk68).symm.trans e_) (by decide)) rfl ?_
          refine sv (o_pickT (decide_eq_true hk68) rfl rfl) rfl ?_
          refine sv (o_as rfl) rfl ?_
          refine l_nil ?_
          refine e_K (hK25 _ _ _ _ ?_)
          refine c_ret ?_
          exact ret1 rfl rfl ⟨rfl, E⟩
        · skip
          have hpos := heads_pos W (fun e => hk68 (by rw [e]; rfl))
          have hgt : (((heads (bm cs)).length : Nat) : Int) > 0 := by omega
          refine c_region ?_
          refine sv (o_mv rfl) rfl ?_
          refine sv (o_len Try.underlying30 rfl) rfl ?_
          refine sv (o_eql rfl rfl) rfl ?_
          refine sv (o_mv rfl) rfl ?_
          refine sg rfl (decide_eq_false hk68) (o_mv rfl) rfl ?_
          refine sg rfl (decide_eq_false hk68) (o_len Try.underlying23 rfl) rfl ?_
          refine sg rfl (decide_eq_false hk68) ((o_gtr rfl rfl).to (v' := .bool true) (congrArg Value.bool (decide_eq_true hgt))) rfl ?_
          refine sg rfl (decide_eq_false hk68) (o_mv rfl) rfl ?_
          refine sg rfl (rfl) (o_mv rfl) rfl ?_
          refine sg rfl (rfl) (o_mv rfl) rfl ?_
          refine sgc rfl (rfl) (o_call ent16 rfl) (c_Past [] _ g bA bB _ (G.mod0 Eh) (heads (bm cs)) _ (RH.to0 Eh) (by have h2 := bm_len cs; have h3 := hCF.len; have h4 := heads_le (bm cs); omega)) rfl fun v_ w17 h_ => ?_
          obtain ⟨OP, LP, E_⟩ := h_
          replace E := E.then E_
          replace Eh := Eh.then E_
          obtain ⟨adp, cp, rfl, hp1, hp2⟩ := Own.form OP
          refine sg rfl (rfl) (o_len Try.underlying23 rfl) rfl ?_
          refine sg rfl (rfl) (o_mv rfl) rfl ?_
          refine sg rfl (rfl) (o_len Try.underlying30 rfl) rfl ?_
          refine sg rfl (rfl) ((o_eql rfl rfl).to (v' := .bool true) (by rw [past_heads W]; simp)) rfl ?_
          refine sg rfl (decide_eq_false hk68) (o_pickT (rfl) rfl rfl) rfl ?_
          refine sv (o_pickF (decide_eq_false hk68) rfl rfl) rfl ?_
          refine sv (o_as rfl) rfl ?_
          refine l_nil ?_
          refine e_K (hK25 _ _ _ _ ?_)
          refine c_ret ?_
          exact ret1 rfl rfl ⟨rfl, E⟩
end Go.Proofs.Ythmohmpalbnjoaa.V

set_option linter.unusedVariables false
set_option linter.unusedSimpArgs false
namespace Go.Proofs.Ythmohmpalbnjoaa.V
open Go
theorem Reach.two {m : Gm} {a b x : Str} (r : Reach m [a, b] x) : Reach m [a] x ∨ Reach m [b] x := by
  induction r with
  | base h1 h2 =>
    rcases List.mem_cons.1 h1 with h | h
    · exact .inl (.base (by simp [h]) h2)
    · exact .inr (.base h h2)
  | step _ hx ih => exact ih.imp (fun r => .step r hx) (fun r => .step r hx)
theorem past_two {m : Gm} (h : GWf m) (a b : Str) : setS (past m [a] ++ past m [b]) = past m [a, b] :=
  setS_eq (past_asc _ _) fun x => by
    rw [List.mem_append, past_mem h, past_mem h, past_mem h]
    exact ⟨fun r => r.elim (fun r => r.mono fun y hy hk => .base (by simp at hy; simp [hy]) hk) (fun r => r.mono fun y hy hk => .base (by simp at hy; simp [hy]) hk), Reach.two⟩
theorem past_none {m : Gm} (h : GWf m) {a : Str} (ha : a ∉ m.keys) : past m [a] = [] :=
  List.eq_nil_iff_forall_not_mem.2 fun x hx => by
    have r := (past_mem h).1 hx
    clear hx
    induction r with
    | base h1 h2 => exact ha (by simp at h1; exact h1 ▸ h2)
    | step _ _ ih => exact ih
def accP (m : Gm) (a : Str) (l : List Str) : List Str := (l.flatMap fun x => past m [x]).foldl withS [a]
theorem accP_snoc (m : Gm) (a : Str) (l : List Str) (x : Str) : accP m a (l ++ [x]) = (past m [x]).foldl withS (accP m a l) := by
  unfold accP
  rw [List.flatMap_append, List.foldl_append]
  simp
theorem accP_mem {m : Gm} {a x : Str} {l : List Str} : x ∈ accP m a l ↔ x = a ∨ ∃ y ∈ l, x ∈ past m [y] := by
  unfold accP
  rw [foldS_mem, List.mem_flatMap]
  simp
theorem accQ_len {m : Gm} (h : GWf m) {a : Str} (ha : a ∈ m.keys) {l r : List Str} (hr : ∀ x ∈ r, x ∈ m.keys) : (r.foldl withS (accP m a l)).length ≤ m.length := by
  have h1 : ascS (accP m a l) := foldS_asc (by simp [ascS])
  have h2 := nodup_len (ascS_nodup (foldS_asc (m := r) h1)) (k := m.keys) fun x hx => by
    rcases foldS_mem.1 hx with h3 | h3
    · rcases accP_mem.1 h3 with h4 | ⟨y, _, h4⟩
      · exact h4 ▸ ha
      · exact ((past_mem h).1 h4).key h
    · exact hr x h3
  simpa [Gm.keys] using h2
theorem past_keys {m : Gm} (h : GWf m) {l : List Str} {x : Str} (hx : x ∈ past m l) : x ∈ m.keys := ((past_mem h).1 hx).key h
theorem Reach.one {m : Gm} (h : GWf m) {a x : Str} (r : Reach m [a] x) : x = a ∨ ∃ y ∈ m.ahd a, Reach m [y] x := by
  induction r with
  | base h1 h2 => exact .inl (by simpa using h1)
  | @step x z r hx ih =>
    rcases ih with h1 | ⟨y, hy, h1⟩
    · exact .inr ⟨x, h1 ▸ hx, .base (by simp) ((r.step hx).key h)⟩
    · exact .inr ⟨y, hy, .step h1 hx⟩
theorem past_one {m : Gm} (h : GWf m) {a : Str} (ha : a ∈ m.keys) : past m [a] = accP m a (m.ahd a) :=
  ascS_ext (past_asc _ _) (foldS_asc (by simp [ascS])) fun x => by
    rw [past_mem h, accP_mem]
    constructor
    · intro r
      exact (Reach.one h r).imp id fun ⟨y, hy, r⟩ => ⟨y, hy, (past_mem h).2 r⟩
    · intro r
      rcases r with rfl | ⟨y, hy, hp⟩
      · exact .base (by simp) ha
      · exact ((past_mem h).1 hp).mono fun z hz _ => by
          simp at hz
          subst hz
          exact .step (.base (by simp) ha) hy
theorem foldS_succ {l o : List Str} {k : Nat} {x : Str} (h : l[k]? = some x) : (l.take (k + 1)).foldl withS o = withS ((l.take k).foldl withS o) x := by
  rw [take_succ_snoc h, List.foldl_append]; rfl
theorem setS_succ {l : List Str} {k : Nat} {x : Str} (h : l[k]? = some x) : setS (l.take (k + 1)) = withS (setS (l.take k)) x := foldS_succ h
end Go.Proofs.Ythmohmpalbnjoaa.V
