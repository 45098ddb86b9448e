/-
  A part of the proof: walks of functions, and the plain laws of what they compute. No condition of its own.
-/
import Derived.Test.YtccjjkdogljmpaaV7
set_option linter.unusedVariables false
set_option linter.unusedSimpArgs false
namespace Go.Proofs.Ytccjjkdogljmpaa.V
open Go
section
variable {P : Program} {ops : Array Oper} {Q : Exit → Act → World → Prop} {n : Nat} {ds : List Deferred} {l : List (Nat × Value)} {M : List (Nat × (Value → World → Prop))} {w w' : World} {a : Act}
variable {rest : List Oper} {d : Nat} {op : Op} {ty : TypeId} {pos : String} {af : Array Edge} {Fin : Kn → Prop} {j : Nat} {want b : Bool}

/-! ## Guarded operations -/
def gv (ops : Array Oper) (l : List (Nat × Value)) (j : Nat) : Option Bool := match (ops[j]?).bind (·.dst) with
  | some t => match lk t l with
    | some (.bool b) => some b
    | _ => none
  | none => none
theorem gv_spec (h : gv ops l j = some b) : ∃ t, (ops[j]?).bind (·.dst) = some t ∧ lk t l = some (.bool b) := by
  unfold gv at h
  split at h
  · rename_i t ht
    split at h
    · rename_i b' hb
      injection h with h
      subst h
      exact ⟨t, ht, hb⟩
    · cases h
  · cases h
theorem yielded_of (ha : Has n ds l a) (h : gv ops l j = some b) : yielded ops a.tmps j = some b := by
  obtain ⟨t, h1, h2⟩ := gv_spec h
  unfold yielded
  rw [h1]
  simp [ha.get t _ h2]
theorem sg {v : Value} (hg : gv ops l j = some b) (hb : b = want) (hr : Runs P l ⟨some d, op, ty, pos, af, some (j, want)⟩ w v w') (hd : Nat.blt d n = true) (h : WL P ops Q rest n ds ((d, v) :: l) w') :
    WL P ops Q (⟨some d, op, ty, pos, af, some (j, want)⟩ :: rest) n ds l w := by
  intro a ha
  refine wpList_step fun K hK => ?_
  have hw : Region.wanted ⟨some d, op, ty, pos, af, some (j, want)⟩ (yielded ops a.tmps) = true := by
    simp [Region.wanted, yielded_of ha hg, hb]
  rw [if_pos hw]
  have := hr a.eval (fun x u hx => ha.ev hx)
  simp only [Oper.wp, this, Oper.upon]
  exact hK _ _ (h _ (ha.put hd v))
theorem sgc {f : FuncId} {args : Array Value} {φ : Value → World → Prop} (hg : gv ops l j = some b) (hb : b = want) (hr : RunsC P l ⟨some d, op, ty, pos, af, some (j, want)⟩ w f args) (hc : Calls P f args w (Ret φ)) (hd : Nat.blt d n = true) (h : ∀ v w', φ v w' → WL P ops Q rest n ds ((d, v) :: l) w') :
    WL P ops Q (⟨some d, op, ty, pos, af, some (j, want)⟩ :: rest) n ds l w := by
  intro a ha
  refine wpList_step fun K hK => ?_
  have hw : Region.wanted ⟨some d, op, ty, pos, af, some (j, want)⟩ (yielded ops a.tmps) = true := by
    simp [Region.wanted, yielded_of ha hg, hb]
  rw [if_pos hw]
  have := hr a.eval (fun x u hx => ha.ev hx)
  simp only [Oper.wp, this, Oper.upon]
  refine hc.mono fun e w' he => ?_
  cases e with
  | returned v => exact hK _ _ (h v w' he _ (ha.put hd v))
  | panicked c => exact he.elim
  | outgrown => exact he.elim
theorem sn (hg : gv ops l j = some b) (hb : b ≠ want) (hd : Nat.blt d n = true) (h : WL P ops Q rest n ds ((d, undef) :: l) w) :
    WL P ops Q (⟨some d, op, ty, pos, af, some (j, want)⟩ :: rest) n ds l w := by
  intro a ha
  refine wpList_step fun K hK => ?_
  have hw : ¬ (Region.wanted ⟨some d, op, ty, pos, af, some (j, want)⟩ (yielded ops a.tmps) = true) := by
    simp [Region.wanted, yielded_of ha hg, hb]
  rw [if_neg hw]
  exact hK _ _ (h _ (ha.put hd undef))

/-! .. in regions that draw -/
theorem wanted_at {a : Act} {w1 : World} {o : Oper} (ho : o.guard = some (j, want)) (hg : gv ops l j = some b) (hN : Kn.on ops (kn l M) o a w1) : Region.wanted o (yielded ops a.tmps) = (b == want) := by
  obtain ⟨t, h1, h2⟩ := gv_spec hg
  have hlook : t ∈ Oper.looksAt ops o := by
    unfold Oper.looksAt
    rw [ho]
    exact List.mem_append_right _ (by simp [h1])
  have := hN t (fun u _ => u = .bool b) hlook (by simp [kn, h2])
  have hlt : t < a.tmps.size := by
    rcases Nat.lt_or_ge t a.tmps.size with h | h
    · exact h
    · simp [Array.getElem?_eq_none h] at this
      cases this
  simp [hlt] at this
  have hy : yielded ops a.tmps j = some b := by
    unfold yielded
    rw [h1]
    simp [hlt, this]
  simp [Region.wanted, ho, hy]
theorem J_g {V : Value → World → Prop} (hg : gv ops l j = some b) (hb : b = want) (h : J P ops (Mod []) (Mod [] w) n (kn l M) ⟨some d, op, ty, pos, af, none⟩ V) : J P ops (Mod []) (Mod [] w) n (kn l M) ⟨some d, op, ty, pos, af, some (j, want)⟩ V := by
  refine ⟨h.lasts, h.fits, fun a w1 hC hN => ?_⟩
  have hw := wanted_at (o := ⟨some d, op, ty, pos, af, some (j, want)⟩) rfl hg hN
  rw [hw, hb]
  simp only [beq_self_eq_true, if_true]
  have := h.run a w1 hC (fun t U ht hU => hN t U (by
    unfold Oper.looksAt at ht ⊢
    simp only [List.append_nil] at ht
    exact List.mem_append_left _ ht) hU)
  rw [if_pos (by simp [Region.wanted])] at this
  exact this
theorem J_n (hg : gv ops l j = some b) (hb : b ≠ want) (hd : Nat.blt d n = true) : J P ops (Mod []) (Mod [] w) n (kn l M) ⟨some d, op, ty, pos, af, some (j, want)⟩ (fun u _ => u = undef) := by
  refine ⟨fun _ _ _ _ h => h, fun d' hd' => by injection hd' with hd'; subst hd'; simpa [Nat.blt_eq] using hd, fun a w1 hC hN => ?_⟩
  have hw := wanted_at (o := ⟨some d, op, ty, pos, af, some (j, want)⟩) rfl hg hN
  have : (b == want) = false := by simp [hb]
  rw [hw, this]
  simp
theorem tvg {v : Value} (hg : gv ops l j = some b) (hb : b = want) (hr : ∀ w1, Mod [] w w1 → Runs P l ⟨some d, op, ty, pos, af, none⟩ w1 v w1) (hd : Nat.blt d n = true) (hs : notSel op = true) (h : TWL P ops w n Fin rest ((d, v) :: l) M) :
    TWL P ops w n Fin (⟨some d, op, ty, pos, af, some (j, want)⟩ :: rest) l M := by
  refine ⟨fun u _ => u = v, J_g hg hb (J_of (fun _ _ _ _ h => h) hd hs fun ρ w1 hC h1 h2 => ?_), ?_⟩
  · rw [hr w1 hC ρ h1]; exact ⟨Mod.refl [] w1, rfl⟩
  · rw [kn_put_v rfl]; exact h
theorem tcg {f : FuncId} {args : Array Value} {v : Value} (hg : gv ops l j = some b) (hb : b = want) (hr : ∀ w1, Mod [] w w1 → RunsC P l ⟨some d, op, ty, pos, af, none⟩ w1 f args) (hc : ∀ w1, Mod [] w w1 → Calls P f args w1 (Ret fun u w2 => u = v ∧ Mod [] w1 w2)) (hd : Nat.blt d n = true) (hs : notSel op = true) (h : TWL P ops w n Fin rest ((d, v) :: l) M) :
    TWL P ops w n Fin (⟨some d, op, ty, pos, af, some (j, want)⟩ :: rest) l M := by
  refine ⟨fun u _ => u = v, J_g hg hb (J_of (fun _ _ _ _ h => h) hd hs fun ρ w1 hC h1 h2 => ?_), ?_⟩
  · rw [hr w1 hC ρ h1]
    exact ⟨rfl, (hc w1 hC).mono fun e w2 he => by cases e <;> first | exact ⟨he.2, he.1⟩ | exact he⟩
  · rw [kn_put_v rfl]; exact h
theorem tcrg {f : FuncId} {args : Array Value} (V : Value → World → Prop) (hV : ∀ v w1 w2, Mod [] w1 w2 → V v w1 → V v w2) (hg : gv ops l j = some b) (hb : b = want) (hr : ∀ w1, Mod [] w w1 → RunsC P l ⟨some d, op, ty, pos, af, none⟩ w1 f args) (hc : ∀ w1, Mod [] w w1 → Calls P f args w1 (Ret fun u w2 => V u w2 ∧ Mod [] w1 w2)) (hd : Nat.blt d n = true) (hs : notSel op = true) (hl : lk d l = none)
    (h : TWL P ops w n Fin rest l ((d, V) :: M)) : TWL P ops w n Fin (⟨some d, op, ty, pos, af, some (j, want)⟩ :: rest) l M := by
  refine ⟨V, J_g hg hb (J_of hV hd hs fun ρ w1 hC h1 h2 => ?_), ?_⟩
  · rw [hr w1 hC ρ h1]
    exact ⟨rfl, (hc w1 hC).mono fun e w2 he => by cases e <;> first | exact ⟨he.2, he.1⟩ | exact he⟩
  · rw [kn_put_r rfl hl]; exact h
theorem tn (hg : gv ops l j = some b) (hb : b ≠ want) (hd : Nat.blt d n = true) (h : TWL P ops w n Fin rest ((d, undef) :: l) M) :
    TWL P ops w n Fin (⟨some d, op, ty, pos, af, some (j, want)⟩ :: rest) l M :=
  ⟨fun u _ => u = undef, J_n hg hb hd, by rw [kn_put_v rfl]; exact h⟩

/-! ## A call's begin and end -/
def argL (i : Nat) : List Value → List (Nat × Value)
  | [] => []
  | v :: r => (i, v) :: argL (i + 1) r
theorem argL_get : ∀ (vs : List Value) (i t : Nat) (v : Value), lk t (argL i vs) = some v → i ≤ t ∧ vs[t - i]? = some v
  | [], _, _, _, h => by simp [argL, lk] at h
  | u :: r, i, t, v, h => by
    simp only [argL, lk] at h
    cases hb : Nat.beq i t with
    | true =>
      rw [hb] at h
      have := Nat.eq_of_beq_eq_true hb
      subst this
      exact ⟨Nat.le_refl _, by simpa using h⟩
    | false =>
      rw [hb] at h
      obtain ⟨h1, h2⟩ := argL_get r (i + 1) t v h
      refine ⟨by omega, ?_⟩
      rw [show t - i = (t - (i + 1)) + 1 by omega]
      simpa using h2
theorem enter {f : FuncId} {fn : Func} {c : Code} {vs : List Value} {R : Ending → World → Prop} (hf : P.funcs[f]? = some fn) (hb : fn.body = some c) (hn : fn.ntmps = n) (hle : Nat.ble vs.length n = true) (hs : Sub (argL 0 vs) l)
    (h : WC P c (bodyPost P fn R) n [] l w) : Calls P f vs.toArray w R := by
  have hle' : vs.length ≤ n := by simpa using hle
  have ha : Has n [] (argL 0 vs) { tmps := vs.toArray ++ Array.replicate (fn.ntmps - vs.toArray.size) undef, defers := [] } := by
    refine ⟨by rw [Array.size_append, Array.size_replicate, List.size_toArray, hn]; omega, rfl, fun t v hv => ?_⟩
    obtain ⟨_, h2⟩ := argL_get vs 0 t v hv
    rw [Nat.sub_zero] at h2
    have hlt := (List.getElem?_eq_some_iff.1 h2).1
    dsimp only
    rw [Array.getElem?_append_left (by simpa using hlt)]
    simpa using h2
  exact calls_of_wp hf hb (h _ (ha.sub hs))
variable {fn : Func} {φ : Value → World → Prop} {t t' t'' : Nat} {v v' v'' : Value}
theorem getD_lk (ha : Has n ds l a) (h : lk t l = some v) : a.tmps.getD t undef = v := by simp [ha.get t v h]
theorem ret0 (hr : fn.results = #[]) (h : φ (.tuple #[]) w) : WE (bodyPost P fn (Ret φ)) .ret n [] l w := fun a ha => ⟨ha.defers, _, results_none hr _ _ _, h⟩
theorem end0 (hr : fn.results = #[]) (h : φ (.tuple #[]) w) : WE (bodyPost P fn (Ret φ)) .normal n [] l w := fun a ha => ⟨ha.defers, _, results_none hr _ _ _, h⟩
theorem ret1 (hr : fn.results = #[.tmp t]) (hv : lk t l = some v) (h : φ v w) : WE (bodyPost P fn (Ret φ)) .ret n [] l w := fun a ha => ⟨ha.defers, _, results_tmp hr _ _ _, by rw [getD_lk ha hv]; exact h⟩
theorem ret2 (hr : fn.results = #[.tmp t, .tmp t']) (hv : lk t l = some v) (hv' : lk t' l = some v') (h : φ (.tuple #[v, v']) w) : WE (bodyPost P fn (Ret φ)) .ret n [] l w := fun a ha => ⟨ha.defers, _, results_tmp2 hr _ _ _, by rw [getD_lk ha hv, getD_lk ha hv']; exact h⟩
theorem ret3 (hr : fn.results = #[.tmp t, .tmp t', .tmp t'']) (hv : lk t l = some v) (hv' : lk t' l = some v') (hv'' : lk t'' l = some v'') (h : φ (.tuple #[v, v', v'']) w) : WE (bodyPost P fn (Ret φ)) .ret n [] l w := fun a ha =>
  ⟨ha.defers, .tuple #[v, v', v''], by simp [results, hr, ha.get _ _ hv, ha.get _ _ hv', ha.get _ _ hv''], h⟩
/-- a struct or an array is the result -/
theorem retc {ad : Addr} {vs : List Value} {T c : Nat} (hr : fn.results = #[.cell t T]) (ht : agB P T c = true) (hv : lk t l = some (.pointer (some ad))) (hc : vs.length = c) (hcs : Cs w ad vs) (h : φ (.agg vs.toArray) w) : WE (bodyPost P fn (Ret φ)) .ret n [] l w := fun a ha =>
  ⟨ha.defers, .agg vs.toArray, by simp [results, hr, ha.get _ _ hv, asAddr, run_loadVar_ag ht hc hcs], h⟩
theorem retct {ad : Addr} {vs : List Value} {T c : Nat} (hr : fn.results = #[.cell t T, .tmp t']) (ht : agB P T c = true) (hv : lk t l = some (.pointer (some ad))) (hc : vs.length = c) (hcs : Cs w ad vs) (hv' : lk t' l = some v') (h : φ (.tuple #[.agg vs.toArray, v']) w) : WE (bodyPost P fn (Ret φ)) .ret n [] l w := fun a ha =>
  ⟨ha.defers, .tuple #[.agg vs.toArray, v'], by simp [results, hr, ha.get _ _ hv, ha.get _ _ hv', asAddr, run_loadVar_ag ht hc hcs], h⟩
theorem retctt {ad : Addr} {vs : List Value} {T c : Nat} (hr : fn.results = #[.cell t T, .tmp t', .tmp t'']) (ht : agB P T c = true) (hv : lk t l = some (.pointer (some ad))) (hc : vs.length = c) (hcs : Cs w ad vs) (hv' : lk t' l = some v') (hv'' : lk t'' l = some v'') (h : φ (.tuple #[.agg vs.toArray, v', v'']) w) : WE (bodyPost P fn (Ret φ)) .ret n [] l w := fun a ha =>
  ⟨ha.defers, .tuple #[.agg vs.toArray, v', v''], by simp [results, hr, ha.get _ _ hv, ha.get _ _ hv', ha.get _ _ hv'', asAddr, run_loadVar_ag ht hc hcs], h⟩
/-- a result that lives in a variable -/
theorem retv {ad : Addr} {T : Nat} (hr : fn.results = #[.cell t T]) (ht : scB P T = true) (hv : lk t l = some (.pointer (some ad))) (hc : w.cell? ad = some v) (h : φ v w) : WE (bodyPost P fn (Ret φ)) .ret n [] l w := fun a ha =>
  ⟨ha.defers, v, by simp [results, hr, ha.get _ _ hv, asAddr, run_loadVar_sc ht hc], h⟩
end
end Go.Proofs.Ytccjjkdogljmpaa.V
