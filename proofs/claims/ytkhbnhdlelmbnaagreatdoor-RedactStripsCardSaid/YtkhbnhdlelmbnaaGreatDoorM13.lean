/-
  A part of the proof: a slice that is read, as the source of an append, in every later world alike; names of servers, users, rooms and keys in plain Lean: the runes of a text of one kind, and its bytes. No condition of its own.
-/
import Derived.Test.YtkhbnhdlelmbnaaGreatDoorM12
import Derived.Test.YtkhbnhdlelmbnaaGreatDoorM3
import Derived.Lib.LaidTab
import Derived.Test.YtkhbnhdlelmbnaaGreatDoorM4
import Derived.Lib.IndexMore
import Derived.Lib.Strings
import Derived.Laws.Runes
import Derived.Scope
import Derived.Shelf.Small.Wraps
import Derived.Shelf.Strings.Search1
import Derived.Shelf.Strings.Search2
import Derived.Shelf.Strings.Cut
import Derived.Shelf.Strings.Shaped
import Derived.Shelf.Strings.Runes
import Derived.Test.YtkhbnhdlelmbnaaGreatDoorProg
set_option linter.unusedVariables false
set_option linter.unusedSimpArgs false
set_option maxRecDepth 10000
namespace Go.Proofs.YtkhbnhdlelmbnaaGreatDoor.V
open Go Go.Proofs

section
variable {H : Type} {enc : TypeId × Value → H} {w : World}
theorem opn_jv (n : Nat) : OpnN enc Tryz.prog w n 25 JV.D JV.ok := by
  induction n using Nat.strongRecOn with
  | ind n ih =>
    cases n with
    | zero => exact OpnN.zero
    | succ n =>
      have hl : OpnN enc Tryz.prog w n 22 (fun xs : List JV => [.sl 6 (xs.map JV.D)]) (fun xs => (∀ x ∈ xs, x.ok) ∧ xs.length * 88 ≤ 140737488351232) := by
        cases n with
        | zero => exact OpnN.zero
        | succ n => exact opn_slice Tryz.underlying22 (by kernel_rfl) (by kernel_rfl) (by decide) (ih n (by omega))
      have hm : OpnN enc Tryz.prog w n 23 (fun xs : List (List UInt8 × JV) => [.sl 7 (xs.map JV.Dp)]) (fun xs => (∀ x ∈ xs, x.1.length ≤ 140737488351232 ∧ x.2.ok) ∧ xs.length * 104 ≤ 140737488351232) := by
        cases n with
        | zero => exact OpnN.zero
        | succ n =>
          refine opn_slice Tryz.underlying23 (by kernel_rfl) (by kernel_rfl) (by decide) ?_
          cases n with
          | zero => exact OpnN.zero
          | succ n =>
            exact OpnN.to (opn_struct (tot := 7) Tryz.underlying41 (by kernel_rfl) (opn_cons (k := 1) rfl (by kernel_rfl) (opn_str Tryz.underlying9) (opn_cons (k := 6) rfl (by kernel_rfl) (ih n (by omega)) opn_nil))) (fun p => (p.1, p.2.1)) (fun p => by simp [JV.Dp]) (fun p h => ⟨h.1, h.2.1⟩)
      refine OpnN.to (opn_struct (tot := 6) Tryz.underlying25 (by kernel_rfl) (opn_cons (k := 1) rfl (by kernel_rfl) (opn_int Tryz.underlying3) (opn_cons (k := 1) rfl (by kernel_rfl) (opn_bool Tryz.underlying4) (opn_cons (k := 1) rfl (by kernel_rfl) (opn_int Tryz.underlying3) (opn_cons (k := 1) rfl (by kernel_rfl) (opn_str Tryz.underlying9) (opn_cons (k := 1) rfl (by kernel_rfl) hl (opn_cons (k := 1) rfl (by kernel_rfl) hm opn_nil))))))) (fun p => JV.mk p.1 p.2.1 p.2.2.1 p.2.2.2.1 p.2.2.2.2.1 p.2.2.2.2.2.1) (fun p => by rw [JV.D_eq]; rfl) (fun p h => ?_)
      obtain ⟨h1, h2, h3, h4, h5, h6, _⟩ := h
      rw [JV.ok_eq]
      refine ⟨h4, ?_, ?_, h5.1, h6.1⟩
      · have := h5.2; show p.2.2.2.2.1.length ≤ _; omega
      · have := h6.2; show p.2.2.2.2.2.1.length ≤ _; omega
theorem opn_strs (n : Nat) : OpnN enc Tryz.prog w n 26 (fun xs : List Str => [strD xs]) (fun xs => (∀ x ∈ xs, x.length ≤ 140737488351232) ∧ xs.length * 16 ≤ 140737488351232) := by
  cases n with
  | zero => exact OpnN.zero
  | succ n => exact opn_slice Tryz.underlying26 (by kernel_rfl) (by kernel_rfl) (by decide) (opn_str Tryz.underlying9)
theorem opn_sig (n : Nat) : OpnN enc Tryz.prog w n 43 (fun x : Sig3 => (Sig3.cells x).map D.v) (fun x => x.srv.length ≤ 140737488351232 ∧ x.key.length ≤ 140737488351232 ∧ x.sig.length ≤ 140737488351232) := by
  cases n with
  | zero => exact OpnN.zero
  | succ n => exact OpnN.to (opn_struct (tot := 3) Tryz.underlying43 (by kernel_rfl) (opn_cons (k := 1) rfl (by kernel_rfl) (opn_str Tryz.underlying9) (opn_cons (k := 1) rfl (by kernel_rfl) (opn_str Tryz.underlying9) (opn_cons (k := 1) rfl (by kernel_rfl) (opn_str Tryz.underlying9) opn_nil)))) (fun p => ⟨p.1, p.2.1, p.2.2.1⟩) (fun _ => rfl) (fun p h => ⟨h.1, h.2.1, h.2.2.1⟩)
theorem opn_sigs (n : Nat) : OpnN enc Tryz.prog w n 27 (fun xs : List Sig3 => [flat 3 Sig3.cells xs]) (fun xs => (∀ x ∈ xs, x.srv.length ≤ 140737488351232 ∧ x.key.length ≤ 140737488351232 ∧ x.sig.length ≤ 140737488351232) ∧ xs.length * 48 ≤ 140737488351232) := by
  cases n with
  | zero => exact OpnN.zero
  | succ n => exact opn_slice Tryz.underlying27 (by kernel_rfl) (by kernel_rfl) (by decide) (opn_sig n)
theorem opn_ev (n : Nat) : OpnN enc Tryz.prog w n 29 EV.D EV.ok := by
  cases n with
  | zero => exact OpnN.zero
  | succ n =>
    refine OpnN.to (opn_struct (tot := 17) Tryz.underlying29 (by kernel_rfl) (opn_cons (k := 1) rfl (by kernel_rfl) (opn_str Tryz.underlying9) (opn_cons (k := 1) rfl (by kernel_rfl) (opn_str Tryz.underlying9) (opn_cons (k := 1) rfl (by kernel_rfl) (opn_str Tryz.underlying9) (opn_cons (k := 1) rfl (by kernel_rfl) (opn_bool Tryz.underlying4) (opn_cons (k := 1) rfl (by kernel_rfl) (opn_str Tryz.underlying9) (opn_cons (k := 6) rfl (by kernel_rfl) (opn_jv n) (opn_cons (k := 1) rfl (by kernel_rfl) (opn_strs n) (opn_cons (k := 1) rfl (by kernel_rfl) (opn_strs n) (opn_cons (k := 1) rfl (by kernel_rfl) (opn_int Tryz.underlying3) (opn_cons (k := 1) rfl (by kernel_rfl) (opn_int Tryz.underlying3) (opn_cons (k := 1) rfl (by kernel_rfl) (opn_str Tryz.underlying9) (opn_cons (k := 1) rfl (by kernel_rfl) (opn_sigs n) opn_nil))))))))))))) (fun p => EV.mk p.1 p.2.1 p.2.2.1 p.2.2.2.1 p.2.2.2.2.1 p.2.2.2.2.2.1 p.2.2.2.2.2.2.1 p.2.2.2.2.2.2.2.1 p.2.2.2.2.2.2.2.2.1 p.2.2.2.2.2.2.2.2.2.1 p.2.2.2.2.2.2.2.2.2.2.1 p.2.2.2.2.2.2.2.2.2.2.2.1) (fun p => ?_) (fun p h => ?_)
    · simp only [EV.D, List.cons_append, List.nil_append, List.append_nil, List.append_assoc]
    · obtain ⟨h1, h2, h3, _, h5, h6, h7, h8, _, _, h11, h12, _⟩ := h
      exact ⟨h1, h2, h3, h5, h6, h7.1, by have := h7.2; dsimp only; omega, h8.1, by have := h8.2; dsimp only; omega, h11, h12.1, by have := h12.2; dsimp only; omega⟩

end
theorem tab_third {P : Program} {W : World} {name n1 n2 : String} {d1 d2 : DataW Unit} {k : IntKind} {zs : List Int} {rest : List (String × DataW Unit)} {g : Nat} {t e : TypeId} {n : Nat}
    (hg : P.globalNamed name = some g) (hty : (P.globals[g]?).map (·.type) = some t) (ht : P.underlying t = some (.array n e)) (he : P.underlying e = some (.int k)) (hce : P.cellsOf e = 1) (hct : P.cellsOf t = n)
    (h : laidMet P ((n1, d1) :: (n2, d2) :: (name, Lib.tabData k zs) :: rest) W) : Lib.TabIs P W name k zs := by
  obtain ⟨ps, ⟨_, _, _, _, _, _, _, _, _, _, ⟨_, _, _, _, _, _, _, _, _, _, ⟨g', t', cs, fuel, p, q, hg', ht', hvar, hd, _, _⟩, _⟩, _⟩, _⟩ := h
  obtain rfl := Option.some.inj (hg.symm.trans hg')
  obtain rfl := Option.some.inj (hty.symm.trans ht')
  unfold Lib.TabIs
  rw [hvar, ← Lib.cells_of_tab ht he hce hct hd]
theorem tabOf {W : World} {n1 n2 : String} {d1 d2 : DataW Unit} (h : laidMet Tryz.prog [(n1, d1), (n2, d2), ("internal/strconv.uint64pow10", Lib.tabData .u64 Lib.pow10Tab)] W) : Tab W :=
  tab_third (t := 160) (n := 20) (e := 102) gPow (by kernel_rfl) Tryz.underlying160 Tryz.underlying102 (by kernel_rfl) (by kernel_rfl) h
end Go.Proofs.YtkhbnhdlelmbnaaGreatDoor.V

set_option linter.unusedVariables false
set_option linter.unusedSimpArgs false
namespace Go.Proofs.YtkhbnhdlelmbnaaGreatDoor.V
open Go
section
variable {P : Program} {A : List Nat} {w : World}
theorem RepRows.cells_ {sz : Nat} {ad : Addr} : ∀ (i : Nat) (rws : List (List D)), RepRows A w sz ad i rws → ∃ vs, Reps A w rws.flatten vs ∧ vs.length = rws.length * sz ∧ ∀ j u, vs[j]? = some u → w.cell? (ad.add (i * sz + j)) = some u
  | _, [], _ => ⟨[], rfl, by simp, fun j u hu => by simp at hu⟩
  | i, r :: rs, hh => by
    simp only [RepRows] at hh
    obtain ⟨hl, hrow, hrest⟩ := hh
    obtain ⟨us, hu1, hu2⟩ := hrow.cells
    obtain ⟨vs, hv1, hv2, hv3⟩ := RepRows.cells_ (i + 1) rs hrest
    refine ⟨us ++ vs, by simp only [List.flatten_cons]; exact hu1.append hv1, by simp [hu1.length, hl, hv2, Nat.add_mul]; omega, fun j u hj => ?_⟩
    rw [List.getElem?_append] at hj
    have hul : us.length = sz := by rw [hu1.length, hl]
    split at hj
    · have := hu2 j u hj
      rwa [Nat.zero_add, Addr.add_add] at this
    · rename_i hge
      have := hv3 _ u hj
      rwa [show (i + 1) * sz + (j - us.length) = i * sz + j by rw [Nat.add_mul, hul]; rw [hul] at hge; omega] at this
theorem Src.rep0 {tx e' sz : Nat} {rows : List (List D)} {v : Value} (hk : P.underlying tx = some (.slice e')) (h : Rep A w (.sl sz rows) v) : ∃ vs, Reps A w rows.flatten vs ∧ vs.length = rows.length * sz ∧ ∀ w', Mod [] w w' → Src P sz tx v rows.length vs w' := by
  cases hrows : rows with
  | nil =>
    subst hrows
    simp only [Rep] at h
    obtain ⟨ad, c, rfl, h2, h3, h4⟩ := h
    refine ⟨[], rfl, by simp, fun w' _ => ?_⟩
    cases ad with
    | none => exact Src.ofNil w' hk c
    | some ad => exact Src.ofSlice w' hk ad 0 c [] (by simp) (fun j u hu => by simp at hu) (fun u hu => by cases hu)
  | cons r0 rs =>
    rw [← hrows]
    simp only [Rep] at h
    obtain ⟨ad, c, rfl, h2, h3, h4⟩ := h
    obtain ⟨ad, rfl, hA, hb, hr⟩ := h4 (by simp [hrows])
    obtain ⟨vs, hv1, hv2, hv3⟩ := RepRows.cells_ 0 rows hr
    have hC : Cs w ad vs := fun j u hu => by have := hv3 j u hu; rwa [Nat.zero_mul, Nat.zero_add] at this
    exact ⟨vs, hv1, hv2, fun w' k => Src.ofSlice w' hk ad _ c vs hv2 (hC.mod0 k) hv1.one⟩
end
end Go.Proofs.YtkhbnhdlelmbnaaGreatDoor.V

set_option linter.unusedVariables false
set_option linter.unusedSimpArgs false
namespace Go.Proofs.YtkhbnhdlelmbnaaGreatDoor.V
open Go
theorem atL_at {s : Str} {p : Nat} {b : UInt8} (h : s[p]? = some b) : atL (s.drop p) 0 = b.toNat := by
  unfold atL
  rw [List.getD_eq_getElem?_getD, List.getElem?_drop, Nat.add_zero, h]
  rfl
theorem dec_lt {s : Str} {p : Nat} {b : UInt8} (h : s[p]? = some b) (hb : b.toNat < 128) : Utf8.decode ⟨⟨s⟩⟩ p = (b.toNat, 1) := by
  rw [decode_eq]
  unfold decL
  rw [atL_at h, if_pos (by omega)]
theorem dec_ge {s : Str} {p : Nat} {b : UInt8} (h : s[p]? = some b) (hb : 128 ≤ b.toNat) : ∃ c m, Utf8.decode ⟨⟨s⟩⟩ p = (c, m) ∧ 128 ≤ c ∧ c ≤ 1114111 ∧ ¬ (55296 ≤ c ∧ c ≤ 57343) := by
  have hlt := (List.getElem?_eq_some_iff.1 h).1
  rw [decode_eq]
  rcases ok_all (dec_at hlt) with ⟨_, h2⟩ | ⟨h1, h2, h3, h4, h5, h6⟩
  · exact ⟨65533, 1, h2, by omega, by omega, by omega⟩
  · refine ⟨_, _, h2, ?_, h4, h5⟩
    rcases Nat.lt_or_ge (runeR (s.drop p)).1 128 with hc | hc
    · exfalso
      unfold encL at h3
      rw [if_pos hc] at h3
      have hl : s.drop p = b :: s.drop (p + 1) := by
        rw [List.drop_eq_getElem_cons hlt]
        congr 1
        exact (List.getElem?_eq_some_iff.1 h).2
      rw [hl] at h3 h1
      cases hm : (runeR (b :: s.drop (p + 1))).2 with
      | zero => exact h1 hm
      | succ m =>
        rw [hm, List.take_succ_cons] at h3
        simp only [List.map_cons, List.cons.injEq] at h3
        rw [hl] at hc
        omega
    · exact hc
/-- has a text a byte or more, all of a kind? -/
def allB (q : Nat → Bool) (s : Str) : Bool := decide (s ≠ []) && s.all (fun b => q b.toNat)
theorem all_succ {q : Nat → Bool} {s : Str} {p : Nat} {b : UInt8} (h : s[p]? = some b) (ha : (s.take p).all (fun b => q b.toNat) = true) (hb : q b.toNat = true) : (s.take (p + 1)).all (fun b => q b.toNat) = true := by
  have hlt := (List.getElem?_eq_some_iff.1 h).1
  rw [List.take_succ_eq_append_getElem hlt, (List.getElem?_eq_some_iff.1 h).2, List.all_append, ha]
  simp [hb]
theorem allB_no {q : Nat → Bool} {s : Str} {p : Nat} {b : UInt8} (h : s[p]? = some b) (hb : q b.toNat = false) : allB q s = false := by
  unfold allB
  have : s.all (fun b => q b.toNat) = false := by
    rw [List.all_eq_false]
    exact ⟨b, List.mem_of_getElem? h, by simp [hb]⟩
  rw [this, Bool.and_false]
theorem allB_yes {q : Nat → Bool} {s : Str} {p : Nat} (hp : s.length ≤ p) (ha : (s.take p).all (fun b => q b.toNat) = true) : allB q s = decide (s ≠ []) := by
  unfold allB
  rw [List.take_of_length_le hp] at ha
  rw [ha, Bool.and_true]
theorem allB_congr {q r : Nat → Bool} (h : ∀ b : UInt8, q b.toNat = r b.toNat) (s : Str) : allB q s = allB r s := by
  unfold allB
  congr 1
  induction s with
  | nil => rfl
  | cons b s ih => simp only [List.all_cons, ih, h b]
def kS (c : Nat) : Bool := decide (97 ≤ (c : Int)) && decide ((c : Int) ≤ 122)
def kG (c : Nat) : Bool := decide (65 ≤ (c : Int)) && decide ((c : Int) ≤ 90)
def kD (c : Nat) : Bool := decide (48 ≤ (c : Int)) && decide ((c : Int) ≤ 57)
abbrev userS : Str := [46, 95, 61, 45, 47, 43]
def qServer (c : Nat) : Bool := kS c || kD c || decide ((c : Int) = 46) || decide ((c : Int) = 45)
def qUser (c : Nat) : Bool := kS c || kD c || userS.any (fun b => decide (b.toNat = c))
def qRoom (c : Nat) : Bool := kS c || kG c || kD c || decide ((c : Int) = 95) || decide ((c : Int) = 45)
def qKey (c : Nat) : Bool := kS c || kG c || kD c || decide ((c : Int) = 95)
theorem qServer_lt (c : Nat) (h : qServer c = true) : c < 128 := by
  simp only [qServer, kS, kD, Bool.or_eq_true, Bool.and_eq_true, decide_eq_true_eq] at h
  omega
theorem kD_lt (c : Nat) (h : kD c = true) : c < 128 := by
  simp only [kD, Bool.and_eq_true, decide_eq_true_eq] at h
  omega
theorem qUser_lt (c : Nat) (h : qUser c = true) : c < 128 := by
  simp [qUser, kS, kD] at h
  omega
theorem qRoom_lt (c : Nat) (h : qRoom c = true) : c < 128 := by
  simp only [qRoom, kS, kG, kD, Bool.or_eq_true, Bool.and_eq_true, decide_eq_true_eq] at h
  omega
theorem qKey_lt (c : Nat) (h : qKey c = true) : c < 128 := by
  simp only [qKey, kS, kG, kD, Bool.or_eq_true, Bool.and_eq_true, decide_eq_true_eq] at h
  omega
/-! ### the first colon -/
def colonAt (s : Str) : Nat := s.findIdx (fun b => b == 58)
theorem colon_le (s : Str) : colonAt s ≤ s.length := List.findIdx_le_length
theorem index_colon (s : Str) : Lib.index s [58] = if colonAt s < s.length then (colonAt s : Int) else -1 := by
  induction s with
  | nil => rfl
  | cons b s ih =>
    unfold Lib.index
    rw [ih]
    have hp : ([58] : Str).isPrefixOf (b :: s) = (b == 58) := by
      simp only [List.isPrefixOf, Bool.and_true]
      rw [Bool.eq_iff_iff]
      simp only [beq_iff_eq]
      exact ⟨Eq.symm, Eq.symm⟩
    rw [hp]
    have hl := colon_le s
    cases hb : b == 58 with
    | true => simp [colonAt, List.findIdx_cons, hb]
    | false =>
      have : colonAt (b :: s) = colonAt s + 1 := by simp [colonAt, List.findIdx_cons, hb]
      rw [this]
      by_cases h : colonAt s < s.length
      · have e1 : ((colonAt s : Int) == -1) = false := by rw [beq_eq_false_iff_ne]; omega
        have e2 : colonAt s + 1 < (b :: s).length := by simp only [List.length_cons]; omega
        simp only [if_pos h, e1, if_pos e2, Bool.false_eq_true, if_false]
        omega
      · have e2 : ¬ colonAt s + 1 < (b :: s).length := by simp only [List.length_cons]; omega
        simp only [if_neg h, if_neg e2, Bool.false_eq_true, if_false]
        rfl
theorem cut_colon (s : Str) : Lib.cut s [58] = if colonAt s < s.length then (s.take (colonAt s), s.drop (colonAt s + 1), true) else (s, [], false) := by
  unfold Lib.cut
  rw [index_colon]
  by_cases h : colonAt s < s.length
  · rw [if_pos h, if_pos h, if_pos (by omega)]
    simp
  · rw [if_neg h, if_neg h, if_neg (by omega)]
def serverB (s : Str) : Bool :=
  allB qServer (s.take (colonAt s)) && decide (s.length ≤ 255) && (decide (colonAt s = s.length) || (decide (s.length - colonAt s ≤ 6) && allB kD (s.drop (colonAt s + 1))))
def namedB (sign : UInt8) (q : Nat → Bool) (s : Str) : Bool :=
  decide (s.length ≤ 255) && decide (colonAt s < s.length) && decide (s.head? = some sign) && allB q ((s.take (colonAt s)).drop 1) && serverB (s.drop (colonAt s + 1))
abbrev edS : Str := [101, 100, 50, 53, 53, 49, 57, 58]
def keyB (s : Str) : Bool := decide (s.length ≤ 255) && decide (s.take 8 = edS) && allB qKey (s.drop 8)
/-! ### control: a scope that is not jumped about in -/
section
variable {P : Program} {Q : Exit → Act → World → Prop} {n : Nat} {ds : List Deferred} {l : List (Nat × Value)} {w : World}
theorem c_scope {c : Code} (h : WC P c (Exit.noGoto Q) n ds l w) : WC P (.scope c) Q n ds l w := fun a ha => wp_scope_straight (h a ha)
theorem e_scope {e : Exit} (he : ∀ j, e ≠ .goto j) (h : WE Q e n ds l w) : WE (Exit.noGoto Q) e n ds l w := fun a ha => by
  have := h a ha
  cases e <;> first | exact this | exact absurd rfl (he _)
variable {t t' : TypeId} {ty : TypeId} {pos : String} {af : Array Edge} {dd : Option Nat} {gg : Option (Nat × Bool)} {x y : Operand} {ops : Array Oper} {rest : List Oper} {d : Nat}
theorem o_r2s {d0 : TypeDesc} {c : Nat} {k : IntKind} (hs : P.underlying t = some d0) (ht : P.underlying t' = some .string) (hx : evO l x = some (.int k (c : Int))) : Runs P l ⟨dd, .convert t t' x, ty, pos, af, gg⟩ w (.string (Utf8.encode c)) w := fun ρ h => by
  have h1 := run_convert_int_string (P := P) w t t' k (c : Int) (by rw [hs]; rfl) ht
  simp only [execOp, h _ _ hx, Sem.run_bind, h1, Result.andThen, Sem.run_pure]
end
/-- the bytes of a rune of 128 or more: two or more, the last of them 128 or more -/
theorem enc_last {c : Nat} (h1 : c ≤ 1114111) (h2 : ¬ (55296 ≤ c ∧ c ≤ 57343)) (h : 128 ≤ c) : ∃ rs : Str, Utf8.encode (c : Int) = ⟨⟨rs⟩⟩ ∧ 2 ≤ rs.length ∧ rs.length ≤ 4 ∧ ∃ b, rs[rs.length - 1]? = some b ∧ 128 ≤ b.toNat := by
  obtain ⟨f1, f2, f3⟩ := encode_facts (c : Int) (by rw [valid_nat]; simp; omega) (by omega)
  generalize Utf8.encode (c : Int) = e at f1 f2 f3 ⊢
  obtain ⟨⟨rs⟩⟩ := e
  have hs : (⟨⟨rs⟩⟩ : ByteArray).size = rs.length := rfl
  rw [hs] at f1 f2
  have hl : rs.length - 1 < rs.length := by omega
  exact ⟨rs, rfl, f1, f2, rs[rs.length - 1], List.getElem?_eq_getElem hl, f3 hl⟩
theorem indexByte_none {s : Str} {b : UInt8} (h : ∀ x ∈ s, x.toNat < 128) (hb : 128 ≤ b.toNat) : Lib.indexByte s b = -1 := by
  induction s with
  | nil => rfl
  | cons c s ih =>
    have hc := h c (by simp)
    have hne : (c == b) = false := by
      rw [beq_eq_false_iff_ne]
      intro e
      subst e
      omega
    unfold Lib.indexByte
    rw [hne, ih fun x hx => h x (by simp [hx])]
    rfl
theorem indexByte_mem (s : Str) (c : Nat) (hc : c < 128) : decide (0 ≤ Lib.indexByte s c.toUInt8) = s.any (fun b => decide (b.toNat = c)) := by
  induction s with
  | nil => rfl
  | cons b s ih =>
    unfold Lib.indexByte
    rw [List.any_cons, ← ih]
    have he : (b == c.toUInt8) = decide (b.toNat = c) := by
      rw [Bool.eq_iff_iff]
      simp only [beq_iff_eq, decide_eq_true_eq]
      have hn : c.toUInt8.toNat = c := by
        show (UInt8.ofNat c).toNat = c
        exact UInt8.toNat_ofNat_of_lt' (by have : c < 256 := by omega
                                           exact this)
      constructor
      · intro e; rw [e, hn]
      · intro e; exact UInt8.toNat_inj.1 (by rw [hn, e])
    rw [he]
    have hr : Lib.indexByte s c.toUInt8 = -1 ∨ 0 ≤ Lib.indexByte s c.toUInt8 := by
      clear ih he
      induction s with
      | nil => exact .inl rfl
      | cons x s ih =>
        unfold Lib.indexByte
        split
        · exact .inr (by omega)
        · split
          · exact .inl rfl
          · rename_i h
            rcases ih with h1 | h1
            · rw [h1] at h; simp at h
            · exact .inr (by omega)
    by_cases hb : b.toNat = c
    · simp [hb]
    · simp only [hb, decide_false, Bool.false_eq_true, if_false, Bool.false_or]
      rcases hr with h | h
      · rw [h]; rfl
      · have e1 : (Lib.indexByte s c.toUInt8 == -1) = false := by rw [beq_eq_false_iff_ne]; omega
        rw [e1, decide_eq_true h]
        simp only [Bool.false_eq_true, if_false]
        exact decide_eq_true (by omega)
end Go.Proofs.YtkhbnhdlelmbnaaGreatDoor.V

namespace Go.Proofs
open Go.Shelf
def Tryz.lays137_ren : Go.Shelf.Ren := ⟨fun | 137 => 146 | 217 => 159 | 266 => 166 | n => n, fun | 9 => 9 | 5 => 5 | 3 => 3 | n => n, fun | n => n⟩
theorem Tryz.lays137 : Go.Proofs.Lays.n137 Tryz.prog Tryz.lays137_ren := {
  mixed := by kernel_rfl
  f137 := Tryz.func146.trans (congrArg some (by kernel_rfl))
  f217 := Tryz.func159.trans (congrArg some (by kernel_rfl))
  f266 := Tryz.func166.trans (congrArg some (by kernel_rfl))
  t3 := Tryz.underlying3
  a3 := Tryz.isAgg3
  z3 := Tryz.sizeOf3
  v3 := Tryz.zeroValue3
  t5 := Tryz.underlying5
  a5 := Tryz.isAgg5
  z5 := Tryz.sizeOf5
  v5 := Tryz.zeroValue5
  t9 := Tryz.underlying9
  a9 := Tryz.isAgg9
  z9 := Tryz.sizeOf9
  v9 := Tryz.zeroValue9 }
open Go.RowKit in
theorem Tryz.strings_IndexByte (s : ByteArray) (c : Int) (w : World) :
    Calls Tryz.prog 146 #[.string s, .int .u8 c] w fun e w' => e = .returned (.int .i64 (Lib.indexByte s.data.toList c.toNat.toUInt8)) ∧ w' = w := Any.strings_IndexByte Tryz.lays137 s c w
def Tryz.lays103_ren : Go.Shelf.Ren := ⟨fun | 103 => 138 | 210 => 151 | 206 => 150 | n => n, fun | 9 => 9 | 4 => 4 | 24 => 140 | 3 => 3 | n => n, fun | n => n⟩
theorem Tryz.lays103 : Go.Proofs.Lays.n103 Tryz.prog Tryz.lays103_ren := {
  mixed := by kernel_rfl
  f103 := Tryz.func138.trans (congrArg some (by kernel_rfl))
  f206 := Tryz.func150.trans (congrArg some (by kernel_rfl))
  f210 := Tryz.func151.trans (congrArg some (by kernel_rfl))
  t3 := Tryz.underlying3
  a3 := Tryz.isAgg3
  z3 := Tryz.sizeOf3
  v3 := Tryz.zeroValue3
  t4 := Tryz.underlying4
  a4 := Tryz.isAgg4
  z4 := Tryz.sizeOf4
  v4 := Tryz.zeroValue4
  t9 := Tryz.underlying9
  a9 := Tryz.isAgg9
  z9 := Tryz.sizeOf9
  v9 := Tryz.zeroValue9
  t24 := Tryz.underlying140
  a24 := Tryz.isAgg140
  z24 := Tryz.sizeOf140
  v24 := Tryz.zeroValue140 }
open Go.RowKit in
theorem Tryz.strings_CutPrefix (s p : ByteArray) (w : World) :
    Calls Tryz.prog 138 #[.string s, .string p] w fun e w' => e = .returned (.tuple #[.string ⟨(Lib.trimPrefix s.data.toList p.data.toList).toArray⟩, .bool (Lib.hasPrefix s.data.toList p.data.toList)]) ∧ w' = w := Any.strings_CutPrefix Tryz.lays103 s p w
def Tryz.lays145_ren : Go.Shelf.Ren := ⟨fun | 145 => 133 | 220 => 145 | 219 => 158 | 217 => 159 | 225 => 149 | 224 => 148 | 267 => 165 | 266 => 166 | 314 => 169 | n => n, fun | 9 => 9 | 4 => 4 | 59 => 132 | 3 => 3 | 5 => 5 | 46 => 74 | 146 => 164 | 51 => 77 | n => n, fun | 1 => 1 | n => n⟩
theorem Tryz.lays145 : Go.Proofs.Lays.n145 Tryz.prog Tryz.lays145_ren := {
  mixed := by kernel_rfl
  f145 := Tryz.func133.trans (congrArg some (by kernel_rfl))
  f217 := Tryz.func159.trans (congrArg some (by kernel_rfl))
  f219 := Tryz.func158.trans (congrArg some (by kernel_rfl))
  f220 := Tryz.func145.trans (congrArg some (by kernel_rfl))
  f224 := Tryz.func148.trans (congrArg some (by kernel_rfl))
  f225 := Tryz.func149.trans (congrArg some (by kernel_rfl))
  f266 := Tryz.func166.trans (congrArg some (by kernel_rfl))
  f267 := Tryz.func165.trans (congrArg some (by kernel_rfl))
  f314 := Tryz.func169.trans (congrArg some (by kernel_rfl))
  t3 := Tryz.underlying3
  a3 := Tryz.isAgg3
  z3 := Tryz.sizeOf3
  v3 := Tryz.zeroValue3
  t4 := Tryz.underlying4
  a4 := Tryz.isAgg4
  z4 := Tryz.sizeOf4
  v4 := Tryz.zeroValue4
  t5 := Tryz.underlying5
  a5 := Tryz.isAgg5
  z5 := Tryz.sizeOf5
  v5 := Tryz.zeroValue5
  t9 := Tryz.underlying9
  a9 := Tryz.isAgg9
  z9 := Tryz.sizeOf9
  v9 := Tryz.zeroValue9
  t46 := Tryz.underlying74
  a46 := Tryz.isAgg74
  z46 := Tryz.sizeOf74
  v46 := Tryz.zeroValue74
  t51 := Tryz.underlying77
  a51 := Tryz.isAgg77
  z51 := Tryz.sizeOf77
  v51 := Tryz.zeroValue77
  t59 := Tryz.underlying132
  a59 := Tryz.isAgg132
  z59 := Tryz.sizeOf132
  v59 := Tryz.zeroValue132
  t146 := Tryz.underlying164
  a146 := Tryz.isAgg164
  z146 := Tryz.sizeOf164
  v146 := Tryz.zeroValue164
  g1 := by kernel_rfl }
open Go.RowKit Go.Lib in
theorem Tryz.strings_Cut (s sep : ByteArray) (m : Int) (w : World) (hs : s.size < 4294967281) (hm : w.cell? ⟨1, 0, none⟩ = some (.int .i64 m)) :
    Calls Tryz.prog 133 #[.string s, .string sep] w fun e w' => e = .returned (.tuple #[.string ⟨(Lib.cut s.data.toList sep.data.toList).1.toArray⟩, .string ⟨(Lib.cut s.data.toList sep.data.toList).2.1.toArray⟩, .bool (Lib.cut s.data.toList sep.data.toList).2.2]) ∧ ∃ n, w' = w.drewN n := Any.strings_Cut Tryz.lays145 s sep m w hs hm
def Tryz.laysM145_ren : Go.Shelf.Ren := ⟨fun | 145 => 133 | 220 => 145 | 219 => 158 | 217 => 159 | 225 => 149 | 224 => 148 | 267 => 165 | 266 => 166 | 314 => 169 | n => n, fun | 9 => 9 | 4 => 4 | 59 => 132 | 3 => 3 | 5 => 5 | 46 => 74 | 146 => 164 | 51 => 77 | n => n, fun | 1 => 1 | n => n⟩
theorem Tryz.laysM145 : Go.Proofs.LaysM.n145 Tryz.prog Tryz.laysM145_ren := {
  mixed := by kernel_rfl
  f145 := Tryz.func133.trans (congrArg some (by kernel_rfl))
  f217 := Tryz.func159.trans (congrArg some (by kernel_rfl))
  f219 := Tryz.func158.trans (congrArg some (by kernel_rfl))
  f220 := Tryz.func145.trans (congrArg some (by kernel_rfl))
  f224 := Tryz.func148.trans (congrArg some (by kernel_rfl))
  f225 := Tryz.func149.trans (congrArg some (by kernel_rfl))
  f266 := Tryz.func166.trans (congrArg some (by kernel_rfl))
  f267 := Tryz.func165.trans (congrArg some (by kernel_rfl))
  f314 := Tryz.func169.trans (congrArg some (by kernel_rfl))
  t3 := Tryz.underlying3
  a3 := Tryz.isAgg3
  z3 := Tryz.sizeOf3
  v3 := Tryz.zeroValue3
  t4 := Tryz.underlying4
  a4 := Tryz.isAgg4
  z4 := Tryz.sizeOf4
  v4 := Tryz.zeroValue4
  t5 := Tryz.underlying5
  a5 := Tryz.isAgg5
  z5 := Tryz.sizeOf5
  v5 := Tryz.zeroValue5
  t9 := Tryz.underlying9
  a9 := Tryz.isAgg9
  z9 := Tryz.sizeOf9
  v9 := Tryz.zeroValue9
  t46 := Tryz.underlying74
  a46 := Tryz.isAgg74
  z46 := Tryz.sizeOf74
  v46 := Tryz.zeroValue74
  t51 := Tryz.underlying77
  a51 := Tryz.isAgg77
  z51 := Tryz.sizeOf77
  v51 := Tryz.zeroValue77
  t59 := Tryz.underlying132
  a59 := Tryz.isAgg132
  z59 := Tryz.sizeOf132
  v59 := Tryz.zeroValue132
  t146 := Tryz.underlying164
  a146 := Tryz.isAgg164
  z146 := Tryz.sizeOf164
  v146 := Tryz.zeroValue164
  g1 := by kernel_rfl
  i3 := by kernel_rfl
  i4 := by kernel_rfl
  i5 := by kernel_rfl
  i9 := by kernel_rfl
  i46 := by kernel_rfl
  i51 := by kernel_rfl
  i59 := by kernel_rfl
  i146 := by kernel_rfl
  m1 := by kernel_rfl
  s1_3 := fun w h => Go.Proofs.cell_of_shapedOpen_int (zero := #[.int .i64 0]) (t := 3) h (of_decide_eq_true (by kernel_rfl)) (by kernel_rfl) rfl (by kernel_rfl) (by kernel_rfl) Tryz.underlying3 }
def Tryz.lays151_ren : Go.Shelf.Ren := ⟨fun | 151 => 122 | 152 => 135 | 137 => 146 | 119 => 147 | 224 => 148 | 225 => 149 | 217 => 159 | 266 => 166 | n => n, fun | 9 => 9 | 21 => 21 | 4 => 4 | 3 => 3 | 5 => 5 | 0 => 0 | 46 => 74 | n => n, fun | n => n⟩
theorem Tryz.lays151 : Go.Proofs.Lays.n151 Tryz.prog Tryz.lays151_ren := {
  mixed := by kernel_rfl
  f119 := Tryz.func147.trans (congrArg some (by kernel_rfl))
  f137 := Tryz.func146.trans (congrArg some (by kernel_rfl))
  f151 := Tryz.func122.trans (congrArg some (by kernel_rfl))
  f152 := Tryz.func135.trans (congrArg some (by kernel_rfl))
  f217 := Tryz.func159.trans (congrArg some (by kernel_rfl))
  f224 := Tryz.func148.trans (congrArg some (by kernel_rfl))
  f225 := Tryz.func149.trans (congrArg some (by kernel_rfl))
  f266 := Tryz.func166.trans (congrArg some (by kernel_rfl))
  t0 := Tryz.underlying0
  a0 := Tryz.isAgg0
  z0 := Tryz.sizeOf0
  v0 := Tryz.zeroValue0
  t3 := Tryz.underlying3
  a3 := Tryz.isAgg3
  z3 := Tryz.sizeOf3
  v3 := Tryz.zeroValue3
  t4 := Tryz.underlying4
  a4 := Tryz.isAgg4
  z4 := Tryz.sizeOf4
  v4 := Tryz.zeroValue4
  t5 := Tryz.underlying5
  a5 := Tryz.isAgg5
  z5 := Tryz.sizeOf5
  v5 := Tryz.zeroValue5
  t9 := Tryz.underlying9
  a9 := Tryz.isAgg9
  z9 := Tryz.sizeOf9
  v9 := Tryz.zeroValue9
  t21 := Tryz.underlying21
  a21 := Tryz.isAgg21
  z21 := Tryz.sizeOf21
  v21 := Tryz.zeroValue21
  t46 := Tryz.underlying74
  a46 := Tryz.isAgg74
  z46 := Tryz.sizeOf74
  v46 := Tryz.zeroValue74 }
open Go.RowKit Go.Lib in
theorem Tryz.strings_ContainsRune_ascii (s : ByteArray) (r : Int) (w : World) (h0 : 0 ≤ r) (h1 : r < 128) :
    Calls Tryz.prog 122 #[.string s, .int .i32 r] w fun e w' => e = .returned (.bool (decide (0 ≤ Lib.indexByte s.data.toList r.toNat.toUInt8))) ∧ w' = w := Any.strings_ContainsRune_ascii Tryz.lays151 s r w h0 h1
end Go.Proofs

namespace Go.Proofs.YtkhbnhdlelmbnaaGreatDoor.V
open Go Go.Proofs
/-- the variable that the search reads holds a number -/
def MaxL (w : World) : Prop := ∃ m, w.cell? ⟨1, 0, none⟩ = some (.int .i64 m)
theorem MaxL.of_ {W : World} (h : W.ShapedOpen Tryz.prog) : MaxL W := Tryz.laysM145.s1_3 W h
theorem MaxL.mod0 {w w' : World} (h : MaxL w) (k : Mod [] w w') : MaxL w' := by
  obtain ⟨m, hm⟩ := h
  refine ⟨m, ?_⟩
  have hlt : 1 < w.heap.size := by
    rcases Nat.lt_or_ge 1 w.heap.size with hl | hl
    · exact hl
    · unfold World.cell? at hm
      rw [Array.getElem?_eq_none hl] at hm
      cases hm
  unfold World.cell? at hm ⊢
  rw [k.block 1 hlt (by simp)]
  exact hm
theorem drewN_mod (w : World) (n : Nat) : Mod [] w (w.drewN n) := ⟨rfl, rfl, rfl, Nat.le_refl _, fun _ _ _ => rfl⟩
theorem c_cut (w : World) (s : Str) (hs : s.length < 4294967281) (hM : MaxL w) : Calls Tryz.prog 133 [S s, S [58]].toArray w (Ret fun u w' => u = .tuple #[S (Lib.cut s [58]).1, S (Lib.cut s [58]).2.1, .bool (Lib.cut s [58]).2.2] ∧ Mod [] w w') := by
  obtain ⟨m, hm⟩ := hM
  refine (Tryz.strings_Cut ⟨⟨s⟩⟩ ⟨⟨[58]⟩⟩ m w hs hm).mono fun e w' he => ?_
  obtain ⟨rfl, n, rfl⟩ := he
  exact ⟨rfl, drewN_mod w n⟩
theorem c_cutp (w : World) (s p : Str) : Calls Tryz.prog 138 [S s, S p].toArray w (Ret fun u w' => u = .tuple #[S (Lib.trimPrefix s p), .bool (Lib.hasPrefix s p)] ∧ Mod [] w w') := by
  refine (Tryz.strings_CutPrefix ⟨⟨s⟩⟩ ⟨⟨p⟩⟩ w).mono fun e w' he => ?_
  obtain ⟨rfl, rfl⟩ := he
  exact ⟨rfl, Mod.refl _ _⟩
theorem c_ib (w : World) (s : Str) (b : UInt8) : Calls Tryz.prog 146 [S s, .int .u8 (b.toNat : Int)].toArray w (Ret fun u w' => u = .int .i64 (Lib.indexByte s b) ∧ Mod [] w w') := by
  refine (Tryz.strings_IndexByte ⟨⟨s⟩⟩ (b.toNat : Int) w).mono fun e w' he => ?_
  obtain ⟨rfl, rfl⟩ := he
  refine ⟨?_, Mod.refl _ _⟩
  have h1 : ((b.toNat : Int).toNat).toUInt8 = b := by rw [Int.toNat_natCast]; exact UInt8.ofNat_toNat
  rw [h1]
theorem c_crune_lo (w : World) (s : Str) (c : Nat) (hc : c < 128) : Calls Tryz.prog 122 [S s, .int .i32 (c : Int)].toArray w (Ret fun u w' => u = .bool (s.any fun b => decide (b.toNat = c)) ∧ Mod [] w w') := by
  refine (Tryz.strings_ContainsRune_ascii ⟨⟨s⟩⟩ (c : Int) w (by omega) (by omega)).mono fun e w' he => ?_
  obtain ⟨rfl, rfl⟩ := he
  refine ⟨?_, Mod.refl _ _⟩
  rw [Int.toNat_natCast, indexByte_mem _ _ hc]
end Go.Proofs.YtkhbnhdlelmbnaaGreatDoor.V
