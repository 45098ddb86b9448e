/-
  A part of the proof: the pairs by which an event is allowed: the program's way and the document's way are the same; what Select and Right answer, in plain Lean; events that can be, in plain Lean. No condition of its own.
-/
import Derived.Test.YtkhbnhdlelmbnaaDoorM7
import Derived.Test.YtkhbnhdlelmbnaaDoorM15
import Derived.Test.YtkhbnhdlelmbnaaDoorM14
set_option linter.unusedVariables false
set_option linter.unusedSimpArgs false
namespace Go.Proofs.YtkhbnhdlelmbnaaDoor.V
open Go
def jrS : Str := [109, 46, 114, 111, 111, 109, 46, 106, 111, 105, 110, 95, 114, 117, 108, 101, 115]
def tpS : Str := [109, 46, 114, 111, 111, 109, 46, 116, 104, 105, 114, 100, 95, 112, 97, 114, 116, 121, 95, 105, 110, 118, 105, 116, 101]
def kMem : Str := [109, 101, 109, 98, 101, 114, 115, 104, 105, 112]
def joS : Str := [106, 111, 105, 110]
def inS : Str := [105, 110, 118, 105, 116, 101]
def knS : Str := [107, 110, 111, 99, 107]
def kTpi : Str := [116, 104, 105, 114, 100, 95, 112, 97, 114, 116, 121, 95, 105, 110, 118, 105, 116, 101]
def kSgn : Str := [115, 105, 103, 110, 101, 100]
def kTok : Str := [116, 111, 107, 101, 110]
def kBy : Str := [106, 111, 105, 110, 95, 97, 117, 116, 104, 111, 114, 105, 115, 101, 100, 95, 118, 105, 97, 95, 117, 115, 101, 114, 115, 95, 115, 101, 114, 118, 101, 114]
namespace JV
def sub (v : JV) (k : Str) : JV := (v.get k).getD nul
def txt (v : JV) : Str := if v.kind = 3 then v.str else []
def text (v : JV) (ks : List Str) : Str := (ks.foldl sub v).txt
theorem ok_map {v : JV} (h : v.ok) : v.map.length ≤ 1353245080310 := by have := ((ok_eq v).1 h).2.2.1; omega
end JV
namespace JV
def step (v : JV) (ks : List Str) (k : Nat) : JV := (ks.take k).foldl sub v
end JV
/-! ### pairs in order, each once -/
/-- what the document's with answers -/
def withP (l : List Pair) (p : Pair) : List Pair := l.filter (fun x => plt x p) ++ [p] ++ l.filter (fun x => plt p x)
theorem foldW_snoc {m : List Pair} {p : Pair} : (m ++ [p]).foldl withP [] = withP (m.foldl withP []) p := by rw [List.foldl_append]; rfl
theorem Own.w_ {w : World} {e : Nat} {v : Value} {m m' : List Pair} {p : Pair} (h : Own w e 2 v (withP (m.foldl withP []) p).length (((withP (m.foldl withP []) p).map Pair.cells).flatten)) (hm : m ++ [p] = m') : Own w e 2 v (m'.foldl withP []).length (((m'.foldl withP []).map Pair.cells).flatten) := by
  subst hm
  rw [foldW_snoc]
  exact h
theorem Own.w1 {w : World} {e : Nat} {v : Value} {p : Pair} (h : Own w e 2 v 1 p.cells) : Rep [] w (pairsD ([p].foldl withP [])) v := Own.pairs (xs := [p]) [] h (by simp)
/-- doubled neighbours left out, behind p -/
def dn : Pair → List Pair → List Pair
  | _, [] => []
  | p, x :: r => if x = p then dn x r else x :: dn x r
def dd : List Pair → List Pair
  | [] => []
  | a :: r => a :: dn a r
namespace EV
def hw (e : EV) : Str := e.con.text [kMem]
def tok (e : EV) : Str := e.con.text [kTpi, kSgn, kTok]
def byw (e : EV) : Str := e.con.text [kBy]
/-- what a member event needs besides -/
def more (e : EV) : List Pair :=
  if e.hw = joS then ⟨jrS, []⟩ :: if e.byw = [] then [] else [⟨mbS, e.byw⟩]
  else if e.hw = inS then ⟨jrS, []⟩ :: if e.tok = [] then [] else [⟨tpS, e.tok⟩]
  else if e.hw = knS then [⟨jrS, []⟩]
  else []
def needs (e : EV) : List Pair := ndP e.snd ++ if e.ty = mbS then ⟨mbS, e.key⟩ :: e.more else []
def need (e : EV) : List Pair := if e.ty = crS then [] else dd (isortP e.needs e.needs.length)
end EV
end Go.Proofs.YtkhbnhdlelmbnaaDoor.V

set_option linter.unusedVariables false
set_option linter.unusedSimpArgs false
namespace Go.Proofs.YtkhbnhdlelmbnaaDoor.V
open Go
theorem Own.strs {w : World} {e : Nat} {v : Value} {l : List Str} (A : List Nat) (h : Own w e 1 v l.length ((l.map fun s => [S s]).flatten)) (hA : ∀ x ∈ ob v, x ∉ A) : Rep A w (strD l) v := Own.flat h (fun _ _ => rfl) (fun x _ c hc => by simp at hc; subst hc; rfl) rfl hA
namespace EV
abbrev pr (e : EV) : Pair := ⟨e.ty, e.key⟩
/-- each state, each needed, no pair twice -/
def gd (need : List Pair) (l : List EV) : Prop := (∀ x ∈ l, x.st = true ∧ x.pr ∈ need) ∧ (l.map pr).Nodup
open Classical in
/-- may an event name these? -/
noncomputable def right (e : EV) (l : List EV) : Bool := decide (gd e.need l ∧ (e.ty = crS ∨ ∃ x ∈ l, x.ty = crS))
end EV
end Go.Proofs.YtkhbnhdlelmbnaaDoor.V

set_option linter.unusedVariables false
set_option linter.unusedSimpArgs false
namespace Go.Proofs.YtkhbnhdlelmbnaaDoor.V
open Go
def shortB (s : Str) : Bool := decide ((s.length : Int) ≤ 255) && validR s
def numB (n : Int) : Bool := decide (0 ≤ n) && decide (n ≤ 9007199254740991)
def sigB (s : Sig3) : Bool := serverB s.srv && keyB s.key && bytesB s.sig 64
/-- does a signature not rise from the one ahead of it? -/
def sigBad (p s : Sig3) : Bool := !(bl p.srv s.srv || p.srv == s.srv) || (decide (p.srv = s.srv) && !bl p.key s.key)
def okP (p : Option Sig3) (s : Sig3) : Bool := match p with
  | none => true
  | some q => !sigBad q s
def sigsL : Option Sig3 → List Sig3 → Bool
  | _, [] => true
  | p, s :: r => sigB s && okP p s && sigsL (some s) r
def prevS (l : List Sig3) (k : Nat) : Option Sig3 := if k = 0 then none else l[k - 1]?
theorem sigsL_at {l : List Sig3} {k : Nat} {s : Sig3} (h : l[k]? = some s) : sigsL (prevS l k) (l.drop k) = (sigB s && okP (prevS l k) s && sigsL (prevS l (k + 1)) (l.drop (k + 1))) := by
  obtain ⟨hk, rfl⟩ := List.getElem?_eq_some_iff.1 h
  have h2 : prevS l (k + 1) = some l[k] := by simp [prevS, hk]
  rw [List.drop_eq_getElem_cons hk, h2, sigsL]
theorem sigsL_end {l : List Sig3} {k : Nat} (h : l.length ≤ k) (p : Option Sig3) : sigsL p (l.drop k) = true := by
  rw [List.drop_eq_nil_of_le h, sigsL]
theorem okP_0 {l : List Sig3} {k : Nat} {s : Sig3} (h : k = 0) : okP (prevS l k) s = true := by subst h; rfl
theorem okP_at {l : List Sig3} {k : Nat} {s q : Sig3} (hq : l[k - 1]? = some q) (h : 0 < k) : okP (prevS l k) s = !sigBad q s := by
  unfold prevS
  rw [if_neg (by omega), hq]
  rfl
/-- the texts that are looked for a colon aren't too long -/
def EV.lens (e : EV) : Prop := e.room.length < 4294967281 ∧ e.snd.length < 4294967281 ∧ ∀ s ∈ e.sigs, s.srv.length < 4294967281
namespace EV
def fine1 (e : EV) : Bool := namedB 33 qRoom e.room && namedB 64 qUser e.snd && decide (e.ty ≠ []) && shortB e.ty && shortB e.key && (e.st || decide (e.key = []))
noncomputable def fine2 (e : EV) : Bool := e.fine1 && decide (e.con.kind = 5) && decide (ern (e.con.wr 0 []) = 0) && numB e.dep && numB e.time && bytesB e.hash 32 && sigsL none e.sigs
noncomputable def fine (e : EV) : Bool := e.fine2 && (e.prev ++ e.auth).all eventB
/-- can it be? -/
noncomputable def chk (e : EV) : Int := if 20 < e.prev.length ∨ 10 < e.auth.length then 22 else if e.fine = true then 0 else 21
theorem chk_many {e : EV} (h : 20 < e.prev.length ∨ 10 < e.auth.length) : e.chk = 22 := if_pos h
theorem chk_no {e : EV} (h : ¬ (20 < e.prev.length ∨ 10 < e.auth.length)) (hf : e.fine = false) : e.chk = 21 := by unfold chk; rw [if_neg h, if_neg (by simp [hf])]
theorem chk_yes {e : EV} (h : ¬ (20 < e.prev.length ∨ 10 < e.auth.length)) (hf : e.fine = true) : e.chk = 0 := by unfold chk; rw [if_neg h, if_pos hf]
theorem addW_ge : ∀ (l : List Nat) (n most : Nat), n ≤ addW l n most
  | [], n, _ => Nat.le_refl n
  | x :: r, n, most => by
    unfold addW
    split
    · exact Nat.le_trans (Nat.le_add_right n x) (addW_ge r (n + x) most)
    · exact Nat.le_refl n
theorem addW_mem : ∀ (l : List Nat) (n most : Nat), addW l n most ≤ most → ∀ x ∈ l, x ≤ most
  | y :: r, n, most, h, x, hx => by
    unfold addW at h
    split at h
    · have h1 := addW_ge r (n + y) most
      rcases List.mem_cons.1 hx with rfl | hx
      · omega
      · exact addW_mem r (n + y) most h x hx
    · omega
theorem lens_of {e : EV} (h : e.great 8192 = false) : e.lens := by
  unfold great at h
  simp only [Bool.or_eq_false_iff, decide_eq_false_iff_not] at h
  have h3 : e.n3 8192 ≤ 8192 := by omega
  have h2 : e.n2 8192 ≤ e.n3 8192 := addW_ge _ _ _
  have h1 : e.n1 8192 ≤ e.n2 8192 := addW_ge _ _ _
  have h0 : e.n0 ≤ e.n1 8192 := addW_ge _ _ _
  have hr : e.room.length + e.snd.length ≤ e.n0 := by unfold n0; omega
  refine ⟨by omega, by omega, fun s hs => ?_⟩
  have := addW_mem _ _ _ h3 _ (List.mem_map_of_mem hs)
  omega
def names (e : EV) : Bool := namedB 33 qRoom e.room && namedB 64 qUser e.snd && decide (e.ty ≠ []) && shortB e.ty && shortB e.key
def nums (e : EV) : Bool := numB e.dep && numB e.time
theorem fine_eq (e : EV) : e.fine = (e.names && e.nums && (e.st || decide (e.key = [])) && decide (e.con.kind = 5) && decide (ern (e.con.wr 0 []) = 0) && bytesB e.hash 32 && sigsL none e.sigs && e.prev.all eventB && e.auth.all eventB) := by
  unfold fine fine2 fine1 names nums
  rw [List.all_append]
  generalize namedB 33 qRoom e.room = a1
  generalize namedB 64 qUser e.snd = a2
  generalize decide (e.ty ≠ []) = a3
  generalize shortB e.ty = a4
  generalize shortB e.key = a5
  generalize (e.st || decide (e.key = [])) = a6
  generalize decide (e.con.kind = 5) = a7
  generalize decide (ern (e.con.wr 0 []) = 0) = a8
  generalize numB e.dep = a9
  generalize numB e.time = a10
  generalize bytesB e.hash 32 = a11
  generalize sigsL none e.sigs = a12
  generalize e.prev.all eventB = a13
  generalize e.auth.all eventB = a14
  ac_rfl
end EV
theorem all_succ2 {α : Type} {l : List α} {k : Nat} {y : α} (f : α → Bool) (h : l[k]? = some y) : (l.take (k + 1)).all f = ((l.take k).all f && f y) := by
  have hlt := (List.getElem?_eq_some_iff.1 h).1
  rw [List.take_succ_eq_append_getElem hlt, (List.getElem?_eq_some_iff.1 h).2, List.all_append]
  simp
theorem Rep.mod0 {A : List Nat} {w w' : World} {d : D} {u : Value} (R : Rep A w d u) (k : Mod [] w w') : Rep A w' d u := R.to0 k
end Go.Proofs.YtkhbnhdlelmbnaaDoor.V

set_option linter.unusedVariables false
set_option linter.unusedSimpArgs false
set_option maxRecDepth 10000
namespace Go.Proofs.YtkhbnhdlelmbnaaDoor.V
open Go Go.Proofs
theorem ent62 : Ent Tryd.prog 62 := Ent.of Tryd.func62 (by kernel_rfl) (by kernel_rfl)
theorem sl31 : slB Tryd.prog 31 58 3 48 = true := by kernel_rfl
theorem ag58 : agB Tryd.prog 58 3 = true := by kernel_rfl
theorem zv58 : zvB Tryd.prog 58 ([S [], S [], S []]) := by unfold zvB; kernel_rfl
theorem fd58_0 : fdB Tryd.prog 58 0 0 1 = true := by kernel_rfl
theorem fd58_1 : fdB Tryd.prog 58 1 1 1 = true := by kernel_rfl
theorem ent63 : Ent Tryd.prog 63 := Ent.of Tryd.func63 (by kernel_rfl) (by kernel_rfl)
theorem fd58_2 : fdB Tryd.prog 58 2 2 1 = true := by kernel_rfl
theorem ent27 : Ent Tryd.prog 27 := Ent.of Tryd.func27 (by kernel_rfl) (by kernel_rfl)
theorem c_event (w : World) (s : Str) (hs : s.length ≤ 140737488351232) : Calls Tryd.prog 30 [S s].toArray w (Ret fun u w' => u = .bool (eventB s) ∧ Mod [] w w') := by
  refine enter Tryd.func30 rfl rfl rfl (l := [(0, _)]) ⟨rfl, trivial⟩ ?_
  have E := Mod.refl [] w
  refine c_seq fun K1 hK1 => ?_
  refine c_region ?_
  refine sv (o_as rfl) rfl ?_
  refine l_nil ?_
  refine e_K (hK1 _ _ _ _ ?_)
  refine c_seq fun K2 hK2 => ?_
  refine c_seq fun K3 hK3 => ?_
  by_cases hk0 : s = []
  · skip
    refine c_region ?_
    refine sv (o_mv rfl) rfl ?_
    refine sv (o_seq rfl rfl) rfl ?_
    refine sv (o_mv rfl) rfl ?_
    refine sn rfl (fun e_ => absurd ((decide_eq_true hk0).symm.trans e_) (by decide)) rfl ?_
    refine sn rfl (fun e_ => absurd ((decide_eq_true hk0).symm.trans e_) (by decide)) rfl ?_
    refine sn rfl (fun e_ => absurd ((decide_eq_true hk0).symm.trans e_) (by decide)) rfl ?_
    refine sv (o_pickT (decide_eq_true hk0) rfl rfl) rfl ?_
    refine l_nil ?_
    refine e_K (hK3 _ _ _ _ ?_)
    refine c_true rfl ?_
    have hF : eventB s = false := by subst hk0; simp [eventB]
    refine c_seq fun K4 hK4 => ?_
    refine c_region ?_
    refine sv (o_as rfl) rfl ?_
    refine l_nil ?_
    refine e_K (hK4 _ _ _ _ ?_)
    refine c_ret ?_
    refine e_then (by simp) ?_
    exact ret1 rfl rfl ⟨by rw [hF], E⟩
  · skip
    obtain ⟨b0, r, rfl⟩ : ∃ b r, s = b :: r := List.exists_cons_of_ne_nil hk0
    by_cases hk1 : (b0.toNat : Int) ≠ 36
    · skip
      refine c_region ?_
      refine sv (o_mv rfl) rfl ?_
      refine sv (o_seq rfl rfl) rfl ?_
      refine sv (o_mv rfl) rfl ?_
      refine sg rfl (decide_eq_false hk0) (o_mv rfl) rfl ?_
      refine sg rfl (decide_eq_false hk0) (o_sidx Tryd.underlying9 rfl rfl (by omega) rfl) rfl ?_
      refine sg rfl (decide_eq_false hk0) (o_neq rfl rfl) rfl ?_
      refine sv (o_pickF (decide_eq_false hk0) rfl rfl) rfl ?_
      refine l_nil ?_
      refine e_K (hK3 _ _ _ _ ?_)
      refine c_if rfl (fun h11 => ?_) (fun h11 => absurd hk1 h11)
      have hF : eventB (b0 :: r) = false := by
        have h_ : b0 ≠ 36 := fun h => hk1 (by rw [h]; rfl)
        simp [eventB, h_]
      refine c_seq fun K5 hK5 => ?_
      refine c_region ?_
      refine sv (o_as rfl) rfl ?_
      refine l_nil ?_
      refine e_K (hK5 _ _ _ _ ?_)
      refine c_ret ?_
      refine e_then (by simp) ?_
      exact ret1 rfl rfl ⟨by rw [hF], E⟩
    · skip
      refine c_region ?_
      refine sv (o_mv rfl) rfl ?_
      refine sv (o_seq rfl rfl) rfl ?_
      refine sv (o_mv rfl) rfl ?_
      refine sg rfl (decide_eq_false hk0) (o_mv rfl) rfl ?_
      refine sg rfl (decide_eq_false hk0) (o_sidx Tryd.underlying9 rfl rfl (by omega) rfl) rfl ?_
      refine sg rfl (decide_eq_false hk0) (o_neq rfl rfl) rfl ?_
      refine sv (o_pickF (decide_eq_false hk0) rfl rfl) rfl ?_
      refine l_nil ?_
      refine e_K (hK3 _ _ _ _ ?_)
      refine c_if rfl (fun h11 => absurd h11 hk1) (fun h11 => ?_)
      have h36 : b0 = 36 := u8_eq (Classical.not_not.1 hk1)
      have hh : decide ((b0 :: r).head? = some 36) = true := by simp [h36]
      refine c_skip ?_
      refine e_K (hK2 _ _ _ _ ?_)
      refine c_seq fun K6 hK6 => ?_
      refine c_region ?_
      refine sv (o_mv rfl) rfl ?_
      refine sv (o_ssfrom (n := 1) Tryd.underlying9 rfl rfl (by simp)) rfl ?_
      refine sc (o_call ent62 rfl) (c_decode _ ((b0 :: r).drop 1) true (by simp only [List.length_drop]; omega)) rfl fun v_ w1 h_ => ?_
      obtain ⟨⟨dv, bs, o, rfl, ho, hO, hbs, _⟩, E_⟩ := h_
      replace E := E.then E_
      obtain ⟨ad1, cp1, rfl, hcp1, hcp2⟩ := hO.form
      refine sv (o_mv rfl) rfl ?_
      refine sv (o_ext rfl rfl) rfl ?_
      refine sv (o_ext rfl rfl) rfl ?_
      refine sv (o_as rfl) rfl ?_
      refine sv (o_as rfl) rfl ?_
      refine l_nil ?_
      refine e_K (hK6 _ _ _ _ ?_)
      refine c_seq fun K7 hK7 => ?_
      by_cases hk0 : (o) = true
      · skip
        have e32 : decide (((b0 :: r).drop 1).length * 6 / 8 = 32) = decide ((bs.length : Int) = 32) := by
          rw [decide_eq_decide]
          rw [hk0] at ho
          rw [← ho, if_pos rfl] at hbs
          omega
        by_cases hk1 : (bs.length : Int) = 32
        · skip
          refine c_region ?_
          refine sv (o_mv rfl) rfl ?_
          refine sv (o_mv rfl) rfl ?_
          refine sg rfl (hk0) (o_mv rfl) rfl ?_
          refine sg rfl (hk0) (o_len Tryd.underlying45 rfl) rfl ?_
          refine sg rfl (hk0) (o_eql rfl rfl) rfl ?_
          refine sv (o_pickT (hk0) rfl rfl) rfl ?_
          refine sv (o_as rfl) rfl ?_
          refine l_nil ?_
          refine e_K (hK7 _ _ _ _ ?_)
          refine c_ret ?_
          exact ret1 rfl rfl ⟨congrArg Value.bool (by rw [eventB, hh, ← ho, e32]; simp only [hk0, decide_eq_true hk1, Bool.true_and, Bool.and_true, Bool.false_and, Bool.and_false, Bool.true_or, Bool.or_true, Bool.false_or, Bool.or_false, Bool.not_true, Bool.not_false]), E⟩
        · skip
          refine c_region ?_
          refine sv (o_mv rfl) rfl ?_
          refine sv (o_mv rfl) rfl ?_
          refine sg rfl (hk0) (o_mv rfl) rfl ?_
          refine sg rfl (hk0) (o_len Tryd.underlying45 rfl) rfl ?_
          refine sg rfl (hk0) (o_eql rfl rfl) rfl ?_
          refine sv (o_pickT (hk0) rfl rfl) rfl ?_
          refine sv (o_as rfl) rfl ?_
          refine l_nil ?_
          refine e_K (hK7 _ _ _ _ ?_)
          refine c_ret ?_
          exact ret1 rfl rfl ⟨congrArg Value.bool (by rw [eventB, hh, ← ho, e32]; simp only [hk0, decide_eq_false hk1, Bool.true_and, Bool.and_true, Bool.false_and, Bool.and_false, Bool.true_or, Bool.or_true, Bool.false_or, Bool.or_false, Bool.not_true, Bool.not_false]), E⟩
      · skip
        refine c_region ?_
        refine sv (o_mv rfl) rfl ?_
        refine sv (o_mv rfl) rfl ?_
        refine sn rfl (fun e_ => absurd ((Bool.eq_false_iff.2 hk0).symm.trans e_) (by decide)) rfl ?_
        refine sn rfl (fun e_ => absurd ((Bool.eq_false_iff.2 hk0).symm.trans e_) (by decide)) rfl ?_
        refine sn rfl (fun e_ => absurd ((Bool.eq_false_iff.2 hk0).symm.trans e_) (by decide)) rfl ?_
        refine sv (o_pickF (Bool.eq_false_iff.2 hk0) rfl rfl) rfl ?_
        refine sv (o_as rfl) rfl ?_
        refine l_nil ?_
        refine e_K (hK7 _ _ _ _ ?_)
        refine c_ret ?_
        exact ret1 rfl rfl ⟨congrArg Value.bool (by rw [eventB, hh, ← ho]; simp only [Bool.eq_false_iff.2 hk0, Bool.true_and, Bool.and_true, Bool.false_and, Bool.and_false, Bool.true_or, Bool.or_true, Bool.false_or, Bool.or_false, Bool.not_true, Bool.not_false]), E⟩

theorem c_bytes (w : World) (s : Str) (n : Nat) (hs : s.length ≤ 140737488351232) : Calls Tryd.prog 27 [S s, .int .i64 (n : Int)].toArray w (Ret fun u w' => u = .bool (bytesB s n) ∧ Mod [] w w') := by
  refine enter Tryd.func27 rfl rfl rfl (l := [(0, _), (1, _)]) ⟨rfl, rfl, trivial⟩ ?_
  have E := Mod.refl [] w
  refine c_seq fun K1 hK1 => ?_
  refine c_region ?_
  refine sv (o_as rfl) rfl ?_
  refine l_nil ?_
  refine e_K (hK1 _ _ _ _ ?_)
  refine c_seq fun K2 hK2 => ?_
  refine c_region ?_
  refine sv (o_mv rfl) rfl ?_
  refine sc (o_call ent62 rfl) (c_decode _ (s) false hs) rfl fun v_ w1 h_ => ?_
  obtain ⟨⟨dv, bs, o, rfl, ho, hO, hbs, _⟩, E_⟩ := h_
  replace E := E.then E_
  obtain ⟨ad1, cp1, rfl, hcp1, hcp2⟩ := hO.form
  refine sv (o_mv rfl) rfl ?_
  refine sv (o_ext rfl rfl) rfl ?_
  refine sv (o_ext rfl rfl) rfl ?_
  refine sv (o_as rfl) rfl ?_
  refine sv (o_as rfl) rfl ?_
  refine l_nil ?_
  refine e_K (hK2 _ _ _ _ ?_)
  refine c_seq fun K3 hK3 => ?_
  by_cases hk0 : (o) = true
  · skip
    have en : decide (s.length * 6 / 8 = n) = decide ((bs.length : Int) = (n : Int)) := by
      rw [decide_eq_decide]
      rw [hk0] at ho
      rw [← ho, if_pos rfl] at hbs
      omega
    by_cases hk1 : (bs.length : Int) = (n : Int)
    · skip
      refine c_region ?_
      refine sv (o_mv rfl) rfl ?_
      refine sv (o_mv rfl) rfl ?_
      refine sg rfl (hk0) (o_mv rfl) rfl ?_
      refine sg rfl (hk0) (o_len Tryd.underlying45 rfl) rfl ?_
      refine sg rfl (hk0) (o_mv rfl) rfl ?_
      refine sg rfl (hk0) (o_eql rfl rfl) rfl ?_
      refine sv (o_pickT (hk0) rfl rfl) rfl ?_
      refine sv (o_as rfl) rfl ?_
      refine l_nil ?_
      refine e_K (hK3 _ _ _ _ ?_)
      refine c_ret ?_
      exact ret1 rfl rfl ⟨congrArg Value.bool (by rw [bytesB, ← ho, en]; simp only [hk0, decide_eq_true hk1, Bool.true_and, Bool.and_true, Bool.false_and, Bool.and_false, Bool.true_or, Bool.or_true, Bool.false_or, Bool.or_false, Bool.not_true, Bool.not_false]), E⟩
    · skip
      refine c_region ?_
      refine sv (o_mv rfl) rfl ?_
      refine sv (o_mv rfl) rfl ?_
      refine sg rfl (hk0) (o_mv rfl) rfl ?_
      refine sg rfl (hk0) (o_len Tryd.underlying45 rfl) rfl ?_
      refine sg rfl (hk0) (o_mv rfl) rfl ?_
      refine sg rfl (hk0) (o_eql rfl rfl) rfl ?_
      refine sv (o_pickT (hk0) rfl rfl) rfl ?_
      refine sv (o_as rfl) rfl ?_
      refine l_nil ?_
      refine e_K (hK3 _ _ _ _ ?_)
      refine c_ret ?_
      exact ret1 rfl rfl ⟨congrArg Value.bool (by rw [bytesB, ← ho, en]; simp only [hk0, decide_eq_false hk1, Bool.true_and, Bool.and_true, Bool.false_and, Bool.and_false, Bool.true_or, Bool.or_true, Bool.false_or, Bool.or_false, Bool.not_true, Bool.not_false]), E⟩
  · skip
    refine c_region ?_
    refine sv (o_mv rfl) rfl ?_
    refine sv (o_mv rfl) rfl ?_
    refine sn rfl (fun e_ => absurd ((Bool.eq_false_iff.2 hk0).symm.trans e_) (by decide)) rfl ?_
    refine sn rfl (fun e_ => absurd ((Bool.eq_false_iff.2 hk0).symm.trans e_) (by decide)) rfl ?_
    refine sn rfl (fun e_ => absurd ((Bool.eq_false_iff.2 hk0).symm.trans e_) (by decide)) rfl ?_
    refine sn rfl (fun e_ => absurd ((Bool.eq_false_iff.2 hk0).symm.trans e_) (by decide)) rfl ?_
    refine sv (o_pickF (Bool.eq_false_iff.2 hk0) rfl rfl) rfl ?_
    refine sv (o_as rfl) rfl ?_
    refine l_nil ?_
    refine e_K (hK3 _ _ _ _ ?_)
    refine c_ret ?_
    exact ret1 rfl rfl ⟨congrArg Value.bool (by rw [bytesB, ← ho]; simp only [Bool.eq_false_iff.2 hk0, Bool.true_and, Bool.and_true, Bool.false_and, Bool.and_false, Bool.true_or, Bool.or_true, Bool.false_or, Bool.or_false, Bool.not_true, Bool.not_false]), E⟩

theorem c_short11 (w : World) (s : Str) : Calls Tryd.prog 25 [S s].toArray w (Ret fun u w' => u = .bool (shortB s) ∧ Mod [] w w') := by
  refine enter Tryd.func25 rfl rfl rfl (l := [(0, _)]) ⟨rfl, trivial⟩ ?_
  have E := Mod.refl [] w
  refine c_seq fun K1 hK1 => ?_
  refine c_region ?_
  refine sv (o_as rfl) rfl ?_
  refine l_nil ?_
  refine e_K (hK1 _ _ _ _ ?_)
  refine c_seq fun K2 hK2 => ?_
  by_cases hk0 : (s.length : Int) ≤ 255
  · skip
    by_cases hk1 : (validR s) = true
    · skip
      refine c_region ?_
      refine sv (o_mv rfl) rfl ?_
      refine sv (o_slen Tryd.underlying9 rfl) rfl ?_
      refine sv (o_leq rfl rfl) rfl ?_
      refine sv (o_mv rfl) rfl ?_
      refine sg rfl (decide_eq_true hk0) (o_mv rfl) rfl ?_
      refine sgc rfl (decide_eq_true hk0) (o_call ent61 rfl) (c_qvalid _ s) rfl fun v_ w1 h_ => ?_
      obtain ⟨rfl, E_⟩ := h_
      replace E := E.then E_
      refine sv (o_pickT (decide_eq_true hk0) rfl rfl) rfl ?_
      refine sv (o_as rfl) rfl ?_
      refine l_nil ?_
      refine e_K (hK2 _ _ _ _ ?_)
      refine c_ret ?_
      exact ret1 rfl rfl ⟨congrArg Value.bool (by rw [shortB]; simp only [decide_eq_true hk0, hk1, Bool.true_and, Bool.and_true, Bool.false_and, Bool.and_false, Bool.true_or, Bool.or_true, Bool.false_or, Bool.or_false, Bool.not_true, Bool.not_false]), E⟩
    · skip
      refine c_region ?_
      refine sv (o_mv rfl) rfl ?_
      refine sv (o_slen Tryd.underlying9 rfl) rfl ?_
      refine sv (o_leq rfl rfl) rfl ?_
      refine sv (o_mv rfl) rfl ?_
      refine sg rfl (decide_eq_true hk0) (o_mv rfl) rfl ?_
      refine sgc rfl (decide_eq_true hk0) (o_call ent61 rfl) (c_qvalid _ s) rfl fun v_ w2 h_ => ?_
      obtain ⟨rfl, E_⟩ := h_
      replace E := E.then E_
      refine sv (o_pickT (decide_eq_true hk0) rfl rfl) rfl ?_
      refine sv (o_as rfl) rfl ?_
      refine l_nil ?_
      refine e_K (hK2 _ _ _ _ ?_)
      refine c_ret ?_
      exact ret1 rfl rfl ⟨congrArg Value.bool (by rw [shortB]; simp only [decide_eq_true hk0, Bool.eq_false_iff.2 hk1, Bool.true_and, Bool.and_true, Bool.false_and, Bool.and_false, Bool.true_or, Bool.or_true, Bool.false_or, Bool.or_false, Bool.not_true, Bool.not_false]), E⟩
  · skip
    refine c_region ?_
    refine sv (o_mv rfl) rfl ?_
    refine sv (o_slen Tryd.underlying9 rfl) rfl ?_
    refine sv (o_leq rfl rfl) rfl ?_
    refine sv (o_mv rfl) rfl ?_
    refine sn rfl (fun e_ => absurd ((decide_eq_false hk0).symm.trans e_) (by decide)) rfl ?_
    refine sn rfl (fun e_ => absurd ((decide_eq_false hk0).symm.trans e_) (by decide)) rfl ?_
    refine sv (o_pickF (decide_eq_false hk0) rfl rfl) rfl ?_
    refine sv (o_as rfl) rfl ?_
    refine l_nil ?_
    refine e_K (hK2 _ _ _ _ ?_)
    refine c_ret ?_
    exact ret1 rfl rfl ⟨congrArg Value.bool (by rw [shortB]; simp only [decide_eq_false hk0, Bool.true_and, Bool.and_true, Bool.false_and, Bool.and_false, Bool.true_or, Bool.or_true, Bool.false_or, Bool.or_false, Bool.not_true, Bool.not_false]), E⟩

theorem c_number (w : World) (n : Int) : Calls Tryd.prog 26 [.int .i64 n].toArray w (Ret fun u w' => u = .bool (numB n) ∧ Mod [] w w') := by
  refine enter Tryd.func26 rfl rfl rfl (l := [(0, _)]) ⟨rfl, trivial⟩ ?_
  have E := Mod.refl [] w
  refine c_seq fun K1 hK1 => ?_
  refine c_region ?_
  refine sv (o_as rfl) rfl ?_
  refine l_nil ?_
  refine e_K (hK1 _ _ _ _ ?_)
  refine c_seq fun K2 hK2 => ?_
  by_cases hk0 : 0 ≤ n
  · skip
    by_cases hk1 : n ≤ 9007199254740991
    · skip
      refine c_region ?_
      refine sv (o_mv rfl) rfl ?_
      refine sv (o_geq rfl rfl) rfl ?_
      refine sv (o_mv rfl) rfl ?_
      refine sg rfl (decide_eq_true hk0) (o_mv rfl) rfl ?_
      refine sg rfl (decide_eq_true hk0) (o_leq rfl rfl) rfl ?_
      refine sv (o_pickT (decide_eq_true hk0) rfl rfl) rfl ?_
      refine sv (o_as rfl) rfl ?_
      refine l_nil ?_
      refine e_K (hK2 _ _ _ _ ?_)
      refine c_ret ?_
      exact ret1 rfl rfl ⟨congrArg Value.bool (by rw [numB]; simp only [decide_eq_true hk0, decide_eq_true hk1, Bool.true_and, Bool.and_true, Bool.false_and, Bool.and_false, Bool.true_or, Bool.or_true, Bool.false_or, Bool.or_false, Bool.not_true, Bool.not_false]), E⟩
    · skip
      refine c_region ?_
      refine sv (o_mv rfl) rfl ?_
      refine sv (o_geq rfl rfl) rfl ?_
      refine sv (o_mv rfl) rfl ?_
      refine sg rfl (decide_eq_true hk0) (o_mv rfl) rfl ?_
      refine sg rfl (decide_eq_true hk0) (o_leq rfl rfl) rfl ?_
      refine sv (o_pickT (decide_eq_true hk0) rfl rfl) rfl ?_
      refine sv (o_as rfl) rfl ?_
      refine l_nil ?_
      refine e_K (hK2 _ _ _ _ ?_)
      refine c_ret ?_
      exact ret1 rfl rfl ⟨congrArg Value.bool (by rw [numB]; simp only [decide_eq_true hk0, decide_eq_false hk1, Bool.true_and, Bool.and_true, Bool.false_and, Bool.and_false, Bool.true_or, Bool.or_true, Bool.false_or, Bool.or_false, Bool.not_true, Bool.not_false]), E⟩
  · skip
    refine c_region ?_
    refine sv (o_mv rfl) rfl ?_
    refine sv (o_geq rfl rfl) rfl ?_
    refine sv (o_mv rfl) rfl ?_
    refine sn rfl (fun e_ => absurd ((decide_eq_false hk0).symm.trans e_) (by decide)) rfl ?_
    refine sn rfl (fun e_ => absurd ((decide_eq_false hk0).symm.trans e_) (by decide)) rfl ?_
    refine sv (o_pickF (decide_eq_false hk0) rfl rfl) rfl ?_
    refine sv (o_as rfl) rfl ?_
    refine l_nil ?_
    refine e_K (hK2 _ _ _ _ ?_)
    refine c_ret ?_
    exact ret1 rfl rfl ⟨congrArg Value.bool (by rw [numB]; simp only [decide_eq_false hk0, Bool.true_and, Bool.and_true, Bool.false_and, Bool.and_false, Bool.true_or, Bool.or_true, Bool.false_or, Bool.or_false, Bool.not_true, Bool.not_false]), E⟩

theorem c_sigs (w : World) (l : List Sig3) (ad : Option Addr) (c : Nat) (R : Rep [] w (flat 3 Sig3.cells l) (.slice ad l.length c)) (hlen : ∀ s ∈ l, s.srv.length < 4294967281 ∧ s.key.length ≤ 140737488351232 ∧ s.sig.length ≤ 140737488351232) (hll : l.length ≤ 140737488351232) (hM : MaxL w) : Calls Tryd.prog 28 [.slice ad l.length c].toArray w (Ret fun u w' => u = .bool (sigsL none l) ∧ Mod [] w w') := by
  refine enter Tryd.func28 rfl rfl rfl (l := [(0, _)]) ⟨rfl, trivial⟩ ?_
  have E := Mod.refl [] w
  obtain ⟨_, c9, hfl, hcc1, hcc2⟩ := flat_len R
  injection hfl with _ _ hfc
  subst hfc
  refine c_seq fun K1 hK1 => ?_
  refine c_region ?_
  refine sv (o_as rfl) rfl ?_
  refine l_nil ?_
  refine e_K (hK1 _ _ _ _ ?_)
  refine c_seq fun K2 hK2 => ?_
  refine c_seq fun K3 hK3 => ?_
  refine c_region ?_
  refine sv (o_mv rfl) rfl ?_
  refine sv (o_len Tryd.underlying31 rfl) rfl ?_
  refine sv (o_mv rfl) rfl ?_
  refine l_nil ?_
  refine e_K (hK3 _ _ _ _ ?_)
  refine c_block ?_
  refine c_loop (σ := Nat) (fun k => [(0, .slice ad l.length c), (5, .slice ad l.length c), (6, .int .i64 (l.length : Int)), (7, .int .i64 (k : Int))]) (fun k w1 => k ≤ l.length ∧ sigsL none l = sigsL (prevS l k) (l.drop k) ∧ Mod [] w w1) (fun k => l.length - k) (0) ⟨rfl, rfl, rfl, rfl, trivial⟩ (⟨by omega, rfl, E⟩) ?_
  rintro k w1 ⟨hk, hinv, E⟩
  refine c_seq fun K4 hK4 => ?_
  refine c_region ?_
  refine sv (o_lss rfl rfl) rfl ?_
  refine l_nil ?_
  refine e_K (hK4 _ _ _ _ ?_)
  refine c_seq fun K5 hK5 => ?_
  refine c_if rfl (fun h8 => ?_) (fun h8 => ?_)
  · skip
    refine c_skip ?_
    refine e_K (hK5 _ _ _ _ ?_)
    refine c_seq fun K6 hK6 => ?_
    refine c_block ?_
    refine c_seq fun K7 hK7 => ?_
    refine c_region ?_
    refine sv (o_mv rfl) rfl ?_
    obtain ⟨x, hx_x⟩ : ∃ x, l[k]? = some x := ⟨_, List.getElem?_eq_getElem (by omega)⟩
    obtain ⟨a_x, ha_x, hcs_x, _⟩ := flat_at (R.to0 E) hx_x
    cases ha_x
    obtain ⟨hl1_x, hl2_x, hl3_x⟩ := hlen x (List.mem_of_getElem? hx_x)
    refine sv (o_ix sl31 rfl rfl (by omega)) rfl ?_
    refine sv (o_lda ag58 rfl rfl hcs_x) rfl ?_
    refine s_alloc zv58 rfl fun g1 w2 N1 => ?_
    have Lg1_E := N1.le E
    replace E := E.then N1.mod
    have Bg1 := N1.blk
    refine sv (o_as rfl) rfl ?_
    refine s_sta (vs := [_, _, _]) ag58 Bg1 rfl rfl rfl (by simp [Value.oneCell']) (by simp) fun w3 P3 => ?_
    replace E := E.own P3.mod Lg1_E
    replace Bg1 : Blk w3 g1 _ [_, _, _] := P3.blk
    refine l_nil ?_
    refine e_K (hK7 _ _ _ _ ?_)
    refine c_seq fun K8 hK8 => ?_
    refine c_seq fun K9 hK9 => ?_
    by_cases hk0 : (!serverB x.srv) = true
    · skip
      refine c_region ?_
      refine sv (o_fa0 fd58_0 rfl) rfl ?_
      refine sv (o_ld sc9 rfl (Bg1.cell rfl)) rfl ?_
      refine sc (o_call ent53 rfl) (c_server _ x.srv hl1_x (hM.mod0 E)) rfl fun v_ w4 h_ => ?_
      obtain ⟨rfl, E_⟩ := h_
      replace Bg1 := Bg1.mod0 E_
      replace E := E.then E_
      refine sv (o_not rfl) rfl ?_
      refine sv (o_mv rfl) rfl ?_
      refine sn rfl (fun e_ => absurd ((hk0).symm.trans e_) (by decide)) rfl ?_
      refine sn rfl (fun e_ => absurd ((hk0).symm.trans e_) (by decide)) rfl ?_
      refine sn rfl (fun e_ => absurd ((hk0).symm.trans e_) (by decide)) rfl ?_
      refine sn rfl (fun e_ => absurd ((hk0).symm.trans e_) (by decide)) rfl ?_
      refine sv (o_pickT (hk0) rfl rfl) rfl ?_
      refine sv (o_mv rfl) rfl ?_
      refine sn rfl (fun e_ => absurd ((rfl).symm.trans e_) (by decide)) rfl ?_
      refine sn rfl (fun e_ => absurd ((rfl).symm.trans e_) (by decide)) rfl ?_
      refine sn rfl (fun e_ => absurd ((rfl).symm.trans e_) (by decide)) rfl ?_
      refine sn rfl (fun e_ => absurd ((rfl).symm.trans e_) (by decide)) rfl ?_
      refine sv (o_pickT (rfl) rfl rfl) rfl ?_
      refine l_nil ?_
      refine e_K (hK9 _ _ _ _ ?_)
      refine c_true rfl ?_
      have h_ : serverB x.srv = false := by simpa using hk0
      have hF : sigsL none l = false := by rw [hinv, sigsL_at hx_x, show sigB x = false by simp [sigB, h_]]; rfl
      refine c_seq fun K10 hK10 => ?_
      refine c_region ?_
      refine sv (o_as rfl) rfl ?_
      refine l_nil ?_
      refine e_K (hK10 _ _ _ _ ?_)
      refine c_ret ?_
      refine e_then (by simp) ?_
      refine e_in (by simp) ?_
      refine e_then (by simp) ?_
      refine e_then (by simp) ?_
      refine e_in (by simp) ?_
      refine e_then (by simp) ?_
      exact ret1 rfl rfl ⟨by rw [hF], E⟩
    · skip
      by_cases hk1 : (!keyB x.key) = true
      · skip
        refine c_region ?_
        refine sv (o_fa0 fd58_0 rfl) rfl ?_
        refine sv (o_ld sc9 rfl (Bg1.cell rfl)) rfl ?_
        refine sc (o_call ent53 rfl) (c_server _ x.srv hl1_x (hM.mod0 E)) rfl fun v_ w5 h_ => ?_
        obtain ⟨rfl, E_⟩ := h_
        replace Bg1 := Bg1.mod0 E_
        replace E := E.then E_
        refine sv (o_not rfl) rfl ?_
        refine sv (o_mv rfl) rfl ?_
        refine sg rfl (Bool.eq_false_iff.2 hk0) (o_fa0 fd58_1 rfl) rfl ?_
        refine sg rfl (Bool.eq_false_iff.2 hk0) (o_ld sc9 rfl (Bg1.cell rfl)) rfl ?_
        refine sgc rfl (Bool.eq_false_iff.2 hk0) (o_call ent63 rfl) (c_key _ x.key) rfl fun v_ w6 h_ => ?_
        obtain ⟨rfl, E_⟩ := h_
        replace Bg1 := Bg1.mod0 E_
        replace E := E.then E_
        refine sg rfl (Bool.eq_false_iff.2 hk0) (o_not rfl) rfl ?_
        refine sv (o_pickF (Bool.eq_false_iff.2 hk0) rfl rfl) rfl ?_
        refine sv (o_mv rfl) rfl ?_
        refine sn rfl (fun e_ => absurd ((hk1).symm.trans e_) (by decide)) rfl ?_
        refine sn rfl (fun e_ => absurd ((hk1).symm.trans e_) (by decide)) rfl ?_
        refine sn rfl (fun e_ => absurd ((hk1).symm.trans e_) (by decide)) rfl ?_
        refine sn rfl (fun e_ => absurd ((hk1).symm.trans e_) (by decide)) rfl ?_
        refine sv (o_pickT (hk1) rfl rfl) rfl ?_
        refine l_nil ?_
        refine e_K (hK9 _ _ _ _ ?_)
        refine c_true rfl ?_
        have h_ : keyB x.key = false := by simpa using hk1
        have hF : sigsL none l = false := by rw [hinv, sigsL_at hx_x, show sigB x = false by simp [sigB, h_]]; rfl
        refine c_seq fun K11 hK11 => ?_
        refine c_region ?_
        refine sv (o_as rfl) rfl ?_
        refine l_nil ?_
        refine e_K (hK11 _ _ _ _ ?_)
        refine c_ret ?_
        refine e_then (by simp) ?_
        refine e_in (by simp) ?_
        refine e_then (by simp) ?_
        refine e_then (by simp) ?_
        refine e_in (by simp) ?_
        refine e_then (by simp) ?_
        exact ret1 rfl rfl ⟨by rw [hF], E⟩
      · skip
        by_cases hk2 : (!bytesB x.sig 64) = true
        · skip
          refine c_region ?_
          refine sv (o_fa0 fd58_0 rfl) rfl ?_
          refine sv (o_ld sc9 rfl (Bg1.cell rfl)) rfl ?_
          refine sc (o_call ent53 rfl) (c_server _ x.srv hl1_x (hM.mod0 E)) rfl fun v_ w7 h_ => ?_
          obtain ⟨rfl, E_⟩ := h_
          replace Bg1 := Bg1.mod0 E_
          replace E := E.then E_
          refine sv (o_not rfl) rfl ?_
          refine sv (o_mv rfl) rfl ?_
          refine sg rfl (Bool.eq_false_iff.2 hk0) (o_fa0 fd58_1 rfl) rfl ?_
          refine sg rfl (Bool.eq_false_iff.2 hk0) (o_ld sc9 rfl (Bg1.cell rfl)) rfl ?_
          refine sgc rfl (Bool.eq_false_iff.2 hk0) (o_call ent63 rfl) (c_key _ x.key) rfl fun v_ w8 h_ => ?_
          obtain ⟨rfl, E_⟩ := h_
          replace Bg1 := Bg1.mod0 E_
          replace E := E.then E_
          refine sg rfl (Bool.eq_false_iff.2 hk0) (o_not rfl) rfl ?_
          refine sv (o_pickF (Bool.eq_false_iff.2 hk0) rfl rfl) rfl ?_
          refine sv (o_mv rfl) rfl ?_
          refine sg rfl (Bool.eq_false_iff.2 hk1) (o_fa0 fd58_2 rfl) rfl ?_
          refine sg rfl (Bool.eq_false_iff.2 hk1) (o_ld sc9 rfl (Bg1.cell rfl)) rfl ?_
          refine sgc rfl (Bool.eq_false_iff.2 hk1) (o_call ent27 rfl) (c_bytes _ x.sig 64 hl3_x) rfl fun v_ w9 h_ => ?_
          obtain ⟨rfl, E_⟩ := h_
          replace Bg1 := Bg1.mod0 E_
          replace E := E.then E_
          refine sg rfl (Bool.eq_false_iff.2 hk1) (o_not rfl) rfl ?_
          refine sv (o_pickF (Bool.eq_false_iff.2 hk1) rfl rfl) rfl ?_
          refine l_nil ?_
          refine e_K (hK9 _ _ _ _ ?_)
          refine c_cond rfl (fun h27 => ?_) (fun h27 => absurd ((hk2).symm.trans h27) (by decide))
          have h_ : bytesB x.sig 64 = false := by simpa using hk2
          have hF : sigsL none l = false := by rw [hinv, sigsL_at hx_x, show sigB x = false by simp [sigB, h_]]; rfl
          refine c_seq fun K12 hK12 => ?_
          refine c_region ?_
          refine sv (o_as rfl) rfl ?_
          refine l_nil ?_
          refine e_K (hK12 _ _ _ _ ?_)
          refine c_ret ?_
          refine e_then (by simp) ?_
          refine e_in (by simp) ?_
          refine e_then (by simp) ?_
          refine e_then (by simp) ?_
          refine e_in (by simp) ?_
          refine e_then (by simp) ?_
          exact ret1 rfl rfl ⟨by rw [hF], E⟩
        · skip
          refine c_region ?_
          refine sv (o_fa0 fd58_0 rfl) rfl ?_
          refine sv (o_ld sc9 rfl (Bg1.cell rfl)) rfl ?_
          refine sc (o_call ent53 rfl) (c_server _ x.srv hl1_x (hM.mod0 E)) rfl fun v_ w10 h_ => ?_
          obtain ⟨rfl, E_⟩ := h_
          replace Bg1 := Bg1.mod0 E_
          replace E := E.then E_
          refine sv (o_not rfl) rfl ?_
          refine sv (o_mv rfl) rfl ?_
          refine sg rfl (Bool.eq_false_iff.2 hk0) (o_fa0 fd58_1 rfl) rfl ?_
          refine sg rfl (Bool.eq_false_iff.2 hk0) (o_ld sc9 rfl (Bg1.cell rfl)) rfl ?_
          refine sgc rfl (Bool.eq_false_iff.2 hk0) (o_call ent63 rfl) (c_key _ x.key) rfl fun v_ w11 h_ => ?_
          obtain ⟨rfl, E_⟩ := h_
          replace Bg1 := Bg1.mod0 E_
          replace E := E.then E_
          refine sg rfl (Bool.eq_false_iff.2 hk0) (o_not rfl) rfl ?_
          refine sv (o_pickF (Bool.eq_false_iff.2 hk0) rfl rfl) rfl ?_
          refine sv (o_mv rfl) rfl ?_
          refine sg rfl (Bool.eq_false_iff.2 hk1) (o_fa0 fd58_2 rfl) rfl ?_
          refine sg rfl (Bool.eq_false_iff.2 hk1) (o_ld sc9 rfl (Bg1.cell rfl)) rfl ?_
          refine sgc rfl (Bool.eq_false_iff.2 hk1) (o_call ent27 rfl) (c_bytes _ x.sig 64 hl3_x) rfl fun v_ w12 h_ => ?_
          obtain ⟨rfl, E_⟩ := h_
          replace Bg1 := Bg1.mod0 E_
          replace E := E.then E_
          refine sg rfl (Bool.eq_false_iff.2 hk1) (o_not rfl) rfl ?_
          refine sv (o_pickF (Bool.eq_false_iff.2 hk1) rfl rfl) rfl ?_
          refine l_nil ?_
          refine e_K (hK9 _ _ _ _ ?_)
          refine c_cond rfl (fun h27 => absurd ((Bool.eq_false_iff.2 hk2).symm.trans h27) (by decide)) (fun h27 => ?_)
          have g0 : serverB x.srv = true := by simpa using hk0
          have g1_ : keyB x.key = true := by simpa using hk1
          have g2_ : bytesB x.sig 64 = true := by simpa using hk2
          have hsg : sigB x = true := by rw [sigB, g0, g1_, g2_]; rfl
          refine c_skip ?_
          refine e_K (hK8 _ _ _ _ ?_)
          refine c_seq fun K13 hK13 => ?_
          by_cases hk3 : (k : Int) > 0
          · skip
            obtain ⟨q, hx_q⟩ : ∃ x, l[k - 1]? = some x := ⟨_, List.getElem?_eq_getElem (by omega)⟩
            obtain ⟨a_q, ha_q, hcs_q, _⟩ := flat_at (R.to0 E) hx_q
            cases ha_q
            obtain ⟨hl1_q, hl2_q, hl3_q⟩ := hlen q (List.mem_of_getElem? hx_q)
            by_cases hk4 : (!(bl q.srv x.srv || q.srv == x.srv)) = true
            · skip
              refine c_draw wide (by kernel_rfl) ?_
              refine tv (fun w_ E_ => (o_mv rfl)) rfl rfl ?_
              refine tv (fun w_ E_ => (o_gtr rfl rfl)) rfl rfl ?_
              refine tv (fun w_ E_ => (o_mv rfl)) rfl rfl ?_
              refine tvg rfl (decide_eq_true hk3) (fun w_ E_ => (o_mv rfl)) rfl rfl ?_
              refine tvg rfl (decide_eq_true hk3) (fun w_ E_ => (o_mv rfl)) rfl rfl ?_
              refine tvg rfl (decide_eq_true hk3) (fun w_ E_ => (o_subE (r := ((k - 1 : Nat) : Int)) rfl rfl (by rw [wrap64_in _ (by omega)]; omega))) rfl rfl ?_
              refine tvg rfl (decide_eq_true hk3) (fun w_ E_ => (o_ix sl31 rfl rfl (by omega))) rfl rfl ?_
              refine tvg rfl (decide_eq_true hk3) (fun w_ E_ => (o_fad fd58_0 rfl)) rfl rfl ?_
              refine tvg rfl (decide_eq_true hk3) (fun w_ E_ => (o_ld sc9 rfl ((hcs_q.mod0 E_) 0 _ rfl))) rfl rfl ?_
              refine tvg rfl (decide_eq_true hk3) (fun w_ E_ => (o_fa0 fd58_0 rfl)) rfl rfl ?_
              refine tvg rfl (decide_eq_true hk3) (fun w_ E_ => (o_ld sc9 rfl ((Bg1.mod0 E_).cell rfl))) rfl rfl ?_
              refine tvg rfl (decide_eq_true hk3) (fun w_ E_ => (o_sgt rfl rfl)) rfl rfl ?_
              refine tvg rfl (decide_eq_true hk3) (fun w_ E_ => (o_mv rfl)) rfl rfl ?_
              refine tn rfl (fun e_ => absurd ((hk4).symm.trans e_) (by decide)) rfl ?_
              refine tn rfl (fun e_ => absurd ((hk4).symm.trans e_) (by decide)) rfl ?_
              refine tn rfl (fun e_ => absurd ((hk4).symm.trans e_) (by decide)) rfl ?_
              refine tn rfl (fun e_ => absurd ((hk4).symm.trans e_) (by decide)) rfl ?_
              refine tn rfl (fun e_ => absurd ((hk4).symm.trans e_) (by decide)) rfl ?_
              refine tn rfl (fun e_ => absurd ((hk4).symm.trans e_) (by decide)) rfl ?_
              refine tn rfl (fun e_ => absurd ((hk4).symm.trans e_) (by decide)) rfl ?_
              refine tn rfl (fun e_ => absurd ((hk4).symm.trans e_) (by decide)) rfl ?_
              refine tn rfl (fun e_ => absurd ((hk4).symm.trans e_) (by decide)) rfl ?_
              refine tn rfl (fun e_ => absurd ((hk4).symm.trans e_) (by decide)) rfl ?_
              refine tnu rfl rfl rfl ?_
              refine tnu rfl rfl rfl ?_
              refine tnu rfl rfl rfl ?_
              refine tnu rfl rfl rfl ?_
              refine tnu rfl rfl rfl ?_
              refine tnu rfl rfl rfl ?_
              refine tnu rfl rfl rfl ?_
              refine tnu rfl rfl rfl ?_
              refine tnu rfl rfl rfl ?_
              refine tn rfl (fun e_ => absurd ((hk4).symm.trans e_) (by decide)) rfl ?_
              refine tvg rfl (decide_eq_true hk3) (fun w_ E_ => (o_pickT (hk4) rfl rfl)) rfl rfl ?_
              refine tv (fun w_ E_ => (o_pickT (decide_eq_true hk3) rfl rfl)) rfl rfl ?_
              refine tw_nil rfl fun w13 E_ => ?_
              replace Bg1 := Bg1.mod0 E_
              replace E := E.then E_
              refine e_K (hK13 _ _ _ _ ?_)
              refine c_true rfl ?_
              have hb_ : sigBad q x = true := by rw [sigBad]; simp only [hk4, Bool.true_and, Bool.and_true, Bool.false_and, Bool.and_false, Bool.true_or, Bool.or_true, Bool.false_or, Bool.or_false, Bool.not_true, Bool.not_false]
              have hF : sigsL none l = false := by rw [hinv, sigsL_at hx_x, okP_at hx_q (by omega), hb_]; simp
              refine c_seq fun K14 hK14 => ?_
              refine c_region ?_
              refine sv (o_as rfl) rfl ?_
              refine l_nil ?_
              refine e_K (hK14 _ _ _ _ ?_)
              refine c_ret ?_
              refine e_in (by simp) ?_
              refine e_then (by simp) ?_
              refine e_then (by simp) ?_
              refine e_in (by simp) ?_
              refine e_then (by simp) ?_
              exact ret1 rfl rfl ⟨by rw [hF], E⟩
            · skip
              by_cases hk5 : q.srv = x.srv
              · skip
                by_cases hk6 : (!bl q.key x.key) = true
                · skip
                  refine c_draw wide (by kernel_rfl) ?_
                  refine tv (fun w_ E_ => (o_mv rfl)) rfl rfl ?_
                  refine tv (fun w_ E_ => (o_gtr rfl rfl)) rfl rfl ?_
                  refine tv (fun w_ E_ => (o_mv rfl)) rfl rfl ?_
                  refine tvg rfl (decide_eq_true hk3) (fun w_ E_ => (o_mv rfl)) rfl rfl ?_
                  refine tvg rfl (decide_eq_true hk3) (fun w_ E_ => (o_mv rfl)) rfl rfl ?_
                  refine tvg rfl (decide_eq_true hk3) (fun w_ E_ => (o_subE (r := ((k - 1 : Nat) : Int)) rfl rfl (by rw [wrap64_in _ (by omega)]; omega))) rfl rfl ?_
                  refine tvg rfl (decide_eq_true hk3) (fun w_ E_ => (o_ix sl31 rfl rfl (by omega))) rfl rfl ?_
                  refine tvg rfl (decide_eq_true hk3) (fun w_ E_ => (o_fad fd58_0 rfl)) rfl rfl ?_
                  refine tvg rfl (decide_eq_true hk3) (fun w_ E_ => (o_ld sc9 rfl ((hcs_q.mod0 E_) 0 _ rfl))) rfl rfl ?_
                  refine tvg rfl (decide_eq_true hk3) (fun w_ E_ => (o_fa0 fd58_0 rfl)) rfl rfl ?_
                  refine tvg rfl (decide_eq_true hk3) (fun w_ E_ => (o_ld sc9 rfl ((Bg1.mod0 E_).cell rfl))) rfl rfl ?_
                  refine tvg rfl (decide_eq_true hk3) (fun w_ E_ => (o_sgt rfl rfl)) rfl rfl ?_
                  refine tvg rfl (decide_eq_true hk3) (fun w_ E_ => (o_mv rfl)) rfl rfl ?_
                  refine tvg rfl (Bool.eq_false_iff.2 hk4) (fun w_ E_ => (o_mv rfl)) rfl rfl ?_
                  refine tvg rfl (Bool.eq_false_iff.2 hk4) (fun w_ E_ => (o_mv rfl)) rfl rfl ?_
                  refine tvg rfl (Bool.eq_false_iff.2 hk4) (fun w_ E_ => (o_subE (r := ((k - 1 : Nat) : Int)) rfl rfl (by rw [wrap64_in _ (by omega)]; omega))) rfl rfl ?_
                  refine tvg rfl (Bool.eq_false_iff.2 hk4) (fun w_ E_ => (o_ix sl31 rfl rfl (by omega))) rfl rfl ?_
                  refine tvg rfl (Bool.eq_false_iff.2 hk4) (fun w_ E_ => (o_fad fd58_0 rfl)) rfl rfl ?_
                  refine tvg rfl (Bool.eq_false_iff.2 hk4) (fun w_ E_ => (o_ld sc9 rfl ((hcs_q.mod0 E_) 0 _ rfl))) rfl rfl ?_
                  refine tvg rfl (Bool.eq_false_iff.2 hk4) (fun w_ E_ => (o_fa0 fd58_0 rfl)) rfl rfl ?_
                  refine tvg rfl (Bool.eq_false_iff.2 hk4) (fun w_ E_ => (o_ld sc9 rfl ((Bg1.mod0 E_).cell rfl))) rfl rfl ?_
                  refine tvg rfl (Bool.eq_false_iff.2 hk4) (fun w_ E_ => (o_seq rfl rfl)) rfl rfl ?_
                  refine tvg rfl (Bool.eq_false_iff.2 hk4) (fun w_ E_ => (o_mv rfl)) rfl rfl ?_
                  refine tvg rfl (decide_eq_true hk5) (fun w_ E_ => (o_mv rfl)) rfl rfl ?_
                  refine tvg rfl (decide_eq_true hk5) (fun w_ E_ => (o_mv rfl)) rfl rfl ?_
                  refine tvg rfl (decide_eq_true hk5) (fun w_ E_ => (o_subE (r := ((k - 1 : Nat) : Int)) rfl rfl (by rw [wrap64_in _ (by omega)]; omega))) rfl rfl ?_
                  refine tvg rfl (decide_eq_true hk5) (fun w_ E_ => (o_ix sl31 rfl rfl (by omega))) rfl rfl ?_
                  refine tvg rfl (decide_eq_true hk5) (fun w_ E_ => (o_fad fd58_1 rfl)) rfl rfl ?_
                  refine tvg rfl (decide_eq_true hk5) (fun w_ E_ => (o_ld sc9 rfl ((hcs_q.mod0 E_) 1 _ rfl))) rfl rfl ?_
                  refine tvg rfl (decide_eq_true hk5) (fun w_ E_ => (o_fa0 fd58_1 rfl)) rfl rfl ?_
                  refine tvg rfl (decide_eq_true hk5) (fun w_ E_ => (o_ld sc9 rfl ((Bg1.mod0 E_).cell rfl))) rfl rfl ?_
                  refine tvg rfl (decide_eq_true hk5) (fun w_ E_ => (o_sge rfl rfl)) rfl rfl ?_
                  refine tvg rfl (Bool.eq_false_iff.2 hk4) (fun w_ E_ => (o_pickT (decide_eq_true hk5) rfl rfl)) rfl rfl ?_
                  refine tvg rfl (decide_eq_true hk3) (fun w_ E_ => (o_pickF (Bool.eq_false_iff.2 hk4) rfl rfl)) rfl rfl ?_
                  refine tv (fun w_ E_ => (o_pickT (decide_eq_true hk3) rfl rfl)) rfl rfl ?_
                  refine tw_nil rfl fun w14 E_ => ?_
                  replace Bg1 := Bg1.mod0 E_
                  replace E := E.then E_
                  refine e_K (hK13 _ _ _ _ ?_)
                  refine c_cond rfl (fun h62 => ?_) (fun h62 => absurd ((hk6).symm.trans h62) (by decide))
                  have hb_ : sigBad q x = true := by rw [sigBad]; simp only [Bool.eq_false_iff.2 hk4, decide_eq_true hk5, hk6, Bool.true_and, Bool.and_true, Bool.false_and, Bool.and_false, Bool.true_or, Bool.or_true, Bool.false_or, Bool.or_false, Bool.not_true, Bool.not_false]
                  have hF : sigsL none l = false := by rw [hinv, sigsL_at hx_x, okP_at hx_q (by omega), hb_]; simp
                  refine c_seq fun K15 hK15 => ?_
                  refine c_region ?_
                  refine sv (o_as rfl) rfl ?_
                  refine l_nil ?_
                  refine e_K (hK15 _ _ _ _ ?_)
                  refine c_ret ?_
                  refine e_in (by simp) ?_
                  refine e_then (by simp) ?_
                  refine e_then (by simp) ?_
                  refine e_in (by simp) ?_
                  refine e_then (by simp) ?_
                  exact ret1 rfl rfl ⟨by rw [hF], E⟩
                · skip
                  refine c_draw wide (by kernel_rfl) ?_
                  refine tv (fun w_ E_ => (o_mv rfl)) rfl rfl ?_
                  refine tv (fun w_ E_ => (o_gtr rfl rfl)) rfl rfl ?_
                  refine tv (fun w_ E_ => (o_mv rfl)) rfl rfl ?_
                  refine tvg rfl (decide_eq_true hk3) (fun w_ E_ => (o_mv rfl)) rfl rfl ?_
                  refine tvg rfl (decide_eq_true hk3) (fun w_ E_ => (o_mv rfl)) rfl rfl ?_
                  refine tvg rfl (decide_eq_true hk3) (fun w_ E_ => (o_subE (r := ((k - 1 : Nat) : Int)) rfl rfl (by rw [wrap64_in _ (by omega)]; omega))) rfl rfl ?_
                  refine tvg rfl (decide_eq_true hk3) (fun w_ E_ => (o_ix sl31 rfl rfl (by omega))) rfl rfl ?_
                  refine tvg rfl (decide_eq_true hk3) (fun w_ E_ => (o_fad fd58_0 rfl)) rfl rfl ?_
                  refine tvg rfl (decide_eq_true hk3) (fun w_ E_ => (o_ld sc9 rfl ((hcs_q.mod0 E_) 0 _ rfl))) rfl rfl ?_
                  refine tvg rfl (decide_eq_true hk3) (fun w_ E_ => (o_fa0 fd58_0 rfl)) rfl rfl ?_
                  refine tvg rfl (decide_eq_true hk3) (fun w_ E_ => (o_ld sc9 rfl ((Bg1.mod0 E_).cell rfl))) rfl rfl ?_
                  refine tvg rfl (decide_eq_true hk3) (fun w_ E_ => (o_sgt rfl rfl)) rfl rfl ?_
                  refine tvg rfl (decide_eq_true hk3) (fun w_ E_ => (o_mv rfl)) rfl rfl ?_
                  refine tvg rfl (Bool.eq_false_iff.2 hk4) (fun w_ E_ => (o_mv rfl)) rfl rfl ?_
                  refine tvg rfl (Bool.eq_false_iff.2 hk4) (fun w_ E_ => (o_mv rfl)) rfl rfl ?_
                  refine tvg rfl (Bool.eq_false_iff.2 hk4) (fun w_ E_ => (o_subE (r := ((k - 1 : Nat) : Int)) rfl rfl (by rw [wrap64_in _ (by omega)]; omega))) rfl rfl ?_
                  refine tvg rfl (Bool.eq_false_iff.2 hk4) (fun w_ E_ => (o_ix sl31 rfl rfl (by omega))) rfl rfl ?_
                  refine tvg rfl (Bool.eq_false_iff.2 hk4) (fun w_ E_ => (o_fad fd58_0 rfl)) rfl rfl ?_
                  refine tvg rfl (Bool.eq_false_iff.2 hk4) (fun w_ E_ => (o_ld sc9 rfl ((hcs_q.mod0 E_) 0 _ rfl))) rfl rfl ?_
                  refine tvg rfl (Bool.eq_false_iff.2 hk4) (fun w_ E_ => (o_fa0 fd58_0 rfl)) rfl rfl ?_
                  refine tvg rfl (Bool.eq_false_iff.2 hk4) (fun w_ E_ => (o_ld sc9 rfl ((Bg1.mod0 E_).cell rfl))) rfl rfl ?_
                  refine tvg rfl (Bool.eq_false_iff.2 hk4) (fun w_ E_ => (o_seq rfl rfl)) rfl rfl ?_
                  refine tvg rfl (Bool.eq_false_iff.2 hk4) (fun w_ E_ => (o_mv rfl)) rfl rfl ?_
                  refine tvg rfl (decide_eq_true hk5) (fun w_ E_ => (o_mv rfl)) rfl rfl ?_
                  refine tvg rfl (decide_eq_true hk5) (fun w_ E_ => (o_mv rfl)) rfl rfl ?_
                  refine tvg rfl (decide_eq_true hk5) (fun w_ E_ => (o_subE (r := ((k - 1 : Nat) : Int)) rfl rfl (by rw [wrap64_in _ (by omega)]; omega))) rfl rfl ?_
                  refine tvg rfl (decide_eq_true hk5) (fun w_ E_ => (o_ix sl31 rfl rfl (by omega))) rfl rfl ?_
                  refine tvg rfl (decide_eq_true hk5) (fun w_ E_ => (o_fad fd58_1 rfl)) rfl rfl ?_
                  refine tvg rfl (decide_eq_true hk5) (fun w_ E_ => (o_ld sc9 rfl ((hcs_q.mod0 E_) 1 _ rfl))) rfl rfl ?_
                  refine tvg rfl (decide_eq_true hk5) (fun w_ E_ => (o_fa0 fd58_1 rfl)) rfl rfl ?_
                  refine tvg rfl (decide_eq_true hk5) (fun w_ E_ => (o_ld sc9 rfl ((Bg1.mod0 E_).cell rfl))) rfl rfl ?_
                  refine tvg rfl (decide_eq_true hk5) (fun w_ E_ => (o_sge rfl rfl)) rfl rfl ?_
                  refine tvg rfl (Bool.eq_false_iff.2 hk4) (fun w_ E_ => (o_pickT (decide_eq_true hk5) rfl rfl)) rfl rfl ?_
                  refine tvg rfl (decide_eq_true hk3) (fun w_ E_ => (o_pickF (Bool.eq_false_iff.2 hk4) rfl rfl)) rfl rfl ?_
                  refine tv (fun w_ E_ => (o_pickT (decide_eq_true hk3) rfl rfl)) rfl rfl ?_
                  refine tw_nil rfl fun w15 E_ => ?_
                  replace Bg1 := Bg1.mod0 E_
                  replace E := E.then E_
                  refine e_K (hK13 _ _ _ _ ?_)
                  refine c_cond rfl (fun h62 => absurd ((Bool.eq_false_iff.2 hk6).symm.trans h62) (by decide)) (fun h62 => ?_)
                  have hb_ : sigBad q x = false := by rw [sigBad]; simp only [Bool.eq_false_iff.2 hk4, decide_eq_true hk5, Bool.eq_false_iff.2 hk6, Bool.true_and, Bool.and_true, Bool.false_and, Bool.and_false, Bool.true_or, Bool.or_true, Bool.false_or, Bool.or_false, Bool.not_true, Bool.not_false]
                  have hnx : sigsL none l = sigsL (prevS l (k + 1)) (l.drop (k + 1)) := by rw [hinv, sigsL_at hx_x, hsg, okP_at hx_q (by omega), hb_]; rfl
                  refine c_skip ?_
                  refine e_in (by simp) ?_
                  refine e_K (hK6 _ _ _ _ ?_)
                  refine c_region ?_
                  refine sv (o_addN rfl rfl (by omega)) rfl ?_
                  refine sv (o_mv rfl) rfl ?_
                  refine l_nil ?_
                  exact e_round (σ := Nat) (s := k) (k + 1) ⟨rfl, rfl, rfl, rfl, trivial⟩ ⟨by omega, hnx, E⟩ (by omega)
              · skip
                refine c_draw wide (by kernel_rfl) ?_
                refine tv (fun w_ E_ => (o_mv rfl)) rfl rfl ?_
                refine tv (fun w_ E_ => (o_gtr rfl rfl)) rfl rfl ?_
                refine tv (fun w_ E_ => (o_mv rfl)) rfl rfl ?_
                refine tvg rfl (decide_eq_true hk3) (fun w_ E_ => (o_mv rfl)) rfl rfl ?_
                refine tvg rfl (decide_eq_true hk3) (fun w_ E_ => (o_mv rfl)) rfl rfl ?_
                refine tvg rfl (decide_eq_true hk3) (fun w_ E_ => (o_subE (r := ((k - 1 : Nat) : Int)) rfl rfl (by rw [wrap64_in _ (by omega)]; omega))) rfl rfl ?_
                refine tvg rfl (decide_eq_true hk3) (fun w_ E_ => (o_ix sl31 rfl rfl (by omega))) rfl rfl ?_
                refine tvg rfl (decide_eq_true hk3) (fun w_ E_ => (o_fad fd58_0 rfl)) rfl rfl ?_
                refine tvg rfl (decide_eq_true hk3) (fun w_ E_ => (o_ld sc9 rfl ((hcs_q.mod0 E_) 0 _ rfl))) rfl rfl ?_
                refine tvg rfl (decide_eq_true hk3) (fun w_ E_ => (o_fa0 fd58_0 rfl)) rfl rfl ?_
                refine tvg rfl (decide_eq_true hk3) (fun w_ E_ => (o_ld sc9 rfl ((Bg1.mod0 E_).cell rfl))) rfl rfl ?_
                refine tvg rfl (decide_eq_true hk3) (fun w_ E_ => (o_sgt rfl rfl)) rfl rfl ?_
                refine tvg rfl (decide_eq_true hk3) (fun w_ E_ => (o_mv rfl)) rfl rfl ?_
                refine tvg rfl (Bool.eq_false_iff.2 hk4) (fun w_ E_ => (o_mv rfl)) rfl rfl ?_
                refine tvg rfl (Bool.eq_false_iff.2 hk4) (fun w_ E_ => (o_mv rfl)) rfl rfl ?_
                refine tvg rfl (Bool.eq_false_iff.2 hk4) (fun w_ E_ => (o_subE (r := ((k - 1 : Nat) : Int)) rfl rfl (by rw [wrap64_in _ (by omega)]; omega))) rfl rfl ?_
                refine tvg rfl (Bool.eq_false_iff.2 hk4) (fun w_ E_ => (o_ix sl31 rfl rfl (by omega))) rfl rfl ?_
                refine tvg rfl (Bool.eq_false_iff.2 hk4) (fun w_ E_ => (o_fad fd58_0 rfl)) rfl rfl ?_
                refine tvg rfl (Bool.eq_false_iff.2 hk4) (fun w_ E_ => (o_ld sc9 rfl ((hcs_q.mod0 E_) 0 _ rfl))) rfl rfl ?_
                refine tvg rfl (Bool.eq_false_iff.2 hk4) (fun w_ E_ => (o_fa0 fd58_0 rfl)) rfl rfl ?_
                refine tvg rfl (Bool.eq_false_iff.2 hk4) (fun w_ E_ => (o_ld sc9 rfl ((Bg1.mod0 E_).cell rfl))) rfl rfl ?_
                refine tvg rfl (Bool.eq_false_iff.2 hk4) (fun w_ E_ => (o_seq rfl rfl)) rfl rfl ?_
                refine tvg rfl (Bool.eq_false_iff.2 hk4) (fun w_ E_ => (o_mv rfl)) rfl rfl ?_
                refine tn rfl (fun e_ => absurd ((decide_eq_false hk5).symm.trans e_) (by decide)) rfl ?_
                refine tn rfl (fun e_ => absurd ((decide_eq_false hk5).symm.trans e_) (by decide)) rfl ?_
                refine tn rfl (fun e_ => absurd ((decide_eq_false hk5).symm.trans e_) (by decide)) rfl ?_
                refine tn rfl (fun e_ => absurd ((decide_eq_false hk5).symm.trans e_) (by decide)) rfl ?_
                refine tn rfl (fun e_ => absurd ((decide_eq_false hk5).symm.trans e_) (by decide)) rfl ?_
                refine tn rfl (fun e_ => absurd ((decide_eq_false hk5).symm.trans e_) (by decide)) rfl ?_
                refine tn rfl (fun e_ => absurd ((decide_eq_false hk5).symm.trans e_) (by decide)) rfl ?_
                refine tn rfl (fun e_ => absurd ((decide_eq_false hk5).symm.trans e_) (by decide)) rfl ?_
                refine tn rfl (fun e_ => absurd ((decide_eq_false hk5).symm.trans e_) (by decide)) rfl ?_
                refine tvg rfl (Bool.eq_false_iff.2 hk4) (fun w_ E_ => (o_pickF (decide_eq_false hk5) rfl rfl)) rfl rfl ?_
                refine tvg rfl (decide_eq_true hk3) (fun w_ E_ => (o_pickF (Bool.eq_false_iff.2 hk4) rfl rfl)) rfl rfl ?_
                refine tv (fun w_ E_ => (o_pickT (decide_eq_true hk3) rfl rfl)) rfl rfl ?_
                refine tw_nil rfl fun w16 E_ => ?_
                replace Bg1 := Bg1.mod0 E_
                replace E := E.then E_
                refine e_K (hK13 _ _ _ _ ?_)
                refine c_false rfl ?_
                have hb_ : sigBad q x = false := by rw [sigBad]; simp only [Bool.eq_false_iff.2 hk4, decide_eq_false hk5, Bool.true_and, Bool.and_true, Bool.false_and, Bool.and_false, Bool.true_or, Bool.or_true, Bool.false_or, Bool.or_false, Bool.not_true, Bool.not_false]
                have hnx : sigsL none l = sigsL (prevS l (k + 1)) (l.drop (k + 1)) := by rw [hinv, sigsL_at hx_x, hsg, okP_at hx_q (by omega), hb_]; rfl
                refine c_skip ?_
                refine e_in (by simp) ?_
                refine e_K (hK6 _ _ _ _ ?_)
                refine c_region ?_
                refine sv (o_addN rfl rfl (by omega)) rfl ?_
                refine sv (o_mv rfl) rfl ?_
                refine l_nil ?_
                exact e_round (σ := Nat) (s := k) (k + 1) ⟨rfl, rfl, rfl, rfl, trivial⟩ ⟨by omega, hnx, E⟩ (by omega)
          · skip
            refine c_draw wide (by kernel_rfl) ?_
            refine tv (fun w_ E_ => (o_mv rfl)) rfl rfl ?_
            refine tv (fun w_ E_ => (o_gtr rfl rfl)) rfl rfl ?_
            refine tv (fun w_ E_ => (o_mv rfl)) rfl rfl ?_
            refine tn rfl (fun e_ => absurd ((decide_eq_false hk3).symm.trans e_) (by decide)) rfl ?_
            refine tn rfl (fun e_ => absurd ((decide_eq_false hk3).symm.trans e_) (by decide)) rfl ?_
            refine tn rfl (fun e_ => absurd ((decide_eq_false hk3).symm.trans e_) (by decide)) rfl ?_
            refine tn rfl (fun e_ => absurd ((decide_eq_false hk3).symm.trans e_) (by decide)) rfl ?_
            refine tn rfl (fun e_ => absurd ((decide_eq_false hk3).symm.trans e_) (by decide)) rfl ?_
            refine tn rfl (fun e_ => absurd ((decide_eq_false hk3).symm.trans e_) (by decide)) rfl ?_
            refine tn rfl (fun e_ => absurd ((decide_eq_false hk3).symm.trans e_) (by decide)) rfl ?_
            refine tn rfl (fun e_ => absurd ((decide_eq_false hk3).symm.trans e_) (by decide)) rfl ?_
            refine tn rfl (fun e_ => absurd ((decide_eq_false hk3).symm.trans e_) (by decide)) rfl ?_
            refine tn rfl (fun e_ => absurd ((decide_eq_false hk3).symm.trans e_) (by decide)) rfl ?_
            refine tnu rfl rfl rfl ?_
            refine tnu rfl rfl rfl ?_
            refine tnu rfl rfl rfl ?_
            refine tnu rfl rfl rfl ?_
            refine tnu rfl rfl rfl ?_
            refine tnu rfl rfl rfl ?_
            refine tnu rfl rfl rfl ?_
            refine tnu rfl rfl rfl ?_
            refine tnu rfl rfl rfl ?_
            refine tnu rfl rfl rfl ?_
            refine tnu rfl rfl rfl ?_
            refine tnu rfl rfl rfl ?_
            refine tnu rfl rfl rfl ?_
            refine tnu rfl rfl rfl ?_
            refine tnu rfl rfl rfl ?_
            refine tnu rfl rfl rfl ?_
            refine tnu rfl rfl rfl ?_
            refine tnu rfl rfl rfl ?_
            refine tnu rfl rfl rfl ?_
            refine tnu rfl rfl rfl ?_
            refine tn rfl (fun e_ => absurd ((decide_eq_false hk3).symm.trans e_) (by decide)) rfl ?_
            refine tv (fun w_ E_ => (o_pickF (decide_eq_false hk3) rfl rfl)) rfl rfl ?_
            refine tw_nil rfl fun w17 E_ => ?_
            replace Bg1 := Bg1.mod0 E_
            replace E := E.then E_
            refine e_K (hK13 _ _ _ _ ?_)
            refine c_false rfl ?_
            have hnx : sigsL none l = sigsL (prevS l (k + 1)) (l.drop (k + 1)) := by rw [hinv, sigsL_at hx_x, hsg, okP_0 (by omega)]; rfl
            refine c_skip ?_
            refine e_in (by simp) ?_
            refine e_K (hK6 _ _ _ _ ?_)
            refine c_region ?_
            refine sv (o_addN rfl rfl (by omega)) rfl ?_
            refine sv (o_mv rfl) rfl ?_
            refine l_nil ?_
            exact e_round (σ := Nat) (s := k) (k + 1) ⟨rfl, rfl, rfl, rfl, trivial⟩ ⟨by omega, hnx, E⟩ (by omega)
  · skip
    refine c_exit ?_
    refine e_then (by simp) ?_
    refine e_then (by simp) ?_
    refine e_hit ?_
    refine e_K (hK2 _ _ _ _ ?_)
    refine c_seq fun K16 hK16 => ?_
    refine c_region ?_
    refine sv (o_as rfl) rfl ?_
    refine l_nil ?_
    refine e_K (hK16 _ _ _ _ ?_)
    refine c_ret ?_
    exact ret1 rfl rfl ⟨by rw [hinv, sigsL_end (by omega)], E⟩
end Go.Proofs.YtkhbnhdlelmbnaaDoor.V
