/-
  A part of the proof: bytes that grow behind one another while a JSON value is read: what is kept from step to step. No condition of its own.
-/
import Derived.Test.YtknndpjacklkeaaGreatDoorM5
import Derived.Test.YtknndpjacklkeaaGreatDoorM4
import Derived.Test.YtknndpjacklkeaaGreatDoorM3
import Derived.Lib.AppendIntMem
import Derived.Lib.LaidTab
import Derived.Shelf.Small.Utf8
import Derived.Shelf.Small.Strs
import Derived.Shelf.Small.Wraps
import Derived.Shelf.Utf8.AppendRune
import Derived.Shelf.Strconv.Atoi
import Derived.Shelf.Strconv.Itoa0
import Derived.Shelf.Strconv.Itoa1
import Derived.Shelf.LaysM
import Derived.Shelf.Strconv.Itoa2
import Derived.Shelf.Strconv.Itoa3
import Derived.Shelf.Strconv.ParseIntEmpty
import Derived.Shelf.Strconv.Clone
import Derived.Shelf.Strconv.Lower
import Derived.Shelf.Strconv.ParseUint10Empty
import Derived.Shelf.Strings.Search1
import Derived.Shelf.Strings.Search2
import Derived.Shelf.Strings.Cut
import Derived.Shelf.Strings.Shaped
import Derived.Shelf.Strings.Prefix
import Derived.Shelf.Strings.Runes
import Derived.Shelf.Strings.AsciiSet
import Derived.Shelf.Unicode.DecodeSlow
import Derived.Shelf.Unicode.DecodeAny
import Derived.Test.YtknndpjacklkeaaGreatDoorProg
set_option linter.unusedVariables false
set_option linter.unusedSimpArgs false
namespace Go.Proofs.YtknndpjacklkeaaGreatDoor.V
open Go
section
variable {w0 w wA w' : World} {u0 u u1 u2 res : Value} {b t : Str} {r : Except Int Str}
abbrev OwB (w : World) (u : Value) (b : Str) : Prop := Own w 5 1 u b.length ((b.map b8c).flatten)
def WR (w0 w : World) (u0 : Value) (r : Except Int Str) (res : Value) : Prop :=
 ∃ u, res = .tuple #[u, .int .i64 (ern r)] ∧ OwB w u (bts r) ∧ (∀ x ∈ ob u, x ∈ ob u0 ∨ w0.heap.size ≤ x) ∧ Mod (ob u0) w0 w ∧ (bts r).length ≤ 65536
theorem long_own (h : u2 = u1 ∧ bts (lng b) = b ∨ u2 = .slice none 0 0 ∧ bts (lng b) = []) (O : OwB w u1 b) : OwB w u2 (bts (lng b)) ∧ ∀ x ∈ ob u2, x ∈ ob u1 := by
 rcases h with ⟨rfl, h⟩ | ⟨rfl, h⟩
 ·rw [h]; exact ⟨O, fun x hx => hx⟩
 ·rw [h]; exact ⟨Own.nil w 5 1, by simp [ob]⟩
theorem WR.applong {n : Nat} {vs : List Value} (E : Mod [] w0 w) (AA : App w wA 5 1 u0 u1 n vs) (O1 : OwB wA u1 (b ++ t)) (h : u2 = u1 ∧ bts (lng (b ++ t)) = b ++ t ∨ u2 = .slice none 0 0 ∧ bts (lng (b ++ t)) = []) (E_ : Mod [] wA w') (hr : r = lng (b ++ t)) :
  WR w0 w' u0 r (.tuple #[u2, .int .i64 (ern (lng (b ++ t)))]) := by
 subst hr
 obtain ⟨h1, h2⟩ := long_own h (O1.mod0 E_)
 exact ⟨u2, rfl, h1, fun x hx => (AA.ob_ x (h2 x hx)).imp id (fun h => Nat.le_trans E.size h), ((E.mono (by simp)).trans AA.mod).trans (E_.mono (by simp)), lng_len _⟩
theorem WR.err {e : Int} (E : Mod [] w0 w) (he : e ≠ 0) (hr : r = .error e) : WR w0 w u0 r (.tuple #[.slice none 0 0, .int .i64 e]) := by
 subst hr
 exact ⟨_, by simp [ern, he], Own.nil w 5 1, by simp [ob], E.mono (by simp), by simp [bts]⟩
structure WS (w0 w : World) (u0 : Value) (g V : Nat) (cells : List Value) (v : JV) (al am : Option Addr) (cl cm : Nat) (u : Value) (b : Str) : Prop where
 own : OwB w u b
 len : b.length ≤ 65536
 hob : ∀ x ∈ ob u, x ∈ ob u0 ∨ w0.heap.size ≤ x
 mod : Mod (ob u0) w0 w
 blk : Blk w g V cells
 dis : ∀ x ∈ ob u, x ≠ g
 rl : Rep (ob u) w (.sl 6 (v.list.map JV.D)) (.slice al v.list.length cl)
 rm : Rep (ob u) w (.sl 7 (v.map.map JV.Dp)) (.slice am v.map.length cm)
variable {g V : Nat} {cells : List Value} {v : JV} {al am : Option Addr} {cl cm : Nat}
theorem WS.step (H : WS w0 w u0 g V cells v al am cl cm u b) {b' : Str} {u' : Value} (k : Mod (ob u) w w') (O : OwB w' u' b') (ho : ∀ x ∈ ob u', x ∈ ob u ∨ w.heap.size ≤ x) (hl : b'.length ≤ 65536) : WS w0 w' u0 g V cells v al am cl cm u' b' where
 own := O
 len := hl
 hob := fun x hx => (ho x hx).elim (H.hob x) (fun h => .inr (Nat.le_trans H.mod.size h))
 mod := H.mod.trans' k H.hob
 blk := H.blk.mod k (fun hx => H.dis _ hx rfl)
 dis := fun x hx => (ho x hx).elim (H.dis x) (fun h e => by have := H.blk.lt; omega)
 rl := Rep.to k (fun x hx => hx) ho _ _ H.rl
 rm := Rep.to k (fun x hx => hx) ho _ _ H.rm
theorem WS.mod0 (H : WS w0 w u0 g V cells v al am cl cm u b) (k : Mod [] w w') : WS w0 w' u0 g V cells v al am cl cm u b :=
 H.step (k.mono (by simp)) (H.own.mod0 k) (fun x hx => .inl hx) H.len
theorem WS.applong {n : Nat} {vs : List Value} (H : WS w0 w u0 g V cells v al am cl cm u b) (AA : App w wA 5 1 u u1 n vs) (O1 : OwB wA u1 (b ++ t)) (h : u2 = u1 ∧ bts (lng (b ++ t)) = b ++ t ∨ u2 = .slice none 0 0 ∧ bts (lng (b ++ t)) = []) (E_ : Mod [] wA w') :
  WS w0 w' u0 g V cells v al am cl cm u2 (bts (lng (b ++ t))) := by
 obtain ⟨h1, h2⟩ := long_own h (O1.mod0 E_)
 exact H.step (AA.mod.trans (E_.mono (by simp))) h1 (fun x hx => AA.ob_ x (h2 x hx)) (lng_len _)
theorem WS.wr (H : WS w0 w u0 g V cells v al am cl cm u b) (h : WR w w' u r res) : ∃ u', res = .tuple #[u', .int .i64 (ern r)] ∧ WS w0 w' u0 g V cells v al am cl cm u' (bts r) := by
 obtain ⟨u', h1, h2, h3, h4, h5⟩ := h
 exact ⟨u', h1, H.step h4 h2 h3 h5⟩
theorem WS.err (H : WS w0 w u0 g V cells v al am cl cm u b) (hr : ¬ ern r = 0) : WR w0 w u0 r (.tuple #[.slice none 0 0, .int .i64 (ern r)]) := by
 obtain ⟨e, rfl⟩ := ern_no hr
 exact ⟨_, rfl, Own.nil w 5 1, by simp [ob], H.mod, by simp [bts]⟩
theorem WS.fin {n : Nat} {vs : List Value} (H : WS w0 w u0 g V cells v al am cl cm u b) (AA : App w wA 5 1 u u1 n vs) (O1 : OwB wA u1 (b ++ t)) (h : u2 = u1 ∧ bts (lng (b ++ t)) = b ++ t ∨ u2 = .slice none 0 0 ∧ bts (lng (b ++ t)) = []) (E_ : Mod [] wA w') (hr : r = lng (b ++ t)) :
  WR w0 w' u0 r (.tuple #[u2, .int .i64 (ern (lng (b ++ t)))]) := by
 subst hr
 have H' := H.applong AA O1 h E_
 exact ⟨u2, rfl, H'.own, H'.hob, H'.mod, H'.len⟩
theorem WS.ok (H : WS w0 w u0 g V cells v al am cl cm u (bts (.ok b))) : WS w0 w u0 g V cells v al am cl cm u b := H
end
theorem WR.from_ {w0 w w' : World} {u0 res : Value} {r r' : Except Int Str} (E : Mod [] w0 w) (h : WR w w' u0 r res) (hr : r' = r) : WR w0 w' u0 r' res := by
 subst hr
 obtain ⟨u, h1, h2, h3, h4, h5⟩ := h
 exact ⟨u, h1, h2, fun x hx => (h3 x hx).imp id (fun h => Nat.le_trans E.size h), (E.mono (by simp)).trans h4, h5⟩
theorem WS.init {w0 w : World} {u0 : Value} {b : Str} {g V : Nat} {cells : List Value} {v : JV} {al am : Option Addr} {cl cm : Nat} (E : Mod [] w0 w) (O : OwB w0 u0 b) (hb : b.length ≤ 65536) (B : Blk w g V cells) (hg : w0.heap.size ≤ g)
  (Rl : Rep (ob u0) w0 (.sl 6 (v.list.map JV.D)) (.slice al v.list.length cl)) (Rm : Rep (ob u0) w0 (.sl 7 (v.map.map JV.Dp)) (.slice am v.map.length cm)) : WS w0 w u0 g V cells v al am cl cm u0 b where
 own := O.mod0 E
 len := hb
 hob := fun x hx => .inl hx
 mod := E.mono (by simp)
 blk := B
 dis := fun x hx e => by have := O.lt x hx; omega
 rl := Rl.to0 E
 rm := Rm.to0 E
theorem bare_num {v : JV} (h : v.bare = true) (h2 : v.kind = 2) : -9007199254740991 ≤ v.num ∧ v.num ≤ 9007199254740991 := by
 simp only [JV.bare, h2] at h
 simp at h
 omega
theorem okb {f : Str → Except Int Str} {b : Str} {W : Except Int Str} (h : (Except.ok b : Except Int Str).bind f = W) : f b = W := h
theorem bind_self (r : Except Int Str) : (r.bind fun b => Except.ok b) = r := by cases r <;> rfl
theorem le_bl {a b : Str} (h : ¬ (bl a b || a == b) = true) : bl b a = true := by
 rcases bl_total b a with h1 | h1 | h1
 ·exact h1
 ·subst h1; exact absurd (by simp) h
 ·exact absurd (by simp [h1]) h
theorem bl_le {a b : Str} (h : (bl a b || a == b) = true) : bl b a = false := by
 rcases Bool.or_eq_true_iff.1 h with h | h
 ·exact bl_asymm h
 ·have := eq_of_beq h; subst this; exact bl_irrefl a
def prevK (m : List (Str × JV)) (k : Nat) : Option Str := if k = 0 then none else (m[k - 1]?).map (·.1)
theorem wrl_at {l : List JV} {k : Nat} {x : JV} {deep : Nat} {fst : Bool} {b : Str} (h : l[k]? = some x) : JV.wrl (l.drop k) deep fst b = (if fst then Except.ok b else lng (b ++ [44])).bind fun b => (JV.wr x (deep + 1) b).bind fun b => JV.wrl (l.drop (k + 1)) deep false b := by
 obtain ⟨hk, rfl⟩ := List.getElem?_eq_some_iff.1 h
 rw [List.drop_eq_getElem_cons hk, JV.wrl]
theorem wrl_end {l : List JV} {k deep : Nat} {fst : Bool} {b : Str} (h : l.length ≤ k) : JV.wrl (l.drop k) deep fst b = .ok b := by
 rw [List.drop_eq_nil_of_le h, JV.wrl]
theorem wrm_none (p : List UInt8 × JV) (r : List (List UInt8 × JV)) (deep : Nat) (b : Str) : JV.wrm (p :: r) deep none b = (txtW b p.1).bind fun b => (lng (b ++ [58])).bind fun b => (JV.wr p.2 (deep + 1) b).bind fun b => JV.wrm r deep (some p.1) b := by
 rw [JV.wrm.eq_def]
 rfl
theorem wrm_some (p : List UInt8 × JV) (q : Str) (r : List (List UInt8 × JV)) (deep : Nat) (b : Str) : JV.wrm (p :: r) deep (some q) b = ((lng (b ++ [44])).bind fun b => if bl q p.1 then .ok b else .error 1).bind fun b => (txtW b p.1).bind fun b => (lng (b ++ [58])).bind fun b => (JV.wr p.2 (deep + 1) b).bind fun b => JV.wrm r deep (some p.1) b := by
 rw [JV.wrm.eq_def]
theorem wrm_end {m : List (Str × JV)} {k deep : Nat} {p : Option Str} {b : Str} (h : m.length ≤ k) : JV.wrm (m.drop k) deep p b = .ok b := by
 rw [List.drop_eq_nil_of_le h, JV.wrm]
theorem prevK_succ {m : List (Str × JV)} {k : Nat} {p : Str × JV} (h : m[k]? = some p) : prevK m (k + 1) = some p.1 := by
 simp [prevK, h]
theorem wrm_at0 {m : List (Str × JV)} {p : Str × JV} {deep : Nat} {b : Str} (h : m[0]? = some p) : JV.wrm (m.drop 0) deep (prevK m 0) b = (txtW b p.1).bind fun b => (lng (b ++ [58])).bind fun b => (JV.wr p.2 (deep + 1) b).bind fun b => JV.wrm (m.drop (0 + 1)) deep (prevK m (0 + 1)) b := by
 rw [prevK_succ h]
 obtain ⟨hk, rfl⟩ := List.getElem?_eq_some_iff.1 h
 rw [List.drop_eq_getElem_cons hk]
 exact wrm_none _ _ _ _
theorem wrm_at {m : List (Str × JV)} {k : Nat} {p q : Str × JV} {deep : Nat} {b : Str} (h : m[k]? = some p) (hq : m[k - 1]? = some q) (h0 : 0 < k) : JV.wrm (m.drop k) deep (prevK m k) b = ((lng (b ++ [44])).bind fun b => if bl q.1 p.1 then .ok b else .error 1).bind fun b => (txtW b p.1).bind fun b => (lng (b ++ [58])).bind fun b => (JV.wr p.2 (deep + 1) b).bind fun b => JV.wrm (m.drop (k + 1)) deep (prevK m (k + 1)) b := by
 rw [prevK_succ h]
 have hp : prevK m k = some q.1 := by simp [prevK, hq]; omega
 obtain ⟨hk, rfl⟩ := List.getElem?_eq_some_iff.1 h
 rw [List.drop_eq_getElem_cons hk, hp]
 exact wrm_some _ _ _ _ _
theorem wrl_step {l : List JV} {k deep : Nat} {x : JV} {b1 : Str} {W r1 : Except Int Str} (hx : l[k]? = some x) (hinv : ((Except.ok b1 : Except Int Str).bind fun b => JV.wrl (l.drop k) deep (decide (k = 0)) b) = W) (h1 : (if decide (k = 0) then Except.ok b1 else lng (b1 ++ [44])) = r1) :
  (r1.bind fun b => (JV.wr x (deep + 1) b).bind fun b => JV.wrl (l.drop (k + 1)) deep (decide (k + 1 = 0)) b) = W := by
 have h2 : JV.wrl (l.drop k) deep (decide (k = 0)) b1 = W := hinv
 rw [wrl_at hx, h1] at h2
 rw [show decide (k + 1 = 0) = false by simp]
 exact h2
theorem wrm_step0 {m : List (Str × JV)} {k deep : Nat} {x : Str × JV} {b1 : Str} {W : Except Int Str} (hx : m[k]? = some x) (h0 : k = 0) (hinv : ((Except.ok b1 : Except Int Str).bind fun b => JV.wrm (m.drop k) deep (prevK m k) b) = W) :
  ((txtW b1 x.1).bind fun b => (lng (b ++ [58])).bind fun b => (JV.wr x.2 (deep + 1) b).bind fun b => JV.wrm (m.drop (k + 1)) deep (prevK m (k + 1)) b) = W := by
 subst h0
 have h2 : JV.wrm (m.drop 0) deep (prevK m 0) b1 = W := hinv
 rwa [wrm_at0 hx] at h2
theorem wrm_step {m : List (Str × JV)} {k deep : Nat} {x q : Str × JV} {b1 : Str} {W : Except Int Str} (hx : m[k]? = some x) (hq : m[k - 1]? = some q) (h0 : 0 < k) (hinv : ((Except.ok b1 : Except Int Str).bind fun b => JV.wrm (m.drop k) deep (prevK m k) b) = W) :
  (((lng (b1 ++ [44])).bind fun b => if bl q.1 x.1 then .ok b else .error 1).bind fun b => (txtW b x.1).bind fun b => (lng (b ++ [58])).bind fun b => (JV.wr x.2 (deep + 1) b).bind fun b => JV.wrm (m.drop (k + 1)) deep (prevK m (k + 1)) b) = W := by
 have h2 : JV.wrm (m.drop k) deep (prevK m k) b1 = W := hinv
 rwa [wrm_at hx hq h0] at h2
end Go.Proofs.YtknndpjacklkeaaGreatDoor.V

set_option linter.unusedVariables false
set_option linter.unusedSimpArgs false
set_option maxRecDepth 10000
namespace Go.Proofs.YtknndpjacklkeaaGreatDoor.V
open Go Go.Proofs
theorem ent198 : Ent Tryz.prog 198 := Ent.of Tryz.func198 (by kernel_rfl) (by kernel_rfl)
theorem ent170 : Ent Tryz.prog 170 := Ent.of Tryz.func170 (by kernel_rfl) (by kernel_rfl)
theorem c_bare (w : World) (v : JV) (us : List Value) (R : Reps [] w v.D us) : Calls Tryz.prog 169 [.agg us.toArray].toArray w (Ret fun u w' => u = .bool v.bare ∧ Mod [] w w') := by
 refine enter Tryz.func169 rfl rfl rfl (l := [(0, _)]) ⟨rfl, trivial⟩ ?_
 have E := Mod.refl [] w
 obtain ⟨al, cl, am, cm, rfl, Rl, Rm⟩ := JV.cells_ R
 refine Cq fun K1 hK1 => Cr (s_box rfl rfl rfl fun g1 w1 N1 => ?_)
 have Lg1_E := N1.le E
 replace E := E.then N1.mod
 have Bg1 := N1.blk
 refine Za rfl (Ln (e_K (hK1 _ _ _ _ (Cq fun K2 hK2 => Cr (Sv (o_lda (vs := [_, _, _, _, _, _]) ag25 rfl rfl (Bg1.cs rfl)) (s_alloc zv25 rfl fun g2 w2 N2 => ?_))))))
 have Lg2_E := N2.le E
 have Dg1_g2 := N2.ne Bg1
 replace Bg1 := Bg1.mod0 N2.mod
 replace E := E.then N2.mod
 have Bg2 := N2.blk
 refine s_sta (vs := [_, _, _, _, _, _]) ag25 Bg2 rfl rfl rfl (by simp [Value.oneCell']) (by simp) fun w3 P3 => ?_
 replace Bg1 := Bg1.ne P3.mod (Ne.symm (Ne.symm Dg1_g2))
 replace E := E.own P3.mod Lg2_E
 replace Bg2 : Blk w3 g2 _ [_, _, _, _, _, _] := P3.blk
 refine Ln (e_K (hK2 _ _ _ _ (Cq fun K3 hK3 => ?_)))
 have J3 : ∀ (b1 : Bool) (n1 : Int) (s1 : Str) (a1 : Option Addr) (k1 c1 : Nat) (a2 : Option Addr) (k2 c2 : Nat) (w1 : World), v.bare = (!b1 && decide (n1 = 0) && decide (s1 = []) && decide (k1 = 0) && decide (k2 = 0)) ∧ Blk w1 g2 25 [.int .i64 v.kind, .bool b1, .int .i64 n1, S s1, .slice a1 k1 c1, .slice a2 k2 c2] ∧ Mod [] w w1 → ∀ a, Has 57 [] [(3, .pointer (some ⟨g2, 0, none⟩))] a → K3 a w1 := by
  intro b1 n1 s1 a1 k1 c1 a2 k2 c2 w4 hI
  obtain ⟨hB, Bg2, E⟩ := hI
  refine hK3 _ _ _ _ (Cq fun K4 hK4 => Cr (Sv (oA0 fd25_1 rfl) (Sv (oL sc4 rfl (Bg2.cell rfl)) (Sv (o_not rfl) ?_))))
  refine bB (fun hs17_0 : (!b1) = true => ?_) (fun hs17_0 => ?_)
  ·refine Zm rfl (Sg rfl rfl (oA0 fd25_2 rfl) (Sg rfl rfl (oL sc3 rfl (Bg2.cell rfl)) (Sg rfl rfl (oE rfl rfl) ?_)))
   refine bD (fun hs17_1 : n1 = 0 => ?_) (fun hs17_1 => ?_)
   ·refine tW 2 rfl (Sg rfl rfl (oA0 fd25_3 rfl) (Sg rfl rfl (oL sc9 rfl (Bg2.cell rfl)) (Sg rfl rfl (o_seq rfl rfl) ?_)))
    refine bD (fun hs17_2 : s1 = [] => ?_) (fun hs17_2 => ?_)
    ·refine tW 2 rfl (Sg rfl rfl (oA0 fd25_4 rfl) (Sg rfl rfl (oL sc22 rfl (Bg2.cell rfl)) (Sg rfl rfl (o_len Tryz.underlying22 rfl) (Sg rfl rfl (oE rfl rfl) ?_))))
     refine bD (fun hs17_3 : (k1 : Int) = 0 => ?_) (fun hs17_3 => ?_)
     ·refine tW 2 rfl (Sg rfl rfl (oA0 fd25_5 rfl) (Sg rfl rfl (oL sc23 rfl (Bg2.cell rfl)) (Sg rfl rfl (o_len Tryz.underlying23 rfl) (Sg rfl rfl (oE rfl rfl) ?_))))
      refine bD (fun hs17_4 : (k2 : Int) = 0 => ?_) (fun hs17_4 => ?_)
      ·exact tW 2 rfl (Ln (e_K (hK4 _ _ _ _ (cR (ret1 rfl rfl ⟨by rw [hB]; clear hB; simp_all, E⟩)))))
      ·exact tW 2 rfl (Ln (e_K (hK4 _ _ _ _ (cR (ret1 rfl rfl ⟨by rw [hB]; clear hB; simp_all, E⟩)))))
     ·exact tW 8 rfl (Ln (e_K (hK4 _ _ _ _ (cR (ret1 rfl rfl ⟨by rw [hB]; clear hB; simp_all, E⟩)))))
    ·exact tW 14 rfl (Ln (e_K (hK4 _ _ _ _ (cR (ret1 rfl rfl ⟨by rw [hB]; clear hB; simp_all, E⟩)))))
   ·exact tW 19 rfl (Ln (e_K (hK4 _ _ _ _ (cR (ret1 rfl rfl ⟨by rw [hB]; clear hB; simp_all, E⟩)))))
  ·exact tW 23 rfl (Ln (e_K (hK4 _ _ _ _ (cR (ret1 rfl rfl ⟨by rw [hB]; clear hB; simp_all, E⟩)))))
 refine Cq fun K5 hK5 => Cr (Sv (oA0 fd25_0 rfl) (Sv (oL sc3 rfl (Bg1.cell rfl)) (Ln (e_K (hK5 _ _ _ _ (cB (Cq fun K6 hK6 => Cr (tW 2 rfl (Ln (e_K (hK6 _ _ _ _ ?_)))))))))))
 refine c_if rfl (fun h7 => ?_) (fun h7 => ?_)
 ·refine cK (eI (by simp) ?_)
  refine WE.sub (l' := [(3, _)]) ⟨rfl, trivial⟩ (e_K (J3 v.is v.num v.str al v.list.length cl am v.map.length cm w3 ⟨by simp [JV.bare, h7], Bg2, E⟩))
 ·refine Cq fun K7 hK7 => Cr (tW 2 rfl (Ln (e_K (hK7 _ _ _ _ ?_))))
  refine c_if rfl (fun h9 => ?_) (fun h9 => ?_)
  ·refine Cr (Sv (oA0 fd25_1 rfl) (s_st sc4 Bg2 rfl rfl rfl (by simp) fun w5 P5 => ?_))
   replace Bg1 := Bg1.ne P5.mod (Ne.symm (Ne.symm Dg1_g2))
   replace E := E.own P5.mod Lg2_E
   replace Bg2 : Blk w5 g2 _ [_, _, _, _, _, _] := P5.blk
   refine Ln (eI (by simp) ?_)
   refine WE.sub (l' := [(3, _)]) ⟨rfl, trivial⟩ (e_K (J3 false v.num v.str al v.list.length cl am v.map.length cm w5 ⟨by simp [JV.bare, h9], Bg2, E⟩))
  ·refine Cq fun K8 hK8 => Cr (tW 2 rfl (Ln (e_K (hK8 _ _ _ _ ?_))))
   refine c_if rfl (fun h12 => ?_) (fun h12 => ?_)
   ·refine Cq fun K9 hK9 => Cr (Sv (oA0 fd25_2 rfl) (s_st sc3 Bg2 rfl rfl rfl (by simp) fun w6 P6 => ?_))
    replace Bg1 := Bg1.ne P6.mod (Ne.symm (Ne.symm Dg1_g2))
    replace E := E.own P6.mod Lg2_E
    replace Bg2 : Blk w6 g2 _ [_, _, _, _, _, _] := P6.blk
    refine Ln (e_K (hK9 _ _ _ _ (Cq fun K10 hK10 => Cr (Sv (oA0 fd25_2 rfl) (Sv (oL sc3 rfl (Bg1.cell rfl)) (Sv (o_gtr rfl rfl) ?_))))))
    refine bD (fun hs9_0 : v.num > 9007199254740991 => ?_) (fun hs9_0 => ?_)
    ·refine tW 5 rfl (Ln (e_K (hK10 _ _ _ _ (c_true rfl ?_))))
     have hf : v.bare = false := by simp only [JV.bare, h12]; simp; intros; omega
     exact Cq fun K11 hK11 => Cr (Za rfl (Ln (e_K (hK11 _ _ _ _ (cR (eI (by simp) (eT (by simp) (ret1 rfl rfl ⟨by rw [hf], E⟩))))))))
    ·refine Zm rfl (Sg rfl rfl (oA0 fd25_2 rfl) (Sg rfl rfl (oL sc3 rfl (Bg1.cell rfl)) (tW 2 rfl (Ln (e_K (hK10 _ _ _ _ ?_))))))
     refine c_if rfl (fun h22 => ?_) (fun h22 => ?_)
     ·have hf : v.bare = false := by simp only [JV.bare, h12]; simp; intros; omega
      exact Cq fun K12 hK12 => Cr (Za rfl (Ln (e_K (hK12 _ _ _ _ (cR (eI (by simp) (eT (by simp) (ret1 rfl rfl ⟨by rw [hf], E⟩))))))))
     ·have hrg : -9007199254740991 ≤ v.num ∧ v.num ≤ 9007199254740991 := by omega
      refine cK (eI (by simp) ?_)
      refine WE.sub (l' := [(3, _)]) ⟨rfl, trivial⟩ (e_K (J3 v.is 0 v.str al v.list.length cl am v.map.length cm w6 ⟨by simp [JV.bare, h12, hrg], Bg2, E⟩))
   ·refine Cq fun K13 hK13 => Cr (tW 2 rfl (Ln (e_K (hK13 _ _ _ _ ?_))))
    refine c_if rfl (fun h23 => ?_) (fun h23 => ?_)
    ·refine Cr (Sv (oA0 fd25_3 rfl) (s_st sc9 Bg2 rfl rfl rfl (by simp) fun w7 P7 => ?_))
     replace Bg1 := Bg1.ne P7.mod (Ne.symm (Ne.symm Dg1_g2))
     replace E := E.own P7.mod Lg2_E
     replace Bg2 : Blk w7 g2 _ [_, _, _, _, _, _] := P7.blk
     refine Ln (eI (by simp) ?_)
     refine WE.sub (l' := [(3, _)]) ⟨rfl, trivial⟩ (e_K (J3 v.is v.num [] al v.list.length cl am v.map.length cm w7 ⟨by simp [JV.bare, h23], Bg2, E⟩))
    ·refine Cq fun K14 hK14 => Cr (tW 2 rfl (Ln (e_K (hK14 _ _ _ _ ?_))))
     refine c_if rfl (fun h26 => ?_) (fun h26 => ?_)
     ·refine Cr (Sv (oA0 fd25_4 rfl) (s_st sc22 Bg2 rfl rfl rfl (by simp) fun w8 P8 => ?_))
      replace Bg1 := Bg1.ne P8.mod (Ne.symm (Ne.symm Dg1_g2))
      replace E := E.own P8.mod Lg2_E
      replace Bg2 : Blk w8 g2 _ [_, _, _, _, _, _] := P8.blk
      refine Ln (eI (by simp) ?_)
      refine WE.sub (l' := [(3, _)]) ⟨rfl, trivial⟩ (e_K (J3 v.is v.num v.str none 0 0 am v.map.length cm w8 ⟨by simp [JV.bare, h26], Bg2, E⟩))
     ·refine Cq fun K15 hK15 => Cr (tW 2 rfl (Ln (e_K (hK15 _ _ _ _ ?_))))
      refine c_if rfl (fun h29 => ?_) (fun h29 => ?_)
      ·refine Cr (Sv (oA0 fd25_5 rfl) (s_st sc23 Bg2 rfl rfl rfl (by simp) fun w9 P9 => ?_))
       replace Bg1 := Bg1.ne P9.mod (Ne.symm (Ne.symm Dg1_g2))
       replace E := E.own P9.mod Lg2_E
       replace Bg2 : Blk w9 g2 _ [_, _, _, _, _, _] := P9.blk
       refine Ln (eI (by simp) ?_)
       refine WE.sub (l' := [(3, _)]) ⟨rfl, trivial⟩ (e_K (J3 v.is v.num v.str al v.list.length cl none 0 0 w9 ⟨by simp [JV.bare, h29], Bg2, E⟩))
      ·have hf : v.bare = false := by simp only [JV.bare]; simp; intros; omega
       exact Cq fun K16 hK16 => Cr (Za rfl (Ln (e_K (hK16 _ _ _ _ (cR (eI (by simp) (eT (by simp) (ret1 rfl rfl ⟨by rw [hf], E⟩))))))))

theorem c_long9 (w : World) (b : Str) (u0 : Value) (O : OwB w u0 b) : Calls Tryz.prog 170 [u0].toArray w (Ret fun u w' => ∃ u2, u = .tuple #[u2, .int .i64 (ern (lng b))] ∧ (u2 = u0 ∧ bts (lng b) = b ∨ u2 = .slice none 0 0 ∧ bts (lng b) = []) ∧ Mod [] w w') := by
 refine enter Tryz.func170 rfl rfl rfl (l := [(0, _)]) ⟨rfl, trivial⟩ ?_
 have E := Mod.refl [] w
 obtain ⟨ad, c, rfl, hc1, hc2⟩ := O.form
 refine Cq fun K1 hK1 => Cr (tW 2 rfl (Ln (e_K (hK1 _ _ _ _ (Cq fun K2 hK2 => Cq fun K3 hK3 => Cr (Zm rfl (Sv (o_len Tryz.underlying74 rfl) (Sv (o_gtr rfl rfl) (Ln (e_K (hK3 _ _ _ _ ?_)))))))))))
 refine c_if rfl (fun h6 => ?_) (fun h6 => ?_)
 ·have hl : lng b = .error 3 := if_pos (by omega)
  exact Cq fun K4 hK4 => Cr (tW 2 rfl (Ln (e_K (hK4 _ _ _ _ (cR (eT (by simp) (ret2 rfl rfl rfl ⟨_, by rw [hl]; rfl, .inr ⟨rfl, by rw [hl]; rfl⟩, E⟩)))))))
 ·have hl : lng b = .ok b := if_neg (by omega)
  exact cK (e_K (hK2 _ _ _ _ (Cq fun K5 hK5 => Cr (tW 3 rfl (Ln (e_K (hK5 _ _ _ _ (cR (ret2 rfl rfl rfl ⟨_, by rw [hl]; rfl, .inl ⟨rfl, by rw [hl]; rfl⟩, E⟩)))))))))

theorem c_text9 (w : World) (b s : Str) (u0 : Value) (O : OwB w u0 b) (hb : b.length ≤ 65536) : Calls Tryz.prog 171 [u0, S s].toArray w (Ret fun u w' => WR w w' u0 (txtW b s) u) := by
 refine enter Tryz.func171 rfl rfl rfl (l := [(0, _), (1, _)]) ⟨rfl, rfl, trivial⟩ ?_
 have E := Mod.refl [] w
 refine Cq fun K1 hK1 => Cr (tW 2 rfl (Ln (e_K (hK1 _ _ _ _ (Cq fun K2 hK2 => Cq fun K3 hK3 => Cr (Zm rfl (Sv (o_slen Tryz.underlying9 rfl) (Sv (o_gtr rfl rfl) (Ln (e_K (hK3 _ _ _ _ ?_)))))))))))
 refine c_if rfl (fun h10 => ?_) (fun h10 => ?_)
 ·have hr : txtW b s = .error 3 := if_pos (by omega)
  exact Cq fun K4 hK4 => Cr (tW 2 rfl (Ln (e_K (hK4 _ _ _ _ (cR (eT (by simp) (ret2 rfl rfl rfl (WR.err E (by decide) hr))))))))
 ·have hsl : s.length ≤ 65536 := by omega
  refine cK (e_K (hK2 _ _ _ _ (Cq fun K5 hK5 => Cr (Zm rfl (sc (oC ent198 rfl) (c_put8 _ s (by omega)) rfl fun v_ w1 h_ => ?_)))))
  obtain ⟨rfl, E_⟩ := h_
  replace E := E.then E_
  refine tW 5 rfl (Ln (e_K (hK5 _ _ _ _ (Cq fun K6 hK6 => Cq fun K7 hK7 => Cr (tW 2 rfl (Ln (e_K (hK7 _ _ _ _ ?_))))))))
  refine c_cond rfl (fun h17 => ?_) (fun h17 => ?_)
  ·have hv : validR s = false := by simpa using h17
   have hr : txtW b s = .error 1 := by rw [txtW, if_neg (by omega), hv]; rfl
   exact Cq fun K8 hK8 => Cr (tW 2 rfl (Ln (e_K (hK8 _ _ _ _ (cR (eT (by simp) (ret2 rfl rfl rfl (WR.err E (by decide) hr))))))))
  ·have hv : validR s = true := by simpa using h17
   have hr : txtW b s = lng (b ++ putQ s) := by rw [txtW, if_neg (by omega), hv]; rfl
   refine cK (e_K (hK6 _ _ _ _ (Cq fun K9 hK9 => Cr (tW 2 rfl ?_))))
   have hql := escs_len s
   have hqp : (putQ s).length = (escs s).length + 2 := by simp [putQ]
   replace O := O.mod0 E
   rw [hv, if_pos rfl]
   refine s_append sl74 rfl rfl O (Src.str Tryz.underlying9 _) (by decide) (by first | omega | (simp only [List.length_append, List.length_cons, List.length_nil] at *; omega)) (by first | omega | (simp only [List.length_append, List.length_cons, List.length_nil] at *; omega)) rfl fun u1 w2 AA => ?_
   have O1 : OwB w2 u1 (b ++ putQ s) := AA.own.same (by simp) (by simp [cells_b8, B8])
   refine sc (oC ent170 rfl) (c_long9 _ (b ++ putQ s) _ O1) rfl fun v_ w3 h_ => ?_
   obtain ⟨u2, rfl, hu2, E_⟩ := h_
   exact tW 4 rfl (Ln (e_K (hK9 _ _ _ _ (cR (ret2 rfl rfl rfl (WR.applong E AA O1 hu2 E_ hr))))))
end Go.Proofs.YtknndpjacklkeaaGreatDoor.V

namespace Go.Proofs
open Go.Shelf
def Tryz.laysM171_ren : Go.Shelf.Ren := ⟨fun | 171 => 109 | 243 => 153 | 246 => 187 | 283 => 221 | 284 => 222 | 285 => 223 | 286 => 224 | 129 => 215 | 317 => 244 | 318 => 245 | 319 => 246 | 320 => 247 | 337 => 256 | 338 => 257 | n => n, fun | 3 => 3 | 9 => 9 | 2 => 2 | 4 => 4 | 171 => 225 | 0 => 0 | 53 => 182 | 37 => 74 | 5 => 5 | 173 => 227 | 212 => 245 | 51 => 147 | 20 => 20 | 213 => 246 | 46 => 144 | 232 => 103 | 233 => 265 | n => n, fun | 17 => 4 | 18 => 7 | 19 => 8 | n => n⟩
theorem Tryz.laysM171 : Go.Proofs.LaysM.n171 Tryz.prog Tryz.laysM171_ren := {
 mixed := by kernel_rfl
 f129 := Tryz.func215.trans (congrArg some (by kernel_rfl))
 f171 := Tryz.func109.trans (congrArg some (by kernel_rfl))
 f243 := Tryz.func153.trans (congrArg some (by kernel_rfl))
 f246 := Tryz.func187.trans (congrArg some (by kernel_rfl))
 f283 := Tryz.func221.trans (congrArg some (by kernel_rfl))
 f284 := Tryz.func222.trans (congrArg some (by kernel_rfl))
 f285 := Tryz.func223.trans (congrArg some (by kernel_rfl))
 f286 := Tryz.func224.trans (congrArg some (by kernel_rfl))
 f317 := Tryz.func244.trans (congrArg some (by kernel_rfl))
 f318 := Tryz.func245.trans (congrArg some (by kernel_rfl))
 f319 := Tryz.func246.trans (congrArg some (by kernel_rfl))
 f320 := Tryz.func247.trans (congrArg some (by kernel_rfl))
 f337 := Tryz.func256.trans (congrArg some (by kernel_rfl))
 f338 := Tryz.func257.trans (congrArg some (by kernel_rfl))
 t0 := Tryz.underlying0
 a0 := Tryz.isAgg0
 z0 := Tryz.sizeOf0
 v0 := Tryz.zeroValue0
 t2 := Tryz.underlying2
 a2 := Tryz.isAgg2
 z2 := Tryz.sizeOf2
 v2 := Tryz.zeroValue2
 t3 := Tryz.underlying3
 a3 := Tryz.isAgg3
 z3 := Tryz.sizeOf3
 v3 := Tryz.zeroValue3
 t4 := Tryz.underlying4
 a4 := Tryz.isAgg4
 z4 := Tryz.sizeOf4
 v4 := Tryz.zeroValue4
 t5 := Tryz.underlying5
 a5 := Tryz.isAgg5
 z5 := Tryz.sizeOf5
 v5 := Tryz.zeroValue5
 t9 := Tryz.underlying9
 a9 := Tryz.isAgg9
 z9 := Tryz.sizeOf9
 v9 := Tryz.zeroValue9
 t20 := Tryz.underlying20
 a20 := Tryz.isAgg20
 z20 := Tryz.sizeOf20
 v20 := Tryz.zeroValue20
 t37 := Tryz.underlying74
 a37 := Tryz.isAgg74
 z37 := Tryz.sizeOf74
 v37 := Tryz.zeroValue74
 t46 := Tryz.underlying144
 a46 := Tryz.isAgg144
 z46 := Tryz.sizeOf144
 v46 := Tryz.zeroValue144
 t51 := Tryz.underlying147
 a51 := Tryz.isAgg147
 z51 := Tryz.sizeOf147
 v51 := Tryz.zeroValue147
 t53 := Tryz.underlying182
 a53 := Tryz.isAgg182
 z53 := Tryz.sizeOf182
 v53 := Tryz.zeroValue182
 t171 := Tryz.underlying225
 a171 := Tryz.isAgg225
 z171 := Tryz.sizeOf225
 v171 := Tryz.zeroValue225
 t173 := Tryz.underlying227
 a173 := Tryz.isAgg227
 z173 := Tryz.sizeOf227
 v173 := Tryz.zeroValue227
 t212 := Tryz.underlying245
 a212 := Tryz.isAgg245
 z212 := Tryz.sizeOf245
 v212 := Tryz.zeroValue245
 t213 := Tryz.underlying246
 a213 := Tryz.isAgg246
 z213 := Tryz.sizeOf246
 t232 := Tryz.underlying103
 a232 := Tryz.isAgg103
 z232 := Tryz.sizeOf103
 v232 := Tryz.zeroValue103
 t233 := Tryz.underlying265
 a233 := Tryz.isAgg265
 z233 := Tryz.sizeOf265
 v233 := Tryz.zeroValue265
 g17 := by kernel_rfl
 g18 := by kernel_rfl
 g19 := by kernel_rfl
 i0 := by kernel_rfl
 i2 := by kernel_rfl
 i3 := by kernel_rfl
 i4 := by kernel_rfl
 i5 := by kernel_rfl
 i9 := by kernel_rfl
 i20 := by kernel_rfl
 i37 := by kernel_rfl
 i46 := by kernel_rfl
 i51 := by kernel_rfl
 i53 := by kernel_rfl
 i171 := by kernel_rfl
 i173 := by kernel_rfl
 i212 := by kernel_rfl
 i232 := by kernel_rfl
 i233 := by kernel_rfl
 m17 := by kernel_rfl
 m18 := by kernel_rfl
 m19 := by kernel_rfl }
open Go.RowKit Go.Sort Go.Lib in
theorem Tryz.strconv_Itoa (n : Int) (h0 : -9223372036854775808 ≤ n) (h1 : n ≤ 9223372036854775807) (w : World) (htab : Lib.TabIs Tryz.prog w "internal/strconv.uint64pow10" .u64 Lib.pow10Tab) :
  Calls Tryz.prog 109 #[.int .i64 n] w fun e w' => e = .returned (.string ⟨(Lib.itoa n).toArray⟩) ∧ ∃ k os, w' = grow (w.drewN k) os := Any.strconv_Itoa Tryz.laysM171 n h0 h1 w htab
end Go.Proofs

namespace Go.Proofs.YtknndpjacklkeaaGreatDoor.V
open Go Go.Proofs
abbrev Tab (w : World) : Prop := Lib.TabIs Tryz.prog w "internal/strconv.uint64pow10" .u64 Lib.pow10Tab
abbrev gT : Nat := 4
theorem gPow : Tryz.prog.globalNamed "internal/strconv.uint64pow10" = some gT := by kernel_rfl
theorem Tab.mod {M : List Nat} {w w' : World} (h : Tab w) (k : Mod M w w') (hM : gT ∉ M) : Tab w' := by
 unfold Tab Lib.TabIs World.var? at h ⊢
 simp only [gPow, Option.bind_some] at h ⊢
 have hlt : gT < w.heap.size := by
  rcases Nat.lt_or_ge gT w.heap.size with hl | hl
  ·exact hl
  ·rw [Array.getElem?_eq_none hl] at h
   cases h
 rw [k.block gT hlt hM]
 exact h
theorem Tab.lt {w : World} (h : Tab w) : gT < w.heap.size := by
 unfold Tab Lib.TabIs World.var? at h
 simp only [gPow, Option.bind_some] at h
 rcases Nat.lt_or_ge gT w.heap.size with hl | hl
 ·exact hl
 ·rw [Array.getElem?_eq_none hl] at h
  cases h
theorem mod_grow (w : World) (k : Nat) (os : Array Obj) : Mod [] w (Sort.grow (w.drewN k) os) := by
 have h := Lib.below_grow w.heap.size w (Nat.le_refl _) k os
 exact ⟨h.os, h.tape, h.output, h.size, fun i hi _ => h.block i hi⟩
theorem c_itoa (w : World) (n : Int) (h0 : -9223372036854775808 ≤ n) (h1 : n ≤ 9223372036854775807) (hT : Tab w) : Calls Tryz.prog 109 [.int .i64 n].toArray w (Ret fun u w' => u = S (Lib.itoa n) ∧ Mod [] w w') :=
 (Tryz.strconv_Itoa n h0 h1 w hT).mono fun e w' he => by
  obtain ⟨rfl, k, os, rfl⟩ := he
  exact ⟨rfl, mod_grow w k os⟩
end Go.Proofs.YtknndpjacklkeaaGreatDoor.V
