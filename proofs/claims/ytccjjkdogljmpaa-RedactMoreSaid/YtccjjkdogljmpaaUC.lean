/-
  A part of the proof: the laws of Content, last steps. No condition of its own.
-/
import Derived.Test.YtccjjkdogljmpaaUB
set_option linter.unusedVariables false
set_option linter.unusedSimpArgs false
namespace Go.Proofs.Ytccjjkdogljmpaa.V
open Go
namespace JV
def txt (s : Str) : JV := .mk 3 false 0 s [] []
theorem txt_reps {A : List Nat} {w : World} {s : Str} : Reps A w (txt s).D [.int .i64 3, .bool false, .int .i64 0, S s, .slice none 0 0, .slice none 0 0] := by
  have := reps_ (A := A) (w := w) (v := txt s) (al := none) (am := none) (cl := 0) (cm := 0) Rep.sl_nil Rep.sl_nil
  exact this
abbrev kDisp : Str := [100, 105, 115, 112, 108, 97, 121, 110, 97, 109, 101]
abbrev kMemb : Str := [109, 101, 109, 98, 101, 114, 115, 104, 105, 112]
abbrev sAnn : Str := [65, 110, 110]
abbrev sJoin : Str := [106, 111, 105, 110]
def ann : JV := obj [(kDisp, txt sAnn), (kMemb, txt sJoin)]
theorem ann_content : content k_member ann = obj [(kMemb, txt sJoin)] := by rfl
theorem ann_asc : ascM ann.map := by
  show ascM [(kDisp, txt sAnn), (kMemb, txt sJoin)]
  unfold ascM
  simp
  decide
theorem ann_third : ann.third = nul := by rfl
theorem third_asc {v : JV} (h : v.Rise) : ascM v.third.map := by
  unfold third
  cases hg : v.get kThird with
  | none => exact List.Pairwise.nil
  | some x => exact ((Rise_eq x).1 (((Rise_eq v).1 h).2.2 _ (get_mem hg))).1
theorem third_len {v : JV} (h : v.ok) : v.third.map.length ≤ 1353245080310 := by
  unfold third
  cases hg : v.get kThird with
  | none => simp [nul, map]
  | some x =>
    have := ((ok_eq x).1 (((ok_eq v).1 h).2.2.2.2 _ (get_mem hg)).2).2.2.1
    simp only [Option.getD_some]
    omega
theorem third_more {v x : JV} {k : Str} (h5 : v.kind = 5) (ht : k ≠ kThird) : (obj (putM v.map k x)).third = v.third := by
  have h1 : (obj (putM v.map k x)).get kThird = look (putM v.map k x) kThird := by simp [JV.get, obj, JV.kind, JV.map]
  have h2 : v.get kThird = look v.map kThird := by simp [JV.get, h5]
  unfold third
  rw [h1, h2, look_put, if_neg (Ne.symm ht)]
end JV
end Go.Proofs.Ytccjjkdogljmpaa.V
