/-
  A part of the proof: the pairs that every event needs. No condition of its own.
-/
import Derived.Test.YtccjjkdogljmpaaTC
set_option linter.unusedVariables false
set_option linter.unusedSimpArgs false
namespace Go.Proofs.Ytccjjkdogljmpaa.V
open Go
def crS : Str := [109, 46, 114, 111, 111, 109, 46, 99, 114, 101, 97, 116, 101]
def pwS : Str := [109, 46, 114, 111, 111, 109, 46, 112, 111, 119, 101, 114, 95, 108, 101, 118, 101, 108, 115]
def mbS : Str := [109, 46, 114, 111, 111, 109, 46, 109, 101, 109, 98, 101, 114]
def ndP (snd : Str) : List Pair := [⟨crS, []⟩, ⟨pwS, []⟩, ⟨mbS, snd⟩]
theorem nd_alive : isortP (ndP [64, 97, 58, 120]) 3 = [⟨crS, []⟩, ⟨mbS, [64, 97, 58, 120]⟩, ⟨pwS, []⟩] := by decide +kernel
theorem nd_apart : apartP (isortP (ndP [64, 97, 58, 120]) 3) := by
  rw [nd_alive]
  intro i a b ha hb
  match i, ha, hb with
  | 0, ha, hb => simp at ha hb; subst ha; subst hb; decide
  | 1, ha, hb => simp at ha hb; subst ha; subst hb; decide
  | i + 2, ha, hb => simp at hb
def msS : Str := [109, 46, 114, 111, 111, 109, 46, 109, 101, 115, 115, 97, 103, 101]
def spS : Str := [115, 112, 97, 114, 101]
end Go.Proofs.Ytccjjkdogljmpaa.V
