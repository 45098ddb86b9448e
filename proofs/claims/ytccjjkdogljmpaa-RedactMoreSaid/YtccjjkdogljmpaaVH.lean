/-
  A part of the proof: strings compared by the library's stand-in; values of several cells in a slot; rows of cells. No condition of its own.
-/
import Derived.Test.YtccjjkdogljmpaaVF
import Derived.Lib.Bytealg
set_option linter.unusedVariables false
set_option linter.unusedSimpArgs false
namespace Go.Proofs.Ytccjjkdogljmpaa.V
open Go
section
variable {P : Program} {l : List (Nat × Value)} {w : World} {ty : TypeId} {pos : String} {af : Array Edge}
variable {dd : Option Nat} {gg : Option (Nat × Bool)} {x y : Operand} {t t' : TypeId}
def CmpX (P : Program) (f : FuncId) : Prop := ∀ args w, (callFunc f args).run P w = ((Extern.BytealgCompare.compare args).run P w).andThen fun v w' => .ok (.value v) w'
theorem o_cmpstr {f : FuncId} {a b : List UInt8} (hf : CmpX P f) (hx : evO l x = some (S a)) (hy : evO l y = some (S b)) {ts : Array TypeId} :
    Runs P l ⟨dd, .call { callee := .value (.func f), args := #[x, y], argTypes := ts }, ty, pos, af, gg⟩ w (.int .i64 (Lib.compareBytes a b)) w := fun ρ hρ => by
  have e2 : ρ (.func f) = .func (.func f) #[] #[] := hρ _ _ rfl
  have hc := Lib.run_compareString (P := P) ⟨⟨a⟩⟩ ⟨⟨b⟩⟩ w
  have := hf #[S a, S b] w
  rw [show (#[S a, S b] : Array Value) = #[.string ⟨⟨a⟩⟩, .string ⟨⟨b⟩⟩] from rfl, hc] at this
  simp [execOp, resolve, e2, hρ _ _ hx, hρ _ _ hy, Deferred.ofValue, invoke] at this ⊢
  simpa using this
end
end Go.Proofs.Ytccjjkdogljmpaa.V
