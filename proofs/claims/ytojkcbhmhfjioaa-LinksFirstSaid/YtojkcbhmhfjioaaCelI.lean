/-
  A cell that holds an integer; own work.
-/
import Derived.Test.YtojkcbhmhfjioaaMem
set_option linter.unusedSimpArgs false
set_option linter.unusedVariables false
namespace Go.Proofs.Ytojkcbhmhfjioaa
open Go.RowKit
theorem inf_int : (Try.prog.info? 3).map (·.size) = some 1 := by kernel_rfl
section
variable (ρ : Operand → Value) (dst : Option Tmp) (ty : TypeId) (pos : String) (after : Array Edge) (guard : Option (Nat × Bool)) (w : World)
@[go_sem ↓] theorem rs_int (x y : Operand) : (execOp ρ { dst, op := .store 3 x y, type := ty, pos, after, guard }).run Try.prog w = exStore Try.prog 3 (ρ x) (ρ y) w := x_store ..
@[go_sem] theorem xs_int (b o : Nat) (v : Value) (hv : ones1 v = true) (ho : o < (w.rowOf b).size) (hf : w.free b = true) : exStore Try.prog 3 (.pointer (some ⟨b, o, none⟩)) v w = .ok .skip (w.setRow b ((w.rowOf b).setIfInBounds o v)) :=
  x_storec inf_int w b o v hv ho hf
end

end Go.Proofs.Ytojkcbhmhfjioaa
