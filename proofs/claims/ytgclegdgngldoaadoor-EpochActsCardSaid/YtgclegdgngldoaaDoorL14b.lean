/-
  Law 14: a Rotor that no call made; own work.
-/
import Derived.Test.YtgclegdgngldoaaDoorL14a
set_option linter.unusedSimpArgs false
set_option linter.unusedVariables false
namespace Go.Proofs.YtgclegdgngldoaaDoor
open Go.RowKit Fp
theorem alive14_v {w0 w : World} (hT : KT w0 ∧ 0 < w0.heap.size) (hb : Below w0.heap.size w0 w) :
    Calls Tryd.prog 21 #[] w fun e w' => e = .returned (.bool true) ∧ Below w.heap.size w w' :=
  alive14 w ⟨hT.1.below hb hT.2, Nat.lt_of_lt_of_le hT.2 hb.size⟩
section
variable {S : Nat → Prop} {w0 w : World} {H : List (Nat × Array Value)}
end
attribute [local irreducible] ROR
end Go.Proofs.YtgclegdgngldoaaDoor
