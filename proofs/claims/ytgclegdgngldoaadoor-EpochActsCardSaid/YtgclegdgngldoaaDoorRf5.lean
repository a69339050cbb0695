/-
  Walks of reference 01: digits; own work.
  Walks of reference 01: what is over goes up; own work.
  Walks of reference 01: digits, carried; own work.
  Walks of reference 01: what is left; own work.
  Walks of reference 01: sums, differences, products; own work.
-/
import Derived.Test.YtgclegdgngldoaaDoorFe7
import Derived.Test.YtgclegdgngldoaaDoorEdw
import Derived.Test.YtgclegdgngldoaaDoorCelI
set_option linter.unusedSimpArgs false
set_option linter.unusedVariables false
namespace Go.Proofs.YtgclegdgngldoaaDoor
open Go.RowKit Fp

def pr (i : Nat) : Nat := if i = 0 then 237 else if i = 31 then 127 else 255
end Go.Proofs.YtgclegdgngldoaaDoor
set_option linter.unusedSimpArgs false
set_option linter.unusedVariables false
namespace Go.Proofs.YtgclegdgngldoaaDoor
open Go.RowKit Fp

attribute [local irreducible] spC spL
end Go.Proofs.YtgclegdgngldoaaDoor
set_option linter.unusedSimpArgs false
set_option linter.unusedVariables false
namespace Go.Proofs.YtgclegdgngldoaaDoor
open Go.RowKit Fp
def z32 : List Nat := List.replicate 32 0
attribute [local irreducible] fL rdn
end Go.Proofs.YtgclegdgngldoaaDoor
set_option linter.unusedSimpArgs false
set_option linter.unusedVariables false
namespace Go.Proofs.YtgclegdgngldoaaDoor
open Go.RowKit Fp
attribute [local irreducible] prd P ls
def mvk (c : Array Value) : Nat := vd (c.toList.map fun v => (intOf v).toNat)
end Go.Proofs.YtgclegdgngldoaaDoor
set_option linter.unusedSimpArgs false
set_option linter.unusedVariables false
namespace Go.Proofs.YtgclegdgngldoaaDoor
open Go.RowKit Fp
attribute [local irreducible] prd P aD sD mI mO carL
def z64 : List Nat := List.replicate 64 0
end Go.Proofs.YtgclegdgngldoaaDoor
