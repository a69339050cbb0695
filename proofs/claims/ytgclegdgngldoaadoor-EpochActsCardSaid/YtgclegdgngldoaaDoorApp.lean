/-
  append, and which block its outcome lies in; own work.
-/
import Derived.Test.YtgclegdgngldoaaDoorBytes
set_option linter.unusedSimpArgs false
set_option linter.unusedVariables false
namespace Go.Proofs.YtgclegdgngldoaaDoor
open Go.RowKit

end Go.Proofs.YtgclegdgngldoaaDoor
