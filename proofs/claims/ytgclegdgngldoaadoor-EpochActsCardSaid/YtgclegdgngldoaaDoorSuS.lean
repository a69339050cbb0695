/-
  Two points of the ladder, reckoned: of the number 2 ^ 254 and the point 9, and of that and what comes of it; own work.
  What two users come to share, as plain functions; the values that the law's own test asks, reckoned; own work.
-/
import Derived.Test.YtgclegdgngldoaaDoorEdw
import Derived.Test.YtgclegdgngldoaaDoorCv7
import Derived.Test.YtgclegdgngldoaaDoorEval
set_option linter.unusedVariables false
set_option maxRecDepth 100000
namespace Go.Proofs.YtgclegdgngldoaaDoor.Fp
def suC : Nat := 28948022309329048855892746252171976963317496166410141009864396001978282409984
def suA : F := 52573937849532372069814888178136277301931757964231753054399601207743438775599
def suS : F := 47371584340190434397458396784519032097355506450803964851670834165077996928659
end Go.Proofs.YtgclegdgngldoaaDoor.Fp
set_option linter.unusedSimpArgs false
set_option linter.unusedVariables false
namespace Go.Proofs.YtgclegdgngldoaaDoor
open Go.RowKit Fp
abbrev L8 := List (BitVec 8)
namespace Su
def lab : L8 := [112, 105, 103, 101, 111, 110, 114, 121, 32, 115, 101, 116, 117, 112]
def setupB : L8 := [115, 101, 116, 117, 112]
/-- a secret's public key -/
noncomputable def pub (a : L8) : L8 := K (gv (leN (clampB a)) 9)
/-- what the pairs share, one behind the other -/
noncomputable def parts : List (L8 × L8) → L8
  | [] => []
  | p :: l => K (shv p.1 p.2) ++ parts l
noncomputable def sec (l : List (L8 × L8)) : L8 := Sh.derive (Sh.mac lab (parts l)) setupB
def good (l : List (L8 × L8)) : Prop := ∀ p ∈ l, shv p.1 p.2 ≠ 0
end Su
theorem pub_len (a : L8) : (Su.pub a).length = 32 := K_len _
end Go.Proofs.YtgclegdgngldoaaDoor
