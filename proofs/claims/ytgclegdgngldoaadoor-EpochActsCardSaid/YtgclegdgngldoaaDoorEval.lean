/-
  Tags of constants, reckoned; own work.
-/
import Derived.Test.YtgclegdgngldoaaDoorHmc
set_option linter.unusedVariables false
namespace Go.Proofs.YtgclegdgngldoaaDoor.Sh

def absF : Nat → S8 → List B → S8
  | 0, s, _ => s
  | n + 1, s, l => absF n (compress s (l.take 64)) (l.drop 64)
def sumF (l : List B) : List B := (absF ((l.length + 9 + npad l.length) / 64) init (finish l l.length)).bytes
def macF (k m : List B) : List B :=
  let k0 := bif Nat.blt 64 k.length then sumF k else k
  sumF (padB k0 92 ++ sumF (padB k0 54 ++ m))
def K0 : List B := [91, 220, 193, 70, 191, 96, 117, 78, 106, 4, 36, 38, 8, 149, 117, 199, 90, 0, 63, 8, 157, 39, 57, 131, 157, 236, 88, 185, 100, 236, 56, 67]
end Go.Proofs.YtgclegdgngldoaaDoor.Sh
