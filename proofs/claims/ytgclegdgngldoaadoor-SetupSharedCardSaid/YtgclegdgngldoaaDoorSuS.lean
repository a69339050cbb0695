/-
  What two users come to share, as plain functions; the values that the law's own test asks, reckoned; own work.
-/
import Derived.Test.YtgclegdgngldoaaDoorCv7
import Derived.Test.YtgclegdgngldoaaDoorSuE
import Derived.Test.YtgclegdgngldoaaDoorEval
set_option linter.unusedSimpArgs false
set_option linter.unusedVariables false
namespace Go.Proofs.YtgclegdgngldoaaDoor
open Go.RowKit Fp
abbrev L8 := List (BitVec 8)
namespace Su
def lab : L8 := [112, 105, 103, 101, 111, 110, 114, 121, 32, 115, 101, 116, 117, 112]
def setupB : L8 := [115, 101, 116, 117, 112]
/-- a secret's public key -/
noncomputable def pub (a : L8) : L8 := K (gv (leN (clampB a)) 9)
/-- what the pairs share, one behind the other -/
noncomputable def parts : List (L8 × L8) → L8
  | [] => []
  | p :: l => K (shv p.1 p.2) ++ parts l
noncomputable def sec (l : List (L8 × L8)) : L8 := Sh.derive (Sh.mac lab (parts l)) setupB
def good (l : List (L8 × L8)) : Prop := ∀ p ∈ l, shv p.1 p.2 ≠ 0
end Su
theorem pub_len (a : L8) : (Su.pub a).length = 32 := K_len _
theorem parts_append (l m : List (L8 × L8)) : Su.parts (l ++ m) = Su.parts l ++ Su.parts m := by
  induction l with
  | nil => rfl
  | cons p l ih => simp [Su.parts, ih]
theorem parts_len (l : List (L8 × L8)) : (Su.parts l).length = 32 * l.length := by
  induction l with
  | nil => rfl
  | cons p l ih => simp [Su.parts, ih]; omega
theorem shv_pub (a b : L8) : shv a (Su.pub b) = pv a b := by unfold Su.pub pv; exact shv_K ..
theorem shv_swap (a b : L8) (ha : a.length = 32) (hb : b.length = 32) : shv a (Su.pub b) = shv b (Su.pub a) := by rw [shv_pub, shv_pub, pv_comm b a hb ha]
theorem shv_pub_ne (a b : L8) (ha : a.length = 32) (hb : b.length = 32) : shv a (Su.pub b) ≠ 0 := by rw [shv_pub]; exact pv_ne a b ha hb
/-! the test's own values -/
theorem su_c1 : leN (clampB (1 :: zs 31)) = suC := by decide +kernel
theorem su_c2 : leN (clampB (2 :: zs 31)) = suC := by decide +kernel
theorem su_c3 : leN (clampB (3 :: zs 31)) = suC := by decide +kernel
theorem su_c4 : leN (clampB (4 :: zs 31)) = suC := by decide +kernel
theorem su_c5 : leN (clampB (5 :: zs 31)) = suC := by decide +kernel
theorem su_pubs {a : L8} (h : leN (clampB a) = suC) : Su.pub a = K suA := by unfold Su.pub; rw [h, gv_eq, su_pub]
theorem su_shs {a : L8} (h : leN (clampB a) = suC) : shv a (K suA) = suS := by rw [shv_K, h, gv_eq, su_sh]
theorem su_zero {a : L8} (h : leN (clampB a) = suC) : shv a (zs 32) = 0 := by
  unfold shv
  rw [h, show Fk (maskB (zs 32)) = 0 by decide +kernel, gv_eq]
  unfold gx
  rw [show (lad 0 suC 255).x2 = 0 by decide +kernel]; grind
set_option maxRecDepth 100000 in
theorem su_first : (Sh.derive (Sh.mac Su.lab (K suS ++ (K suS ++ (K suS ++ K suS)))) Su.setupB).getD 0 0 = 39 := by
  rw [Sh.derive_mac, Sh.mac_F, Sh.mac_F]; decide +kernel
end Go.Proofs.YtgclegdgngldoaaDoor
