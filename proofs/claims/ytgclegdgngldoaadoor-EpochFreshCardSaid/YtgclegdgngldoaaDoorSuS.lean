/-
  Two points of the ladder, reckoned: of the number 2 ^ 254 and the point 9, and of that and what comes of it; own work.
  What two users come to share, as plain functions; the values that the law's own test asks, reckoned; own work.
-/
import Derived.Test.YtgclegdgngldoaaDoorEdw
import Derived.Test.YtgclegdgngldoaaDoorCv7
import Derived.Test.YtgclegdgngldoaaDoorEval
set_option linter.unusedVariables false
set_option maxRecDepth 100000
namespace Go.Proofs.YtgclegdgngldoaaDoor.Fp
theorem inv_eq {z y : F} (h : z * y = 1) : inv z = y := by
  have hz : z ≠ 0 := by
    intro e
    rw [e] at h
    exact absurd h (by clear h; intro h; have : (0 : F) * y = 0 := by grind
                       rw [this] at h; exact absurd h (by decide +kernel))
  have h1 := mul_inv hz
  have : inv z = inv z * (z * y) := by rw [h]; grind
  rw [this]
  have : inv z * (z * y) = (z * inv z) * y := by grind
  rw [this, h1]; grind
def suC : Nat := 28948022309329048855892746252171976963317496166410141009864396001978282409984
def suA : F := 52573937849532372069814888178136277301931757964231753054399601207743438775599
def suS : F := 47371584340190434397458396784519032097355506450803964851670834165077996928659
theorem su_pub : gx suC 9 = suA := by
  unfold gx
  rw [show (lad 9 suC 255).z2 = 20097946894889007705884408490665082385984383478950821997587487100163618290637 by decide +kernel, show (lad 9 suC 255).x2 = 53699084970092229620102095424564848774812783684786248634290088506478568078703 by decide +kernel, inv_eq (y := 4690349756041861591026396950088132225180594110443955054213429870794107548986) (by decide +kernel)]
  decide +kernel
theorem su_sh : gx suC suA = suS := by
  unfold gx
  rw [show (lad suA suC 255).z2 = 53650602727256211160930848678485570231621301272366559501404395209450684873940 by decide +kernel, show (lad suA suC 255).x2 = 56899195954510505000973056179290705472472639321317522430150156907013189015683 by decide +kernel, inv_eq (y := 6297311692082277206339866975785280257327913378960705927482330000066026313899) (by decide +kernel)]
  decide +kernel
end Go.Proofs.YtgclegdgngldoaaDoor.Fp
set_option linter.unusedSimpArgs false
set_option linter.unusedVariables false
namespace Go.Proofs.YtgclegdgngldoaaDoor
open Go.RowKit Fp
abbrev L8 := List (BitVec 8)
namespace Su
def lab : L8 := [112, 105, 103, 101, 111, 110, 114, 121, 32, 115, 101, 116, 117, 112]
def setupB : L8 := [115, 101, 116, 117, 112]
/-- a secret's public key -/
noncomputable def pub (a : L8) : L8 := K (gv (leN (clampB a)) 9)
/-- what the pairs share, one behind the other -/
noncomputable def parts : List (L8 × L8) → L8
  | [] => []
  | p :: l => K (shv p.1 p.2) ++ parts l
noncomputable def sec (l : List (L8 × L8)) : L8 := Sh.derive (Sh.mac lab (parts l)) setupB
def good (l : List (L8 × L8)) : Prop := ∀ p ∈ l, shv p.1 p.2 ≠ 0
end Su
theorem pub_len (a : L8) : (Su.pub a).length = 32 := K_len _
theorem parts_append (l m : List (L8 × L8)) : Su.parts (l ++ m) = Su.parts l ++ Su.parts m := by
  induction l with
  | nil => rfl
  | cons p l ih => simp [Su.parts, ih]
theorem parts_len (l : List (L8 × L8)) : (Su.parts l).length = 32 * l.length := by
  induction l with
  | nil => rfl
  | cons p l ih => simp [Su.parts, ih]; omega
theorem shv_pub (a b : L8) : shv a (Su.pub b) = pv a b := by unfold Su.pub pv; exact shv_K ..
theorem shv_swap (a b : L8) (ha : a.length = 32) (hb : b.length = 32) : shv a (Su.pub b) = shv b (Su.pub a) := by rw [shv_pub, shv_pub, pv_comm b a hb ha]
theorem shv_pub_ne (a b : L8) (ha : a.length = 32) (hb : b.length = 32) : shv a (Su.pub b) ≠ 0 := by rw [shv_pub]; exact pv_ne a b ha hb
/-! the test's own values -/
theorem su_c1 : leN (clampB (1 :: zs 31)) = suC := by decide +kernel
theorem su_c2 : leN (clampB (2 :: zs 31)) = suC := by decide +kernel
theorem su_c3 : leN (clampB (3 :: zs 31)) = suC := by decide +kernel
theorem su_c4 : leN (clampB (4 :: zs 31)) = suC := by decide +kernel
theorem su_c5 : leN (clampB (5 :: zs 31)) = suC := by decide +kernel
theorem su_pubs {a : L8} (h : leN (clampB a) = suC) : Su.pub a = K suA := by unfold Su.pub; rw [h, gv_eq, su_pub]
theorem su_shs {a : L8} (h : leN (clampB a) = suC) : shv a (K suA) = suS := by rw [shv_K, h, gv_eq, su_sh]
theorem su_zero {a : L8} (h : leN (clampB a) = suC) : shv a (zs 32) = 0 := by
  unfold shv
  rw [h, show Fk (maskB (zs 32)) = 0 by decide +kernel, gv_eq]
  unfold gx
  rw [show (lad 0 suC 255).x2 = 0 by decide +kernel]; grind
set_option maxRecDepth 100000 in
theorem su_first : (Sh.derive (Sh.mac Su.lab (K suS ++ (K suS ++ (K suS ++ K suS)))) Su.setupB).getD 0 0 = 39 := by
  rw [Sh.derive_mac, Sh.mac_F, Sh.mac_F]; decide +kernel
end Go.Proofs.YtgclegdgngldoaaDoor
