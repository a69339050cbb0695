/-
  Two points of the ladder, reckoned: of the number 2 ^ 254 and the point 9, and of that and what comes of it; own work.
-/
import Derived.Test.YtgclegdgngldoaaDoorDh
set_option linter.unusedVariables false
set_option maxRecDepth 100000
namespace Go.Proofs.YtgclegdgngldoaaDoor.Fp
theorem inv_eq {z y : F} (h : z * y = 1) : inv z = y := by
  have hz : z ≠ 0 := by
    intro e
    rw [e] at h
    exact absurd h (by clear h; intro h; have : (0 : F) * y = 0 := by grind
                       rw [this] at h; exact absurd h (by decide +kernel))
  have h1 := mul_inv hz
  have : inv z = inv z * (z * y) := by rw [h]; grind
  rw [this]
  have : inv z * (z * y) = (z * inv z) * y := by grind
  rw [this, h1]; grind
def suC : Nat := 28948022309329048855892746252171976963317496166410141009864396001978282409984
def suA : F := 52573937849532372069814888178136277301931757964231753054399601207743438775599
def suS : F := 47371584340190434397458396784519032097355506450803964851670834165077996928659
theorem su_pub : gx suC 9 = suA := by
  unfold gx
  rw [show (lad 9 suC 255).z2 = 20097946894889007705884408490665082385984383478950821997587487100163618290637 by decide +kernel, show (lad 9 suC 255).x2 = 53699084970092229620102095424564848774812783684786248634290088506478568078703 by decide +kernel, inv_eq (y := 4690349756041861591026396950088132225180594110443955054213429870794107548986) (by decide +kernel)]
  decide +kernel
theorem su_sh : gx suC suA = suS := by
  unfold gx
  rw [show (lad suA suC 255).z2 = 53650602727256211160930848678485570231621301272366559501404395209450684873940 by decide +kernel, show (lad suA suC 255).x2 = 56899195954510505000973056179290705472472639321317522430150156907013189015683 by decide +kernel, inv_eq (y := 6297311692082277206339866975785280257327913378960705927482330000066026313899) (by decide +kernel)]
  decide +kernel
end Go.Proofs.YtgclegdgngldoaaDoor.Fp
