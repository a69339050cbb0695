/-
  Walks of reference 01: the inverse, nought; own work.
  What package field and reference 01 answer, as elements of the field; own work.
  What package field and reference 01 answer: contracts; own work.
-/
import Derived.Test.YtgclegdgngldoaaDoorRf5
import Derived.Test.YtgclegdgngldoaaDoorFe7
import Derived.Test.YtgclegdgngldoaaDoorEqK
set_option linter.unusedSimpArgs false
set_option linter.unusedVariables false
namespace Go.Proofs.YtgclegdgngldoaaDoor.Fp
/-- the exponent's highest bits -/
def eb : Nat → Nat
  | 0 => 0
  | n + 1 => 2 * eb n + (if 254 - n ≠ 2 ∧ 254 - n ≠ 4 then 1 else 0)
end Go.Proofs.YtgclegdgngldoaaDoor.Fp
namespace Go.Proofs.YtgclegdgngldoaaDoor
open Go.RowKit Fp
attribute [local irreducible] P rp
end Go.Proofs.YtgclegdgngldoaaDoor
set_option linter.unusedSimpArgs false
set_option linter.unusedVariables false
namespace Go.Proofs.YtgclegdgngldoaaDoor.Fp
def fk (n : Nat) : F := ⟨n % P, Nat.mod_lt _ P_pos⟩
def K (x : F) : List B8 := kb x.val
def Fk (l : List B8) : F := fk (leN l)
@[simp] theorem K_len (x : F) : (K x).length = 32 := kb_len _
@[simp] theorem fk_val (x : F) : fk x.val = x := Fin.ext (Nat.mod_eq_of_lt x.isLt)
theorem val_lt (x : F) : x.val < M256 := Nat.lt_trans x.isLt P_lt
@[simp] theorem Fk_K (x : F) : Fk (K x) = x := by unfold Fk K; rw [leN_kb (val_lt x), fk_val]
theorem fk_eq {m n : Nat} (h : m % P = n % P) : fk m = fk n := Fin.ext h
theorem fk_add (m n : Nat) : fk (m + n) = fk m + fk n := Fin.ext (by show (m + n) % P = (m % P + n % P) % P; rw [← Nat.add_mod])
theorem fk_mul (m n : Nat) : fk (m * n) = fk m * fk n := Fin.ext (by show (m * n) % P = (m % P * (n % P)) % P; rw [← Nat.mul_mod])
theorem addV_fk (x y : Nat) : fk (addV x y) = fk (x % M256) + fk (y % M256) := by
  rw [← fk_add]; exact fk_eq (red_P _)
theorem mulV_fk (x y : Nat) : fk (mulV x y) = fk (x % M256) * fk (y % M256) := by
  rw [← fk_mul]; exact fk_eq ((red_P _).trans (fold1_P _))
theorem addV_lt (x y : Nat) : addV x y < M256 := red_lt (by have h1 := mod256_lt x; have h2 := mod256_lt y; simp only [M256] at *; omega)
theorem mulV_lt (x y : Nat) : mulV x y < M256 := red_lt (fold1_mul_lt x y)
theorem subV_lt (x y : Nat) : subV x y < M256 := by
  have h1 := mod256_lt x
  have h2 := mod256_lt y
  unfold subV
  by_cases h3 : y % M256 ≤ x % M256
  · rw [if_pos h3]; omega
  · rw [if_neg h3]
    by_cases h4 : 38 ≤ x % M256 + M256 - y % M256
    · rw [if_pos h4]; omega
    · rw [if_neg h4]; omega
theorem subV_fk (x y : Nat) : fk (subV x y) = fk (x % M256) - fk (y % M256) := by
  have h1 := mod256_lt x
  have h2 := mod256_lt y
  have e : fk (subV x y) + fk (y % M256) = fk (x % M256) := by
    rw [← fk_add]
    refine fk_eq ?_
    have hP : M256 = 2 * P + 38 := by decide
    unfold subV
    split
    · rw [Nat.sub_add_cancel (by assumption)]
    · split
      · rw [show x % M256 + M256 - y % M256 - 38 + y % M256 = x % M256 + P * 2 by omega, Nat.add_mul_mod_self_left]
      · have : 152 ≤ P := by decide
        rw [show x % M256 + M256 - y % M256 + M256 - 76 + y % M256 = x % M256 + P * 4 by omega, Nat.add_mul_mod_self_left]
  grind
/-- the value of a number below 2^256 -/
def fv (x : Nat) : F := fk (x % M256)
theorem fv_add (x y : Nat) : fv (addV x y) = fv x + fv y := by unfold fv; rw [Nat.mod_eq_of_lt (addV_lt x y), addV_fk]
theorem fv_sub (x y : Nat) : fv (subV x y) = fv x - fv y := by unfold fv; rw [Nat.mod_eq_of_lt (subV_lt x y), subV_fk]
theorem fv_mul (x y : Nat) : fv (mulV x y) = fv x * fv y := by unfold fv; rw [Nat.mod_eq_of_lt (mulV_lt x y), mulV_fk]
theorem fv_leN {l : List B8} (h : l.length = 32) : fv (leN l) = Fk l := by unfold fv Fk; rw [Nat.mod_eq_of_lt (leN_lt32 h)]
theorem fpow_add (x : F) (m n : Nat) : x ^ (m + n) = x ^ m * x ^ n := Lean.Grind.Semiring.pow_add x m n
theorem fv_sq (x : Nat) (e : Nat) (y : F) (h : fv x = y ^ e) : ∀ n, fv (sqV x n) = y ^ (e * 2 ^ n)
  | 0 => by simpa [sqV] using h
  | n + 1 => by
    show fv (mulV (sqV x n) (sqV x n)) = _
    rw [fv_mul, fv_sq x e y h n, ← fpow_add]
    congr 1
    rw [Nat.pow_succ, ← Nat.mul_assoc]; omega
theorem fv_mulp {x y : Nat} {z : F} {d e : Nat} (hx : fv x = z ^ d) (hy : fv y = z ^ e) : fv (mulV x y) = z ^ (d + e) := by rw [fv_mul, hx, hy, fpow_add]
theorem fv_inv (x : Nat) : fv (invV x) = inv (fv x) := by
  have h1 : fv x = fv x ^ 1 := by grind
  have h2 := fv_mulp (fv_sq _ _ _ h1 1) h1
  have h4 := fv_mulp (fv_sq _ _ _ h2 2) h2
  have h5 := fv_mulp (fv_sq _ _ _ h4 1) h1
  have h10 := fv_mulp (fv_sq _ _ _ h5 5) h5
  have h20 := fv_mulp (fv_sq _ _ _ h10 10) h10
  have h40 := fv_mulp (fv_sq _ _ _ h20 20) h20
  have h50 := fv_mulp (fv_sq _ _ _ h40 10) h10
  have h100 := fv_mulp (fv_sq _ _ _ h50 50) h50
  have h200 := fv_mulp (fv_sq _ _ _ h100 100) h100
  have h250 := fv_mulp (fv_sq _ _ _ h200 50) h50
  have hl := fv_mulp (fv_sq _ _ _ (fv_mulp (fv_sq _ _ _ h1 2) h1) 1) h1
  have h := fv_mulp (fv_sq _ _ _ h250 5) hl
  unfold inv
  refine (show fv (invV x) = _ from h).trans ?_
  refine congrArg (fv x ^ ·) ?_
  decide +kernel
end Go.Proofs.YtgclegdgngldoaaDoor.Fp
set_option linter.unusedSimpArgs false
set_option linter.unusedVariables false
namespace Go.Proofs.YtgclegdgngldoaaDoor
open Go.RowKit Fp
/-- the inverse, hid from the kernel (it would reckon the power) -/
theorem iv_ex : ∃ f : F → F, f = inv := ⟨_, rfl⟩
noncomputable def iv : F → F := Classical.choose iv_ex
end Go.Proofs.YtgclegdgngldoaaDoor
