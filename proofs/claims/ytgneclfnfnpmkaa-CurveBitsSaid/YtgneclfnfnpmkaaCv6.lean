/-
  What a secret made whole is, as a number; own work.
-/
import Derived.Test.YtgneclfnfnpmkaaCv5
set_option linter.unusedSimpArgs false
set_option linter.unusedVariables false
namespace Go.Proofs.Ytgneclfnfnpmkaa
open Go.RowKit Fp
theorem cl0_mod : ∀ x : BitVec 8, (cl0 x).toNat % 8 = 0 := by decide +kernel
theorem cl31_rng : ∀ x : BitVec 8, 64 ≤ (cl31 x).toNat ∧ (cl31 x).toNat < 128 := by decide +kernel
theorem cl0_cl0 : ∀ x : BitVec 8, cl0 (cl0 x) = cl0 x := by decide +kernel
theorem cl31_cl31 : ∀ x : BitVec 8, cl31 (cl31 x) = cl31 x := by decide +kernel
theorem hi0_low : ∀ x : BitVec 8, x.toNat < 128 → hi0 x = x := by decide +kernel
theorem hi0_hi0 : ∀ x : BitVec 8, hi0 (hi0 x) = hi0 x := by decide +kernel
theorem hi0_flip : ∀ x : BitVec 8, hi0 (x ^^^ 128#8) = hi0 x := by decide +kernel
theorem clamp_0 (a : List (BitVec 8)) (ha : a.length = 32) : (clampB a).getD 0 0 = cl0 (g8 a 0) := by
  match a, ha with
  | x :: r, ha => simp [clampB, g8]
theorem clamp_31 (a : List (BitVec 8)) (ha : a.length = 32) : (clampB a).getD 31 0 = cl31 (g8 (a.set 0 (cl0 (g8 a 0))) 31) := by
  unfold clampB
  rw [List.getD_eq_getElem?_getD, List.getElem?_set_self (by simp [ha])]; rfl
theorem top_byte (l : List (BitVec 8)) (h : l.length = 32) : (l.getD 31 0).toNat = leN l / 256 ^ 31 := by
  rw [leN_byte l 31 (by omega)]
  have := leN_lt l
  rw [h] at this
  have h2 : leN l / 256 ^ 31 < 256 := Nat.div_lt_of_lt_mul (by rw [← Nat.pow_succ]; exact this)
  omega
theorem clamp_rng (a : List (BitVec 8)) (ha : a.length = 32) : 2 ^ 254 ≤ leN (clampB a) ∧ leN (clampB a) < 2 ^ 255 := by
  have h := top_byte (clampB a) (by simp [ha])
  rw [clamp_31 a ha] at h
  obtain ⟨h1, h2⟩ := cl31_rng (g8 (a.set 0 (cl0 (g8 a 0))) 31)
  rw [h] at h1 h2
  generalize leN (clampB a) = N at *
  simp only [Nat.reducePow] at *
  omega
theorem clamp_mod (a : List (BitVec 8)) (ha : a.length = 32) : leN (clampB a) % 8 = 0 := by
  have h := leN_byte (clampB a) 0 (by simp [ha])
  rw [clamp_0 a ha] at h
  have h1 := cl0_mod (g8 a 0)
  rw [h] at h1
  generalize leN (clampB a) = N at *
  simp only [Nat.pow_zero, Nat.div_one] at *
  omega
end Go.Proofs.Ytgneclfnfnpmkaa
