/-
  A clamped secret is no multiple of the order; own work.
-/
namespace Go.Proofs.Ytgneclfnfnpmkaa.Fp
theorem no_mult (N m : Nat) (h8 : N % 8 = 0) (h1 : 28948022309329048855892746252171976963317496166410141009864396001978282409984 ≤ N) (h2 : N < 57896044618658097711785492504343953926634992332820282019728792003956564819968)
    (hm : N = 7237005577332262213973186563042994240857116359379907606001950938285454250989 * m) : False := by
  have hm8 : m % 8 = 0 := by
    rw [hm, Nat.mul_mod, show 7237005577332262213973186563042994240857116359379907606001950938285454250989 % 8 = 5 by decide] at h8
    clear h1 h2 hm; omega
  have hlt : m < 8 := Nat.lt_of_not_le fun h => absurd h2 (Nat.not_lt.2 (by rw [hm]; exact Nat.le_trans (by decide) (Nat.mul_le_mul_left _ h)))
  have m0 : m = 0 := by clear h1 h2 hm h8; omega
  subst m0; rw [Nat.mul_zero] at hm; subst hm; exact absurd h1 (by decide)
end Go.Proofs.Ytgneclfnfnpmkaa.Fp
