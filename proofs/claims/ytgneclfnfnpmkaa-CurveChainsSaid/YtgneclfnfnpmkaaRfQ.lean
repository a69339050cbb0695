/-
  The reference's sums, differences and products of digits: plain Lean; own work.
-/
import Derived.Test.YtgneclfnfnpmkaaRfN
set_option linter.unusedVariables false
namespace Go.Proofs.Ytgneclfnfnpmkaa.Fp
theorem leN_tn (a : List B8) : vd (tn a) = leN a := rfl
theorem tn_len (a : List B8) : (tn a).length = a.length := by simp [tn]
/-- digits, with those of another number added -/
def aD (a b : List B8) : Nat → List Nat
  | 0 => tn a
  | i + 1 => (aD a b i).set i ((aD a b i).getD i 0 + (b.getD i 0).toNat)
def sD (a b : List B8) : Nat → List Nat
  | 0 => tn a
  | i + 1 => (sD a b i).set i ((sD a b i).getD i 0 + 4 * prd i - (b.getD i 0).toNat)
theorem aD_zero (a b : List B8) : aD a b 0 = tn a := rfl
theorem aD_succ (a b : List B8) (i : Nat) : aD a b (i + 1) = (aD a b i).set i ((aD a b i).getD i 0 + (b.getD i 0).toNat) := rfl
theorem sD_zero (a b : List B8) : sD a b 0 = tn a := rfl
theorem sD_succ (a b : List B8) (i : Nat) : sD a b (i + 1) = (sD a b i).set i ((sD a b i).getD i 0 + 4 * prd i - (b.getD i 0).toNat) := rfl
theorem tn_le (a : List B8) : ∀ x ∈ tn a, x ≤ 255 := fun x hx => by have := tn_lt a x hx; omega
theorem getD_set_other {l : List Nat} {i j x : Nat} (h : i ≠ j) : (l.set i x).getD j 0 = l.getD j 0 := by
  rw [List.getD_eq_getElem?_getD, List.getElem?_set, if_neg h, ← List.getD_eq_getElem?_getD]
theorem aD_spec {a b : List B8} (ha : a.length = 32) (hb : b.length = 32) (i : Nat) (hi : i ≤ 32) : (aD a b i).length = 32 ∧ (∀ x ∈ aD a b i, x ≤ 255 + i * 255) ∧ vd (aD a b i) = leN a + vd ((tn b).take i) := by
  induction i with
  | zero => exact ⟨by rw [aD_zero, tn_len, ha], by simpa [aD_zero] using tn_le a, by rw [aD_zero, List.take_zero, leN_tn]; rfl⟩
  | succ i ih =>
    obtain ⟨h1, h2, h3⟩ := ih (by omega)
    have hbx := (b.getD i 0).isLt
    rw [aD_succ]
    refine ⟨by simp [h1], fun x hx => ?_, ?_⟩
    · rcases List.mem_or_eq_of_mem_set hx with e | e
      · exact Nat.le_trans (h2 x e) (Nat.add_le_add_left (Nat.mul_le_mul_right _ (Nat.le_succ i)) _)
      · have := getD_le h2 i; omega
    · have h4 := vd_set (aD a b i) i ((aD a b i).getD i 0 + (b.getD i 0).toNat) (by omega)
      rw [Nat.mul_add] at h4
      rw [vd_take_succ (by rw [tn_len, hb]; omega), tn_get]
      omega
theorem aD_end {a b : List B8} (ha : a.length = 32) (hb : b.length = 32) : vd (aD a b 32) = leN a + leN b := by
  rw [(aD_spec ha hb 32 (Nat.le_refl _)).2.2, List.take_of_length_le (by rw [tn_len, hb]; exact Nat.le_refl _)]; rfl
theorem prd_ge (i : Nat) : 127 ≤ prd i := by unfold prd; split <;> (try split) <;> decide
theorem sD_spec {a b : List B8} (ha : a.length = 32) (hb : b.length = 32) (i : Nat) (hi : i ≤ 32) : (sD a b i).length = 32 ∧ (∀ x ∈ sD a b i, x ≤ 255 + i * 1020) ∧ vd (sD a b i) + vd ((tn b).take i) = leN a + 4 * vd (pl.take i) := by
  induction i with
  | zero => exact ⟨by rw [sD_zero, tn_len, ha], by simpa [sD_zero] using tn_le a, by rw [sD_zero, List.take_zero, List.take_zero, leN_tn]; rfl⟩
  | succ i ih =>
    obtain ⟨h1, h2, h3⟩ := ih (by omega)
    have hbx := (b.getD i 0).isLt
    have hp := prd_le i
    have hp2 := prd_ge i
    rw [sD_succ]
    refine ⟨by simp [h1], fun x hx => ?_, ?_⟩
    · rcases List.mem_or_eq_of_mem_set hx with e | e
      · exact Nat.le_trans (h2 x e) (Nat.add_le_add_left (Nat.mul_le_mul_right _ (Nat.le_succ i)) _)
      · have := getD_le h2 i; omega
    · have h4 := vd_set (sD a b i) i ((sD a b i).getD i 0 + 4 * prd i - (b.getD i 0).toNat) (by omega)
      have e : (sD a b i).getD i 0 + 4 * prd i - (b.getD i 0).toNat + (b.getD i 0).toNat = (sD a b i).getD i 0 + 4 * prd i := by omega
      have e2 := congrArg (256 ^ i * ·) e
      simp only [Nat.mul_add] at e2
      rw [vd_take_succ (by rw [tn_len, hb]; omega), vd_take_succ (by rw [pl_len]; omega), tn_get, pl_get (by omega), Nat.mul_add]
      have e3 : 256 ^ i * (4 * prd i) = 4 * (256 ^ i * prd i) := by simp only [Nat.mul_left_comm]
      omega
theorem sD_end {a b : List B8} (ha : a.length = 32) (hb : b.length = 32) : vd (sD a b 32) + leN b = leN a + 4 * P := by
  have h := (sD_spec ha hb 32 (Nat.le_refl _)).2.2
  rw [List.take_of_length_le (by rw [tn_len, hb]; exact Nat.le_refl _), List.take_of_length_le (by rw [pl_len]; exact Nat.le_refl _), pl_vd] at h
  exact h
/-- a digit times a number, added from place i on -/
def mI (L : List Nat) (b : List B8) (i x : Nat) : Nat → List Nat
  | 0 => L
  | k + 1 => (mI L b i x k).set (i + k) ((mI L b i x k).getD (i + k) 0 + x * (b.getD k 0).toNat)
def mO (a b : List B8) : Nat → List Nat
  | 0 => List.replicate 64 0
  | i + 1 => mI (mO a b i) b i (a.getD i 0).toNat 32
theorem mI_zero (L : List Nat) (b : List B8) (i x : Nat) : mI L b i x 0 = L := rfl
theorem mI_succ (L : List Nat) (b : List B8) (i x k : Nat) : mI L b i x (k + 1) = (mI L b i x k).set (i + k) ((mI L b i x k).getD (i + k) 0 + x * (b.getD k 0).toNat) := rfl
theorem mO_zero (a b : List B8) : mO a b 0 = List.replicate 64 0 := rfl
theorem mO_succ (a b : List B8) (i : Nat) : mO a b (i + 1) = mI (mO a b i) b i (a.getD i 0).toNat 32 := rfl
theorem mI_spec {L : List Nat} {b : List B8} {i x C : Nat} (hL : L.length = 64) (hb : b.length = 32) (hi : i < 32) (hx : x ≤ 255) (hC : ∀ y ∈ L, y ≤ C) (k : Nat) (hk : k ≤ 32) :
    (mI L b i x k).length = 64 ∧ (∀ y ∈ mI L b i x k, y ≤ C + k * 65025) ∧ vd (mI L b i x k) = vd L + 256 ^ i * (x * vd ((tn b).take k)) := by
  induction k with
  | zero => exact ⟨hL, by simpa [mI_zero] using hC, by rw [mI_zero, List.take_zero]; rfl⟩
  | succ k ih =>
    obtain ⟨h1, h2, h3⟩ := ih (by omega)
    have hbx := (b.getD k 0).isLt
    have hm : x * (b.getD k 0).toNat ≤ 255 * 255 := Nat.mul_le_mul hx (by omega)
    rw [mI_succ]
    refine ⟨by simp [h1], fun y hy => ?_, ?_⟩
    · rcases List.mem_or_eq_of_mem_set hy with e | e
      · exact Nat.le_trans (h2 y e) (Nat.add_le_add_left (Nat.mul_le_mul_right _ (Nat.le_succ k)) _)
      · have := getD_le h2 (i + k); omega
    · have h4 := vd_set (mI L b i x k) (i + k) ((mI L b i x k).getD (i + k) 0 + x * (b.getD k 0).toNat) (by omega)
      rw [Nat.mul_add] at h4
      rw [vd_take_succ (by rw [tn_len, hb]; omega), tn_get, Nat.mul_add, Nat.mul_add]
      have e : 256 ^ i * (x * (256 ^ k * (b.getD k 0).toNat)) = 256 ^ (i + k) * (x * (b.getD k 0).toNat) := by
        rw [Nat.pow_add]; simp only [Nat.mul_assoc, Nat.mul_left_comm]
      omega
theorem mO_spec {a b : List B8} (ha : a.length = 32) (hb : b.length = 32) (i : Nat) (hi : i ≤ 32) : (mO a b i).length = 64 ∧ (∀ y ∈ mO a b i, y ≤ i * 2080800) ∧ vd (mO a b i) = vd ((tn a).take i) * leN b := by
  induction i with
  | zero => exact ⟨by simp [mO_zero], fun y hy => by rw [mO_zero] at hy; rw [List.eq_of_mem_replicate hy]; omega, by rw [mO_zero, vd_zeros]; simp [vd]⟩
  | succ i ih =>
    obtain ⟨h1, h2, h3⟩ := ih (by omega)
    have hx := (a.getD i 0).isLt
    obtain ⟨k1, k2, k3⟩ := mI_spec (b := b) (i := i) (x := (a.getD i 0).toNat) h1 hb (by omega) (by omega) h2 32 (Nat.le_refl _)
    rw [mO_succ]
    refine ⟨k1, fun y hy => by have := k2 y hy; omega, ?_⟩
    rw [k3, h3, List.take_of_length_le (l := tn b) (by rw [tn_len, hb]; exact Nat.le_refl _), vd_take_succ (l := tn a) (i := i) (by rw [tn_len, ha]; omega), tn_get, Nat.add_mul, leN_tn, Nat.mul_assoc]
theorem mO_end {a b : List B8} (ha : a.length = 32) (hb : b.length = 32) : vd (mO a b 32) = leN a * leN b := by
  rw [(mO_spec ha hb 32 (Nat.le_refl _)).2.2, List.take_of_length_le (by rw [tn_len, ha]; exact Nat.le_refl _)]; rfl
/-- the power, bit by bit -/
def rp (a : Nat) : Nat → Nat
  | 0 => 1
  | n + 1 => let s := rp a n * rp a n % P; if 254 - n ≠ 2 ∧ 254 - n ≠ 4 then s * a % P else s
end Go.Proofs.Ytgneclfnfnpmkaa.Fp
