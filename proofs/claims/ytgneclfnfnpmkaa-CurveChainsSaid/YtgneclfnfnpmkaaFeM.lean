/-
  Numbers as digits to the base 256 and as four parts of 64 bits, and what is left of them modulo 2^255 - 19: plain Lean; own work.
-/
import Derived.Test.YtgneclfnfnpmkaaEdw
set_option linter.unusedVariables false
namespace Go.Proofs.Ytgneclfnfnpmkaa.Fp
abbrev B8 := BitVec 8
def M64 : Nat := 18446744073709551616
def M256 : Nat := 115792089237316195423570985008687907853269984665640564039457584007913129639936
/-- the number of digits, the lowest one first -/
def vd : List Nat → Nat
  | [] => 0
  | x :: r => x + 256 * vd r
def leN (l : List B8) : Nat := vd (l.map (·.toNat))
def kbN : Nat → Nat → List B8
  | 0, _ => []
  | k + 1, n => BitVec.ofNat 8 n :: kbN k (n / 256)
/-- the key of a number -/
def kb (n : Nat) : List B8 := kbN 32 n
/-- the key of what is left of a number -/
def cn (n : Nat) : List B8 := kb (n % P)
theorem leN_cons (x : B8) (l : List B8) : leN (x :: l) = x.toNat + 256 * leN l := rfl
theorem leN_nil : leN [] = 0 := rfl
theorem leN_lt : ∀ l : List B8, leN l < 256 ^ l.length
  | [] => by simp [leN, vd]
  | x :: r => by
    have := leN_lt r
    have hx := x.isLt
    rw [leN_cons, List.length_cons, Nat.pow_succ]; omega
theorem kbN_len : ∀ k n, (kbN k n).length = k
  | 0, _ => rfl
  | k + 1, n => by simp [kbN, kbN_len k]
@[simp] theorem kb_len (n : Nat) : (kb n).length = 32 := kbN_len 32 n
@[simp] theorem cn_len (n : Nat) : (cn n).length = 32 := kb_len _
theorem leN_kbN : ∀ k n, leN (kbN k n) = n % 256 ^ k
  | 0, n => by simp [kbN, leN, vd, Nat.mod_one]
  | k + 1, n => by
    rw [kbN, leN_cons, leN_kbN k, Nat.pow_succ, BitVec.toNat_ofNat, Nat.mul_comm (256 ^ k) 256, Nat.mod_mul]
theorem pow32 : (256 : Nat) ^ 32 = M256 := by decide
theorem P_lt : P < M256 := by decide
theorem P_pos : 0 < P := by decide
theorem leN_kb {n : Nat} (h : n < M256) : leN (kb n) = n := by
  unfold kb; rw [leN_kbN, pow32, Nat.mod_eq_of_lt h]
theorem leN_cn (n : Nat) : leN (cn n) = n % P := leN_kb (Nat.lt_trans (Nat.mod_lt _ P_pos) P_lt)
theorem kbN_leN : ∀ l : List B8, kbN l.length (leN l) = l
  | [] => rfl
  | x :: r => by
    have hx := x.isLt
    rw [List.length_cons, kbN, leN_cons]
    have e : (x.toNat + 256 * leN r) / 256 = leN r := by omega
    rw [e, kbN_leN r]
    congr 1
    apply BitVec.eq_of_toNat_eq
    rw [BitVec.toNat_ofNat]; omega
theorem kb_leN {l : List B8} (h : l.length = 32) : kb (leN l) = l := by
  have := kbN_leN l
  rw [h] at this; exact this
theorem leN_inj {l m : List B8} (hl : l.length = 32) (hm : m.length = 32) (h : leN l = leN m) : l = m := by
  rw [← kb_leN hl, ← kb_leN hm, h]
theorem leN_lt32 {l : List B8} (h : l.length = 32) : leN l < M256 := by
  have := leN_lt l; rw [h, pow32] at this; exact this
theorem cn_mod (n : Nat) : cn (n % P) = cn n := by unfold cn; rw [Nat.mod_mod]
theorem cn_eq {a b : Nat} (h : a % P = b % P) : cn a = cn b := by unfold cn; rw [h]
theorem cn_inj {a b : Nat} (h : cn a = cn b) : a % P = b % P := by
  rw [← leN_cn, ← leN_cn, h]
theorem cn_fix {l : List B8} (h : l.length = 32) (hl : leN l < P) : cn (leN l) = l := by
  unfold cn; rw [Nat.mod_eq_of_lt hl, kb_leN h]
/-- the number of four parts -/
def vn : List Nat → Nat
  | [a, b, c, d] => a + M64 * b + M64 * M64 * c + M64 * M64 * M64 * d
  | _ => 0
/-- four parts -/
structure Lm (l : List Nat) : Prop where
  len : l.length = 4
  lt : ∀ x ∈ l, x < M64
theorem Lm.ex {l : List Nat} (h : Lm l) : ∃ a b c d, l = [a, b, c, d] ∧ a < M64 ∧ b < M64 ∧ c < M64 ∧ d < M64 := by
  match l, h.len, h.lt with
  | [a, b, c, d], _, h => exact ⟨a, b, c, d, rfl, h a (by simp), h b (by simp), h c (by simp), h d (by simp)⟩
theorem Lm.mk4 {a b c d : Nat} (h1 : a < M64) (h2 : b < M64) (h3 : c < M64) (h4 : d < M64) : Lm [a, b, c, d] :=
  ⟨rfl, fun x hx => by simp at hx; rcases hx with rfl | rfl | rfl | rfl <;> assumption⟩
theorem Lm.vlt {l : List Nat} (h : Lm l) : vn l < M256 := by
  obtain ⟨a, b, c, d, rfl, h1, h2, h3, h4⟩ := h.ex
  simp only [vn, M64, M256] at *; omega
theorem fold_mod (v o : Nat) : (v + 38 * o) % P = (v + M256 * o) % P := by
  have e : v + M256 * o = v + 38 * o + P * (2 * o) := by simp only [M256, P]; omega
  rw [e, Nat.add_mul_mod_self_left]
/-- the four parts of a number -/
def limbs (n : Nat) : List Nat := [n % M64, n / M64 % M64, n / M64 / M64 % M64, n / M64 / M64 / M64 % M64]
@[simp] theorem limbs_len (n : Nat) : (limbs n).length = 4 := rfl
theorem M64_4 : M64 * M64 * M64 * M64 = M256 := by decide
theorem vn_limbs (n : Nat) : vn (limbs n) = n % M256 := by
  have h1 := Nat.mod_mul (x := n) (a := M64) (b := M64 * M64 * M64)
  have h2 := Nat.mod_mul (x := n / M64) (a := M64) (b := M64 * M64)
  have h3 := Nat.mod_mul (x := n / M64 / M64) (a := M64) (b := M64)
  simp only [limbs, vn]
  have e : M64 * (M64 * M64 * M64) = M256 := by decide
  rw [e] at h1
  rw [h1, show M64 * M64 * M64 = M64 * (M64 * M64) from rfl, h2, h3]
  simp only [M64]; omega
theorem limbs_lm (n : Nat) : Lm (limbs n) := Lm.mk4 (Nat.mod_lt _ (by decide)) (Nat.mod_lt _ (by decide)) (Nat.mod_lt _ (by decide)) (Nat.mod_lt _ (by decide))
theorem limbs_vn {l : List Nat} (h : Lm l) : limbs (vn l) = l := by
  obtain ⟨a, b, c, d, rfl, h1, h2, h3, h4⟩ := h.ex
  simp only [vn, limbs]
  simp only [M64] at *
  congr 1
  · omega
  congr 1
  · omega
  congr 1
  · omega
  congr 1
  omega
theorem limbs_mod (n : Nat) : limbs (n % M256) = limbs n := by rw [← vn_limbs, limbs_vn (limbs_lm n)]
/-- what stands above comes back -/
def fold1 (n : Nat) : Nat := n % M256 + 38 * (n / M256)
def red (n : Nat) : Nat := fold1 (fold1 n)
theorem fold1_P (n : Nat) : fold1 n % P = n % P := by
  unfold fold1
  rw [fold_mod]
  congr 1
  exact Nat.mod_add_div n M256
theorem fold1_lt {n : Nat} (h : n < M256) : fold1 n = n := by
  unfold fold1
  rw [Nat.mod_eq_of_lt h, Nat.div_eq_of_lt h]; rfl
theorem red_P (n : Nat) : red n % P = n % P := by unfold red; rw [fold1_P, fold1_P]
theorem red_lt {n : Nat} (h : n < M256 * 288230376151711744) : red n < M256 := by
  have h1 : n / M256 < 288230376151711744 := Nat.div_lt_of_lt_mul h
  have h2 := Nat.mod_lt n (show 0 < M256 by decide)
  unfold red fold1
  simp only [M256] at *
  omega
def addV (x y : Nat) : Nat := red (x % M256 + y % M256)
def subV (x y : Nat) : Nat :=
  if y % M256 ≤ x % M256 then x % M256 - y % M256 else if 38 ≤ x % M256 + M256 - y % M256 then x % M256 + M256 - y % M256 - 38 else x % M256 + M256 - y % M256 + M256 - 76
def mulV (x y : Nat) : Nat := red (fold1 ((x % M256) * (y % M256)))
def sqV (x : Nat) : Nat → Nat
  | 0 => x
  | n + 1 => mulV (sqV x n) (sqV x n)
def keyV (x : Nat) : List B8 := cn (x % M256)
@[simp] theorem keyV_len (n : Nat) : (keyV n).length = 32 := cn_len _
theorem mod256_P {x : Nat} (h : x < M256) : x % M256 = x := Nat.mod_eq_of_lt h
end Go.Proofs.Ytgneclfnfnpmkaa.Fp
