/-
  Numbers as digits to the base 256 and as four parts of 64 bits, and what is left of them modulo 2^255 - 19: plain Lean; own work.
  What the loops of package fe leave, part by part: plain Lean; own work.
  Products, part by part: plain Lean; own work.
-/
import Derived.Test.YtgclegdgngldoaaDoorEdw
set_option linter.unusedVariables false
namespace Go.Proofs.YtgclegdgngldoaaDoor.Fp
abbrev B8 := BitVec 8
def M64 : Nat := 18446744073709551616
def M256 : Nat := 115792089237316195423570985008687907853269984665640564039457584007913129639936
/-- the number of digits, the lowest one first -/
def vd : List Nat → Nat
  | [] => 0
  | x :: r => x + 256 * vd r
def leN (l : List B8) : Nat := vd (l.map (·.toNat))
def kbN : Nat → Nat → List B8
  | 0, _ => []
  | k + 1, n => BitVec.ofNat 8 n :: kbN k (n / 256)
/-- the key of a number -/
def kb (n : Nat) : List B8 := kbN 32 n
/-- the key of what is left of a number -/
def cn (n : Nat) : List B8 := kb (n % P)
theorem leN_cons (x : B8) (l : List B8) : leN (x :: l) = x.toNat + 256 * leN l := rfl
theorem leN_nil : leN [] = 0 := rfl
theorem leN_lt : ∀ l : List B8, leN l < 256 ^ l.length
  | [] => by simp [leN, vd]
  | x :: r => by
    have := leN_lt r
    have hx := x.isLt
    rw [leN_cons, List.length_cons, Nat.pow_succ]; omega
theorem kbN_len : ∀ k n, (kbN k n).length = k
  | 0, _ => rfl
  | k + 1, n => by simp [kbN, kbN_len k]
@[simp] theorem kb_len (n : Nat) : (kb n).length = 32 := kbN_len 32 n
@[simp] theorem cn_len (n : Nat) : (cn n).length = 32 := kb_len _
theorem leN_kbN : ∀ k n, leN (kbN k n) = n % 256 ^ k
  | 0, n => by simp [kbN, leN, vd, Nat.mod_one]
  | k + 1, n => by
    rw [kbN, leN_cons, leN_kbN k, Nat.pow_succ, BitVec.toNat_ofNat, Nat.mul_comm (256 ^ k) 256, Nat.mod_mul]
theorem pow32 : (256 : Nat) ^ 32 = M256 := by decide
theorem P_lt : P < M256 := by decide
theorem P_pos : 0 < P := by decide
theorem leN_kb {n : Nat} (h : n < M256) : leN (kb n) = n := by
  unfold kb; rw [leN_kbN, pow32, Nat.mod_eq_of_lt h]
theorem leN_cn (n : Nat) : leN (cn n) = n % P := leN_kb (Nat.lt_trans (Nat.mod_lt _ P_pos) P_lt)
theorem kbN_leN : ∀ l : List B8, kbN l.length (leN l) = l
  | [] => rfl
  | x :: r => by
    have hx := x.isLt
    rw [List.length_cons, kbN, leN_cons]
    have e : (x.toNat + 256 * leN r) / 256 = leN r := by omega
    rw [e, kbN_leN r]
    congr 1
    apply BitVec.eq_of_toNat_eq
    rw [BitVec.toNat_ofNat]; omega
theorem kb_leN {l : List B8} (h : l.length = 32) : kb (leN l) = l := by
  have := kbN_leN l
  rw [h] at this; exact this
theorem leN_inj {l m : List B8} (hl : l.length = 32) (hm : m.length = 32) (h : leN l = leN m) : l = m := by
  rw [← kb_leN hl, ← kb_leN hm, h]
theorem leN_lt32 {l : List B8} (h : l.length = 32) : leN l < M256 := by
  have := leN_lt l; rw [h, pow32] at this; exact this
theorem cn_mod (n : Nat) : cn (n % P) = cn n := by unfold cn; rw [Nat.mod_mod]
theorem cn_eq {a b : Nat} (h : a % P = b % P) : cn a = cn b := by unfold cn; rw [h]
theorem cn_inj {a b : Nat} (h : cn a = cn b) : a % P = b % P := by
  rw [← leN_cn, ← leN_cn, h]
theorem cn_fix {l : List B8} (h : l.length = 32) (hl : leN l < P) : cn (leN l) = l := by
  unfold cn; rw [Nat.mod_eq_of_lt hl, kb_leN h]
/-- the number of four parts -/
def vn : List Nat → Nat
  | [a, b, c, d] => a + M64 * b + M64 * M64 * c + M64 * M64 * M64 * d
  | _ => 0
/-- four parts -/
structure Lm (l : List Nat) : Prop where
  len : l.length = 4
  lt : ∀ x ∈ l, x < M64
theorem Lm.ex {l : List Nat} (h : Lm l) : ∃ a b c d, l = [a, b, c, d] ∧ a < M64 ∧ b < M64 ∧ c < M64 ∧ d < M64 := by
  match l, h.len, h.lt with
  | [a, b, c, d], _, h => exact ⟨a, b, c, d, rfl, h a (by simp), h b (by simp), h c (by simp), h d (by simp)⟩
theorem Lm.mk4 {a b c d : Nat} (h1 : a < M64) (h2 : b < M64) (h3 : c < M64) (h4 : d < M64) : Lm [a, b, c, d] :=
  ⟨rfl, fun x hx => by simp at hx; rcases hx with rfl | rfl | rfl | rfl <;> assumption⟩
theorem Lm.vlt {l : List Nat} (h : Lm l) : vn l < M256 := by
  obtain ⟨a, b, c, d, rfl, h1, h2, h3, h4⟩ := h.ex
  simp only [vn, M64, M256] at *; omega
theorem fold_mod (v o : Nat) : (v + 38 * o) % P = (v + M256 * o) % P := by
  have e : v + M256 * o = v + 38 * o + P * (2 * o) := by simp only [M256, P]; omega
  rw [e, Nat.add_mul_mod_self_left]
/-- the four parts of a number -/
def limbs (n : Nat) : List Nat := [n % M64, n / M64 % M64, n / M64 / M64 % M64, n / M64 / M64 / M64 % M64]
@[simp] theorem limbs_len (n : Nat) : (limbs n).length = 4 := rfl
theorem M64_4 : M64 * M64 * M64 * M64 = M256 := by decide
theorem vn_limbs (n : Nat) : vn (limbs n) = n % M256 := by
  have h1 := Nat.mod_mul (x := n) (a := M64) (b := M64 * M64 * M64)
  have h2 := Nat.mod_mul (x := n / M64) (a := M64) (b := M64 * M64)
  have h3 := Nat.mod_mul (x := n / M64 / M64) (a := M64) (b := M64)
  simp only [limbs, vn]
  have e : M64 * (M64 * M64 * M64) = M256 := by decide
  rw [e] at h1
  rw [h1, show M64 * M64 * M64 = M64 * (M64 * M64) from rfl, h2, h3]
  simp only [M64]; omega
theorem limbs_lm (n : Nat) : Lm (limbs n) := Lm.mk4 (Nat.mod_lt _ (by decide)) (Nat.mod_lt _ (by decide)) (Nat.mod_lt _ (by decide)) (Nat.mod_lt _ (by decide))
theorem limbs_vn {l : List Nat} (h : Lm l) : limbs (vn l) = l := by
  obtain ⟨a, b, c, d, rfl, h1, h2, h3, h4⟩ := h.ex
  simp only [vn, limbs]
  simp only [M64] at *
  congr 1
  · omega
  congr 1
  · omega
  congr 1
  · omega
  congr 1
  omega
theorem limbs_mod (n : Nat) : limbs (n % M256) = limbs n := by rw [← vn_limbs, limbs_vn (limbs_lm n)]
/-- what stands above comes back -/
def fold1 (n : Nat) : Nat := n % M256 + 38 * (n / M256)
def red (n : Nat) : Nat := fold1 (fold1 n)
theorem fold1_P (n : Nat) : fold1 n % P = n % P := by
  unfold fold1
  rw [fold_mod]
  congr 1
  exact Nat.mod_add_div n M256
theorem fold1_lt {n : Nat} (h : n < M256) : fold1 n = n := by
  unfold fold1
  rw [Nat.mod_eq_of_lt h, Nat.div_eq_of_lt h]; rfl
theorem red_P (n : Nat) : red n % P = n % P := by unfold red; rw [fold1_P, fold1_P]
theorem red_lt {n : Nat} (h : n < M256 * 288230376151711744) : red n < M256 := by
  have h1 : n / M256 < 288230376151711744 := Nat.div_lt_of_lt_mul h
  have h2 := Nat.mod_lt n (show 0 < M256 by decide)
  unfold red fold1
  simp only [M256] at *
  omega
def addV (x y : Nat) : Nat := red (x % M256 + y % M256)
def subV (x y : Nat) : Nat :=
  if y % M256 ≤ x % M256 then x % M256 - y % M256 else if 38 ≤ x % M256 + M256 - y % M256 then x % M256 + M256 - y % M256 - 38 else x % M256 + M256 - y % M256 + M256 - 76
def mulV (x y : Nat) : Nat := red (fold1 ((x % M256) * (y % M256)))
def sqV (x : Nat) : Nat → Nat
  | 0 => x
  | n + 1 => mulV (sqV x n) (sqV x n)
def keyV (x : Nat) : List B8 := cn (x % M256)
@[simp] theorem keyV_len (n : Nat) : (keyV n).length = 32 := cn_len _
theorem mod256_P {x : Nat} (h : x < M256) : x % M256 = x := Nat.mod_eq_of_lt h
end Go.Proofs.YtgclegdgngldoaaDoor.Fp
set_option linter.unusedVariables false
namespace Go.Proofs.YtgclegdgngldoaaDoor.Fp
theorem getD_set_same {l : List Nat} {i x : Nat} (h : i < l.length) : (l.set i x).getD i 0 = x := by simp [List.getD_eq_getElem?_getD, h]
theorem Lm.set {l : List Nat} (h : Lm l) (i x : Nat) (hx : x < M64) : Lm (l.set i x) := ⟨by simp [h.len], fun y hy => by
  rcases List.mem_or_eq_of_mem_set hy with e | e
  · exact h.lt y e
  · rw [e]; exact hx⟩
theorem Lm.getD {l : List Nat} (h : Lm l) (i : Nat) : l.getD i 0 < M64 := by
  rw [List.getD_eq_getElem?_getD]
  cases e : l[i]? with
  | none => simp [M64]
  | some y => exact h.lt y (List.mem_of_getElem? e)
/-- one part is set -/
theorem vn_set {l : List Nat} (h : Lm l) {i : Nat} (hi : i < 4) (x : Nat) : vn (l.set i x) + M64 ^ i * l.getD i 0 = vn l + M64 ^ i * x := by
  obtain ⟨a, b, c, d, rfl, _⟩ := h.ex
  match i, hi with
  | 0, _ => simp [vn]; omega
  | 1, _ => simp [vn, M64]; omega
  | 2, _ => simp [vn, M64]; omega
  | 3, _ => simp [vn, M64]; omega
/-- a carry goes up -/
def rip (l : List Nat) (n : Nat) : Nat → List Nat × Nat
  | 0 => (l, n)
  | i + 1 => ((rip l n i).1.set i (((rip l n i).1.getD i 0 + (rip l n i).2) % M64), ((rip l n i).1.getD i 0 + (rip l n i).2) / M64)
theorem mul_mod_div (p s : Nat) : p * (s % M64) + p * M64 * (s / M64) = p * s := by
  rw [Nat.mul_assoc, ← Nat.mul_add, Nat.mod_add_div]
theorem rip_spec {l : List Nat} (h : Lm l) (n : Nat) : ∀ i, i ≤ 4 → Lm (rip l n i).1 ∧ vn (rip l n i).1 + M64 ^ i * (rip l n i).2 = vn l + n
  | 0, _ => ⟨h, by simp [rip]⟩
  | i + 1, hi => by
    obtain ⟨h1, h2⟩ := rip_spec h n i (by omega)
    refine ⟨h1.set _ _ (Nat.mod_lt _ (by decide)), ?_⟩
    have h3 := vn_set h1 (show i < 4 by omega) (((rip l n i).1.getD i 0 + (rip l n i).2) % M64)
    have h4 := mul_mod_div (M64 ^ i) ((rip l n i).1.getD i 0 + (rip l n i).2)
    rw [Nat.mul_add] at h4
    simp only [rip, Nat.pow_succ]
    omega
theorem lm_eq {l : List Nat} (h : Lm l) {v c n : Nat} (e : vn l + M256 * c = n) : l = limbs n ∧ c = n / M256 := by
  have h1 := h.vlt
  have h2 : vn l = n % M256 := by rw [← e, Nat.add_mul_mod_self_left, Nat.mod_eq_of_lt h1]
  refine ⟨by rw [← limbs_mod, ← h2, limbs_vn h], ?_⟩
  rw [← e, Nat.add_mul_div_left _ _ (by decide), Nat.div_eq_of_lt h1]; omega
theorem M64_pow4 : M64 ^ 4 = M256 := by decide
theorem rip4 (x n : Nat) : (rip (limbs x) n 4).1 = limbs (x % M256 + n) ∧ (rip (limbs x) n 4).2 = (x % M256 + n) / M256 := by
  obtain ⟨h1, h2⟩ := rip_spec (limbs_lm x) n 4 (Nat.le_refl _)
  rw [M64_pow4, vn_limbs] at h2
  exact lm_eq (v := 0) h1 h2
/-- a sum, part by part -/
def aL (l m : List Nat) : Nat → List Nat × Nat
  | 0 => (l, 0)
  | i + 1 => ((aL l m i).1.set i (((aL l m i).1.getD i 0 + m.getD i 0 + (aL l m i).2) % M64), ((aL l m i).1.getD i 0 + m.getD i 0 + (aL l m i).2) / M64)
/-- the lowest parts -/
def pv (m : List Nat) : Nat → Nat
  | 0 => 0
  | i + 1 => pv m i + M64 ^ i * m.getD i 0
theorem pv4 {m : List Nat} (h : Lm m) : pv m 4 = vn m := by
  obtain ⟨a, b, c, d, rfl, _⟩ := h.ex
  simp [pv, vn, M64]
theorem aL_spec {l m : List Nat} (h : Lm l) (hm : Lm m) : ∀ i, i ≤ 4 → Lm (aL l m i).1 ∧ (aL l m i).2 ≤ 1 ∧ vn (aL l m i).1 + M64 ^ i * (aL l m i).2 = vn l + pv m i
  | 0, _ => ⟨h, by simp [aL], by simp [aL, pv]⟩
  | i + 1, hi => by
    obtain ⟨h1, h0, h2⟩ := aL_spec h hm i (by omega)
    refine ⟨h1.set _ _ (Nat.mod_lt _ (by decide)), ?_, ?_⟩
    · have q1 := h1.getD i
      have q2 := hm.getD i
      simp only [aL]
      simp only [M64] at *
      omega
    · have h3 := vn_set h1 (show i < 4 by omega) (((aL l m i).1.getD i 0 + m.getD i 0 + (aL l m i).2) % M64)
      have h4 := mul_mod_div (M64 ^ i) ((aL l m i).1.getD i 0 + m.getD i 0 + (aL l m i).2)
      rw [Nat.mul_add, Nat.mul_add] at h4
      simp only [aL, pv, Nat.pow_succ]
      omega
theorem aL4 (x y : Nat) : (aL (limbs x) (limbs y) 4).1 = limbs (x % M256 + y % M256) ∧ (aL (limbs x) (limbs y) 4).2 = (x % M256 + y % M256) / M256 := by
  obtain ⟨h1, _, h2⟩ := aL_spec (limbs_lm x) (limbs_lm y) 4 (Nat.le_refl _)
  rw [M64_pow4, vn_limbs, pv4 (limbs_lm y), vn_limbs] at h2
  exact lm_eq (v := 0) h1 h2
/-- a difference, part by part: l, less m, into r -/
def sL (r l m : List Nat) (b : Nat) : Nat → List Nat × Nat
  | 0 => (r, b)
  | i + 1 => ((sL r l m b i).1.set i ((l.getD i 0 + 18446744073709551616 - m.getD i 0 - (sL r l m b i).2) % 18446744073709551616), if l.getD i 0 < m.getD i 0 + (sL r l m b i).2 then 1 else 0)
theorem sub_step {a m b : Nat} (ha : a < M64) (hm : m < M64) (hb : b ≤ 1) : (a + 18446744073709551616 - m - b) % 18446744073709551616 + m + b = a + M64 * (if a < m + b then 1 else 0) := by
  simp only [M64] at *
  split <;> omega
/-- in place -/
def dL (l m : List Nat) (b : Nat) : Nat → List Nat × Nat
  | 0 => (l, b)
  | i + 1 => ((dL l m b i).1.set i (((dL l m b i).1.getD i 0 + 18446744073709551616 - m.getD i 0 - (dL l m b i).2) % 18446744073709551616), if (dL l m b i).1.getD i 0 < m.getD i 0 + (dL l m b i).2 then 1 else 0)
theorem dL_spec {l m : List Nat} (h : Lm l) (hm : Lm m) (b : Nat) (hb : b ≤ 1) : ∀ i, i ≤ 4 → Lm (dL l m b i).1 ∧ (dL l m b i).2 ≤ 1 ∧ vn (dL l m b i).1 + pv m i + b = vn l + M64 ^ i * (dL l m b i).2
  | 0, _ => ⟨h, hb, by simp [dL, pv]⟩
  | i + 1, hi => by
    obtain ⟨h1, h0, h2⟩ := dL_spec h hm b hb i (by omega)
    have h5 := sub_step (h1.getD i) (hm.getD i) h0
    refine ⟨h1.set _ _ (Nat.mod_lt _ (by decide)), by simp only [dL]; split <;> omega, ?_⟩
    have h3 := vn_set h1 (show i < 4 by omega) (((dL l m b i).1.getD i 0 + 18446744073709551616 - m.getD i 0 - (dL l m b i).2) % 18446744073709551616)
    have h6 := congrArg (M64 ^ i * ·) h5
    simp only [Nat.mul_add] at h6
    simp only [dL, pv, Nat.pow_succ]
    rw [Nat.mul_assoc]
    omega
theorem lm_sub {l : List Nat} (h : Lm l) {c x y : Nat} (hx : x < M256) (hy : y < M256) (hc : c ≤ 1) (e : vn l + y = x + M256 * c) : l = limbs (if y ≤ x then x - y else x + M256 - y) ∧ c = if x < y then 1 else 0 := by
  have h1 := h.vlt
  have hv : vn l = if y ≤ x then x - y else x + M256 - y := by
    split <;> (simp only [M256] at *; omega)
  refine ⟨by rw [← hv, limbs_vn h], ?_⟩
  split <;> (simp only [M256] at *; omega)
theorem mod256_lt (x : Nat) : x % M256 < M256 := Nat.mod_lt _ (by decide)
theorem dL4 (x y : Nat) : (dL (limbs x) (limbs y) 0 4).1 = limbs (if y % M256 ≤ x % M256 then x % M256 - y % M256 else x % M256 + M256 - y % M256) ∧ (dL (limbs x) (limbs y) 0 4).2 = if x % M256 < y % M256 then 1 else 0 := by
  obtain ⟨h1, h0, h2⟩ := dL_spec (limbs_lm x) (limbs_lm y) 0 (by decide) 4 (Nat.le_refl _)
  rw [M64_pow4, vn_limbs, pv4 (limbs_lm y), vn_limbs] at h2
  exact lm_sub h1 (mod256_lt x) (mod256_lt y) h0 h2
/-- a number, less 38 -/
theorem dL38 (x : Nat) : (dL (limbs x) [38, 0, 0, 0] 0 4).1 = limbs (if 38 ≤ x % M256 then x % M256 - 38 else x % M256 + M256 - 38) ∧ (dL (limbs x) [38, 0, 0, 0] 0 4).2 = if x % M256 < 38 then 1 else 0 := by
  have hm : Lm [38, 0, 0, 0] := Lm.mk4 (by decide) (by decide) (by decide) (by decide)
  obtain ⟨h1, h0, h2⟩ := dL_spec (limbs_lm x) hm 0 (by decide) 4 (Nat.le_refl _)
  rw [M64_pow4, vn_limbs, pv4 hm] at h2
  exact lm_sub h1 (mod256_lt x) (by decide) h0 h2
/-- into another one -/
theorem sL_dL (l m : List Nat) (b : Nat) {r : List Nat} (hr : r.length = 4) (hl : l.length = 4) : ∀ i, i ≤ 4 → (sL r l m b i).2 = (dL l m b i).2 ∧ (∀ j, j < i → (sL r l m b i).1[j]? = (dL l m b i).1[j]?) ∧ (∀ j, i ≤ j → (dL l m b i).1[j]? = l[j]?) ∧ (sL r l m b i).1.length = 4 ∧ (dL l m b i).1.length = 4
  | 0, _ => ⟨rfl, fun j hj => absurd hj (Nat.not_lt_zero _), fun _ _ => rfl, hr, hl⟩
  | i + 1, hi => by
    obtain ⟨h1, h2, h3, h4, h5⟩ := sL_dL l m b hr hl i (by omega)
    have e : (dL l m b i).1.getD i 0 = l.getD i 0 := by rw [List.getD_eq_getElem?_getD, List.getD_eq_getElem?_getD, h3 i (Nat.le_refl _)]
    refine ⟨by simp only [sL, dL, h1, e], fun j hj => ?_, fun j hj => ?_, by simp [sL, h4], by simp [dL, h5]⟩
    · simp only [sL, dL, h1, e, List.getElem?_set, h4, h5]
      by_cases hji : i = j
      · subst hji; simp [show i < 4 by omega]
      · simp only [hji, if_false]; exact h2 j (by omega)
    · simp only [dL, List.getElem?_set]
      rw [if_neg (by omega)]; exact h3 j (by omega)
theorem sL4 (x y : Nat) {r : List Nat} (hr : r.length = 4) : (sL r (limbs x) (limbs y) 0 4).1 = limbs (if y % M256 ≤ x % M256 then x % M256 - y % M256 else x % M256 + M256 - y % M256) ∧ (sL r (limbs x) (limbs y) 0 4).2 = if x % M256 < y % M256 then 1 else 0 := by
  obtain ⟨h1, h2, _, h4, h5⟩ := sL_dL (limbs x) (limbs y) 0 hr rfl 4 (Nat.le_refl _)
  obtain ⟨h6, h7⟩ := dL4 x y
  refine ⟨?_, by rw [h1, h7]⟩
  rw [← h6]
  apply List.ext_getElem?
  intro j
  by_cases hj : j < 4
  · exact h2 j hj
  · rw [List.getElem?_eq_none (by omega), List.getElem?_eq_none (by omega)]
end Go.Proofs.YtgclegdgngldoaaDoor.Fp
set_option linter.unusedVariables false
namespace Go.Proofs.YtgclegdgngldoaaDoor.Fp
def vw : List Nat → Nat
  | [] => 0
  | x :: r => x + M64 * vw r
theorem vw_set : ∀ (l : List Nat) (k x : Nat), k < l.length → vw (l.set k x) + M64 ^ k * l.getD k 0 = vw l + M64 ^ k * x
  | [], k, x, h => by simp at h
  | y :: r, 0, x, _ => by simp [vw]; omega
  | y :: r, k + 1, x, h => by
    have := vw_set r k x (by simpa using h)
    have e := congrArg (M64 * ·) this
    simp only [Nat.mul_add, ← Nat.mul_assoc] at e
    simp only [List.set_cons_succ, vw, Nat.pow_succ, Nat.mul_comm (M64 ^ k) M64]
    have e2 : (y :: r).getD (k + 1) 0 = r.getD k 0 := rfl
    rw [e2]
    omega
def AL (l : List Nat) : Prop := ∀ x ∈ l, x < M64
theorem AL.set {l : List Nat} (h : AL l) (k x : Nat) (hx : x < M64) : AL (l.set k x) := fun y hy => by
  rcases List.mem_or_eq_of_mem_set hy with e | e
  · exact h y e
  · rw [e]; exact hx
theorem AL.getD {l : List Nat} (h : AL l) (k : Nat) : l.getD k 0 < M64 := by
  rw [List.getD_eq_getElem?_getD]
  cases e : l[k]? with
  | none => simp [M64]
  | some y => exact h y (List.mem_of_getElem? e)
theorem vw_four {l : List Nat} (h : l.length = 4) : vw l = vn l := by
  match l, h with
  | [a, b, c, d], _ => simp [vw, vn, M64]; omega
theorem vw_app : ∀ (l m : List Nat), vw (l ++ m) = vw l + M64 ^ l.length * vw m
  | [], m => by simp [vw]
  | x :: r, m => by
    simp only [List.cons_append, vw, vw_app r m, List.length_cons, Nat.pow_succ, Nat.mul_add, Nat.mul_comm (M64 ^ r.length) M64, Nat.mul_assoc]; omega
/-- a number times a digit, added to parts -/
def rL (L l : List Nat) (off d : Nat) : Nat → List Nat × Nat
  | 0 => (L, 0)
  | i + 1 => ((rL L l off d i).1.set (off + i) ((l.getD i 0 * d + (rL L l off d i).1.getD (off + i) 0 + (rL L l off d i).2) % M64), (l.getD i 0 * d + (rL L l off d i).1.getD (off + i) 0 + (rL L l off d i).2) / M64)
theorem tot_lt {x d y c : Nat} (hx : x < M64) (hd : d < M64) (hy : y < M64) (hc : c < M64) : x * d + y + c < M64 * M64 := by
  have h1 : x * d ≤ (M64 - 1) * (M64 - 1) := Nat.mul_le_mul (by omega) (by omega)
  have h2 : (M64 - 1) * (M64 - 1) = 340282366920938463426481119284349108225 := by decide
  rw [h2] at h1
  simp only [M64] at *
  omega
theorem rL_spec {L l : List Nat} (hL : AL L) (hl : AL l) {off d : Nat} (hd : d < M64) (hlen : off + 4 ≤ L.length) : ∀ i, i ≤ 4 → (rL L l off d i).1.length = L.length ∧ AL (rL L l off d i).1 ∧ (rL L l off d i).2 < M64 ∧
    vw (rL L l off d i).1 + M64 ^ (off + i) * (rL L l off d i).2 = vw L + M64 ^ off * (d * pv l i) ∧ ∀ j, j < off ∨ off + i ≤ j → (rL L l off d i).1.getD j 0 = L.getD j 0
  | 0, _ => ⟨rfl, hL, by simp [rL, M64], by simp [rL, pv], fun j _ => rfl⟩
  | i + 1, hi => by
    obtain ⟨h1, h2, h3, h4, h5⟩ := rL_spec hL hl hd hlen i (by omega)
    have ht := tot_lt (hl.getD i) hd (h2.getD (off + i)) h3
    refine ⟨by simp [rL, h1], h2.set _ _ (Nat.mod_lt _ (by decide)), Nat.div_lt_of_lt_mul ht, ?_, fun j hj => ?_⟩
    · have h6 := vw_set (rL L l off d i).1 (off + i) ((l.getD i 0 * d + (rL L l off d i).1.getD (off + i) 0 + (rL L l off d i).2) % M64) (by omega)
      have h7 := mul_mod_div (M64 ^ (off + i)) (l.getD i 0 * d + (rL L l off d i).1.getD (off + i) 0 + (rL L l off d i).2)
      rw [Nat.mul_add, Nat.mul_add] at h7
      have e1 : M64 ^ off * (d * pv l (i + 1)) = M64 ^ off * (d * pv l i) + M64 ^ (off + i) * (l.getD i 0 * d) := by
        simp only [pv]
        rw [Nat.mul_add, Nat.mul_add, Nat.pow_add]
        congr 1
        simp only [Nat.mul_assoc, Nat.mul_left_comm, Nat.mul_comm]
      rw [e1]
      simp only [rL]
      rw [show off + (i + 1) = off + i + 1 by omega, Nat.pow_succ]
      omega
    · simp only [rL]
      rw [List.getD_eq_getElem?_getD, List.getElem?_set, if_neg (by omega), ← List.getD_eq_getElem?_getD]
      exact h5 j (by omega)
/-- what the four rounds of a product leave -/
def mW (x y : Nat) : Nat → List Nat
  | 0 => List.replicate 8 0
  | i + 1 => (rL (mW x y i) (limbs x) i ((limbs y).getD i 0) 4).1.set (i + 4) (rL (mW x y i) (limbs x) i ((limbs y).getD i 0) 4).2
theorem lmAL {l : List Nat} (h : Lm l) : AL l := h.lt
theorem mW_spec (x y : Nat) : ∀ i, i ≤ 4 → (mW x y i).length = 8 ∧ AL (mW x y i) ∧ vw (mW x y i) = (x % M256) * pv (limbs y) i ∧ ∀ j, i + 4 ≤ j → (mW x y i).getD j 0 = 0
  | 0, _ => ⟨rfl, by intro z hz; rw [List.eq_of_mem_replicate hz]; decide, by show vw (List.replicate 8 0) = _ * 0; rw [Nat.mul_zero]; decide, fun j _ => by
    show (List.replicate 8 0).getD j 0 = 0
    rw [List.getD_eq_getElem?_getD, List.getElem?_replicate]; by_cases h : j < 8 <;> simp [h]⟩
  | i + 1, hi => by
    obtain ⟨h1, h2, h3, h4⟩ := mW_spec x y i (by omega)
    obtain ⟨k1, k2, k3, k4, k5⟩ := rL_spec h2 (lmAL (limbs_lm x)) (lmAL (limbs_lm y) |>.getD i) (off := i) (by omega) 4 (Nat.le_refl _)
    refine ⟨by simp only [mW, List.length_set]; rw [k1, h1], k2.set _ _ k3, ?_, fun j hj => ?_⟩
    · have h6 := vw_set (rL (mW x y i) (limbs x) i ((limbs y).getD i 0) 4).1 (i + 4) (rL (mW x y i) (limbs x) i ((limbs y).getD i 0) 4).2 (by omega)
      rw [k5 (i + 4) (by omega), h4 (i + 4) (by omega)] at h6
      rw [pv4 (limbs_lm x), vn_limbs, h3] at k4
      simp only [mW, pv, Nat.mul_add]
      have e : x % M256 * (M64 ^ i * (limbs y).getD i 0) = M64 ^ i * ((limbs y).getD i 0 * (x % M256)) := by simp only [Nat.mul_left_comm, Nat.mul_comm]
      rw [e]
      omega
    · simp only [mW]
      rw [List.getD_eq_getElem?_getD, List.getElem?_set, if_neg (by omega), ← List.getD_eq_getElem?_getD, k5 j (by omega)]
      exact h4 j (by omega)
theorem mW_end (x y : Nat) : (mW x y 4).length = 8 ∧ (mW x y 4).take 4 = limbs ((x % M256) * (y % M256)) ∧ (mW x y 4).drop 4 = limbs ((x % M256) * (y % M256) / M256) := by
  obtain ⟨h1, h2, h3, _⟩ := mW_spec x y 4 (Nat.le_refl _)
  rw [pv4 (limbs_lm y), vn_limbs] at h3
  have l1 : ((mW x y 4).take 4).length = 4 := by simp [h1]
  have l2 : ((mW x y 4).drop 4).length = 4 := by simp [h1]
  have m1 : Lm ((mW x y 4).take 4) := ⟨l1, fun z hz => h2 z (List.mem_of_mem_take hz)⟩
  have m2 : Lm ((mW x y 4).drop 4) := ⟨l2, fun z hz => h2 z (List.mem_of_mem_drop hz)⟩
  have e := vw_app ((mW x y 4).take 4) ((mW x y 4).drop 4)
  rw [List.take_append_drop, l1, M64_pow4, vw_four l1, vw_four l2, h3] at e
  obtain ⟨e1, e2⟩ := lm_eq (v := 0) m1 e.symm
  refine ⟨h1, e1, ?_⟩
  rw [← e2, limbs_vn m2]
theorem row38 (p : Nat) : (rL (limbs p) (limbs (p / M256)) 0 38 4).1 = limbs (p % M256 + 38 * (p / M256 % M256)) ∧ (rL (limbs p) (limbs (p / M256)) 0 38 4).2 = (p % M256 + 38 * (p / M256 % M256)) / M256 := by
  obtain ⟨k1, k2, k3, k4, _⟩ := rL_spec (lmAL (limbs_lm p)) (lmAL (limbs_lm (p / M256))) (off := 0) (d := 38) (by decide) (by simp) 4 (Nat.le_refl _)
  rw [show 0 + 4 = 4 from rfl, M64_pow4, pv4 (limbs_lm _), vn_limbs, vw_four k1, vw_four rfl, vn_limbs] at k4
  simp only [Nat.pow_zero, Nat.one_mul] at k4
  exact lm_eq (v := 0) ⟨k1, k2⟩ k4
theorem fold1_mul (x y : Nat) : (x % M256) * (y % M256) % M256 + 38 * ((x % M256) * (y % M256) / M256 % M256) = fold1 ((x % M256) * (y % M256)) := by
  unfold fold1
  have h : (x % M256) * (y % M256) / M256 < M256 := by
    refine Nat.div_lt_of_lt_mul ?_
    have h1 := Nat.mod_lt x (show 0 < M256 by decide)
    have h2 := Nat.mod_lt y (show 0 < M256 by decide)
    exact Nat.mul_lt_mul'' h1 h2
  rw [Nat.mod_eq_of_lt h]
theorem fold1_mul_lt (x y : Nat) : fold1 ((x % M256) * (y % M256)) < M256 * 288230376151711744 := by
  rw [← fold1_mul]
  have h1 := Nat.mod_lt ((x % M256) * (y % M256)) (show 0 < M256 by decide)
  have h2 := Nat.mod_lt ((x % M256) * (y % M256) / M256) (show 0 < M256 by decide)
  simp only [M256] at *
  omega
end Go.Proofs.YtgclegdgngldoaaDoor.Fp
