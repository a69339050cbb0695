/-
  What the loops of package fe leave, part by part: plain Lean; own work.
-/
import Derived.Test.YtgneclfnfnpmkaaFeM
set_option linter.unusedVariables false
namespace Go.Proofs.Ytgneclfnfnpmkaa.Fp
theorem getD_set_same {l : List Nat} {i x : Nat} (h : i < l.length) : (l.set i x).getD i 0 = x := by simp [List.getD_eq_getElem?_getD, h]
theorem Lm.set {l : List Nat} (h : Lm l) (i x : Nat) (hx : x < M64) : Lm (l.set i x) := ⟨by simp [h.len], fun y hy => by
  rcases List.mem_or_eq_of_mem_set hy with e | e
  · exact h.lt y e
  · rw [e]; exact hx⟩
theorem Lm.getD {l : List Nat} (h : Lm l) (i : Nat) : l.getD i 0 < M64 := by
  rw [List.getD_eq_getElem?_getD]
  cases e : l[i]? with
  | none => simp [M64]
  | some y => exact h.lt y (List.mem_of_getElem? e)
/-- one part is set -/
theorem vn_set {l : List Nat} (h : Lm l) {i : Nat} (hi : i < 4) (x : Nat) : vn (l.set i x) + M64 ^ i * l.getD i 0 = vn l + M64 ^ i * x := by
  obtain ⟨a, b, c, d, rfl, _⟩ := h.ex
  match i, hi with
  | 0, _ => simp [vn]; omega
  | 1, _ => simp [vn, M64]; omega
  | 2, _ => simp [vn, M64]; omega
  | 3, _ => simp [vn, M64]; omega
/-- a carry goes up -/
def rip (l : List Nat) (n : Nat) : Nat → List Nat × Nat
  | 0 => (l, n)
  | i + 1 => ((rip l n i).1.set i (((rip l n i).1.getD i 0 + (rip l n i).2) % M64), ((rip l n i).1.getD i 0 + (rip l n i).2) / M64)
theorem mul_mod_div (p s : Nat) : p * (s % M64) + p * M64 * (s / M64) = p * s := by
  rw [Nat.mul_assoc, ← Nat.mul_add, Nat.mod_add_div]
theorem rip_spec {l : List Nat} (h : Lm l) (n : Nat) : ∀ i, i ≤ 4 → Lm (rip l n i).1 ∧ vn (rip l n i).1 + M64 ^ i * (rip l n i).2 = vn l + n
  | 0, _ => ⟨h, by simp [rip]⟩
  | i + 1, hi => by
    obtain ⟨h1, h2⟩ := rip_spec h n i (by omega)
    refine ⟨h1.set _ _ (Nat.mod_lt _ (by decide)), ?_⟩
    have h3 := vn_set h1 (show i < 4 by omega) (((rip l n i).1.getD i 0 + (rip l n i).2) % M64)
    have h4 := mul_mod_div (M64 ^ i) ((rip l n i).1.getD i 0 + (rip l n i).2)
    rw [Nat.mul_add] at h4
    simp only [rip, Nat.pow_succ]
    omega
theorem lm_eq {l : List Nat} (h : Lm l) {v c n : Nat} (e : vn l + M256 * c = n) : l = limbs n ∧ c = n / M256 := by
  have h1 := h.vlt
  have h2 : vn l = n % M256 := by rw [← e, Nat.add_mul_mod_self_left, Nat.mod_eq_of_lt h1]
  refine ⟨by rw [← limbs_mod, ← h2, limbs_vn h], ?_⟩
  rw [← e, Nat.add_mul_div_left _ _ (by decide), Nat.div_eq_of_lt h1]; omega
theorem M64_pow4 : M64 ^ 4 = M256 := by decide
theorem rip4 (x n : Nat) : (rip (limbs x) n 4).1 = limbs (x % M256 + n) ∧ (rip (limbs x) n 4).2 = (x % M256 + n) / M256 := by
  obtain ⟨h1, h2⟩ := rip_spec (limbs_lm x) n 4 (Nat.le_refl _)
  rw [M64_pow4, vn_limbs] at h2
  exact lm_eq (v := 0) h1 h2
/-- a sum, part by part -/
def aL (l m : List Nat) : Nat → List Nat × Nat
  | 0 => (l, 0)
  | i + 1 => ((aL l m i).1.set i (((aL l m i).1.getD i 0 + m.getD i 0 + (aL l m i).2) % M64), ((aL l m i).1.getD i 0 + m.getD i 0 + (aL l m i).2) / M64)
/-- the lowest parts -/
def pv (m : List Nat) : Nat → Nat
  | 0 => 0
  | i + 1 => pv m i + M64 ^ i * m.getD i 0
theorem pv4 {m : List Nat} (h : Lm m) : pv m 4 = vn m := by
  obtain ⟨a, b, c, d, rfl, _⟩ := h.ex
  simp [pv, vn, M64]
theorem aL_spec {l m : List Nat} (h : Lm l) (hm : Lm m) : ∀ i, i ≤ 4 → Lm (aL l m i).1 ∧ (aL l m i).2 ≤ 1 ∧ vn (aL l m i).1 + M64 ^ i * (aL l m i).2 = vn l + pv m i
  | 0, _ => ⟨h, by simp [aL], by simp [aL, pv]⟩
  | i + 1, hi => by
    obtain ⟨h1, h0, h2⟩ := aL_spec h hm i (by omega)
    refine ⟨h1.set _ _ (Nat.mod_lt _ (by decide)), ?_, ?_⟩
    · have q1 := h1.getD i
      have q2 := hm.getD i
      simp only [aL]
      simp only [M64] at *
      omega
    · have h3 := vn_set h1 (show i < 4 by omega) (((aL l m i).1.getD i 0 + m.getD i 0 + (aL l m i).2) % M64)
      have h4 := mul_mod_div (M64 ^ i) ((aL l m i).1.getD i 0 + m.getD i 0 + (aL l m i).2)
      rw [Nat.mul_add, Nat.mul_add] at h4
      simp only [aL, pv, Nat.pow_succ]
      omega
theorem aL4 (x y : Nat) : (aL (limbs x) (limbs y) 4).1 = limbs (x % M256 + y % M256) ∧ (aL (limbs x) (limbs y) 4).2 = (x % M256 + y % M256) / M256 := by
  obtain ⟨h1, _, h2⟩ := aL_spec (limbs_lm x) (limbs_lm y) 4 (Nat.le_refl _)
  rw [M64_pow4, vn_limbs, pv4 (limbs_lm y), vn_limbs] at h2
  exact lm_eq (v := 0) h1 h2
/-- a difference, part by part: l, less m, into r -/
def sL (r l m : List Nat) (b : Nat) : Nat → List Nat × Nat
  | 0 => (r, b)
  | i + 1 => ((sL r l m b i).1.set i ((l.getD i 0 + 18446744073709551616 - m.getD i 0 - (sL r l m b i).2) % 18446744073709551616), if l.getD i 0 < m.getD i 0 + (sL r l m b i).2 then 1 else 0)
theorem sub_step {a m b : Nat} (ha : a < M64) (hm : m < M64) (hb : b ≤ 1) : (a + 18446744073709551616 - m - b) % 18446744073709551616 + m + b = a + M64 * (if a < m + b then 1 else 0) := by
  simp only [M64] at *
  split <;> omega
/-- in place -/
def dL (l m : List Nat) (b : Nat) : Nat → List Nat × Nat
  | 0 => (l, b)
  | i + 1 => ((dL l m b i).1.set i (((dL l m b i).1.getD i 0 + 18446744073709551616 - m.getD i 0 - (dL l m b i).2) % 18446744073709551616), if (dL l m b i).1.getD i 0 < m.getD i 0 + (dL l m b i).2 then 1 else 0)
theorem dL_spec {l m : List Nat} (h : Lm l) (hm : Lm m) (b : Nat) (hb : b ≤ 1) : ∀ i, i ≤ 4 → Lm (dL l m b i).1 ∧ (dL l m b i).2 ≤ 1 ∧ vn (dL l m b i).1 + pv m i + b = vn l + M64 ^ i * (dL l m b i).2
  | 0, _ => ⟨h, hb, by simp [dL, pv]⟩
  | i + 1, hi => by
    obtain ⟨h1, h0, h2⟩ := dL_spec h hm b hb i (by omega)
    have h5 := sub_step (h1.getD i) (hm.getD i) h0
    refine ⟨h1.set _ _ (Nat.mod_lt _ (by decide)), by simp only [dL]; split <;> omega, ?_⟩
    have h3 := vn_set h1 (show i < 4 by omega) (((dL l m b i).1.getD i 0 + 18446744073709551616 - m.getD i 0 - (dL l m b i).2) % 18446744073709551616)
    have h6 := congrArg (M64 ^ i * ·) h5
    simp only [Nat.mul_add] at h6
    simp only [dL, pv, Nat.pow_succ]
    rw [Nat.mul_assoc]
    omega
theorem lm_sub {l : List Nat} (h : Lm l) {c x y : Nat} (hx : x < M256) (hy : y < M256) (hc : c ≤ 1) (e : vn l + y = x + M256 * c) : l = limbs (if y ≤ x then x - y else x + M256 - y) ∧ c = if x < y then 1 else 0 := by
  have h1 := h.vlt
  have hv : vn l = if y ≤ x then x - y else x + M256 - y := by
    split <;> (simp only [M256] at *; omega)
  refine ⟨by rw [← hv, limbs_vn h], ?_⟩
  split <;> (simp only [M256] at *; omega)
theorem mod256_lt (x : Nat) : x % M256 < M256 := Nat.mod_lt _ (by decide)
theorem dL4 (x y : Nat) : (dL (limbs x) (limbs y) 0 4).1 = limbs (if y % M256 ≤ x % M256 then x % M256 - y % M256 else x % M256 + M256 - y % M256) ∧ (dL (limbs x) (limbs y) 0 4).2 = if x % M256 < y % M256 then 1 else 0 := by
  obtain ⟨h1, h0, h2⟩ := dL_spec (limbs_lm x) (limbs_lm y) 0 (by decide) 4 (Nat.le_refl _)
  rw [M64_pow4, vn_limbs, pv4 (limbs_lm y), vn_limbs] at h2
  exact lm_sub h1 (mod256_lt x) (mod256_lt y) h0 h2
/-- a number, less 38 -/
theorem dL38 (x : Nat) : (dL (limbs x) [38, 0, 0, 0] 0 4).1 = limbs (if 38 ≤ x % M256 then x % M256 - 38 else x % M256 + M256 - 38) ∧ (dL (limbs x) [38, 0, 0, 0] 0 4).2 = if x % M256 < 38 then 1 else 0 := by
  have hm : Lm [38, 0, 0, 0] := Lm.mk4 (by decide) (by decide) (by decide) (by decide)
  obtain ⟨h1, h0, h2⟩ := dL_spec (limbs_lm x) hm 0 (by decide) 4 (Nat.le_refl _)
  rw [M64_pow4, vn_limbs, pv4 hm] at h2
  exact lm_sub h1 (mod256_lt x) (by decide) h0 h2
/-- into another one -/
theorem sL_dL (l m : List Nat) (b : Nat) {r : List Nat} (hr : r.length = 4) (hl : l.length = 4) : ∀ i, i ≤ 4 → (sL r l m b i).2 = (dL l m b i).2 ∧ (∀ j, j < i → (sL r l m b i).1[j]? = (dL l m b i).1[j]?) ∧ (∀ j, i ≤ j → (dL l m b i).1[j]? = l[j]?) ∧ (sL r l m b i).1.length = 4 ∧ (dL l m b i).1.length = 4
  | 0, _ => ⟨rfl, fun j hj => absurd hj (Nat.not_lt_zero _), fun _ _ => rfl, hr, hl⟩
  | i + 1, hi => by
    obtain ⟨h1, h2, h3, h4, h5⟩ := sL_dL l m b hr hl i (by omega)
    have e : (dL l m b i).1.getD i 0 = l.getD i 0 := by rw [List.getD_eq_getElem?_getD, List.getD_eq_getElem?_getD, h3 i (Nat.le_refl _)]
    refine ⟨by simp only [sL, dL, h1, e], fun j hj => ?_, fun j hj => ?_, by simp [sL, h4], by simp [dL, h5]⟩
    · simp only [sL, dL, h1, e, List.getElem?_set, h4, h5]
      by_cases hji : i = j
      · subst hji; simp [show i < 4 by omega]
      · simp only [hji, if_false]; exact h2 j (by omega)
    · simp only [dL, List.getElem?_set]
      rw [if_neg (by omega)]; exact h3 j (by omega)
theorem sL4 (x y : Nat) {r : List Nat} (hr : r.length = 4) : (sL r (limbs x) (limbs y) 0 4).1 = limbs (if y % M256 ≤ x % M256 then x % M256 - y % M256 else x % M256 + M256 - y % M256) ∧ (sL r (limbs x) (limbs y) 0 4).2 = if x % M256 < y % M256 then 1 else 0 := by
  obtain ⟨h1, h2, _, h4, h5⟩ := sL_dL (limbs x) (limbs y) 0 hr rfl 4 (Nat.le_refl _)
  obtain ⟨h6, h7⟩ := dL4 x y
  refine ⟨?_, by rw [h1, h7]⟩
  rw [← h6]
  apply List.ext_getElem?
  intro j
  by_cases hj : j < 4
  · exact h2 j hj
  · rw [List.getElem?_eq_none (by omega), List.getElem?_eq_none (by omega)]
end Go.Proofs.Ytgneclfnfnpmkaa.Fp
