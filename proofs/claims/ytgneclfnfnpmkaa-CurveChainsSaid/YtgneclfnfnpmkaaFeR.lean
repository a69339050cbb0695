/-
  Products, part by part: plain Lean; own work.
-/
import Derived.Test.YtgneclfnfnpmkaaFeP
set_option linter.unusedVariables false
namespace Go.Proofs.Ytgneclfnfnpmkaa.Fp
def vw : List Nat → Nat
  | [] => 0
  | x :: r => x + M64 * vw r
theorem vw_set : ∀ (l : List Nat) (k x : Nat), k < l.length → vw (l.set k x) + M64 ^ k * l.getD k 0 = vw l + M64 ^ k * x
  | [], k, x, h => by simp at h
  | y :: r, 0, x, _ => by simp [vw]; omega
  | y :: r, k + 1, x, h => by
    have := vw_set r k x (by simpa using h)
    have e := congrArg (M64 * ·) this
    simp only [Nat.mul_add, ← Nat.mul_assoc] at e
    simp only [List.set_cons_succ, vw, Nat.pow_succ, Nat.mul_comm (M64 ^ k) M64]
    have e2 : (y :: r).getD (k + 1) 0 = r.getD k 0 := rfl
    rw [e2]
    omega
def AL (l : List Nat) : Prop := ∀ x ∈ l, x < M64
theorem AL.set {l : List Nat} (h : AL l) (k x : Nat) (hx : x < M64) : AL (l.set k x) := fun y hy => by
  rcases List.mem_or_eq_of_mem_set hy with e | e
  · exact h y e
  · rw [e]; exact hx
theorem AL.getD {l : List Nat} (h : AL l) (k : Nat) : l.getD k 0 < M64 := by
  rw [List.getD_eq_getElem?_getD]
  cases e : l[k]? with
  | none => simp [M64]
  | some y => exact h y (List.mem_of_getElem? e)
theorem vw_four {l : List Nat} (h : l.length = 4) : vw l = vn l := by
  match l, h with
  | [a, b, c, d], _ => simp [vw, vn, M64]; omega
theorem vw_app : ∀ (l m : List Nat), vw (l ++ m) = vw l + M64 ^ l.length * vw m
  | [], m => by simp [vw]
  | x :: r, m => by
    simp only [List.cons_append, vw, vw_app r m, List.length_cons, Nat.pow_succ, Nat.mul_add, Nat.mul_comm (M64 ^ r.length) M64, Nat.mul_assoc]; omega
/-- a number times a digit, added to parts -/
def rL (L l : List Nat) (off d : Nat) : Nat → List Nat × Nat
  | 0 => (L, 0)
  | i + 1 => ((rL L l off d i).1.set (off + i) ((l.getD i 0 * d + (rL L l off d i).1.getD (off + i) 0 + (rL L l off d i).2) % M64), (l.getD i 0 * d + (rL L l off d i).1.getD (off + i) 0 + (rL L l off d i).2) / M64)
theorem tot_lt {x d y c : Nat} (hx : x < M64) (hd : d < M64) (hy : y < M64) (hc : c < M64) : x * d + y + c < M64 * M64 := by
  have h1 : x * d ≤ (M64 - 1) * (M64 - 1) := Nat.mul_le_mul (by omega) (by omega)
  have h2 : (M64 - 1) * (M64 - 1) = 340282366920938463426481119284349108225 := by decide
  rw [h2] at h1
  simp only [M64] at *
  omega
theorem rL_spec {L l : List Nat} (hL : AL L) (hl : AL l) {off d : Nat} (hd : d < M64) (hlen : off + 4 ≤ L.length) : ∀ i, i ≤ 4 → (rL L l off d i).1.length = L.length ∧ AL (rL L l off d i).1 ∧ (rL L l off d i).2 < M64 ∧
    vw (rL L l off d i).1 + M64 ^ (off + i) * (rL L l off d i).2 = vw L + M64 ^ off * (d * pv l i) ∧ ∀ j, j < off ∨ off + i ≤ j → (rL L l off d i).1.getD j 0 = L.getD j 0
  | 0, _ => ⟨rfl, hL, by simp [rL, M64], by simp [rL, pv], fun j _ => rfl⟩
  | i + 1, hi => by
    obtain ⟨h1, h2, h3, h4, h5⟩ := rL_spec hL hl hd hlen i (by omega)
    have ht := tot_lt (hl.getD i) hd (h2.getD (off + i)) h3
    refine ⟨by simp [rL, h1], h2.set _ _ (Nat.mod_lt _ (by decide)), Nat.div_lt_of_lt_mul ht, ?_, fun j hj => ?_⟩
    · have h6 := vw_set (rL L l off d i).1 (off + i) ((l.getD i 0 * d + (rL L l off d i).1.getD (off + i) 0 + (rL L l off d i).2) % M64) (by omega)
      have h7 := mul_mod_div (M64 ^ (off + i)) (l.getD i 0 * d + (rL L l off d i).1.getD (off + i) 0 + (rL L l off d i).2)
      rw [Nat.mul_add, Nat.mul_add] at h7
      have e1 : M64 ^ off * (d * pv l (i + 1)) = M64 ^ off * (d * pv l i) + M64 ^ (off + i) * (l.getD i 0 * d) := by
        simp only [pv]
        rw [Nat.mul_add, Nat.mul_add, Nat.pow_add]
        congr 1
        simp only [Nat.mul_assoc, Nat.mul_left_comm, Nat.mul_comm]
      rw [e1]
      simp only [rL]
      rw [show off + (i + 1) = off + i + 1 by omega, Nat.pow_succ]
      omega
    · simp only [rL]
      rw [List.getD_eq_getElem?_getD, List.getElem?_set, if_neg (by omega), ← List.getD_eq_getElem?_getD]
      exact h5 j (by omega)
/-- what the four rounds of a product leave -/
def mW (x y : Nat) : Nat → List Nat
  | 0 => List.replicate 8 0
  | i + 1 => (rL (mW x y i) (limbs x) i ((limbs y).getD i 0) 4).1.set (i + 4) (rL (mW x y i) (limbs x) i ((limbs y).getD i 0) 4).2
theorem lmAL {l : List Nat} (h : Lm l) : AL l := h.lt
theorem mW_spec (x y : Nat) : ∀ i, i ≤ 4 → (mW x y i).length = 8 ∧ AL (mW x y i) ∧ vw (mW x y i) = (x % M256) * pv (limbs y) i ∧ ∀ j, i + 4 ≤ j → (mW x y i).getD j 0 = 0
  | 0, _ => ⟨rfl, by intro z hz; rw [List.eq_of_mem_replicate hz]; decide, by show vw (List.replicate 8 0) = _ * 0; rw [Nat.mul_zero]; decide, fun j _ => by
    show (List.replicate 8 0).getD j 0 = 0
    rw [List.getD_eq_getElem?_getD, List.getElem?_replicate]; by_cases h : j < 8 <;> simp [h]⟩
  | i + 1, hi => by
    obtain ⟨h1, h2, h3, h4⟩ := mW_spec x y i (by omega)
    obtain ⟨k1, k2, k3, k4, k5⟩ := rL_spec h2 (lmAL (limbs_lm x)) (lmAL (limbs_lm y) |>.getD i) (off := i) (by omega) 4 (Nat.le_refl _)
    refine ⟨by simp only [mW, List.length_set]; rw [k1, h1], k2.set _ _ k3, ?_, fun j hj => ?_⟩
    · have h6 := vw_set (rL (mW x y i) (limbs x) i ((limbs y).getD i 0) 4).1 (i + 4) (rL (mW x y i) (limbs x) i ((limbs y).getD i 0) 4).2 (by omega)
      rw [k5 (i + 4) (by omega), h4 (i + 4) (by omega)] at h6
      rw [pv4 (limbs_lm x), vn_limbs, h3] at k4
      simp only [mW, pv, Nat.mul_add]
      have e : x % M256 * (M64 ^ i * (limbs y).getD i 0) = M64 ^ i * ((limbs y).getD i 0 * (x % M256)) := by simp only [Nat.mul_left_comm, Nat.mul_comm]
      rw [e]
      omega
    · simp only [mW]
      rw [List.getD_eq_getElem?_getD, List.getElem?_set, if_neg (by omega), ← List.getD_eq_getElem?_getD, k5 j (by omega)]
      exact h4 j (by omega)
theorem mW_end (x y : Nat) : (mW x y 4).length = 8 ∧ (mW x y 4).take 4 = limbs ((x % M256) * (y % M256)) ∧ (mW x y 4).drop 4 = limbs ((x % M256) * (y % M256) / M256) := by
  obtain ⟨h1, h2, h3, _⟩ := mW_spec x y 4 (Nat.le_refl _)
  rw [pv4 (limbs_lm y), vn_limbs] at h3
  have l1 : ((mW x y 4).take 4).length = 4 := by simp [h1]
  have l2 : ((mW x y 4).drop 4).length = 4 := by simp [h1]
  have m1 : Lm ((mW x y 4).take 4) := ⟨l1, fun z hz => h2 z (List.mem_of_mem_take hz)⟩
  have m2 : Lm ((mW x y 4).drop 4) := ⟨l2, fun z hz => h2 z (List.mem_of_mem_drop hz)⟩
  have e := vw_app ((mW x y 4).take 4) ((mW x y 4).drop 4)
  rw [List.take_append_drop, l1, M64_pow4, vw_four l1, vw_four l2, h3] at e
  obtain ⟨e1, e2⟩ := lm_eq (v := 0) m1 e.symm
  refine ⟨h1, e1, ?_⟩
  rw [← e2, limbs_vn m2]
theorem row38 (p : Nat) : (rL (limbs p) (limbs (p / M256)) 0 38 4).1 = limbs (p % M256 + 38 * (p / M256 % M256)) ∧ (rL (limbs p) (limbs (p / M256)) 0 38 4).2 = (p % M256 + 38 * (p / M256 % M256)) / M256 := by
  obtain ⟨k1, k2, k3, k4, _⟩ := rL_spec (lmAL (limbs_lm p)) (lmAL (limbs_lm (p / M256))) (off := 0) (d := 38) (by decide) (by simp) 4 (Nat.le_refl _)
  rw [show 0 + 4 = 4 from rfl, M64_pow4, pv4 (limbs_lm _), vn_limbs, vw_four k1, vw_four rfl, vn_limbs] at k4
  simp only [Nat.pow_zero, Nat.one_mul] at k4
  exact lm_eq (v := 0) ⟨k1, k2⟩ k4
theorem fold1_mul (x y : Nat) : (x % M256) * (y % M256) % M256 + 38 * ((x % M256) * (y % M256) / M256 % M256) = fold1 ((x % M256) * (y % M256)) := by
  unfold fold1
  have h : (x % M256) * (y % M256) / M256 < M256 := by
    refine Nat.div_lt_of_lt_mul ?_
    have h1 := Nat.mod_lt x (show 0 < M256 by decide)
    have h2 := Nat.mod_lt y (show 0 < M256 by decide)
    exact Nat.mul_lt_mul'' h1 h2
  rw [Nat.mod_eq_of_lt h]
theorem fold1_mul_lt (x y : Nat) : fold1 ((x % M256) * (y % M256)) < M256 * 288230376151711744 := by
  rw [← fold1_mul]
  have h1 := Nat.mod_lt ((x % M256) * (y % M256)) (show 0 < M256 by decide)
  have h2 := Nat.mod_lt ((x % M256) * (y % M256) / M256) (show 0 < M256 by decide)
  simp only [M256] at *
  omega
end Go.Proofs.Ytgneclfnfnpmkaa.Fp
