/-
  The reference's comparison with p, and the difference: plain Lean; own work.
-/
import Derived.Test.YtgneclfnfnpmkaaRfM
set_option linter.unusedVariables false
namespace Go.Proofs.Ytgneclfnfnpmkaa.Fp
def prd (i : Nat) : Nat := if i = 0 then 237 else if i = 31 then 127 else 255
def pl : List Nat := (List.range 32).map prd
theorem pl_vd : vd pl = P := by decide
theorem pl_len : pl.length = 32 := rfl
theorem pl_get {i : Nat} (h : i < 32) : pl.getD i 0 = prd i := by simp [pl, List.getD_eq_getElem?_getD, h]
theorem prd_le (i : Nat) : prd i ≤ 255 := by unfold prd; split <;> (try split) <;> decide
theorem vd_split {l : List Nat} {i : Nat} (h : i < l.length) : vd l = vd (l.take i) + 256 ^ i * (l.getD i 0 + 256 * vd (l.drop (i + 1))) := by
  conv => lhs; rw [← List.take_append_drop i l, vd_app, List.length_take, Nat.min_eq_left (by omega)]
  rw [List.drop_eq_getElem_cons h]
  simp only [vd]
  rw [List.getD_eq_getElem?_getD, List.getElem?_eq_getElem h]; rfl
theorem vd_cmp {l m : List Nat} (hl : ∀ x ∈ l, x < 256) {i : Nat} (h1 : i < l.length) (h2 : i < m.length) (hd : l.drop (i + 1) = m.drop (i + 1)) (hlt : l.getD i 0 < m.getD i 0) : vd l < vd m := by
  rw [vd_split h1, vd_split h2, hd]
  have h3 := vd_lt256 (l.take i) (fun x hx => hl x (List.mem_of_mem_take hx))
  rw [List.length_take, Nat.min_eq_left (by omega)] at h3
  have h4 : 256 ^ i * (l.getD i 0 + 256 * vd (m.drop (i + 1)) + 1) ≤ 256 ^ i * (m.getD i 0 + 256 * vd (m.drop (i + 1))) := Nat.mul_le_mul_left _ (by omega)
  rw [Nat.mul_add, Nat.mul_one] at h4
  omega
theorem drop_eq {l m : List Nat} (hl : l.length = 32) (hm : m.length = 32) {j : Nat} (h : ∀ k, j ≤ k → k < 32 → l.getD k 0 = m.getD k 0) : l.drop j = m.drop j := by
  apply List.ext_getElem?
  intro k
  rw [List.getElem?_drop, List.getElem?_drop]
  by_cases hk : j + k < 32
  · have := h (j + k) (by omega) hk
    rw [List.getD_eq_getElem?_getD, List.getD_eq_getElem?_getD, List.getElem?_eq_getElem (by omega), List.getElem?_eq_getElem (by omega)] at this
    rw [List.getElem?_eq_getElem (by omega), List.getElem?_eq_getElem (by omega)]
    simpa using this
  · rw [List.getElem?_eq_none (by omega), List.getElem?_eq_none (by omega)]
def tn (a : List B8) : List Nat := a.map (·.toNat)
theorem tn_get (a : List B8) (i : Nat) : (tn a).getD i 0 = (a.getD i 0).toNat := by
  simp only [tn, List.getD_eq_getElem?_getD, List.getElem?_map]
  cases a[i]? <;> rfl
theorem tn_lt (a : List B8) : ∀ x ∈ tn a, x < 256 := by
  intro x hx
  simp only [tn, List.mem_map] at hx
  obtain ⟨y, _, rfl⟩ := hx
  exact y.isLt
theorem pl_lt : ∀ x ∈ pl, x < 256 := by decide
theorem cmp_ne {a : List B8} (ha : a.length = 32) {i : Nat} (hi : i < 32) (h : ∀ k, i + 1 ≤ k → k < 32 → (a.getD k 0).toNat = prd k) (hne : (a.getD i 0).toNat ≠ prd i) : decide (P ≤ leN a) = decide (prd i < (a.getD i 0).toNat) := by
  have hl : (tn a).length = 32 := by simp [tn, ha]
  have hd : (tn a).drop (i + 1) = pl.drop (i + 1) := drop_eq hl pl_len (fun k h1 h2 => by rw [tn_get, pl_get h2]; exact h k h1 h2)
  have e : leN a = vd (tn a) := rfl
  by_cases hlt : prd i < (a.getD i 0).toNat
  · have := vd_cmp pl_lt (by rw [pl_len]; exact hi) (by rw [hl]; exact hi) hd.symm (by rw [pl_get hi, tn_get]; exact hlt)
    rw [pl_vd] at this
    rw [decide_eq_true (by rw [e]; omega), decide_eq_true hlt]
  · have := vd_cmp (tn_lt a) (by rw [hl]; exact hi) (by rw [pl_len]; exact hi) hd (by rw [pl_get hi, tn_get]; omega)
    rw [pl_vd] at this
    rw [decide_eq_false (by rw [e]; omega), decide_eq_false hlt]
theorem cmp_eq {a : List B8} (ha : a.length = 32) (h : ∀ k, k < 32 → (a.getD k 0).toNat = prd k) : leN a = P := by
  have hl : (tn a).length = 32 := by simp [tn, ha]
  have hd : (tn a).drop 0 = pl.drop 0 := drop_eq hl pl_len (fun k _ h2 => by rw [tn_get, pl_get h2]; exact h k h2)
  simp only [List.drop_zero] at hd
  show vd (tn a) = P
  rw [hd, pl_vd]
/-- a number, less p -/
def ls (a : List B8) : Nat → List B8 × Nat
  | 0 => (a, 0)
  | i + 1 => ((ls a i).1.set i (BitVec.ofNat 8 (((ls a i).1.getD i 0).toNat + 256 - prd i - (ls a i).2)), if ((ls a i).1.getD i 0).toNat < prd i + (ls a i).2 then 1 else 0)
theorem leN_set (l : List B8) (k : Nat) (x : B8) (h : k < l.length) : leN (l.set k x) + 256 ^ k * (l.getD k 0).toNat = leN l + 256 ^ k * x.toNat := by
  have := vd_set (tn l) k x.toNat (by simpa [tn] using h)
  rw [tn_get] at this
  have e : tn (l.set k x) = (tn l).set k x.toNat := by simp [tn, List.map_set]
  rw [← e] at this
  exact this
theorem ls_zero (a : List B8) : ls a 0 = (a, 0) := rfl
theorem ls_succ (a : List B8) (i : Nat) : ls a (i + 1) = ((ls a i).1.set i (BitVec.ofNat 8 (((ls a i).1.getD i 0).toNat + 256 - prd i - (ls a i).2)), if ((ls a i).1.getD i 0).toNat < prd i + (ls a i).2 then 1 else 0) := rfl
attribute [local irreducible] ls pl prd P
theorem ls_spec {a : List B8} (ha : a.length = 32) (i : Nat) (hi : i ≤ 32) : (ls a i).1.length = 32 ∧ (ls a i).2 ≤ 1 ∧ leN (ls a i).1 + vd (pl.take i) = leN a + 256 ^ i * (ls a i).2 := by
  induction i with
  | zero => rw [ls_zero]; exact ⟨ha, Nat.zero_le _, by simp [vd]⟩
  | succ i ih =>
    obtain ⟨h1, h2, h3⟩ := ih (by omega)
    rw [ls_succ]
    refine ⟨by simp [h1], by split <;> omega, ?_⟩
    have h4 := leN_set (ls a i).1 i (BitVec.ofNat 8 (((ls a i).1.getD i 0).toNat + 256 - prd i - (ls a i).2)) (by omega)
    have hp := prd_le i
    have hx := ((ls a i).1.getD i 0).isLt
    have h5 : (BitVec.ofNat 8 (((ls a i).1.getD i 0).toNat + 256 - prd i - (ls a i).2)).toNat + prd i + (ls a i).2 = ((ls a i).1.getD i 0).toNat + 256 * (if ((ls a i).1.getD i 0).toNat < prd i + (ls a i).2 then 1 else 0) := by
      rw [BitVec.toNat_ofNat]
      split <;> omega
    have h6 := congrArg (256 ^ i * ·) h5
    simp only [Nat.mul_add, ← Nat.mul_assoc] at h6
    rw [vd_take_succ (by rw [pl_len]; omega), pl_get (by omega), Nat.pow_succ]
    show leN ((ls a i).1.set i _) + _ = _
    generalize hite : (if ((ls a i).1.getD i 0).toNat < prd i + (ls a i).2 then 1 else 0) = z at *
    generalize (ls a i).1.set i (BitVec.ofNat 8 (((ls a i).1.getD i 0).toNat + 256 - prd i - (ls a i).2)) = L' at *
    generalize (BitVec.ofNat 8 (((ls a i).1.getD i 0).toNat + 256 - prd i - (ls a i).2)).toNat = q at *
    dsimp only
    omega
theorem ls_end {a : List B8} (ha : a.length = 32) (hP : P ≤ leN a) : (ls a 32).1 = kb (leN a - P) := by
  obtain ⟨h1, h2, h3⟩ := ls_spec ha 32 (Nat.le_refl _)
  rw [List.take_of_length_le (by rw [pl_len]; exact Nat.le_refl _), pl_vd, pow32] at h3
  have h4 := leN_lt32 h1
  have h5 := leN_lt32 ha
  have h6 : (ls a 32).2 = 0 := by
    apply Classical.byContradiction
    intro h
    have : (ls a 32).2 = 1 := by omega
    rw [this] at h3
    have := P_lt
    omega
  rw [h6] at h3
  rw [← kb_leN h1]
  congr 1
  omega
end Go.Proofs.Ytgneclfnfnpmkaa.Fp
