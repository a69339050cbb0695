/-
  The reference's digits, carried: plain Lean; own work.
  The reference's comparison with p, and the difference: plain Lean; own work.
  The reference's sums, differences and products of digits: plain Lean; own work.
-/
import Derived.Test.YtgclegdgngldoaaDoorFeR
set_option linter.unusedVariables false
namespace Go.Proofs.YtgclegdgngldoaaDoor.Fp
theorem vd_app : ∀ (l m : List Nat), vd (l ++ m) = vd l + 256 ^ l.length * vd m
  | [], m => by simp [vd]
  | x :: r, m => by
    simp only [List.cons_append, vd, vd_app r m, List.length_cons, Nat.pow_succ, Nat.mul_add, Nat.mul_comm (256 ^ r.length) 256, Nat.mul_assoc]; omega
theorem vd_set : ∀ (l : List Nat) (k x : Nat), k < l.length → vd (l.set k x) + 256 ^ k * l.getD k 0 = vd l + 256 ^ k * x
  | [], k, x, h => by simp at h
  | y :: r, 0, x, _ => by simp [vd]; omega
  | y :: r, k + 1, x, h => by
    have := vd_set r k x (by simpa using h)
    have e := congrArg (256 * ·) this
    simp only [Nat.mul_add, ← Nat.mul_assoc] at e
    simp only [List.set_cons_succ, vd, Nat.pow_succ, Nat.mul_comm (256 ^ k) 256]
    have e2 : (y :: r).getD (k + 1) 0 = r.getD k 0 := rfl
    rw [e2]
    omega
theorem getD_take_succ {l : List Nat} {i : Nat} (h : i < l.length) : l.take (i + 1) = l.take i ++ [l.getD i 0] := by
  rw [List.take_succ_eq_append_getElem h, List.getD_eq_getElem?_getD, List.getElem?_eq_getElem h]; rfl
theorem vd_take_succ {l : List Nat} {i : Nat} (h : i < l.length) : vd (l.take (i + 1)) = vd (l.take i) + 256 ^ i * l.getD i 0 := by
  rw [getD_take_succ h, vd_app, List.length_take, Nat.min_eq_left (by omega)]
  simp [vd]
/-! digits below 256, and what is over -/
def spC (l : List Nat) : Nat → Nat
  | 0 => 0
  | i + 1 => (l.getD i 0 + spC l i) / 256
def spL (l : List Nat) (i : Nat) : List Nat := (List.range i).map fun j => (l.getD j 0 + spC l j) % 256
def spr (l : List Nat) : List Nat := spL l l.length ++ [spC l l.length]
theorem spL_len (l : List Nat) (i : Nat) : (spL l i).length = i := by simp [spL]
theorem spL_zero (l : List Nat) : spL l 0 = [] := rfl
theorem spL_succ (l : List Nat) (i : Nat) : spL l (i + 1) = spL l i ++ [(l.getD i 0 + spC l i) % 256] := by simp [spL, List.range_succ]
theorem spL_lt (l : List Nat) (i : Nat) : ∀ x ∈ spL l i, x < 256 := by
  intro x hx
  simp only [spL, List.mem_map] at hx
  obtain ⟨j, _, rfl⟩ := hx
  exact Nat.mod_lt _ (by decide)
theorem spL_vd (l : List Nat) : ∀ i, i ≤ l.length → vd (spL l i) + 256 ^ i * spC l i = vd (l.take i)
  | 0, _ => by simp [spL, spC, vd]
  | i + 1, h => by
    have ih := spL_vd l i (by omega)
    rw [spL_succ, vd_app, spL_len, vd_take_succ (by omega), ← ih]
    simp only [vd, Nat.mul_zero, Nat.add_zero, spC, Nat.pow_succ]
    have := Nat.mod_add_div (l.getD i 0 + spC l i) 256
    have e := congrArg (256 ^ i * ·) this
    simp only [Nat.mul_add, ← Nat.mul_assoc] at e
    omega
theorem getD_le {l : List Nat} {C : Nat} (h : ∀ x ∈ l, x ≤ C) (i : Nat) : l.getD i 0 ≤ C := by
  rw [List.getD_eq_getElem?_getD]
  cases e : l[i]? with
  | none => simp
  | some y => exact h y (List.mem_of_getElem? e)
theorem spC_le {l : List Nat} {C : Nat} (h : ∀ x ∈ l, x ≤ C) : ∀ i, spC l i ≤ C / 128
  | 0 => Nat.zero_le _
  | i + 1 => by
    have h1 := getD_le h i
    have h2 := spC_le h i
    simp only [spC]
    omega
theorem spr_len (l : List Nat) : (spr l).length = l.length + 1 := by simp [spr, spL_len]
theorem spr_le {l : List Nat} {C : Nat} (h : ∀ x ∈ l, x ≤ C) (hC : 32768 ≤ C) : ∀ x ∈ spr l, x ≤ C / 128 := by
  intro x hx
  rcases List.mem_append.1 hx with e | e
  · have := spL_lt _ _ x e; omega
  · rw [List.mem_singleton] at e; subst e; exact spC_le h _
/-! what stands above the 32nd digit comes back 38 times -/
def fL (d : List Nat) : Nat → List Nat
  | 0 => List.replicate 32 0
  | i + 1 => if i < 32 then (fL d i).set i ((fL d i).getD i 0 + d.getD i 0) else (fL d i).set (i - 32) ((fL d i).getD (i - 32) 0 + 38 * d.getD i 0)
theorem fL_len (d : List Nat) : ∀ i, (fL d i).length = 32
  | 0 => by simp [fL]
  | i + 1 => by simp only [fL]; split <;> simp [fL_len d i]
theorem vd_zeros : ∀ n, vd (List.replicate n 0) = 0
  | 0 => rfl
  | n + 1 => by simp [List.replicate_succ, vd, vd_zeros n]
theorem fL_low (d : List Nat) : ∀ i, i ≤ 32 → i ≤ d.length → vd (fL d i) = vd (d.take i)
  | 0, _, _ => by simp [fL]; rfl
  | i + 1, h, hd => by
    have ih := fL_low d i (by omega) (by omega)
    simp only [fL, show i < 32 by omega, if_true]
    have h1 := vd_set (fL d i) i ((fL d i).getD i 0 + d.getD i 0) (by rw [fL_len]; omega)
    rw [Nat.mul_add] at h1
    rw [vd_take_succ (by omega), ← ih]
    omega
theorem fL_mod (d : List Nat) : ∀ i, i ≤ 64 → i ≤ d.length → vd (fL d i) % P = vd (d.take i) % P
  | 0, _, _ => by rw [fL_low d 0 (by omega) (by omega)]
  | i + 1, h, hd => by
    by_cases hi : i < 32
    · rw [fL_low d (i + 1) (by omega) hd]
    · have ih := fL_mod d i (by omega) (by omega)
      simp only [fL, hi, if_false]
      have h1 := vd_set (fL d i) (i - 32) ((fL d i).getD (i - 32) 0 + 38 * d.getD i 0) (by rw [fL_len]; omega)
      rw [Nat.mul_add] at h1
      have h2 : vd ((fL d i).set (i - 32) ((fL d i).getD (i - 32) 0 + 38 * d.getD i 0)) = vd (fL d i) + 38 * (256 ^ (i - 32) * d.getD i 0) := by
        have e : 256 ^ (i - 32) * (38 * d.getD i 0) = 38 * (256 ^ (i - 32) * d.getD i 0) := by simp only [Nat.mul_left_comm]
        omega
      rw [h2, fold_mod, vd_take_succ (by omega)]
      have e2 : 256 ^ i * d.getD i 0 = M256 * (256 ^ (i - 32) * d.getD i 0) := by
        rw [← Nat.mul_assoc, ← pow32, ← Nat.pow_add]
        congr 2; omega
      rw [e2, Nat.add_mod, ih, ← Nat.add_mod]
theorem fL_le {d : List Nat} {C : Nat} (h : ∀ x ∈ d, x ≤ C) : ∀ i, ∀ x ∈ fL d i, x ≤ i * (38 * C)
  | 0, x, hx => by rw [List.eq_of_mem_replicate hx]; omega
  | i + 1, x, hx => by
    have ih := fL_le h i
    have hd := getD_le h i
    have e : (i + 1) * (38 * C) = i * (38 * C) + 38 * C := by rw [Nat.add_mul, Nat.one_mul]
    simp only [fL] at hx
    split at hx
    · rcases List.mem_or_eq_of_mem_set hx with e1 | e1
      · have := ih x e1; omega
      · have := getD_le ih i; omega
    · rcases List.mem_or_eq_of_mem_set hx with e1 | e1
      · have := ih x e1; omega
      · have := getD_le ih (i - 32); omega
/-- one round -/
def rd (d : List Nat) : List Nat := spr (fL d d.length)
def rdn (l : List Nat) : Nat → List Nat
  | 0 => l
  | n + 1 => rd (rdn l n)
def carL (l : List Nat) : List B8 := ((rdn l 4).take 32).map (BitVec.ofNat 8)
theorem rd_len (d : List Nat) : (rd d).length = 33 := by unfold rd; rw [spr_len, fL_len]
theorem rd_le {d : List Nat} {C : Nat} (h : ∀ x ∈ d, x ≤ C) (hl : d.length ≤ 64) (hC : 32768 ≤ C) : ∀ x ∈ rd d, x ≤ 32 * C := by
  intro x hx
  have h1 := fL_le h d.length
  have h2 : ∀ x ∈ fL d d.length, x ≤ 64 * (38 * C) := fun x hx => Nat.le_trans (h1 x hx) (Nat.mul_le_mul_right _ hl)
  have := spr_le h2 (by omega) x hx
  omega
theorem rdn_le {l : List Nat} (h : ∀ x ∈ l, x ≤ 2147483648) (hl : l.length ≤ 64) : ∀ n, (rdn l n).length ≤ 64 ∧ ∀ x ∈ rdn l n, x ≤ 32 ^ n * 2147483648
  | 0 => ⟨hl, by simpa [rdn] using h⟩
  | n + 1 => by
    obtain ⟨h1, h2⟩ := rdn_le h hl n
    refine ⟨by simp only [rdn]; rw [rd_len]; decide, fun x hx => ?_⟩
    have h3 : 1 ≤ 32 ^ n := Nat.one_le_pow _ _ (by decide)
    have := rd_le h2 h1 (by omega) x hx
    rw [Nat.pow_succ]; omega
theorem vd_lt256 : ∀ l : List Nat, (∀ x ∈ l, x < 256) → vd l < 256 ^ l.length
  | [], _ => by simp [vd]
  | x :: r, h => by
    have := vd_lt256 r (fun y hy => h y (List.mem_cons_of_mem _ hy))
    have hx := h x (by simp)
    rw [List.length_cons, Nat.pow_succ]
    simp only [vd]; omega
theorem leN_map : ∀ l : List Nat, (∀ x ∈ l, x < 256) → leN (l.map (BitVec.ofNat 8)) = vd l
  | [], _ => rfl
  | x :: r, h => by
    have := leN_map r (fun y hy => h y (List.mem_cons_of_mem _ hy))
    have hx := h x (by simp)
    rw [List.map_cons, leN_cons, this, BitVec.toNat_ofNat, Nat.mod_eq_of_lt hx]; rfl
/-- a round's outcome: what it is worth, in digits -/
theorem rd_parts (d : List Nat) : (rd d).take 32 = spL (fL d d.length) 32 ∧ (rd d).getD 32 0 = spC (fL d d.length) 32 ∧ vd (spL (fL d d.length) 32) + M256 * spC (fL d d.length) 32 = vd (fL d d.length) := by
  have h := fL_len d d.length
  have e : rd d = spL (fL d d.length) 32 ++ [spC (fL d d.length) 32] := by unfold rd spr; rw [h]
  refine ⟨by rw [e, List.take_left' (spL_len _ _)], ?_, ?_⟩
  · rw [e, List.getD_eq_getElem?_getD, List.getElem?_append_right (by rw [spL_len]; exact Nat.le_refl _), spL_len]; rfl
  · have := spL_vd (fL d d.length) 32 (by rw [h]; exact Nat.le_refl _)
    rwa [pow32, List.take_of_length_le (by rw [h]; exact Nat.le_refl _)] at this
theorem rd_next (d : List Nat) : vd (fL (rd d) (rd d).length) = fold1 (vd (fL d d.length)) := by
  obtain ⟨h1, h2, h3⟩ := rd_parts d
  have hl := rd_len d
  rw [hl]
  have e : fL (rd d) 33 = (fL (rd d) 32).set 0 ((fL (rd d) 32).getD 0 0 + 38 * (rd d).getD 32 0) := rfl
  have h4 := vd_set (fL (rd d) 32) 0 ((fL (rd d) 32).getD 0 0 + 38 * (rd d).getD 32 0) (by rw [fL_len]; decide)
  rw [← e, fL_low (rd d) 32 (Nat.le_refl _) (by omega), h1, h2, Nat.pow_zero, Nat.one_mul, Nat.one_mul] at h4
  have hlt := vd_lt256 _ (spL_lt (fL d d.length) 32)
  rw [spL_len, pow32] at hlt
  unfold fold1
  have h5 : vd (fL d d.length) % M256 = vd (spL (fL d d.length) 32) := by rw [← h3, Nat.add_mul_mod_self_left, Nat.mod_eq_of_lt hlt]
  have h6 : vd (fL d d.length) / M256 = spC (fL d d.length) 32 := by rw [← h3, Nat.add_mul_div_left _ _ (by decide), Nat.div_eq_of_lt hlt]; omega
  rw [h5, h6]
  omega
theorem vd_le {C : Nat} : ∀ l : List Nat, (∀ x ∈ l, x ≤ C) → 255 * vd l + C ≤ C * 256 ^ l.length
  | [], _ => by simp [vd]
  | x :: r, h => by
    have := vd_le r (fun y hy => h y (List.mem_cons_of_mem _ hy))
    have hx := h x (by simp)
    rw [List.length_cons, Nat.pow_succ, ← Nat.mul_assoc]
    simp only [vd]; omega
theorem carL_spec (l : List Nat) (h : ∀ x ∈ l, x ≤ 2147483648) (hl : l.length ≤ 64) (h32 : 32 ≤ l.length) : (carL l).length = 32 ∧ leN (carL l) % P = vd l % P := by
  have hv : vd (fL l l.length) < M256 * 288230376151711744 := by
    have h1 := fL_le h l.length
    have h2 : ∀ x ∈ fL l l.length, x ≤ 64 * (38 * 2147483648) := fun x hx => Nat.le_trans (h1 x hx) (Nat.mul_le_mul_right _ hl)
    have h3 := vd_le _ h2
    rw [fL_len, pow32] at h3
    simp only [M256] at *
    omega
  have e2 : vd (fL (rdn l 3) (rdn l 3).length) = red (vd (fL l l.length)) := by
    have a := rd_next l
    have b := rd_next (rd l)
    have c := rd_next (rd (rd l))
    rw [a] at b
    rw [b] at c
    show vd (fL (rd (rd (rd l))) (rd (rd (rd l))).length) = _
    rw [c]
    exact fold1_lt (red_lt hv)
  obtain ⟨h1, h2, h3⟩ := rd_parts (rdn l 3)
  have hlt := vd_lt256 _ (spL_lt (fL (rdn l 3) (rdn l 3).length) 32)
  rw [spL_len, pow32] at hlt
  have e3 : carL l = (spL (fL (rdn l 3) (rdn l 3).length) 32).map (BitVec.ofNat 8) := by unfold carL; rw [← h1]; rfl
  refine ⟨by rw [e3]; simp [spL_len], ?_⟩
  rw [e3, leN_map _ (spL_lt _ _)]
  rw [e2] at h3
  have hr := red_lt hv
  have : vd (spL (fL (rdn l 3) (rdn l 3).length) 32) = red (vd (fL l l.length)) := by
    have : spC (fL (rdn l 3) (rdn l 3).length) 32 = 0 := by
      apply Classical.byContradiction
      intro hne
      have : M256 * 1 ≤ M256 * spC (fL (rdn l 3) (rdn l 3).length) 32 := Nat.mul_le_mul_left _ (by omega)
      omega
    rw [this] at h3; omega
  rw [this, red_P, fL_mod l l.length hl (Nat.le_refl _), List.take_of_length_le (Nat.le_refl _)]
end Go.Proofs.YtgclegdgngldoaaDoor.Fp
set_option linter.unusedVariables false
namespace Go.Proofs.YtgclegdgngldoaaDoor.Fp
def prd (i : Nat) : Nat := if i = 0 then 237 else if i = 31 then 127 else 255
def pl : List Nat := (List.range 32).map prd
theorem pl_vd : vd pl = P := by decide
theorem pl_len : pl.length = 32 := rfl
theorem pl_get {i : Nat} (h : i < 32) : pl.getD i 0 = prd i := by simp [pl, List.getD_eq_getElem?_getD, h]
theorem prd_le (i : Nat) : prd i ≤ 255 := by unfold prd; split <;> (try split) <;> decide
theorem vd_split {l : List Nat} {i : Nat} (h : i < l.length) : vd l = vd (l.take i) + 256 ^ i * (l.getD i 0 + 256 * vd (l.drop (i + 1))) := by
  conv => lhs; rw [← List.take_append_drop i l, vd_app, List.length_take, Nat.min_eq_left (by omega)]
  rw [List.drop_eq_getElem_cons h]
  simp only [vd]
  rw [List.getD_eq_getElem?_getD, List.getElem?_eq_getElem h]; rfl
theorem vd_cmp {l m : List Nat} (hl : ∀ x ∈ l, x < 256) {i : Nat} (h1 : i < l.length) (h2 : i < m.length) (hd : l.drop (i + 1) = m.drop (i + 1)) (hlt : l.getD i 0 < m.getD i 0) : vd l < vd m := by
  rw [vd_split h1, vd_split h2, hd]
  have h3 := vd_lt256 (l.take i) (fun x hx => hl x (List.mem_of_mem_take hx))
  rw [List.length_take, Nat.min_eq_left (by omega)] at h3
  have h4 : 256 ^ i * (l.getD i 0 + 256 * vd (m.drop (i + 1)) + 1) ≤ 256 ^ i * (m.getD i 0 + 256 * vd (m.drop (i + 1))) := Nat.mul_le_mul_left _ (by omega)
  rw [Nat.mul_add, Nat.mul_one] at h4
  omega
theorem drop_eq {l m : List Nat} (hl : l.length = 32) (hm : m.length = 32) {j : Nat} (h : ∀ k, j ≤ k → k < 32 → l.getD k 0 = m.getD k 0) : l.drop j = m.drop j := by
  apply List.ext_getElem?
  intro k
  rw [List.getElem?_drop, List.getElem?_drop]
  by_cases hk : j + k < 32
  · have := h (j + k) (by omega) hk
    rw [List.getD_eq_getElem?_getD, List.getD_eq_getElem?_getD, List.getElem?_eq_getElem (by omega), List.getElem?_eq_getElem (by omega)] at this
    rw [List.getElem?_eq_getElem (by omega), List.getElem?_eq_getElem (by omega)]
    simpa using this
  · rw [List.getElem?_eq_none (by omega), List.getElem?_eq_none (by omega)]
def tn (a : List B8) : List Nat := a.map (·.toNat)
theorem tn_get (a : List B8) (i : Nat) : (tn a).getD i 0 = (a.getD i 0).toNat := by
  simp only [tn, List.getD_eq_getElem?_getD, List.getElem?_map]
  cases a[i]? <;> rfl
theorem tn_lt (a : List B8) : ∀ x ∈ tn a, x < 256 := by
  intro x hx
  simp only [tn, List.mem_map] at hx
  obtain ⟨y, _, rfl⟩ := hx
  exact y.isLt
theorem pl_lt : ∀ x ∈ pl, x < 256 := by decide
theorem cmp_ne {a : List B8} (ha : a.length = 32) {i : Nat} (hi : i < 32) (h : ∀ k, i + 1 ≤ k → k < 32 → (a.getD k 0).toNat = prd k) (hne : (a.getD i 0).toNat ≠ prd i) : decide (P ≤ leN a) = decide (prd i < (a.getD i 0).toNat) := by
  have hl : (tn a).length = 32 := by simp [tn, ha]
  have hd : (tn a).drop (i + 1) = pl.drop (i + 1) := drop_eq hl pl_len (fun k h1 h2 => by rw [tn_get, pl_get h2]; exact h k h1 h2)
  have e : leN a = vd (tn a) := rfl
  by_cases hlt : prd i < (a.getD i 0).toNat
  · have := vd_cmp pl_lt (by rw [pl_len]; exact hi) (by rw [hl]; exact hi) hd.symm (by rw [pl_get hi, tn_get]; exact hlt)
    rw [pl_vd] at this
    rw [decide_eq_true (by rw [e]; omega), decide_eq_true hlt]
  · have := vd_cmp (tn_lt a) (by rw [hl]; exact hi) (by rw [pl_len]; exact hi) hd (by rw [pl_get hi, tn_get]; omega)
    rw [pl_vd] at this
    rw [decide_eq_false (by rw [e]; omega), decide_eq_false hlt]
theorem cmp_eq {a : List B8} (ha : a.length = 32) (h : ∀ k, k < 32 → (a.getD k 0).toNat = prd k) : leN a = P := by
  have hl : (tn a).length = 32 := by simp [tn, ha]
  have hd : (tn a).drop 0 = pl.drop 0 := drop_eq hl pl_len (fun k _ h2 => by rw [tn_get, pl_get h2]; exact h k h2)
  simp only [List.drop_zero] at hd
  show vd (tn a) = P
  rw [hd, pl_vd]
/-- a number, less p -/
def ls (a : List B8) : Nat → List B8 × Nat
  | 0 => (a, 0)
  | i + 1 => ((ls a i).1.set i (BitVec.ofNat 8 (((ls a i).1.getD i 0).toNat + 256 - prd i - (ls a i).2)), if ((ls a i).1.getD i 0).toNat < prd i + (ls a i).2 then 1 else 0)
theorem leN_set (l : List B8) (k : Nat) (x : B8) (h : k < l.length) : leN (l.set k x) + 256 ^ k * (l.getD k 0).toNat = leN l + 256 ^ k * x.toNat := by
  have := vd_set (tn l) k x.toNat (by simpa [tn] using h)
  rw [tn_get] at this
  have e : tn (l.set k x) = (tn l).set k x.toNat := by simp [tn, List.map_set]
  rw [← e] at this
  exact this
theorem ls_zero (a : List B8) : ls a 0 = (a, 0) := rfl
theorem ls_succ (a : List B8) (i : Nat) : ls a (i + 1) = ((ls a i).1.set i (BitVec.ofNat 8 (((ls a i).1.getD i 0).toNat + 256 - prd i - (ls a i).2)), if ((ls a i).1.getD i 0).toNat < prd i + (ls a i).2 then 1 else 0) := rfl
attribute [local irreducible] ls pl prd P
theorem ls_spec {a : List B8} (ha : a.length = 32) (i : Nat) (hi : i ≤ 32) : (ls a i).1.length = 32 ∧ (ls a i).2 ≤ 1 ∧ leN (ls a i).1 + vd (pl.take i) = leN a + 256 ^ i * (ls a i).2 := by
  induction i with
  | zero => rw [ls_zero]; exact ⟨ha, Nat.zero_le _, by simp [vd]⟩
  | succ i ih =>
    obtain ⟨h1, h2, h3⟩ := ih (by omega)
    rw [ls_succ]
    refine ⟨by simp [h1], by split <;> omega, ?_⟩
    have h4 := leN_set (ls a i).1 i (BitVec.ofNat 8 (((ls a i).1.getD i 0).toNat + 256 - prd i - (ls a i).2)) (by omega)
    have hp := prd_le i
    have hx := ((ls a i).1.getD i 0).isLt
    have h5 : (BitVec.ofNat 8 (((ls a i).1.getD i 0).toNat + 256 - prd i - (ls a i).2)).toNat + prd i + (ls a i).2 = ((ls a i).1.getD i 0).toNat + 256 * (if ((ls a i).1.getD i 0).toNat < prd i + (ls a i).2 then 1 else 0) := by
      rw [BitVec.toNat_ofNat]
      split <;> omega
    have h6 := congrArg (256 ^ i * ·) h5
    simp only [Nat.mul_add, ← Nat.mul_assoc] at h6
    rw [vd_take_succ (by rw [pl_len]; omega), pl_get (by omega), Nat.pow_succ]
    show leN ((ls a i).1.set i _) + _ = _
    generalize hite : (if ((ls a i).1.getD i 0).toNat < prd i + (ls a i).2 then 1 else 0) = z at *
    generalize (ls a i).1.set i (BitVec.ofNat 8 (((ls a i).1.getD i 0).toNat + 256 - prd i - (ls a i).2)) = L' at *
    generalize (BitVec.ofNat 8 (((ls a i).1.getD i 0).toNat + 256 - prd i - (ls a i).2)).toNat = q at *
    dsimp only
    omega
theorem ls_end {a : List B8} (ha : a.length = 32) (hP : P ≤ leN a) : (ls a 32).1 = kb (leN a - P) := by
  obtain ⟨h1, h2, h3⟩ := ls_spec ha 32 (Nat.le_refl _)
  rw [List.take_of_length_le (by rw [pl_len]; exact Nat.le_refl _), pl_vd, pow32] at h3
  have h4 := leN_lt32 h1
  have h5 := leN_lt32 ha
  have h6 : (ls a 32).2 = 0 := by
    apply Classical.byContradiction
    intro h
    have : (ls a 32).2 = 1 := by omega
    rw [this] at h3
    have := P_lt
    omega
  rw [h6] at h3
  rw [← kb_leN h1]
  congr 1
  omega
end Go.Proofs.YtgclegdgngldoaaDoor.Fp
set_option linter.unusedVariables false
namespace Go.Proofs.YtgclegdgngldoaaDoor.Fp
theorem leN_tn (a : List B8) : vd (tn a) = leN a := rfl
theorem tn_len (a : List B8) : (tn a).length = a.length := by simp [tn]
/-- digits, with those of another number added -/
def aD (a b : List B8) : Nat → List Nat
  | 0 => tn a
  | i + 1 => (aD a b i).set i ((aD a b i).getD i 0 + (b.getD i 0).toNat)
def sD (a b : List B8) : Nat → List Nat
  | 0 => tn a
  | i + 1 => (sD a b i).set i ((sD a b i).getD i 0 + 4 * prd i - (b.getD i 0).toNat)
theorem aD_zero (a b : List B8) : aD a b 0 = tn a := rfl
theorem aD_succ (a b : List B8) (i : Nat) : aD a b (i + 1) = (aD a b i).set i ((aD a b i).getD i 0 + (b.getD i 0).toNat) := rfl
theorem sD_zero (a b : List B8) : sD a b 0 = tn a := rfl
theorem sD_succ (a b : List B8) (i : Nat) : sD a b (i + 1) = (sD a b i).set i ((sD a b i).getD i 0 + 4 * prd i - (b.getD i 0).toNat) := rfl
theorem tn_le (a : List B8) : ∀ x ∈ tn a, x ≤ 255 := fun x hx => by have := tn_lt a x hx; omega
theorem getD_set_other {l : List Nat} {i j x : Nat} (h : i ≠ j) : (l.set i x).getD j 0 = l.getD j 0 := by
  rw [List.getD_eq_getElem?_getD, List.getElem?_set, if_neg h, ← List.getD_eq_getElem?_getD]
theorem aD_spec {a b : List B8} (ha : a.length = 32) (hb : b.length = 32) (i : Nat) (hi : i ≤ 32) : (aD a b i).length = 32 ∧ (∀ x ∈ aD a b i, x ≤ 255 + i * 255) ∧ vd (aD a b i) = leN a + vd ((tn b).take i) := by
  induction i with
  | zero => exact ⟨by rw [aD_zero, tn_len, ha], by simpa [aD_zero] using tn_le a, by rw [aD_zero, List.take_zero, leN_tn]; rfl⟩
  | succ i ih =>
    obtain ⟨h1, h2, h3⟩ := ih (by omega)
    have hbx := (b.getD i 0).isLt
    rw [aD_succ]
    refine ⟨by simp [h1], fun x hx => ?_, ?_⟩
    · rcases List.mem_or_eq_of_mem_set hx with e | e
      · exact Nat.le_trans (h2 x e) (Nat.add_le_add_left (Nat.mul_le_mul_right _ (Nat.le_succ i)) _)
      · have := getD_le h2 i; omega
    · have h4 := vd_set (aD a b i) i ((aD a b i).getD i 0 + (b.getD i 0).toNat) (by omega)
      rw [Nat.mul_add] at h4
      rw [vd_take_succ (by rw [tn_len, hb]; omega), tn_get]
      omega
theorem aD_end {a b : List B8} (ha : a.length = 32) (hb : b.length = 32) : vd (aD a b 32) = leN a + leN b := by
  rw [(aD_spec ha hb 32 (Nat.le_refl _)).2.2, List.take_of_length_le (by rw [tn_len, hb]; exact Nat.le_refl _)]; rfl
theorem prd_ge (i : Nat) : 127 ≤ prd i := by unfold prd; split <;> (try split) <;> decide
theorem sD_spec {a b : List B8} (ha : a.length = 32) (hb : b.length = 32) (i : Nat) (hi : i ≤ 32) : (sD a b i).length = 32 ∧ (∀ x ∈ sD a b i, x ≤ 255 + i * 1020) ∧ vd (sD a b i) + vd ((tn b).take i) = leN a + 4 * vd (pl.take i) := by
  induction i with
  | zero => exact ⟨by rw [sD_zero, tn_len, ha], by simpa [sD_zero] using tn_le a, by rw [sD_zero, List.take_zero, List.take_zero, leN_tn]; rfl⟩
  | succ i ih =>
    obtain ⟨h1, h2, h3⟩ := ih (by omega)
    have hbx := (b.getD i 0).isLt
    have hp := prd_le i
    have hp2 := prd_ge i
    rw [sD_succ]
    refine ⟨by simp [h1], fun x hx => ?_, ?_⟩
    · rcases List.mem_or_eq_of_mem_set hx with e | e
      · exact Nat.le_trans (h2 x e) (Nat.add_le_add_left (Nat.mul_le_mul_right _ (Nat.le_succ i)) _)
      · have := getD_le h2 i; omega
    · have h4 := vd_set (sD a b i) i ((sD a b i).getD i 0 + 4 * prd i - (b.getD i 0).toNat) (by omega)
      have e : (sD a b i).getD i 0 + 4 * prd i - (b.getD i 0).toNat + (b.getD i 0).toNat = (sD a b i).getD i 0 + 4 * prd i := by omega
      have e2 := congrArg (256 ^ i * ·) e
      simp only [Nat.mul_add] at e2
      rw [vd_take_succ (by rw [tn_len, hb]; omega), vd_take_succ (by rw [pl_len]; omega), tn_get, pl_get (by omega), Nat.mul_add]
      have e3 : 256 ^ i * (4 * prd i) = 4 * (256 ^ i * prd i) := by simp only [Nat.mul_left_comm]
      omega
theorem sD_end {a b : List B8} (ha : a.length = 32) (hb : b.length = 32) : vd (sD a b 32) + leN b = leN a + 4 * P := by
  have h := (sD_spec ha hb 32 (Nat.le_refl _)).2.2
  rw [List.take_of_length_le (by rw [tn_len, hb]; exact Nat.le_refl _), List.take_of_length_le (by rw [pl_len]; exact Nat.le_refl _), pl_vd] at h
  exact h
/-- a digit times a number, added from place i on -/
def mI (L : List Nat) (b : List B8) (i x : Nat) : Nat → List Nat
  | 0 => L
  | k + 1 => (mI L b i x k).set (i + k) ((mI L b i x k).getD (i + k) 0 + x * (b.getD k 0).toNat)
def mO (a b : List B8) : Nat → List Nat
  | 0 => List.replicate 64 0
  | i + 1 => mI (mO a b i) b i (a.getD i 0).toNat 32
theorem mI_zero (L : List Nat) (b : List B8) (i x : Nat) : mI L b i x 0 = L := rfl
theorem mI_succ (L : List Nat) (b : List B8) (i x k : Nat) : mI L b i x (k + 1) = (mI L b i x k).set (i + k) ((mI L b i x k).getD (i + k) 0 + x * (b.getD k 0).toNat) := rfl
theorem mO_zero (a b : List B8) : mO a b 0 = List.replicate 64 0 := rfl
theorem mO_succ (a b : List B8) (i : Nat) : mO a b (i + 1) = mI (mO a b i) b i (a.getD i 0).toNat 32 := rfl
theorem mI_spec {L : List Nat} {b : List B8} {i x C : Nat} (hL : L.length = 64) (hb : b.length = 32) (hi : i < 32) (hx : x ≤ 255) (hC : ∀ y ∈ L, y ≤ C) (k : Nat) (hk : k ≤ 32) :
    (mI L b i x k).length = 64 ∧ (∀ y ∈ mI L b i x k, y ≤ C + k * 65025) ∧ vd (mI L b i x k) = vd L + 256 ^ i * (x * vd ((tn b).take k)) := by
  induction k with
  | zero => exact ⟨hL, by simpa [mI_zero] using hC, by rw [mI_zero, List.take_zero]; rfl⟩
  | succ k ih =>
    obtain ⟨h1, h2, h3⟩ := ih (by omega)
    have hbx := (b.getD k 0).isLt
    have hm : x * (b.getD k 0).toNat ≤ 255 * 255 := Nat.mul_le_mul hx (by omega)
    rw [mI_succ]
    refine ⟨by simp [h1], fun y hy => ?_, ?_⟩
    · rcases List.mem_or_eq_of_mem_set hy with e | e
      · exact Nat.le_trans (h2 y e) (Nat.add_le_add_left (Nat.mul_le_mul_right _ (Nat.le_succ k)) _)
      · have := getD_le h2 (i + k); omega
    · have h4 := vd_set (mI L b i x k) (i + k) ((mI L b i x k).getD (i + k) 0 + x * (b.getD k 0).toNat) (by omega)
      rw [Nat.mul_add] at h4
      rw [vd_take_succ (by rw [tn_len, hb]; omega), tn_get, Nat.mul_add, Nat.mul_add]
      have e : 256 ^ i * (x * (256 ^ k * (b.getD k 0).toNat)) = 256 ^ (i + k) * (x * (b.getD k 0).toNat) := by
        rw [Nat.pow_add]; simp only [Nat.mul_assoc, Nat.mul_left_comm]
      omega
theorem mO_spec {a b : List B8} (ha : a.length = 32) (hb : b.length = 32) (i : Nat) (hi : i ≤ 32) : (mO a b i).length = 64 ∧ (∀ y ∈ mO a b i, y ≤ i * 2080800) ∧ vd (mO a b i) = vd ((tn a).take i) * leN b := by
  induction i with
  | zero => exact ⟨by simp [mO_zero], fun y hy => by rw [mO_zero] at hy; rw [List.eq_of_mem_replicate hy]; omega, by rw [mO_zero, vd_zeros]; simp [vd]⟩
  | succ i ih =>
    obtain ⟨h1, h2, h3⟩ := ih (by omega)
    have hx := (a.getD i 0).isLt
    obtain ⟨k1, k2, k3⟩ := mI_spec (b := b) (i := i) (x := (a.getD i 0).toNat) h1 hb (by omega) (by omega) h2 32 (Nat.le_refl _)
    rw [mO_succ]
    refine ⟨k1, fun y hy => by have := k2 y hy; omega, ?_⟩
    rw [k3, h3, List.take_of_length_le (l := tn b) (by rw [tn_len, hb]; exact Nat.le_refl _), vd_take_succ (l := tn a) (i := i) (by rw [tn_len, ha]; omega), tn_get, Nat.add_mul, leN_tn, Nat.mul_assoc]
theorem mO_end {a b : List B8} (ha : a.length = 32) (hb : b.length = 32) : vd (mO a b 32) = leN a * leN b := by
  rw [(mO_spec ha hb 32 (Nat.le_refl _)).2.2, List.take_of_length_le (by rw [tn_len, ha]; exact Nat.le_refl _)]; rfl
/-- the power, bit by bit -/
def rp (a : Nat) : Nat → Nat
  | 0 => 1
  | n + 1 => let s := rp a n * rp a n % P; if 254 - n ≠ 2 ∧ 254 - n ≠ 4 then s * a % P else s
end Go.Proofs.YtgclegdgngldoaaDoor.Fp
