/-
  The reference's digits, carried: plain Lean; own work.
-/
import Derived.Test.YtgneclfnfnpmkaaFeM
set_option linter.unusedVariables false
namespace Go.Proofs.Ytgneclfnfnpmkaa.Fp
theorem vd_app : ∀ (l m : List Nat), vd (l ++ m) = vd l + 256 ^ l.length * vd m
  | [], m => by simp [vd]
  | x :: r, m => by
    simp only [List.cons_append, vd, vd_app r m, List.length_cons, Nat.pow_succ, Nat.mul_add, Nat.mul_comm (256 ^ r.length) 256, Nat.mul_assoc]; omega
theorem vd_set : ∀ (l : List Nat) (k x : Nat), k < l.length → vd (l.set k x) + 256 ^ k * l.getD k 0 = vd l + 256 ^ k * x
  | [], k, x, h => by simp at h
  | y :: r, 0, x, _ => by simp [vd]; omega
  | y :: r, k + 1, x, h => by
    have := vd_set r k x (by simpa using h)
    have e := congrArg (256 * ·) this
    simp only [Nat.mul_add, ← Nat.mul_assoc] at e
    simp only [List.set_cons_succ, vd, Nat.pow_succ, Nat.mul_comm (256 ^ k) 256]
    have e2 : (y :: r).getD (k + 1) 0 = r.getD k 0 := rfl
    rw [e2]
    omega
theorem getD_take_succ {l : List Nat} {i : Nat} (h : i < l.length) : l.take (i + 1) = l.take i ++ [l.getD i 0] := by
  rw [List.take_succ_eq_append_getElem h, List.getD_eq_getElem?_getD, List.getElem?_eq_getElem h]; rfl
theorem vd_take_succ {l : List Nat} {i : Nat} (h : i < l.length) : vd (l.take (i + 1)) = vd (l.take i) + 256 ^ i * l.getD i 0 := by
  rw [getD_take_succ h, vd_app, List.length_take, Nat.min_eq_left (by omega)]
  simp [vd]
/-! digits below 256, and what is over -/
def spC (l : List Nat) : Nat → Nat
  | 0 => 0
  | i + 1 => (l.getD i 0 + spC l i) / 256
def spL (l : List Nat) (i : Nat) : List Nat := (List.range i).map fun j => (l.getD j 0 + spC l j) % 256
def spr (l : List Nat) : List Nat := spL l l.length ++ [spC l l.length]
theorem spL_len (l : List Nat) (i : Nat) : (spL l i).length = i := by simp [spL]
theorem spL_zero (l : List Nat) : spL l 0 = [] := rfl
theorem spL_succ (l : List Nat) (i : Nat) : spL l (i + 1) = spL l i ++ [(l.getD i 0 + spC l i) % 256] := by simp [spL, List.range_succ]
theorem spL_lt (l : List Nat) (i : Nat) : ∀ x ∈ spL l i, x < 256 := by
  intro x hx
  simp only [spL, List.mem_map] at hx
  obtain ⟨j, _, rfl⟩ := hx
  exact Nat.mod_lt _ (by decide)
theorem spL_vd (l : List Nat) : ∀ i, i ≤ l.length → vd (spL l i) + 256 ^ i * spC l i = vd (l.take i)
  | 0, _ => by simp [spL, spC, vd]
  | i + 1, h => by
    have ih := spL_vd l i (by omega)
    rw [spL_succ, vd_app, spL_len, vd_take_succ (by omega), ← ih]
    simp only [vd, Nat.mul_zero, Nat.add_zero, spC, Nat.pow_succ]
    have := Nat.mod_add_div (l.getD i 0 + spC l i) 256
    have e := congrArg (256 ^ i * ·) this
    simp only [Nat.mul_add, ← Nat.mul_assoc] at e
    omega
theorem getD_le {l : List Nat} {C : Nat} (h : ∀ x ∈ l, x ≤ C) (i : Nat) : l.getD i 0 ≤ C := by
  rw [List.getD_eq_getElem?_getD]
  cases e : l[i]? with
  | none => simp
  | some y => exact h y (List.mem_of_getElem? e)
theorem spC_le {l : List Nat} {C : Nat} (h : ∀ x ∈ l, x ≤ C) : ∀ i, spC l i ≤ C / 128
  | 0 => Nat.zero_le _
  | i + 1 => by
    have h1 := getD_le h i
    have h2 := spC_le h i
    simp only [spC]
    omega
theorem spr_len (l : List Nat) : (spr l).length = l.length + 1 := by simp [spr, spL_len]
theorem spr_le {l : List Nat} {C : Nat} (h : ∀ x ∈ l, x ≤ C) (hC : 32768 ≤ C) : ∀ x ∈ spr l, x ≤ C / 128 := by
  intro x hx
  rcases List.mem_append.1 hx with e | e
  · have := spL_lt _ _ x e; omega
  · rw [List.mem_singleton] at e; subst e; exact spC_le h _
/-! what stands above the 32nd digit comes back 38 times -/
def fL (d : List Nat) : Nat → List Nat
  | 0 => List.replicate 32 0
  | i + 1 => if i < 32 then (fL d i).set i ((fL d i).getD i 0 + d.getD i 0) else (fL d i).set (i - 32) ((fL d i).getD (i - 32) 0 + 38 * d.getD i 0)
theorem fL_len (d : List Nat) : ∀ i, (fL d i).length = 32
  | 0 => by simp [fL]
  | i + 1 => by simp only [fL]; split <;> simp [fL_len d i]
theorem vd_zeros : ∀ n, vd (List.replicate n 0) = 0
  | 0 => rfl
  | n + 1 => by simp [List.replicate_succ, vd, vd_zeros n]
theorem fL_low (d : List Nat) : ∀ i, i ≤ 32 → i ≤ d.length → vd (fL d i) = vd (d.take i)
  | 0, _, _ => by simp [fL]; rfl
  | i + 1, h, hd => by
    have ih := fL_low d i (by omega) (by omega)
    simp only [fL, show i < 32 by omega, if_true]
    have h1 := vd_set (fL d i) i ((fL d i).getD i 0 + d.getD i 0) (by rw [fL_len]; omega)
    rw [Nat.mul_add] at h1
    rw [vd_take_succ (by omega), ← ih]
    omega
theorem fL_mod (d : List Nat) : ∀ i, i ≤ 64 → i ≤ d.length → vd (fL d i) % P = vd (d.take i) % P
  | 0, _, _ => by rw [fL_low d 0 (by omega) (by omega)]
  | i + 1, h, hd => by
    by_cases hi : i < 32
    · rw [fL_low d (i + 1) (by omega) hd]
    · have ih := fL_mod d i (by omega) (by omega)
      simp only [fL, hi, if_false]
      have h1 := vd_set (fL d i) (i - 32) ((fL d i).getD (i - 32) 0 + 38 * d.getD i 0) (by rw [fL_len]; omega)
      rw [Nat.mul_add] at h1
      have h2 : vd ((fL d i).set (i - 32) ((fL d i).getD (i - 32) 0 + 38 * d.getD i 0)) = vd (fL d i) + 38 * (256 ^ (i - 32) * d.getD i 0) := by
        have e : 256 ^ (i - 32) * (38 * d.getD i 0) = 38 * (256 ^ (i - 32) * d.getD i 0) := by simp only [Nat.mul_left_comm]
        omega
      rw [h2, fold_mod, vd_take_succ (by omega)]
      have e2 : 256 ^ i * d.getD i 0 = M256 * (256 ^ (i - 32) * d.getD i 0) := by
        rw [← Nat.mul_assoc, ← pow32, ← Nat.pow_add]
        congr 2; omega
      rw [e2, Nat.add_mod, ih, ← Nat.add_mod]
theorem fL_le {d : List Nat} {C : Nat} (h : ∀ x ∈ d, x ≤ C) : ∀ i, ∀ x ∈ fL d i, x ≤ i * (38 * C)
  | 0, x, hx => by rw [List.eq_of_mem_replicate hx]; omega
  | i + 1, x, hx => by
    have ih := fL_le h i
    have hd := getD_le h i
    have e : (i + 1) * (38 * C) = i * (38 * C) + 38 * C := by rw [Nat.add_mul, Nat.one_mul]
    simp only [fL] at hx
    split at hx
    · rcases List.mem_or_eq_of_mem_set hx with e1 | e1
      · have := ih x e1; omega
      · have := getD_le ih i; omega
    · rcases List.mem_or_eq_of_mem_set hx with e1 | e1
      · have := ih x e1; omega
      · have := getD_le ih (i - 32); omega
/-- one round -/
def rd (d : List Nat) : List Nat := spr (fL d d.length)
def rdn (l : List Nat) : Nat → List Nat
  | 0 => l
  | n + 1 => rd (rdn l n)
def carL (l : List Nat) : List B8 := ((rdn l 4).take 32).map (BitVec.ofNat 8)
theorem rd_len (d : List Nat) : (rd d).length = 33 := by unfold rd; rw [spr_len, fL_len]
theorem rd_le {d : List Nat} {C : Nat} (h : ∀ x ∈ d, x ≤ C) (hl : d.length ≤ 64) (hC : 32768 ≤ C) : ∀ x ∈ rd d, x ≤ 32 * C := by
  intro x hx
  have h1 := fL_le h d.length
  have h2 : ∀ x ∈ fL d d.length, x ≤ 64 * (38 * C) := fun x hx => Nat.le_trans (h1 x hx) (Nat.mul_le_mul_right _ hl)
  have := spr_le h2 (by omega) x hx
  omega
theorem rdn_le {l : List Nat} (h : ∀ x ∈ l, x ≤ 2147483648) (hl : l.length ≤ 64) : ∀ n, (rdn l n).length ≤ 64 ∧ ∀ x ∈ rdn l n, x ≤ 32 ^ n * 2147483648
  | 0 => ⟨hl, by simpa [rdn] using h⟩
  | n + 1 => by
    obtain ⟨h1, h2⟩ := rdn_le h hl n
    refine ⟨by simp only [rdn]; rw [rd_len]; decide, fun x hx => ?_⟩
    have h3 : 1 ≤ 32 ^ n := Nat.one_le_pow _ _ (by decide)
    have := rd_le h2 h1 (by omega) x hx
    rw [Nat.pow_succ]; omega
theorem vd_lt256 : ∀ l : List Nat, (∀ x ∈ l, x < 256) → vd l < 256 ^ l.length
  | [], _ => by simp [vd]
  | x :: r, h => by
    have := vd_lt256 r (fun y hy => h y (List.mem_cons_of_mem _ hy))
    have hx := h x (by simp)
    rw [List.length_cons, Nat.pow_succ]
    simp only [vd]; omega
theorem leN_map : ∀ l : List Nat, (∀ x ∈ l, x < 256) → leN (l.map (BitVec.ofNat 8)) = vd l
  | [], _ => rfl
  | x :: r, h => by
    have := leN_map r (fun y hy => h y (List.mem_cons_of_mem _ hy))
    have hx := h x (by simp)
    rw [List.map_cons, leN_cons, this, BitVec.toNat_ofNat, Nat.mod_eq_of_lt hx]; rfl
/-- a round's outcome: what it is worth, in digits -/
theorem rd_parts (d : List Nat) : (rd d).take 32 = spL (fL d d.length) 32 ∧ (rd d).getD 32 0 = spC (fL d d.length) 32 ∧ vd (spL (fL d d.length) 32) + M256 * spC (fL d d.length) 32 = vd (fL d d.length) := by
  have h := fL_len d d.length
  have e : rd d = spL (fL d d.length) 32 ++ [spC (fL d d.length) 32] := by unfold rd spr; rw [h]
  refine ⟨by rw [e, List.take_left' (spL_len _ _)], ?_, ?_⟩
  · rw [e, List.getD_eq_getElem?_getD, List.getElem?_append_right (by rw [spL_len]; exact Nat.le_refl _), spL_len]; rfl
  · have := spL_vd (fL d d.length) 32 (by rw [h]; exact Nat.le_refl _)
    rwa [pow32, List.take_of_length_le (by rw [h]; exact Nat.le_refl _)] at this
theorem rd_next (d : List Nat) : vd (fL (rd d) (rd d).length) = fold1 (vd (fL d d.length)) := by
  obtain ⟨h1, h2, h3⟩ := rd_parts d
  have hl := rd_len d
  rw [hl]
  have e : fL (rd d) 33 = (fL (rd d) 32).set 0 ((fL (rd d) 32).getD 0 0 + 38 * (rd d).getD 32 0) := rfl
  have h4 := vd_set (fL (rd d) 32) 0 ((fL (rd d) 32).getD 0 0 + 38 * (rd d).getD 32 0) (by rw [fL_len]; decide)
  rw [← e, fL_low (rd d) 32 (Nat.le_refl _) (by omega), h1, h2, Nat.pow_zero, Nat.one_mul, Nat.one_mul] at h4
  have hlt := vd_lt256 _ (spL_lt (fL d d.length) 32)
  rw [spL_len, pow32] at hlt
  unfold fold1
  have h5 : vd (fL d d.length) % M256 = vd (spL (fL d d.length) 32) := by rw [← h3, Nat.add_mul_mod_self_left, Nat.mod_eq_of_lt hlt]
  have h6 : vd (fL d d.length) / M256 = spC (fL d d.length) 32 := by rw [← h3, Nat.add_mul_div_left _ _ (by decide), Nat.div_eq_of_lt hlt]; omega
  rw [h5, h6]
  omega
theorem vd_le {C : Nat} : ∀ l : List Nat, (∀ x ∈ l, x ≤ C) → 255 * vd l + C ≤ C * 256 ^ l.length
  | [], _ => by simp [vd]
  | x :: r, h => by
    have := vd_le r (fun y hy => h y (List.mem_cons_of_mem _ hy))
    have hx := h x (by simp)
    rw [List.length_cons, Nat.pow_succ, ← Nat.mul_assoc]
    simp only [vd]; omega
theorem carL_spec (l : List Nat) (h : ∀ x ∈ l, x ≤ 2147483648) (hl : l.length ≤ 64) (h32 : 32 ≤ l.length) : (carL l).length = 32 ∧ leN (carL l) % P = vd l % P := by
  have hv : vd (fL l l.length) < M256 * 288230376151711744 := by
    have h1 := fL_le h l.length
    have h2 : ∀ x ∈ fL l l.length, x ≤ 64 * (38 * 2147483648) := fun x hx => Nat.le_trans (h1 x hx) (Nat.mul_le_mul_right _ hl)
    have h3 := vd_le _ h2
    rw [fL_len, pow32] at h3
    simp only [M256] at *
    omega
  have e2 : vd (fL (rdn l 3) (rdn l 3).length) = red (vd (fL l l.length)) := by
    have a := rd_next l
    have b := rd_next (rd l)
    have c := rd_next (rd (rd l))
    rw [a] at b
    rw [b] at c
    show vd (fL (rd (rd (rd l))) (rd (rd (rd l))).length) = _
    rw [c]
    exact fold1_lt (red_lt hv)
  obtain ⟨h1, h2, h3⟩ := rd_parts (rdn l 3)
  have hlt := vd_lt256 _ (spL_lt (fL (rdn l 3) (rdn l 3).length) 32)
  rw [spL_len, pow32] at hlt
  have e3 : carL l = (spL (fL (rdn l 3) (rdn l 3).length) 32).map (BitVec.ofNat 8) := by unfold carL; rw [← h1]; rfl
  refine ⟨by rw [e3]; simp [spL_len], ?_⟩
  rw [e3, leN_map _ (spL_lt _ _)]
  rw [e2] at h3
  have hr := red_lt hv
  have : vd (spL (fL (rdn l 3) (rdn l 3).length) 32) = red (vd (fL l l.length)) := by
    have : spC (fL (rdn l 3) (rdn l 3).length) 32 = 0 := by
      apply Classical.byContradiction
      intro hne
      have : M256 * 1 ≤ M256 * spC (fL (rdn l 3) (rdn l 3).length) 32 := Nat.mul_le_mul_left _ (by omega)
      omega
    rw [this] at h3; omega
  rw [this, red_P, fL_mod l l.length hl (Nat.le_refl _), List.take_of_length_le (Nat.le_refl _)]
end Go.Proofs.Ytgneclfnfnpmkaa.Fp
