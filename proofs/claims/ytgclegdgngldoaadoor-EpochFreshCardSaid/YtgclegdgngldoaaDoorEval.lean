/-
  Tags of constants, reckoned; own work.
-/
import Derived.Test.YtgclegdgngldoaaDoorHmc
set_option linter.unusedVariables false
namespace Go.Proofs.YtgclegdgngldoaaDoor.Sh

def absF : Nat → S8 → List B → S8
  | 0, s, _ => s
  | n + 1, s, l => absF n (compress s (l.take 64)) (l.drop 64)
theorem absF_eq : ∀ (n : Nat) (s : S8) (l : List B), l.length = 64 * n → (absorb s l).1 = absF n s l
  | 0, s, l, h => by rw [absorb_lt (by omega)]; rfl
  | n + 1, s, l, h => by
    rw [absorb_ge (by omega)]
    exact absF_eq n _ _ (by rw [List.length_drop]; omega)
def sumF (l : List B) : List B := (absF ((l.length + 9 + npad l.length) / 64) init (finish l l.length)).bytes
theorem sum_F (l : List B) : sum l = sumF l := by
  unfold sum digest sumF
  rw [absF_eq ((l.length + 9 + npad l.length) / 64)]
  have h := finish_mod l l.length
  rw [finish_len] at h ⊢
  omega
def macF (k m : List B) : List B :=
  let k0 := bif Nat.blt 64 k.length then sumF k else k
  sumF (padB k0 92 ++ sumF (padB k0 54 ++ m))
theorem mac_F (k m : List B) : mac k m = macF k m := by
  unfold mac macF key0
  by_cases h : 64 < k.length
  · have hb : Nat.blt 64 k.length = true := by simp [Nat.blt]; omega
    rw [if_pos h, hb]; simp only [sum_F, cond_true]
  · have hb : Nat.blt 64 k.length = false := by
      cases hc : Nat.blt 64 k.length with
      | false => rfl
      | true => simp [Nat.blt] at hc; omega
    rw [if_neg h, hb]; simp only [sum_F, cond_false]
theorem derive_mac (k lab : List B) : derive k lab = mac k (pig ++ lab ++ [1]) := by
  have h1 : okm k (pig ++ lab) 1 = mac k (pig ++ lab ++ [1]) := rfl
  have h2 : derive k lab = (okm k (pig ++ lab) 1).take 32 := rfl
  rw [h2, h1]
  exact List.take_of_length_le (Nat.le_refl 32)
def K0 : List B := [91, 220, 193, 70, 191, 96, 117, 78, 106, 4, 36, 38, 8, 149, 117, 199, 90, 0, 63, 8, 157, 39, 57, 131, 157, 236, 88, 185, 100, 236, 56, 67]
set_option maxRecDepth 100000 in
theorem jefe : mac [74, 101, 102, 101] [119, 104, 97, 116, 32, 100, 111, 32, 121, 97, 32, 119, 97, 110, 116, 32, 102, 111, 114, 32, 110, 111, 116, 104, 105, 110, 103, 63] = K0 := by rw [mac_F]; decide +kernel
set_option maxRecDepth 100000 in
theorem der_a : (derive K0 [97]).getD 0 0 = 137 := by rw [derive_mac, mac_F]; decide +kernel
set_option maxRecDepth 100000 in
theorem der_b : (derive K0 [98]).getD 0 0 = 25 := by rw [derive_mac, mac_F]; decide +kernel
theorem der_ne : derive K0 [97] ≠ derive K0 [98] := by
  intro e
  have h := der_a
  rw [e, der_b] at h
  exact absurd h (by decide)
end Go.Proofs.YtgclegdgngldoaaDoor.Sh
