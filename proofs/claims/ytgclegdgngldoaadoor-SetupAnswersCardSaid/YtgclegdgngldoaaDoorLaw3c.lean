/-
  Law 03: ShaSplit; own work.
-/
import Derived.Test.YtgclegdgngldoaaDoorLaw3a
set_option linter.unusedSimpArgs false
set_option linter.unusedVariables false
namespace Go.Proofs.YtgclegdgngldoaaDoor
open Go.RowKit

theorem BS.headn {w : World} {a : Option Addr} {n cap : Nat} {l : List (BitVec 8)} (h : BS w (.slice a n cap) l) (hn : l.length = n) (k c : Nat) (hk : k ≤ n) (hc : k ≤ c) (hm : c ≤ cap) :
    BS w (.slice a k c) (l.take k) := by subst hn; exact h.head k c hk hc hm
theorem BS.tail0 {w : World} {a : Option Addr} {n cap : Nat} {l : List (BitVec 8)} (h : BS w (.slice a n cap) l) (hn : l.length = n) (k : Nat) (hk : n ≤ k) : BS w (.slice a (n - k) 0) (l.drop k) := by
  have e : l.drop k = [] := List.drop_eq_nil_of_le (by omega)
  rw [e, show n - k = 0 by omega]
  exact ⟨a, 0, rfl, Nat.le_refl _, Nat.zero_le _, fun h => absurd rfl h⟩
theorem BS.tailm {w : World} {a : Option Addr} {n cap : Nat} {l : List (BitVec 8)} (h : BS w (.slice a n cap) l) (hn : l.length = n) (k : Nat) (hk : k ≤ n) : BS w (.slice (Option.map (fun x => x.add k) a) (n - k) (cap - k)) (l.drop k) := by
  subst hn
  by_cases hl : l = []
  · subst hl
    obtain ⟨_, c, e, h1, h2, _⟩ := h
    injection e with e1 e2 e3
    subst e3
    simp only [List.length_nil, Nat.zero_sub, List.drop_nil]
    exact ⟨_, cap - k, rfl, Nat.zero_le _, by omega, fun h => absurd rfl h⟩
  · obtain ⟨b, o, c, e, h1, _⟩ := h.open hl
    injection e with e1 e2 e3
    subst e1
    exact h.tail k hk _ (fun _ => by simp [Addr.add])
end Go.Proofs.YtgclegdgngldoaaDoor
