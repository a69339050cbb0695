/-
  A node's keys, each for some time: the plain law; own work.
-/
import Derived.Test.YtgclegdgngldoaaDoorSuS
import Derived.Test.YtgclegdgngldoaaDoorHmc
set_option linter.unusedSimpArgs false
set_option linter.unusedVariables false
namespace Go.Proofs.YtgclegdgngldoaaDoor
namespace Ep
/-- a generation, and when it was made -/
structure Sl where
  gen : Nat
  made : Nat
/-- when a key that was made at a tick ends -/
def fin (m : Nat) : Nat := (m / 1024 + 1) * 1024 + 512
def grow (L : List Sl) (now : Nat) : List Sl := match L with
  | [] => []
  | a :: r => if a.made / 1024 < now / 1024 then ⟨a.gen + 1, now⟩ :: a :: r else a :: r
def live (now : Nat) (s : Sl) : Bool := decide (now < fin s.made)
def tick (L : List Sl) (now : Nat) : List Sl := (grow L now).filter (live now)
def gen0 (L : List Sl) : Nat := match L with
  | [] => 0
  | a :: _ => a.gen
/-- what holds of the generations that are there -/
structure Good (L : List Sl) (last : Nat) : Prop where
  two : (∃ a, L = [a] ∧ a.made ≤ last ∧ last < fin a.made) ∨ ∃ a b, L = [a, b] ∧ a.made ≤ last ∧ b.gen + 1 = a.gen ∧ b.made / 1024 < a.made / 1024 ∧ last < fin b.made
  top : last ≤ 1099511627776
theorem Good.one {g m : Nat} (h : m ≤ 1099511627776) : Good [⟨g, m⟩] m := ⟨.inl ⟨_, rfl, Nat.le_refl _, by unfold fin; simp only; omega⟩, h⟩
theorem Good.tick {L : List Sl} {last now : Nat} (h : Good L last) (hn : last ≤ now) (ht : now ≤ 1099511627776) : Good (tick L now) now ∧ (gen0 (Ep.tick L now) = gen0 L ∨ gen0 (Ep.tick L now) = gen0 L + 1) := by
  rcases h.two with ⟨a, rfl, h1, h2⟩ | ⟨a, b, rfl, h1, h2, h3, h4⟩
  · by_cases hg : a.made / 1024 < now / 1024
    · have hl : live now ⟨a.gen + 1, now⟩ = true := by unfold live fin; simp only [decide_eq_true_eq]; omega
      by_cases ha : now < fin a.made
      · have hla : live now a = true := by unfold live; simpa using ha
        have e : Ep.tick [a] now = [⟨a.gen + 1, now⟩, a] := by simp [Ep.tick, grow, hg, hl, hla]
        rw [e]
        exact ⟨⟨.inr ⟨_, _, rfl, Nat.le_refl _, rfl, hg, ha⟩, ht⟩, .inr rfl⟩
      · have hla : live now a = false := by unfold live; simpa using ha
        have e : Ep.tick [a] now = [⟨a.gen + 1, now⟩] := by simp [Ep.tick, grow, hg, hl, hla]
        rw [e]
        exact ⟨.one ht, .inr rfl⟩
    · have ha : now < fin a.made := by unfold fin at *; omega
      have hla : live now a = true := by unfold live; simpa using ha
      have e : Ep.tick [a] now = [a] := by simp [Ep.tick, grow, hg, hla]
      rw [e]
      exact ⟨⟨.inl ⟨_, rfl, by omega, ha⟩, ht⟩, .inl rfl⟩
  · by_cases hg : a.made / 1024 < now / 1024
    · have hl : live now ⟨a.gen + 1, now⟩ = true := by unfold live fin; simp only [decide_eq_true_eq]; omega
      have hlb : live now b = false := by unfold live fin; simp only [decide_eq_false_iff_not]; omega
      by_cases ha : now < fin a.made
      · have hla : live now a = true := by unfold live; simpa using ha
        have e : Ep.tick [a, b] now = [⟨a.gen + 1, now⟩, a] := by simp [Ep.tick, grow, hg, hl, hla, hlb]
        rw [e]
        exact ⟨⟨.inr ⟨_, _, rfl, Nat.le_refl _, rfl, hg, ha⟩, ht⟩, .inr rfl⟩
      · have hla : live now a = false := by unfold live; simpa using ha
        have e : Ep.tick [a, b] now = [⟨a.gen + 1, now⟩] := by simp [Ep.tick, grow, hg, hl, hla, hlb]
        rw [e]
        exact ⟨.one ht, .inr rfl⟩
    · have ha : now < fin a.made := by unfold fin at *; omega
      have hla : live now a = true := by unfold live; simpa using ha
      by_cases hb : now < fin b.made
      · have hlb : live now b = true := by unfold live; simpa using hb
        have e : Ep.tick [a, b] now = [a, b] := by simp [Ep.tick, grow, hg, hla, hlb]
        rw [e]
        exact ⟨⟨.inr ⟨_, _, rfl, by omega, h2, h3, hb⟩, ht⟩, .inl rfl⟩
      · have hlb : live now b = false := by unfold live; simpa using hb
        have e : Ep.tick [a, b] now = [a] := by simp [Ep.tick, grow, hg, hla, hlb]
        rw [e]
        exact ⟨⟨.inl ⟨_, rfl, by omega, ha⟩, ht⟩, .inl rfl⟩
theorem Good.len {L : List Sl} {last : Nat} (h : Good L last) : 1 ≤ L.length ∧ L.length ≤ 2 := by
  rcases h.two with ⟨a, rfl, _⟩ | ⟨a, b, rfl, _⟩ <;> simp
/-- the numbers of a generation, as 8 bytes -/
def be8 (x : BitVec 64) : List (BitVec 8) := (List.range 8).map fun i => (x >>> (56 - 8 * i)).setWidth 8
theorem own_ex (k : List (BitVec 8)) (g : Nat) : ∃ x : List (BitVec 8), x = Sh.mac k (be8 (BitVec.ofNat 64 g)) ∧ x.length = 32 := ⟨_, rfl, Sh.mac_len _ _⟩
noncomputable def own (k : List (BitVec 8)) (g : Nat) : List (BitVec 8) := Classical.choose (own_ex k g)
theorem own_eq (k : List (BitVec 8)) (g : Nat) : own k g = Sh.mac k (be8 (BitVec.ofNat 64 g)) := (Classical.choose_spec (own_ex k g)).1
@[simp] theorem own_len (k : List (BitVec 8)) (g : Nat) : (own k g).length = 32 := (Classical.choose_spec (own_ex k g)).2
theorem pub_ex (k : List (BitVec 8)) (g : Nat) : ∃ x : List (BitVec 8), x = Su.pub (own k g) ∧ x.length = 32 := ⟨_, rfl, Go.Proofs.YtgclegdgngldoaaDoor.pub_len _⟩
noncomputable def pub (k : List (BitVec 8)) (g : Nat) : List (BitVec 8) := Classical.choose (pub_ex k g)
theorem pub_eq (k : List (BitVec 8)) (g : Nat) : pub k g = Su.pub (own k g) := (Classical.choose_spec (pub_ex k g)).1
@[simp] theorem pub_len (k : List (BitVec 8)) (g : Nat) : (pub k g).length = 32 := (Classical.choose_spec (pub_ex k g)).2
end Ep
end Go.Proofs.YtgclegdgngldoaaDoor
