/-
  Law 14: EpochOverlap; own work.
-/
import Derived.Test.YtgclegdgngldoaaDoorL14b
set_option linter.unusedSimpArgs false
set_option linter.unusedVariables false
namespace Go.Proofs.YtgclegdgngldoaaDoor
open Go.RowKit Fp
namespace Ep
theorem Good.hd {L : List Sl} {last : Nat} (h : Good L last) : ∃ a, L[0]? = some a ∧ gen0 L = a.gen ∧ a.made ≤ last := by
  rcases h.two with ⟨a, rfl, h1, _⟩ | ⟨a, b, rfl, h1, _⟩ <;> exact ⟨a, rfl, rfl, h1⟩
theorem Good.la {L : List Sl} {last : Nat} (h : Good L last) : ∃ s, L[L.length - 1]? = some s ∧ s.gen ≤ gen0 L := by
  rcases h.two with ⟨a, rfl, h1, _⟩ | ⟨a, b, rfl, h1, h2, _⟩
  · exact ⟨a, rfl, Nat.le_refl _⟩
  · exact ⟨b, rfl, by simp [gen0]; omega⟩
/-- what is the newest one at a tick is open for 512 ticks more -/
theorem over {x s z : Nat} (hs : x ≤ s) (hz : s ≤ z) (hz2 : z ≤ s + 512) {a : Sl} (ha : (tick [⟨0, x⟩] s)[0]? = some a) : ∃ sl ∈ tick (tick [⟨0, x⟩] s) z, sl.gen = a.gen := by
  obtain ⟨L, hL⟩ : ∃ L, tick [⟨0, x⟩] s = L := ⟨_, rfl⟩
  rw [hL] at ha ⊢
  have hm : a ∈ L := List.mem_of_getElem? ha
  have hgr : a.made / 1024 = s / 1024 := by
    rw [← hL] at ha
    unfold tick grow at ha
    by_cases h : x / 1024 < s / 1024
    · have hl : live s ⟨0 + 1, s⟩ = true := by unfold live fin; simp only [decide_eq_true_eq]; omega
      simp only [h, if_true] at ha
      rw [List.filter_cons, if_pos hl] at ha
      simp at ha; subst ha; rfl
    · have hl : live s ⟨0, x⟩ = true := by unfold live fin; simp only [decide_eq_true_eq]; omega
      simp only [h, if_false] at ha
      rw [List.filter_cons, if_pos hl] at ha
      simp at ha; subst ha; show x / 1024 = _; omega
  have hlv : live z a = true := by unfold live fin; simp only [decide_eq_true_eq]; omega
  refine ⟨a, ?_, rfl⟩
  unfold tick
  rw [List.mem_filter]
  refine ⟨?_, hlv⟩
  cases L with
  | nil => cases hm
  | cons y r =>
    unfold grow
    simp only
    split
    · exact List.mem_cons_of_mem _ hm
    · exact hm
end Ep
/-- two numbers, as they lie -/
def A2 (x y : Int) : Array Value := #[.int .u32 x, .int .u32 y]
theorem inf_a2 : (Tryd.prog.info? 68).map (·.size) = some 2 := by kernel_rfl
section
variable (ρ : Operand → Value) (dst : Option Tmp) (ty : TypeId) (pos : String) (after : Array Edge) (guard : Option (Nat × Bool)) (w : World)
@[go_sem ↓] theorem rl_a2 (x : Operand) : (execOp ρ { dst, op := .load 68 x, type := ty, pos, after, guard }).run Tryd.prog w = exLoad Tryd.prog 68 (ρ x) w := x_load ..
@[go_sem ↓] theorem rs_a2 (x y : Operand) : (execOp ρ { dst, op := .store 68 x y, type := ty, pos, after, guard }).run Tryd.prog w = exStore Tryd.prog 68 (ρ x) (ρ y) w := x_store ..
@[go_sem ↓] theorem ra_a2 : (execOp ρ { dst, op := .alloc 68, type := ty, pos, after, guard }).run Tryd.prog w = .ok (.value (.pointer (some ⟨w.heap.size, 0, none⟩))) (w.alloc (.cells (A2 0 0) 68)) :=
  (x_alloc ..).trans (x_alloc0 (v := .agg (A2 0 0)) _ (by kernel_rfl))
@[go_sem] theorem xl_a2 (b : Nat) (h : (w.rowOf b).size = 2) : exLoad Tryd.prog 68 (.pointer (some ⟨b, 0, none⟩)) w = .ok (.value (.agg (w.rowOf b))) w := x_load0 _ Tryd.underlying68 rfl inf_a2 b h
@[go_sem] theorem xlm_a2 (b o : Nat) (ho : 0 < o) (h : o + 2 ≤ (w.rowOf b).size) : exLoad Tryd.prog 68 (.pointer (some ⟨b, o, none⟩)) w = .ok (.value (.agg ((w.rowOf b).extract o (o + 2)))) w := x_loadm _ Tryd.underlying68 rfl inf_a2 b o h
@[go_sem] theorem xs_a2 (b : Nat) (c : Array Value) (hl : c.size = 2) (h1 : ones c = true) (h : (w.rowOf b).size = 2) (hf : w.free b = true) : exStore Tryd.prog 68 (.pointer (some ⟨b, 0, none⟩)) (.agg c) w = .ok .skip (w.setRow b c) :=
  x_store0 _ inf_a2 b c hl h hf (ones_all h1)
@[go_sem] theorem xsm_a2 (b o : Nat) (ho : 0 < o) (c : Array Value) (hl : c.size = 2) (h1 : ones c = true) (h : o + 2 ≤ (w.rowOf b).size) (hf : w.free b = true) : exStore Tryd.prog 68 (.pointer (some ⟨b, o, none⟩)) (.agg c) w = .ok .skip (w.setSeg b o c) :=
  x_storem _ inf_a2 b o c hl h hf (ones_all h1)
end
theorem el66 {S : Nat → Prop} {w0 : World} {B n g c1 : Nat} {k : L8} {L : List Ep.Sl} {v : Value} {cur : Array Value} (R : Rw B 66 v n (fl (e66 k) L) g c1 cur) (hn : L.length = n) {i : Nat} {s : Ep.Sl} (hs : L[i]? = some s) :
    Hid (∀ H w', Mm S w0 H w' → (g, cur) ∈ H → exLoad Tryd.prog 66 (.pointer (some ⟨g, i * 66, none⟩)) w' = .ok (.value (.agg (EPS k s))) w') :=
  hid fun H w' M hm => p66 Tryd.underlying66 rfl inf_eps R M hm hn i hs 0 (by decide) (EPS k s) (e66_all k s)
attribute [local irreducible] ESL EPS ROR A2
end Go.Proofs.YtgclegdgngldoaaDoor
