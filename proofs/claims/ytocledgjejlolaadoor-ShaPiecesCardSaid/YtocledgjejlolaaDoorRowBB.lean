/-
  An argument that is a slice of slices of bytes; own work.
-/
import Derived.Test.YtocledgjejlolaaDoorRowKit
import Derived.Test.YtocledgjejlolaaDoorLaw3e
import Derived.Deep.Matrix
set_option linter.unusedSimpArgs false
set_option linter.unusedVariables false
namespace Go.Proofs.YtocledgjejlolaaDoor
open Go.ChangeShapes Go.WideShapes Go.ChangeAt Go.RowKit

theorem cellsB : Tryd.prog.cellsOf 22 = 1 := by kernel_rfl
theorem cellsb : Tryd.prog.cellsOf 5 = 1 := by kernel_rfl
theorem bbs_of_trod {H : Type} {enc : TypeId × Value → H} {W : World} {a : Option Addr} {len cap : Nat} {d : DataW H} {p : List MemPlace} (h : DataW.Trod enc Tryd.prog W 0 (fun _ => true) true 28 (.slice a len cap) d p) :
    ∃ L : List (List (BitVec 8)), BBS W (.slice a len cap) L := by
  obtain ⟨fuel, hf⟩ := h
  rcases Go.Deep.open_int_rows Tryd.underlying28 Tryd.underlying22 Tryd.underlying5 cellsB cellsb hf with ⟨hcs, _⟩ | ⟨x, l, c, A, L, C, Z, hcs, _, hl, hm, _, hrow⟩
  · simp [Value.cells] at hcs
    obtain ⟨rfl, rfl, rfl⟩ := hcs
    exact ⟨[], none, 0, rfl, Nat.le_refl _, fun h => by simp at h⟩
  · simp [Value.cells] at hcs
    obtain ⟨rfl, rfl, rfl⟩ := hcs
    have each : ∀ r, ∃ li : List (BitVec 8), r < cap → BS W (.slice (A r) (L r) (C r)) li := fun r => by
      by_cases hr : r < cap
      · obtain ⟨h1, h2, h3, h4, h5, h6, h7⟩ := hrow r hr
        have hb : ∃ li : List (BitVec 8), li.length = L r ∧ BS W (.slice (A r) (L r) (C r)) li := by
          cases hA : A r with
          | none =>
            have hc := h6 hA
            have hl0 : L r = 0 := by omega
            rw [hl0, hc]
            exact bs_of_ints (zs := []) (.inl ⟨rfl, rfl, rfl, rfl⟩)
          | some y => exact bs_of_ints (zs := Z r) (.inr ⟨y, rfl, h2, h3, h4, fun i hi => (h7 y hA).2 i (by omega), h5⟩)
        obtain ⟨li, _, h8⟩ := hb
        exact ⟨li, fun _ => h8⟩
      · exact ⟨[], fun h => absurd h hr⟩
    obtain ⟨F, hF⟩ := Classical.axiomOfChoice each
    refine ⟨(List.range len).map F, some x, cap, by simp, by simpa using hl, fun h0 => ?_⟩
    simp only [List.length_map, List.length_range] at h0 ⊢
    obtain ⟨b, off, spot⟩ := x
    have hc0 := (hrow 0 (by omega)).1
    have hspot : spot = none := by simpa [Addr.add] using World.cell?_spot hc0
    subst hspot
    have e1 : ∀ i, (⟨b, off, none⟩ : Addr).add i = ⟨b, off + i, none⟩ := fun i => by simp [Addr.add]
    rw [e1] at hc0
    refine ⟨b, off, rfl, block_lt_of_cell hc0, fun i hi => ⟨A i, L i, C i, ?_, ?_⟩⟩
    · have := (hrow i (by omega)).1
      rwa [e1] at this
    · rw [List.getD_eq_getElem?_getD, List.getElem?_map, List.getElem?_range hi]
      exact hF i (by omega)
end Go.Proofs.YtocledgjejlolaaDoor
