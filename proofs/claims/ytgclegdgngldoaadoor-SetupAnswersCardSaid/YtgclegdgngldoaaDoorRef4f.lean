/-
  Walk of reference 04: one secret; own work.
-/
import Derived.Test.YtgclegdgngldoaaDoorRef4e
set_option linter.unusedSimpArgs false
set_option linter.unusedVariables false
namespace Go.Proofs.YtgclegdgngldoaaDoor
open Go.RowKit

set_option maxHeartbeats 1000000 in
theorem rextract_any (w : World) (v0 v1 : Value) (k m : List (BitVec 8)) (h0 : BS w v0 k) (h1 : BS w v1 m) (hkl : k.length ≤ 1073740000) (hml : m.length ≤ 1073740000) :
    Calls Tryd.prog 55 #[v0, v1] w fun e w' => e = .returned (.agg (cs U8 (Sh.mac k m))) ∧ Below w.heap.size w w' := by
  obtain ⟨D, hD⟩ : ∃ D, D = Sh.mac k m := ⟨_, rfl⟩
  have hDl : D.length = 32 := by rw [hD]; rfl
  rw [← hD]
  have ha : Below w.heap.size w (w.alloc (.cells (cs U8 (zs 32)) 23)) := (Below.refl _ _).alloc (Nat.le_refl _) _
  have hC := rmacD hD (w := w.alloc (.cells (cs U8 (zs 32)) 23)) (SV.below h0 ha) (SV.below h1 ha) hkl hml
  have HC := hid hC
  clear hD hC h0 h1
  go_enter Tryd.func55, Tryd.ntmps55
  go_wp2_with fail
  with_reducible refine (HC.out).mono ?_
  rintro e w1 ⟨rfl, hb1⟩
  have hr1 : w1.rowOf w.heap.size = cs U8 (zs 32) := (below_row hb1 (by simp)).trans (rowOf_alloc_at _ _ _ rfl)
  have hf1 : w1.free w.heap.size = true := (below_free hb1 (by simp)).trans (free_alloc_at _ _ _ rfl)
  have HB := hid (ha.trans (hb1.mono (by simp)))
  clear hb1 ha
  dsimp only
  go_wp2_with fail
  refine bodyPost_ret (res_row (b := w.heap.size) rfl Tryd.underlying23 rfl inf_key _ _ rfl ?_) rfl ?_
  · rw [rowOf_setRow_same _ hf1]; simp [hDl]
  · rw [rowOf_setRow_same _ hf1]
    exact ⟨rfl, below_setRow' HB.out (Nat.le_refl _) _⟩
end Go.Proofs.YtgclegdgngldoaaDoor
