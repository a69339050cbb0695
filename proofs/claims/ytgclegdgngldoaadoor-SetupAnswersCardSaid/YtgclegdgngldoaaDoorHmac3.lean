/-
  Walks of package hmac: bytes alike, a tag's first half, one secret; own work.
-/
import Derived.Test.YtgclegdgngldoaaDoorHmac2
import Derived.Test.YtgclegdgngldoaaDoorRef4d
set_option linter.unusedSimpArgs false
set_option linter.unusedVariables false
namespace Go.Proofs.YtgclegdgngldoaaDoor
open Go.RowKit

attribute [go_sem] cs_extract
theorem take_eq_succ {a b : List (BitVec 8)} {i : Nat} (ha : i < a.length) (hb : i < b.length) : a.take (i + 1) = b.take (i + 1) ↔ a.take i = b.take i ∧ a.getD i 0 = b.getD i 0 := by
  rw [take_succ_getD a 0 i ha, take_succ_getD b 0 i hb]
  constructor
  · intro h
    have := List.append_inj h (by simp; omega)
    exact ⟨this.1, by simpa using this.2⟩
  · rintro ⟨h1, h2⟩; rw [h1, h2]
theorem or_xor_zero (d x y : BitVec 8) : d ||| (x ^^^ y) = 0 ↔ d = 0 ∧ x = y := by
  show d ||| (x ^^^ y) = 0#8 ↔ d = 0#8 ∧ x = y
  rw [BitVec.or_eq_zero_iff]
  constructor
  · rintro ⟨h1, h2⟩; exact ⟨h1, BitVec.xor_eq_zero_iff.1 h2⟩
  · rintro ⟨h1, h2⟩; exact ⟨h1, BitVec.xor_eq_zero_iff.2 h2⟩
set_option maxHeartbeats 1000000 in
theorem extract_any (w : World) (v0 v1 : Value) (k m : List (BitVec 8)) (hT : KT w) (hk0 : 0 < w.heap.size) (h0 : BS w v0 k) (h1 : BS w v1 m) (hkl : k.length ≤ 1073741000) (hml : m.length ≤ 1073741000) :
    Calls Tryd.prog 51 #[v0, v1] w fun e w' => e = .returned (.agg (cs U8 (Sh.mac k m))) ∧ Below w.heap.size w w' := by
  obtain ⟨D, hD⟩ : ∃ D, D = Sh.mac k m := ⟨_, rfl⟩
  have hDl : D.length = 32 := by rw [hD]; rfl
  rw [← hD]
  have HD := hid hD
  have ha : Below w.heap.size w (w.alloc (.cells (cs U8 (zs 32)) 23)) := (Below.refl _ _).alloc (Nat.le_refl _) _
  have hC := mac_any _ v0 v1 k m (hT.below ha hk0) (by have := ha.size; omega) (SV.below h0 ha) (SV.below h1 ha) hkl hml
  rw [← hD] at hC
  have HC := hid hC
  clear hD hC h0 h1
  go_enter Tryd.func51, Tryd.ntmps51
  go_wp2_with fail
  with_reducible refine (HC.out).mono ?_
  rintro e w1 ⟨rfl, hb1⟩
  have hr1 : w1.rowOf w.heap.size = cs U8 (zs 32) := (below_row hb1 (by simp)).trans (rowOf_alloc_at _ _ _ rfl)
  have hf1 : w1.free w.heap.size = true := (below_free hb1 (by simp)).trans (free_alloc_at _ _ _ rfl)
  have HB := hid (ha.trans (hb1.mono (by simp)))
  clear hb1 ha
  dsimp only
  go_wp2_with fail
  refine bodyPost_ret (res_row (b := w.heap.size) rfl Tryd.underlying23 rfl inf_key _ _ rfl ?_) rfl ?_
  · rw [rowOf_setRow_same _ hf1]; simp [hDl]
  · rw [rowOf_setRow_same _ hf1]
    exact ⟨rfl, below_setRow' HB.out (Nat.le_refl _) _⟩
end Go.Proofs.YtgclegdgngldoaaDoor
