/-
  Walks of reference 04: a tag's first half, and the tag; own work.
-/
import Derived.Test.YtbigmnhjnjeeaaaDoorHmac1
import Derived.Test.YtbigmnhjnjeeaaaDoorRef4a
set_option linter.unusedSimpArgs false
set_option linter.unusedVariables false
namespace Go.Proofs.YtbigmnhjnjeeaaaDoor
open Go.RowKit

/-- the first i of n bytes are there -/
def fil (l : List (BitVec 8)) (n i : Nat) : List (BitVec 8) := l.take i ++ zs (n - i)
theorem fil_len (l : List (BitVec 8)) (n i : Nat) (hl : n ≤ l.length) (hi : i ≤ n) : (fil l n i).length = n := by simp [fil]; omega
theorem fil_set (l : List (BitVec 8)) (n i : Nat) (hl : n ≤ l.length) (hi : i < n) : (fil l n i).set i (l.getD i 0) = fil l n (i + 1) := by
  have e1 : (l.take i).length = i := by simp; omega
  have e2 : (zs (n - i) : List (BitVec 8)) = 0 :: zs (n - (i + 1)) := by unfold zs; rw [show n - i = (n - (i + 1)) + 1 by omega, List.replicate_succ]
  unfold fil
  rw [List.set_append_right _ _ (by omega), e1, Nat.sub_self, e2, List.set_cons_zero, take_succ_getD l 0 i (by omega), List.append_assoc]
  rfl
theorem fil_zero (l : List (BitVec 8)) (n : Nat) : fil l n 0 = zs n := by simp [fil]
theorem fil_all (l : List (BitVec 8)) (n : Nat) : fil l n n = l.take n := by simp [fil, zs]
attribute [local irreducible] fil
set_option maxRecDepth 100000 in
set_option maxHeartbeats 1000000 in
theorem rshort_any (w : World) (l : List (BitVec 8)) (hl : l.length = 32) :
    Calls Tryd.prog 46 #[.agg (cs U8 l)] w fun e w' => e = .returned (.agg (cs U8 (l.take 16))) ∧ Below w.heap.size w w' := by
  have HL := hid hl
  clear hl
  go_enter Tryd.func46, Tryd.ntmps46
  go_wp2_with fail
  obtain ⟨wa, hwa⟩ : ∃ wa, wa = ((w.alloc (.cells (cs U8 l) 23)).alloc (.cells (cs U8 (zs 16)) 40)).alloc (.cells (cs U8 (zs 16)) 40) := ⟨_, rfl⟩
  have ha : Below w.heap.size w wa := by rw [hwa]; exact (((Below.refl _ _).alloc (Nat.le_refl _) _).alloc (by simp) _).alloc (by simp; omega) _
  have r0 : wa.rowOf w.heap.size = cs U8 l := by rw [hwa]; simp [go_sem]
  have r1 : wa.rowOf (w.heap.size + 1) = cs U8 (zs 16) := by rw [hwa]; simp [go_sem]
  have f1 : wa.free (w.heap.size + 1) = true := by rw [hwa]; simp [go_sem]
  have r2 : wa.rowOf (w.heap.size + 2) = cs U8 (zs 16) := by rw [hwa]; exact rowOf_alloc_at _ _ _ (by simp)
  have f2 : wa.free (w.heap.size + 2) = true := by rw [hwa]; exact free_alloc_at _ _ _ (by simp)
  rw [← hwa]
  have R0 := hid r0; have R1 := hid r1; have R2 := hid r2
  clear r0 r1 r2 hwa
  go_loopw [4] (fun t wr => ∃ i : Nat, i ≤ 16 ∧ t = .int .i64 i ∧ wr.rowOf (w.heap.size + 2) = cs U8 (fil l 16 i) ∧ wr.free (w.heap.size + 2) = true ∧ Below (w.heap.size + 2) wa wr) (fun t _ => 16 - (intOf t).toNat)
  case atStart => exact ⟨0, by omega, rfl, by rw [fil_zero]; exact R2.out, f2, Below.refl _ _⟩
  case round =>
    obtain ⟨i, hi, rfl, hrow, hfr, hbw⟩ := hrel
    by_cases hlt : i < 16
    · have k1 := row_cell ((below_row hbw (by omega)).trans R0.out) i (by rw [HL.out]; omega)
      have q0 : (0 : Int) ≤ i := by omega
      have q1 : (i : Int) < 16 := by omega
      have q2 : (i : Int) < 32 := by omega
      have hrs : (wr.rowOf (w.heap.size + 2)).size = 16 := by rw [hrow]; simp [fil_len l 16 i (by rw [HL.out]; omega) (by omega)]
      have HROW := hid hrow
      clear hrow
      go_wp2_with fail
      go_roundw
      case rel => exact ⟨i + 1, by omega, by go_num, by rw [rowOf_setRow_same _ hfr, HROW.out, cs_set8]; exact congrArg _ (by simpa using fil_set l 16 i (by rw [HL.out]; omega) hlt), by rw [free_setRow]; exact hfr, below_setRow' hbw (Nat.le_refl _) _⟩
      case measure => simp [intOf]; omega
    · have : i = 16 := by omega
      subst this
      have hT : (l.take 16).length = 16 := by simp; rw [HL.out]; omega
      have g1 : wr.rowOf (w.heap.size + 1) = cs U8 (zs 16) := (below_row hbw (by omega)).trans R1.out
      have g2 : wr.free (w.heap.size + 1) = true := (below_free hbw (by omega)).trans f1
      rw [fil_all] at hrow
      have HB := hid (ha.trans (hbw.mono (by omega)))
      clear hbw ha
      go_wp2_with fail
      refine bodyPost_ret (res_row (b := w.heap.size + 1) rfl Tryd.underlying40 rfl inf_tag _ _ rfl ?_) rfl ?_
      · rw [rowOf_setRow_same _ g2, cs_size]; exact hT
      · rw [rowOf_setRow_same _ g2]
        exact ⟨rfl, below_setRow' HB.out (by omega) _⟩
end Go.Proofs.YtbigmnhjnjeeaaaDoor
