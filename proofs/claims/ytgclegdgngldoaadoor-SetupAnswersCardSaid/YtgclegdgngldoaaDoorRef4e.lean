/-
  Walk of reference 04: a key for a purpose; own work.
-/
import Derived.Test.YtgclegdgngldoaaDoorRef4d
set_option linter.unusedSimpArgs false
set_option linter.unusedVariables false
namespace Go.Proofs.YtgclegdgngldoaaDoor
open Go.RowKit

def Sh.pig : List (BitVec 8) := [112, 105, 103, 101, 111, 110, 114, 121, 32]
def Sh.derive (k label : List (BitVec 8)) : List (BitVec 8) := Sh.expand k (Sh.pig ++ label) 32
theorem expand_len (k i : List (BitVec 8)) (n : Nat) : (Sh.expand k i n).length = n := by
  unfold Sh.expand; rw [List.length_take, okm_len]; omega
theorem derive_len (k i : List (BitVec 8)) : (Sh.derive k i).length = 32 := expand_len ..
theorem pig_str (l : List (BitVec 8)) : Value.string (⟨#[112, 105, 103, 101, 111, 110, 114, 121, 32]⟩ ++ Bs l) = Sv (Sh.pig ++ l) := by
  unfold Sv; rw [← Bs_append]; rfl
theorem rexpand_c (c : Int) (n : Nat) (hc : (n : Int) = c) (w : World) (l info : List (BitVec 8)) (v : Value) (hl : l.length = 32) (hv : BS w v info) (hil : info.length ≤ 1073730000) (hn : n ≤ 8160) :
    Calls Tryd.prog 74 #[.agg (cs U8 l), v, .int .i64 c] w fun e w' => ∃ u, e = .returned (.tuple #[u, .int .i64 0]) ∧ BS w' u (Sh.expand l info n) ∧ Below w.heap.size w w' := by
  rw [← hc]; exact rexpand_any w l info v n hl hv hil hn
theorem fil_get (l : List (BitVec 8)) : (fil l 32 32) = l.take 32 := fil_all l 32
set_option maxRecDepth 100000 in
set_option maxHeartbeats 2000000 in
theorem rderive_any (w : World) (l lab : List (BitVec 8)) (hl : l.length = 32) (hil : lab.length ≤ 1073700000) :
    Calls Tryd.prog 54 #[.agg (cs U8 l), .string (Bs lab)] w fun e w' => e = .returned (.agg (cs U8 (Sh.derive l lab))) ∧ Below w.heap.size w w' := by
  obtain ⟨D, hD⟩ : ∃ D, D = Sh.derive l lab := ⟨_, rfl⟩
  have hDl : D.length = 32 := by rw [hD]; exact derive_len ..
  rw [← hD]
  have HD : Hid (Sh.expand l (Sh.pig ++ lab) 32 = D) := hid (by rw [hD]; rfl)
  have HL := hid hl; have HDL := hid hDl
  have hcat := pig_str lab
  obtain ⟨M, hM⟩ : ∃ M, M = Sh.pig ++ lab := ⟨_, rfl⟩
  have hMl : M.length = 9 + lab.length := by rw [hM, List.length_append]; rfl
  rw [← hM] at HD hcat
  have HML := hid hMl
  clear hD hMl hM
  have ha : Below w.heap.size w ((w.alloc (.cells (cs U8 l) 23)).alloc (.cells (cs U8 (zs 32)) 23)) := ((Below.refl _ _).alloc (Nat.le_refl _) _).alloc (by simp) _
  have hr1 : ((w.alloc (.cells (cs U8 l) 23)).alloc (.cells (cs U8 (zs 32)) 23)).rowOf (w.heap.size + 1) = cs U8 (zs 32) := by simp [go_sem]
  have hf1 : ((w.alloc (.cells (cs U8 l) 23)).alloc (.cells (cs U8 (zs 32)) 23)).free (w.heap.size + 1) = true := by simp [go_sem]
  have hsa : ((w.alloc (.cells (cs U8 l) 23)).alloc (.cells (cs U8 (zs 32)) 23)).heap.size = w.heap.size + 2 := by simp
  obtain ⟨cap, w1, hrun, hbs, hb1, hz1⟩ := str_bytes ((w.alloc (.cells (cs U8 l) 23)).alloc (.cells (cs U8 (zs 32)) 23)) M
  rw [hsa] at hb1 hz1 hrun hbs
  have HBS := hid (hbs (by unfold maxLen; rw [HML.out]; omega))
  have HR1 : Hid (w1.rowOf (w.heap.size + 1) = cs U8 (zs 32)) := hid ((below_row hb1 (by omega)).trans hr1)
  have HF1 : Hid (w1.free (w.heap.size + 1) = true) := hid ((below_free hb1 (by omega)).trans hf1)
  have HB1 : Hid (Below w.heap.size w w1) := hid (ha.trans (hb1.mono (by omega)))
  rw [HML.out] at hrun HBS
  unfold Sv at hrun
  clear hr1 hf1 hbs hDl hsa ha hb1
  unfold Sv at hcat
  have hbl : (Bs lab).size ≤ 1073700000 := by rw [Bs_size]; exact hil
  go_enter Tryd.func54, Tryd.ntmps54
  go_wp2_with fail
  have HC := hid hcat
  clear hcat hrun
  have hb0 : w.heap.size + 3 ≤ w1.heap.size := by omega
  with_reducible refine (rexpand_c 32 32 rfl w1 l M _ HL.out HBS.out (by rw [HML.out]; omega) (by decide)).mono ?_
  rintro e w2 ⟨u2, rfl, hu2, hb2⟩
  rw [HD.out] at hu2
  obtain ⟨bu, ou, cu, rfl, hcu, hcell⟩ := hu2.open (by intro e; have := HDL.out; rw [e] at this; cases this)
  rw [HDL.out] at hcu hcell ⊢
  have hz2 := hb2.size
  have HR2 : Hid (w2.rowOf (w.heap.size + 1) = cs U8 (zs 32)) := hid ((below_row hb2 (by omega)).trans HR1.out)
  have HF2 : Hid (w2.free (w.heap.size + 1) = true) := hid ((below_free hb2 (by omega)).trans HF1.out)
  have HB2 : Hid (Below w.heap.size w w2) := hid (HB1.out.trans (hb2.mono (by omega)))
  have HU2 := hid hu2
  have hbu : bu < w2.heap.size := block_lt_of_cell (hcell 0 (by omega))
  have HCELL := hid hcell
  clear hu2 hcell hb2
  dsimp only
  go_wp2_with fail
  obtain ⟨w3, hw3⟩ : ∃ w3, w3 = w2.alloc (.cells (cs U8 (zs 32)) 23) := ⟨_, rfl⟩
  have hr3 : w3.rowOf w2.heap.size = cs U8 (zs 32) := by rw [hw3]; exact rowOf_alloc_at _ _ _ rfl
  have hf3 : w3.free w2.heap.size = true := by rw [hw3]; exact free_alloc_at _ _ _ rfl
  have hb3 : Below w2.heap.size w2 w3 := by rw [hw3]; exact (Below.refl _ _).alloc (Nat.le_refl _) _
  have hz3 : w3.heap.size = w2.heap.size + 1 := by rw [hw3]; simp
  rw [← hw3]
  have HR3 := hid hr3; have HB3 := hid hb3
  clear hw3 hr3 hb3
  go_loopw [8] (fun t wr => ∃ i : Nat, i ≤ 32 ∧ t = .int .i64 i ∧ wr.rowOf w2.heap.size = cs U8 (fil D 32 i) ∧ wr.free w2.heap.size = true ∧ Below w2.heap.size w3 wr) (fun t _ => 32 - (intOf t).toNat)
  case atStart => exact ⟨0, by omega, rfl, by rw [fil_zero]; exact HR3.out, hf3, Below.refl _ _⟩
  case round =>
    obtain ⟨i, hi, rfl, hrow, hfr, hbw⟩ := hrel
    by_cases hlt : i < 32
    · have k1 : wr.cell? ⟨bu, ou + i, none⟩ = some (U8 (D.getD i 0)) := (hbw.cell (p := ⟨bu, ou + i, none⟩) hbu).trans ((HB3.out.cell (p := ⟨bu, ou + i, none⟩) hbu).trans (HCELL.out i hlt))
      have q0 : (0 : Int) ≤ i := by omega
      have q1 : (i : Int) < 32 := by omega
      have hrs : (wr.rowOf w2.heap.size).size = 32 := by rw [hrow]; simp [fil_len D 32 i (by rw [HDL.out]; omega) (by omega)]
      have HROW := hid hrow
      clear hrow
      go_wp2_with fail
      go_roundw
      case rel => exact ⟨i + 1, by omega, by go_num, by rw [rowOf_setRow_same _ hfr, HROW.out, cs_set8]; exact congrArg _ (by simpa using fil_set D 32 i (by rw [HDL.out]; omega) hlt), by rw [free_setRow]; exact hfr, below_setRow' hbw (Nat.le_refl _) _⟩
      case measure => simp [intOf]; omega
    · have : i = 32 := by omega
      subst this
      have e32 : D.take 32 = D := List.take_of_length_le (by rw [HDL.out]; exact Nat.le_refl _)
      rw [fil_all, e32] at hrow
      have hDl := HDL.out
      have g1 : wr.rowOf (w.heap.size + 1) = cs U8 (zs 32) := (below_row hbw (by omega)).trans ((below_row HB3.out (by omega)).trans HR2.out)
      have g2 : wr.free (w.heap.size + 1) = true := (below_free hbw (by omega)).trans ((below_free HB3.out (by omega)).trans HF2.out)
      have HB := hid (HB2.out.trans ((HB3.out.trans hbw).mono (by omega)))
      clear hbw e32
      go_wp2_with fail
      refine bodyPost_ret (res_row (b := w.heap.size + 1) rfl Tryd.underlying23 rfl inf_key _ _ rfl ?_) rfl ?_
      · rw [rowOf_setRow_same _ g2, cs_size]; exact hDl
      · rw [rowOf_setRow_same _ g2]
        exact ⟨rfl, below_setRow' HB.out (by omega) _⟩
end Go.Proofs.YtgclegdgngldoaaDoor
