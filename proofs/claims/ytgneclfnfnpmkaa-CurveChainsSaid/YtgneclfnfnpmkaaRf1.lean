/-
  Walks of reference 01: digits; own work.
-/
import Derived.Test.YtgneclfnfnpmkaaInt
import Derived.Test.YtgneclfnfnpmkaaRfM
set_option linter.unusedSimpArgs false
set_option linter.unusedVariables false
namespace Go.Proofs.Ytgneclfnfnpmkaa
open Go.RowKit Fp

def pr (i : Nat) : Nat := if i = 0 then 237 else if i = 31 then 127 else 255
set_option maxHeartbeats 1000000 in
theorem rprime_any (w : World) (i : Nat) (hi : i < 32) :
    Calls Try.prog 48 #[.int .i64 i] w fun e w' => e = .returned (I64 (pr i)) ∧ w = w' := by
  by_cases h0 : i = 0
  · subst h0
    go_enter Try.func48, Try.ntmps48
    go_wp2_with fail
    go_ret
    exact ⟨rfl, rfl⟩
  · by_cases h1 : i = 31
    · subst h1
      clear h0
      go_enter Try.func48, Try.ntmps48
      go_wp2_with fail
      go_ret
      exact ⟨rfl, rfl⟩
    · have e0 : ((i : Int) == 0) = false := by simp; omega
      have e1 : ((i : Int) == 31) = false := by simp; omega
      have e : pr i = 255 := by unfold pr; rw [if_neg h0, if_neg h1]
      rw [e]
      clear h0 h1 e
      go_enter Try.func48, Try.ntmps48
      go_wp2_with fail
      go_ret
      exact ⟨rfl, rfl⟩
theorem take_map_succ (a : List (BitVec 8)) (i : Nat) (h : i < a.length) : (a.take (i + 1)).map (·.toNat) = (a.take i).map (·.toNat) ++ [(g8 a i).toNat] := by
  rw [List.take_succ_eq_append_getElem h, List.map_append]
  unfold g8
  rw [List.getD_eq_getElem?_getD, List.getElem?_eq_getElem h]; rfl
set_option maxRecDepth 100000 in
set_option maxHeartbeats 1000000 in
theorem rdigits_any (w : World) (a : List (BitVec 8)) (ha : a.length = 32) :
    Calls Try.prog 45 #[.agg (cs U8 a)] w fun e w' => ∃ u, e = .returned u ∧ OI w' w.heap.size u (a.map (·.toNat)) ∧ Below w.heap.size w w' := by
  have M0 := Mm.start no w
  have M1 := M0.alloc (cs U8 a) 23 (by decide)
  have HA := hid ha
  clear ha
  go_enter Try.func45, Try.ntmps45
  go_wp2_with fail
  obtain ⟨w1, hw1⟩ : ∃ w1, w1 = w.alloc (.cells (cs U8 a) 23) := ⟨_, rfl⟩
  have hz1 : w1.heap.size = w.heap.size + 1 := by rw [hw1]; simp
  rw [← hw1] at M1 ⊢
  have HZ := hid hz1
  clear hw1 hz1
  go_loopw [3, 4] (fun u t wr => ∃ i : Nat, i ≤ 32 ∧ t = .int .i64 i ∧ OI wr (w.heap.size + 1) u ((a.take i).map (·.toNat)) ∧ Below (w.heap.size + 1) w1 wr) (fun _ t _ => 32 - (intOf t).toNat)
  case atStart => exact ⟨0, by omega, rfl, OI.nil _ _, Below.refl _ _⟩
  case round =>
    obtain ⟨i, hi, rfl, hov, hbw⟩ := hrel
    have hz := hbw.size
    have hz1 := HZ.out
    by_cases hlt : i < 32
    · have k1 := cell_g8 ((below_row hbw (by omega)).trans (M1.row (b := w.heap.size) (c := cs U8 a) (by simp))) (i := i) (by rw [HA.out]; exact hlt)
      have q0 : (0 : Int) ≤ i := by omega
      have q1 : (i : Int) < 32 := by omega
      have hlen : Hid (((a.take i).map (·.toNat)).length + 1 ≤ 1073741824) := hid (by simp; omega)
      have hts := hid (take_map_succ a i (by rw [HA.out]; exact hlt))
      clear hz1
      go_wp2_with (refine wpList_api rfl (.tmp 9) (.tmp 14) rfl (w.heap.size + 1) _ _ ((a.take i).map (·.toNat)) [(g8 a i).toNat] rfl (OI.alloc hov _) rfl (IS.one _ _ _ rfl _) hlen.out (by have := HZ.out; simp; omega) ?_; rintro v3 w4 hown3 hg3 -; have HB4 := oi_below1 _ hbw hov (by have := HZ.out; omega) hg3)
      go_roundw
      case rel => exact ⟨i + 1, by omega, by go_num, by rw [hts.out]; exact hown3, HB4⟩
      case measure => simp [intOf]; omega
    · have : i = 32 := by omega
      subst this
      have e32 : a.take 32 = a := List.take_of_length_le (by rw [HA.out]; exact Nat.le_refl _)
      rw [e32] at hov
      have HV := hid hov
      clear hov e32
      go_wp2_with fail
      go_ret
      exact ⟨_, rfl, HV.out.mono (by omega), M1.end_.trans (hbw.mono (by omega))⟩
end Go.Proofs.Ytgneclfnfnpmkaa
