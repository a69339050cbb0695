/-
  Walks of reference 04: the bytes of a key, bytes joined, a tag's first half; own work.
-/
import Derived.Test.YtbigmnhjnjeeaaaDoorStr
set_option linter.unusedSimpArgs false
set_option linter.unusedVariables false
namespace Go.Proofs.YtbigmnhjnjeeaaaDoor
open Go.RowKit

theorem row_cell {w : World} {g : Nat} {L : List (BitVec 8)} (h : w.rowOf g = cs U8 L) (i : Nat) (hi : i < L.length) : w.cell? ⟨g, i, none⟩ = some (U8 (L.getD i 0)) := by
  rw [cell_rowOf, h, cs_get_lt hi, List.getD_eq_getElem?_getD, List.getElem?_eq_getElem hi]; rfl
theorem take_succ_getD {α : Type} (l : List α) (d : α) (i : Nat) (h : i < l.length) : l.take (i + 1) = l.take i ++ [l.getD i d] := by
  rw [List.take_succ_eq_append_getElem h, List.getD_eq_getElem?_getD, List.getElem?_eq_getElem h]; rfl
set_option maxRecDepth 100000 in
set_option maxHeartbeats 1000000 in
theorem rbytes_any (w : World) (l : List (BitVec 8)) (hl : l.length = 32) :
    Calls Tryd.prog 48 #[.agg (cs U8 l)] w fun e w' => ∃ u, e = .returned u ∧ OB w' w.heap.size u l ∧ Below w.heap.size w w' := by
  have HL := hid hl
  go_enter Tryd.func48, Tryd.ntmps48
  go_wp2_with fail
  have ha : Below w.heap.size w (w.alloc (.cells (cs U8 l) 23)) := (Below.refl _ _).alloc (Nat.le_refl _) _
  have hra : (w.alloc (.cells (cs U8 l) 23)).rowOf w.heap.size = cs U8 l := rowOf_alloc_at _ _ _ rfl
  have hsa : (w.alloc (.cells (cs U8 l) 23)).heap.size = w.heap.size + 1 := by simp
  obtain ⟨wa, hwa⟩ : ∃ wa, wa = w.alloc (.cells (cs U8 l) 23) := ⟨_, rfl⟩
  rw [← hwa] at ha hra hsa
  rw [← hwa]
  have HR := hid hra
  clear hwa hra hl
  go_loopw [3, 4] (fun u t wr => ∃ i : Nat, i ≤ 32 ∧ t = .int .i64 i ∧ OB wr (w.heap.size + 1) u (l.take i) ∧ Below (w.heap.size + 1) wa wr) (fun _ t _ => 32 - (intOf t).toNat)
  case atStart => exact ⟨0, by omega, rfl, OB.nil _ _, Below.refl _ _⟩
  case round =>
    obtain ⟨i, hi, rfl, hov, hbw⟩ := hrel
    have hz := hbw.size
    by_cases hlt : i < 32
    · have k1 := row_cell ((below_row hbw (by omega)).trans HR.out) i (by rw [HL.out]; exact hlt)
      have q0 : (0 : Int) ≤ i := by omega
      have q1 : (i : Int) < 32 := by omega
      have hlen : Hid ((l.take i).length + 1 ≤ 140737488355328) := hid (by simp; omega)
      have hts := hid (take_succ_getD l 0 i (by rw [HL.out]; exact hlt))
      go_wp2_with (refine wpList_apb rfl (.tmp 9) (.tmp 13) rfl (w.heap.size + 1) _ _ (l.take i) [l.getD i 0] rfl (OB.alloc hov _) rfl (BS.one _ _ _ rfl _) hlen.out (by simp; omega) ?_; rintro v3 w4 hown3 hg3 -; have HB4 := ob_below1 _ hbw hov (by omega) hg3)
      go_roundw
      case rel => exact ⟨i + 1, by omega, by go_num, by rw [hts.out]; exact hown3, HB4⟩
      case measure => simp [intOf]; omega
    · have : i = 32 := by omega
      subst this
      have e32 : l.take 32 = l := List.take_of_length_le (by rw [HL.out]; exact Nat.le_refl _)
      rw [e32] at hov
      have HV := hid hov
      clear hov e32
      go_wp2_with fail
      go_ret
      exact ⟨_, rfl, HV.out.mono (by omega), ha.trans (hbw.mono (by omega))⟩
set_option maxRecDepth 100000 in
set_option maxHeartbeats 1000000 in
theorem rjoin_any (w : World) (v1 v2 : Value) (a b : List (BitVec 8)) (h1 : BS w v1 a) (h2 : BS w v2 b) (hn : a.length + b.length ≤ 140737488355328) :
    Calls Tryd.prog 60 #[v1, v2] w fun e w' => ∃ u, e = .returned u ∧ OB w' w.heap.size u (a ++ b) ∧ Below w.heap.size w w' := by
  have H1 := hid h1; have H2 := hid h2; have HN := hid hn
  clear h1 h2 hn
  go_enter Tryd.func60, Tryd.ntmps60
  have he : OB (w.alloc (.cells #[] 5)) w.heap.size (.slice (some ⟨w.heap.size, 0, none⟩) 0 0) [] := ⟨rfl, .inr ⟨w.heap.size, 0, #[], rfl, Nat.le_refl _, heap_new' _, Nat.le_refl _, Nat.zero_le _, rfl, rfl⟩⟩
  have hb0 : Below w.heap.size w (w.alloc (.cells #[] 5)) := (Below.refl _ _).alloc (Nat.le_refl _) _
  go_wp2_with (first
    | (refine wpList_apb rfl (.tmp 6) (.tmp 7) rfl w.heap.size _ _ [] a rfl he rfl (SV.below H1.out hb0) (by have := HN.out; simp; omega) (by simp) ?_; rintro v3 w3 hown3 hg3 -; have hb3 : Below w.heap.size w w3 := ob_below hb0 he (by simp) hg3; have hz3 := hb3.size)
    | (refine wpList_apb rfl (.tmp 9) (.tmp 10) rfl w.heap.size _ _ ([] ++ a) b rfl hown3 rfl (SV.below H2.out hb3) (by have := HN.out; simp; omega) hz3 ?_; rintro v4 w4 hown4 hg4 -; have hb4 : Below w.heap.size w w4 := ob_below hb3 hown3 hz3 hg4))
  go_ret
  exact ⟨_, rfl, by simpa using hown4, hb4⟩
end Go.Proofs.YtbigmnhjnjeeaaaDoor
