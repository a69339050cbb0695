/-
  Walks of package hmac: bytes alike, a tag's first half, one secret; own work.
-/
import Derived.Test.YtbigmnhjnjeeaaaDoorHmac2
import Derived.Test.YtbigmnhjnjeeaaaDoorRef4a
set_option linter.unusedSimpArgs false
set_option linter.unusedVariables false
namespace Go.Proofs.YtbigmnhjnjeeaaaDoor
open Go.RowKit

attribute [go_sem] cs_extract
@[go_sem] theorem xlh_tag (w : World) (b : Nat) (h : 16 < (w.rowOf b).size) : exLoad Tryd.prog 40 (.pointer (some ⟨b, 0, none⟩)) w = .ok (.value (.agg ((w.rowOf b).extract 0 16))) w := by
  have := x_loadm (P := Tryd.prog) w (T := 40) Tryd.underlying40 rfl inf_tag b 0 (by omega)
  simpa using this
theorem take_eq_succ {a b : List (BitVec 8)} {i : Nat} (ha : i < a.length) (hb : i < b.length) : a.take (i + 1) = b.take (i + 1) ↔ a.take i = b.take i ∧ a.getD i 0 = b.getD i 0 := by
  rw [take_succ_getD a 0 i ha, take_succ_getD b 0 i hb]
  constructor
  · intro h
    have := List.append_inj h (by simp; omega)
    exact ⟨this.1, by simpa using this.2⟩
  · rintro ⟨h1, h2⟩; rw [h1, h2]
theorem or_xor_zero (d x y : BitVec 8) : d ||| (x ^^^ y) = 0 ↔ d = 0 ∧ x = y := by
  show d ||| (x ^^^ y) = 0#8 ↔ d = 0#8 ∧ x = y
  rw [BitVec.or_eq_zero_iff]
  constructor
  · rintro ⟨h1, h2⟩; exact ⟨h1, BitVec.xor_eq_zero_iff.1 h2⟩
  · rintro ⟨h1, h2⟩; exact ⟨h1, BitVec.xor_eq_zero_iff.2 h2⟩
set_option maxRecDepth 100000 in
set_option maxHeartbeats 1000000 in
theorem equal_any (w : World) (v1 v2 : Value) (a b : List (BitVec 8)) (h1 : BS w v1 a) (h2 : BS w v2 b) :
    Calls Tryd.prog 28 #[v1, v2] w fun e w' => e = .returned (.bool (a == b)) ∧ Below w.heap.size w w' := by
  obtain ⟨n, hn⟩ : ∃ n, n = a.length := ⟨_, rfl⟩
  obtain ⟨m, hm⟩ : ∃ m, m = b.length := ⟨_, rfl⟩
  have ln := h1.len; have lm := h2.len
  rw [← hn] at ln; rw [← hm] at lm
  unfold maxLen at ln lm
  obtain ⟨av, cv, rfl, hcv⟩ := h1.shape' n hn.symm
  obtain ⟨bv, dv, rfl, hdv⟩ := h2.shape' m hm.symm
  have HN := hid hn; have HM := hid hm; have H1 := hid h1; have H2 := hid h2
  clear hn hm h1 h2
  by_cases hne : n = m
  · have hq1 : ((n : Int) != m) = false := by simp [hne]
    go_enter Tryd.func28, Tryd.ntmps28
    subst hne
    go_wp2_with fail
    go_loopw [5, 6, 14] (fun u _ t wr => ∃ (i : Nat) (d : BitVec 8), i ≤ n ∧ t = .int .i64 i ∧ u = U8 d ∧ (d = 0 ↔ a.take i = b.take i) ∧ Below w.heap.size w wr) (fun _ _ t _ => n - (intOf t).toNat)
    case atStart => exact ⟨0, 0, by omega, rfl, rfl, by simp, Below.refl _ _⟩
    case round =>
      obtain ⟨i, d, hi, rfl, rfl, hd, hbw⟩ := hrel
      have HD := hid hd
      clear hd
      by_cases hlt : i < n
      · have hb1 : BS wr (.slice av n cv) a := SV.below H1.out hbw
        have hb2 : BS wr (.slice bv n dv) b := SV.below H2.out hbw
        obtain ⟨b1, o1, c1, e1, -, hc1⟩ := hb1.open (by intro e; have := HN.out; rw [e] at this; simp at this; omega)
        obtain ⟨b2, o2, c2, e2, -, hc2⟩ := hb2.open (by intro e; have := HM.out; rw [e] at this; simp at this; omega)
        injection e1 with e1 _ _; injection e2 with e2 _ _
        subst e1; subst e2
        have k1 := hc1 i (by rw [← HN.out]; exact hlt)
        have k2 := hc2 i (by rw [← HM.out]; exact hlt)
        have q0 : (0 : Int) ≤ i := by omega
        have q1 : (i : Int) < n := by omega
        clear hc1 hc2
        go_wp2_with fail
        go_quiet (fail)
        go_wp2_with fail
        go_roundw
        case rel => exact ⟨i + 1, _, by omega, by go_num, rfl, by rw [or_xor_zero, HD.out, take_eq_succ (by rw [← HN.out]; exact hlt) (by rw [← HM.out]; exact hlt)]; simp [List.getD_eq_getElem?_getD, List.getElem?_eq_getElem (show i < a.length by rw [← HN.out]; exact hlt)], below_drewN hbw _⟩
        case measure => simp [intOf]; omega
      · have : i = n := by omega
        subst this
        have hfin : (a == b) = ((d.toNat : Int) == 0) := by
          have h3 := HD.out
          rw [List.take_of_length_le (by rw [← HN.out]; exact Nat.le_refl _), List.take_of_length_le (by rw [← HM.out]; exact Nat.le_refl _)] at h3
          rw [Bool.eq_iff_iff, beq_iff_eq, ← h3, beq_iff_eq]
          rw [← BitVec.toNat_inj]; simp
        have HF := hid hfin
        clear hfin
        go_wp2_with fail
        go_ret
        exact ⟨by rw [HF.out]; rfl, hbw⟩
  · have hq1 : ((n : Int) != m) = true := by simp; omega
    have hfin : (a == b) = false := by
      rw [beq_eq_false_iff_ne]; intro e; rw [HN.out, HM.out, e] at hne; exact hne rfl
    have HF := hid hfin
    clear hfin
    go_enter Tryd.func28, Tryd.ntmps28
    go_wp2_with fail
    go_ret
    exact ⟨by rw [HF.out]; rfl, Below.refl _ _⟩
set_option maxRecDepth 100000 in
set_option maxHeartbeats 1000000 in
theorem short_any (w : World) (l : List (BitVec 8)) (hl : l.length = 32) :
    Calls Tryd.prog 39 #[.agg (cs U8 l)] w fun e w' => e = .returned (.agg (cs U8 (l.take 16))) ∧ Below w.heap.size w w' := by
  have ht : (l.take 16).length = 16 := by simp; omega
  go_enter Tryd.func39, Tryd.ntmps39
  go_wp2_with fail
  refine bodyPost_ret (res_row (b := w.heap.size + 1) rfl Tryd.underlying40 rfl inf_tag _ _ rfl ?_) rfl ?_
  · simp [go_sem, ht]
  · refine ⟨by simp [go_sem], ((Below.refl _ _).alloc (Nat.le_refl _) _).alloc (by simp) _⟩
end Go.Proofs.YtbigmnhjnjeeaaaDoor
