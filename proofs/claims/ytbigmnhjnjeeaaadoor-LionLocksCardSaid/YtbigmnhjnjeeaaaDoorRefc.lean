/-
  Walks of reference 03: the padded list; own work.
-/
import Derived.Test.YtbigmnhjnjeeaaaDoorRefb
set_option linter.unusedSimpArgs false
set_option linter.unusedVariables false
namespace Go.Proofs.YtbigmnhjnjeeaaaDoor
open Go.RowKit

theorem ow_belowb {B : Nat} {w w0 w' : World} {v : Value} {l : List (BitVec 8)} (h : Below B w0 w) (hown : OB w B v l) (hB : B ≤ w.heap.size) (hg : w.grownBy w' v.ownBlock) : Below B w0 w' := h.grown hg hB (fun k hk => (hown.lt k hk).1)
theorem be8_val' (n k : Nat) (hk : k < 8) : Value.int .u8 ((n : Int) * 8 / 2 ^ (8 * (7 - k)) % 256) = U8 ((Sh.be8 n).getD k 0) := by
  rw [← be8_val n k hk, show 8 * (7 - k) = 56 - 8 * k by omega]
set_option maxRecDepth 100000 in
set_option maxHeartbeats 1000000 in
theorem padded_any (w : World) (v : Value) (l : List (BitVec 8)) (hv : BS w v l) (hn : l.length ≤ 1073741000) :
    Calls Tryd.prog 67 #[v] w fun e w' => ∃ u, e = .returned u ∧ OB w' w.heap.size u (Sh.finish l l.length) ∧ Below w.heap.size w w' := by
  obtain ⟨n, hnl⟩ : ∃ n, n = l.length := ⟨_, rfl⟩
  obtain ⟨av, cv, rfl, hcv⟩ := hv.shape' n hnl.symm
  have HL := hid hnl
  rw [← hnl] at hn ⊢
  clear hnl
  go_enter Tryd.func67, Tryd.ntmps67
  go_wp2_with (first
    | (refine wpList_apb rfl (.tmp 6) (.tmp 7) rfl w.heap.size _ _ [] l rfl (OW.litb w [] _ rfl _ rfl (by unfold maxLen; decide) _ (Nat.le_refl _)) rfl (SV.alloc hv _) (by rw [← HL.out]; simp; omega) (by simp) ?_; rintro v1 w1 hown1 hg1 -)
    | (refine wpList_apb rfl (.tmp 9) (.tmp 10) rfl w.heap.size _ _ l [128] rfl (OB.alloc hown1 _) rfl (BS.one _ _ 128 rfl _) (by rw [← HL.out]; simp; omega) (by have := hg1.size; simp at this ⊢; omega) ?_; rintro v2 w2 hown2 hg2 -))
  have hB1 : Below w.heap.size w w1 := ow_belowb ((Below.refl _ _).alloc (Nat.le_refl _) _) (OW.litb w [] _ rfl _ rfl (by unfold maxLen; decide) _ (Nat.le_refl _)) (by simp) hg1
  have hB2 : Below w.heap.size w w2 := ob_below1 _ hB1 hown1 hB1.size hg2
  clear hg1 hg2 hown1 hB1
  go_loopw [3] (fun v wr => ∃ j, j ≤ Sh.npad n ∧ OB wr w.heap.size v (l ++ [128] ++ Sh.zeros j) ∧ Below w.heap.size w wr) (fun v _ => n + 300 - slLen v)
  case atStart => exact ⟨0, by omega, by simpa [Sh.zeros] using hown2, hB2⟩
  case round =>
    obtain ⟨j, hj, hov, hbw⟩ := hrel
    have hpd : Sh.npad n = (119 - n % 64) % 64 := rfl
    have hz := hbw.size
    obtain ⟨N, hN⟩ : ∃ N, N = (l ++ [128] ++ Sh.zeros j).length := ⟨_, rfl⟩
    have hN' : N = n + 1 + j := by rw [hN, HL.out]; simp [Sh.zeros]; omega
    obtain ⟨av, cv, rfl, hcv⟩ := hov.bs.shape' N hN.symm
    have hNle : N ≤ n + 64 := by omega
    have HN := hid hN
    clear hB2 hown2
    by_cases hlt : j < Sh.npad n
    · have h56 : ((N : Int) % 64 != 56) = true := by rw [bne_iff_ne]; omega
      have HN' := hid hN'; have HP := hid hpd
      clear hN hN' hpd
      go_wp2_with (refine wpList_apb rfl (.tmp 16) (.tmp 17) rfl w.heap.size _ _ _ [0] rfl (OB.alloc hov _) rfl (BS.one _ _ 0 rfl _) (by rw [← HN.out]; simp; omega) (by simp; omega) ?_; rintro v3 w4 hown3 hg3 -; have HB4 := ob_below1 _ hbw hov hz hg3)
      go_roundw
      case rel => exact ⟨j + 1, by omega, by simpa [Sh.zeros, List.replicate_succ'] using hown3, HB4⟩
      case measure =>
        obtain ⟨a3, c3, rfl, hc3⟩ := hown3.bs.shape' (N + 1) (by rw [List.length_append, ← HN.out]; rfl)
        show n + 300 - (N + 1) < n + 300 - N
        omega
    · have h56 : ((N : Int) % 64 != 56) = false := by rw [bne_eq_false_iff_eq]; omega
      have hje : j = Sh.npad n := by omega
      have HN' := hid hN'; have HP := hid hpd; have HJ := hid hje
      clear hN hN' hpd hje
      go_wp2_with fail
      obtain ⟨wo, hwo⟩ : ∃ wo : World, wo = wr := ⟨_, rfl⟩
      rw [← hwo] at hov hbw hz
      rw [← hwo]
      clear hwo
      go_loopw [3, 5] (fun v i wr => ∃ k : Nat, k ≤ 8 ∧ i = .int .i64 (7 - (k : Int)) ∧ OB wr w.heap.size v (l ++ [128] ++ Sh.zeros (Sh.npad n) ++ (Sh.be8 n).take k) ∧ Below w.heap.size w wr) (fun _ i _ => (intOf i + 8).toNat)
      case atStart => exact ⟨0, by omega, rfl, by rw [← HJ.out]; simpa using hov, hbw⟩
      case round =>
        obtain ⟨k, hk, rfl, hok, hbk⟩ := hrel
        clear hov hbw hz
        have hz := hbk.size
        by_cases hlt : k < 8
        · have i0 : (0 : Int) ≤ 7 - k := by omega
          go_wp2_with (refine wpList_apb rfl (.tmp 27) (.tmp 34) rfl w.heap.size _ _ _ [(Sh.be8 n).getD k 0] rfl (OB.alloc hok _) rfl (BS.one _ _ _ (be8_val' n k hlt) _) (by simp [Sh.be8, Sh.zeros, Sh.npad, ← HL.out]; omega) (by simp; omega) ?_; rintro v3 w4 hown3 hg3 -; have HB4 := ob_below1 _ hbk hok hz hg3)
          go_roundw
          case rel => exact ⟨k + 1, by omega, by go_num, by rw [be8_take n k hlt, ← List.append_assoc]; exact hown3, HB4⟩
          case measure => simp [intOf]; omega
        · have hke : k = 8 := by omega
          subst hke
          go_wp2_with fail
          go_ret
          exact ⟨_, rfl, by have hf : l ++ [128] ++ Sh.zeros (Sh.npad n) ++ (Sh.be8 n).take 8 = Sh.finish l n := by rw [HL.out]; rfl
                            rw [hf] at hok; exact hok, hbk⟩
end Go.Proofs.YtbigmnhjnjeeaaaDoor
