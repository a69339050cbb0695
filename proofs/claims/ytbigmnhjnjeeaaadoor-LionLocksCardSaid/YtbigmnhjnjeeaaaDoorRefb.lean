/-
  Walks of reference 03: the schedule; own work.
-/
import Derived.Test.YtbigmnhjnjeeaaaDoorRefa
set_option linter.unusedSimpArgs false
set_option linter.unusedVariables false
namespace Go.Proofs.YtbigmnhjnjeeaaaDoor
open Go.RowKit

set_option maxRecDepth 100000 in
set_option maxHeartbeats 1000000 in
theorem rsched_any (w : World) (v : Value) (l : List (BitVec 8)) (hv : BS w v l) (hn : l.length = 64) :
    Calls Tryd.prog 76 #[v] w fun e w' => ∃ u, e = .returned u ∧ OW w' w.heap.size u (Sh.sched l 64) ∧ Below w.heap.size w w' := by
  obtain ⟨b, o, cap, rfl, hcap, hcells⟩ := hv.open (by intro e; rw [e] at hn; cases hn)
  have hlt := SV.lt hv b rfl (by intro e; rw [List.map_eq_nil_iff] at e; rw [e] at hn; cases hn)
  rw [hn] at hcells hcap
  rw [hn]
  have HN := hid hn
  have HC := hid hcells
  clear hn hcells hv
  go_enter Tryd.func76, Tryd.ntmps76
  go_wp2_with fail
  go_loopw [3, 4] (fun v t wr => ∃ k : Nat, k ≤ 16 ∧ t = .int .i64 k ∧ OW wr w.heap.size v (Sh.sched l k) ∧ Below w.heap.size w wr) (fun _ t _ => 16 - (intOf t).toNat)
  case atStart => exact ⟨0, by omega, rfl, OW.nil _ _, Below.refl _ _⟩
  case round =>
    obtain ⟨k, hk, rfl, hov, hbl⟩ := hrel
    have hz := hbl.size
    obtain ⟨av, cv, rfl, hcv⟩ := hov.ws.shape' k (Sh.sched_len l k)
    by_cases hlk : k < 16
    · have hcl : ∀ i, i < 64 → wr.cell? ⟨b, o + i, none⟩ = some (U8 (l.getD i 0)) := fun i hi => (hbl.cell (p := ⟨b, o + i, none⟩) hlt).trans (HC.out i hi)
      have x0 := hcl (4 * k) (by omega); have x1 := hcl (4 * k + 1) (by omega); have x2 := hcl (4 * k + 2) (by omega); have x3 := hcl (4 * k + 3) (by omega)
      have y0 : wr.cell? ⟨b, o + (4 * k + 1), none⟩ = some (U8 (l.getD (4 * k + 1) 0)) := x1
      clear hcl x1
      have x1 : wr.cell? ⟨b, o + (4 * k + 1), none⟩ = some (U8 (l.getD (4 * k + 1) 0)) := y0
      clear y0
      have q0 : (0 : Int) ≤ 4 * k := by omega
      have q1 : (0 : Int) ≤ 4 * k + 1 := by omega
      have q2 : (0 : Int) ≤ 4 * k + 2 := by omega
      have q3 : (0 : Int) ≤ 4 * k + 3 := by omega
      have p0 : 4 * (k : Int) < 64 := by omega
      have p1 : 4 * (k : Int) + 1 < 64 := by omega
      have p2 : 4 * (k : Int) + 2 < 64 := by omega
      have p3 : 4 * (k : Int) + 3 < 64 := by omega
      have hsz : (Sh.sched l k).length + [Sh.wordAt l k].length ≤ 1073741824 := by simp [Sh.sched_len]; omega
      have HZ := hid hsz
      clear hsz
      go_wp
      refine wp_region_qtail1 33 (by kernel_rfl) (by kernel_rfl) (by kernel_rfl) (fun _ _ _ _ h => h) ?_
      simp only [List.take_succ_cons, List.take_zero, List.drop_succ_cons, List.drop_zero]
      repeat (go_big_quiet_step (fail))
      refine wpQuiet_nil ?_
      go_wp2_with (first | (refine wpList_apw rfl (.tmp 14) (.tmp 48) rfl w.heap.size _ _ _ [Sh.wordAt l k] rfl ((OW.alloc hov _).drewN 1) rfl ((WS.one _ _ _ rfl _).drewN 1) HZ.out (by simp; omega) ?_; rintro v2 w2 hown2 hg2 -))
      go_roundw
      case rel => exact ⟨k + 1, by omega, rfl, by rw [Sh.sched, if_pos hlk]; exact hown2, ow_below (below_drewN (hbl.alloc hz _) 1) ((OW.alloc hov _).drewN 1) (by simp; omega) hg2⟩
      case measure => simp [intOf]; omega
    · have : k = 16 := by omega
      subst this
      have HOV := hid hov
      clear hov
      rw [show ((16 : Nat) : Int) = 16 from rfl]
      go_wp2_with fail
      obtain ⟨wo, hwo⟩ : ∃ wo, wo = wr := ⟨_, rfl⟩
      rw [← hwo] at HOV hbl hz
      rw [← hwo]
      go_loopw [3, 5, 6, 7, 8, 9] (fun v t _ _ _ _ wr => ∃ k : Nat, 16 ≤ k ∧ k ≤ 64 ∧ t = .int .i64 k ∧ OW wr w.heap.size v (Sh.sched l k) ∧ Below w.heap.size w wr) (fun _ t _ _ _ _ _ => 64 - (intOf t).toNat)
      case atStart => exact ⟨16, by omega, by omega, rfl, HOV.out, hbl⟩
      case round =>
        clear hbl hz HOV hwo hcv
        obtain ⟨k, h16, hk, rfl, hov, hbl⟩ := hrel
        have hz := hbl.size
        obtain ⟨bv, ov, cv, rfl, hcv, hcl⟩ := hov.ws.open (by intro e; have := Sh.sched_len l k; rw [e] at this; simp at this; omega)
        rw [Sh.sched_len] at hcl hov ⊢
        by_cases hlk : k < 64
        · have c2 := hcl (k - 2) (by omega); have c7 := hcl (k - 7) (by omega); have c15 := hcl (k - 15) (by omega); have c16 := hcl (k - 16) (by omega)
          have g2 : (0 : Int) ≤ k - 2 := by omega
          have g7 : (0 : Int) ≤ k - 7 := by omega
          have g15 : (0 : Int) ≤ k - 15 := by omega
          have g16 : (0 : Int) ≤ k - 16 := by omega
          have hsz : (Sh.sched l k).length + [Sh.nextW (Sh.sched l k) k].length ≤ 1073741824 := by simp [Sh.sched_len]; omega
          have HZ := hid hsz
          clear hsz hcl
          go_wp2_with fail
          go_quiet (fail)
          go_wp2_with (go_at_call 78; refine (turn_any _ _ _ (by omega)).mono ?_; rintro e w' ⟨rfl, rfl⟩)
          refine wp_region_qtail1 15 (by kernel_rfl) (by kernel_rfl) (by kernel_rfl) (fun _ _ _ _ h => h) ?_
          simp only [List.take_succ_cons, List.take_zero, List.drop_succ_cons, List.drop_zero]
          repeat (go_big_quiet_step (fail))
          refine wpQuiet_nil ?_
          go_wp2_with (first | (refine wpList_apw rfl (.tmp 80) (.tmp 96) rfl w.heap.size _ _ _ [Sh.nextW (Sh.sched l k) k] rfl ((OW.alloc (hov.drewN (nq + 1)) _).drewN 1) rfl ((WS.one _ _ _ rfl _).drewN 1) HZ.out (by simp; omega) ?_; rintro v2 w2 hown2 hg2 -))
          go_roundw
          case rel => exact ⟨k + 1, by omega, by omega, rfl, by rw [show Sh.sched l (k + 1) = Sh.sched l k ++ [Sh.nextW (Sh.sched l k) k] by rw [Sh.sched, if_neg (by omega)]]; exact hown2, ow_below ((below_drewN hbl (nq + 1)).alloc (by simp; omega) _) (OW.alloc (hov.drewN (nq + 1)) _) (by simp; omega) hg2⟩
          case measure => simp [intOf]; omega
        · have : k = 64 := by omega
          subst this
          go_wp2_with fail
          go_ret
          exact ⟨_, rfl, hov, hbl⟩
end Go.Proofs.YtbigmnhjnjeeaaaDoor
