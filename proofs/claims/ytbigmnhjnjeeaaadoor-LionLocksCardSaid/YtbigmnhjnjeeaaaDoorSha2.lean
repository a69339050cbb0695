/-
  The walk of a block of SHA-256; own work.
-/
import Derived.Test.YtbigmnhjnjeeaaaDoorSha1
set_option linter.unusedSimpArgs false
set_option linter.unusedVariables false
namespace Go.Proofs.YtbigmnhjnjeeaaaDoor
open Go.RowKit

/-- the table of constants -/
def KT (w : World) : Prop := w.rowOf 0 = cs U32 Sh.K
theorem KT.cell {w : World} (h : KT w) (i : Nat) (hi : i < 64) : w.cell? ⟨0, i, none⟩ = some (U32 (Sh.K.getD i 0)) := by
  have hl : i < Sh.K.length := hi
  rw [cell_rowOf, h, cs_get_lt hl, List.getD_eq_getElem?_getD, List.getElem?_eq_getElem hl]; rfl

/-- the state while the sums are taken, word by word -/
def mixed (s r : Sh.S8) (j : Nat) : List (BitVec 32) := (s.plus r).list.take j ++ s.list.drop j
theorem mixed_len (s r : Sh.S8) (j : Nat) (h : j ≤ 8) : (mixed s r j).length = 8 := by
  simp [mixed, Sh.S8.list]; omega
theorem mixed_get (s r : Sh.S8) (j : Nat) (h : j < 8) : (mixed s r j)[j]'(by rw [mixed_len s r j (by omega)]; exact h) = s.list.getD j 0 := by
  match j, h with
  | 0, _ | 1, _ | 2, _ | 3, _ | 4, _ | 5, _ | 6, _ | 7, _ => rfl
theorem mixed_set (s r : Sh.S8) (j : Nat) (h : j < 8) : (mixed s r j).set j (s.list.getD j 0 + r.list.getD j 0) = mixed s r (j + 1) := by
  match j, h with
  | 0, _ | 1, _ | 2, _ | 3, _ | 4, _ | 5, _ | 6, _ | 7, _ => rfl
theorem block_idx (s : Sh.S8) (k : Nat) (hk : k < 8) (w : World) : (Instr.index 91 (.agg #[U32 s.a, U32 s.b, U32 s.c, U32 s.d, U32 s.e, U32 s.f, U32 s.g, U32 s.h]) (.int .i64 k)).run Tryd.prog w = .ok (U32 (s.list.getD k 0)) w := by
  match k, hk with
  | 0, _ => (show _ = _; kernel_rfl)
  | 1, _ => (show _ = _; kernel_rfl)
  | 2, _ => (show _ = _; kernel_rfl)
  | 3, _ => (show _ = _; kernel_rfl)
  | 4, _ => (show _ = _; kernel_rfl)
  | 5, _ => (show _ = _; kernel_rfl)
  | 6, _ => (show _ = _; kernel_rfl)
  | 7, _ => (show _ = _; kernel_rfl)

theorem mixed_step {w wx : World} {bs os j : Nat} {s r : Sh.S8} {pre post : Array Value} (hj : j < 8) (hf : wx.free bs = true) (hr : wx.rowOf bs = pre ++ cs U32 (mixed s r j) ++ post) (hos : pre.size = os) (hg : w.grownBy wx (some bs)) :
    (wx.setCell ⟨bs, os + j, none⟩ (U32 (s.list.getD j 0 + r.list.getD j 0))).free bs = true ∧ (wx.setCell ⟨bs, os + j, none⟩ (U32 (s.list.getD j 0 + r.list.getD j 0))).rowOf bs = pre ++ cs U32 (mixed s r (j + 1)) ++ post ∧ w.grownBy (wx.setCell ⟨bs, os + j, none⟩ (U32 (s.list.getD j 0 + r.list.getD j 0))) (some bs) := by
  rw [setCell_row hf, hr, ← hos, mid_set _ _ _ _ _ (by rw [mixed_len s r j (by omega)]; exact hj), mixed_set s r j hj]
  exact ⟨by rw [free_setRow]; exact hf, rowOf_setRow_same _ hf, gb_setRow hg _⟩

set_option maxRecDepth 100000 in
set_option maxHeartbeats 1000000 in
theorem block_any (bs os b o : Nat) (len cap : Nat) (s : Sh.S8) (pre post : Array Value) (l : List (BitVec 8)) (w : World) (hlen : 64 ≤ len) (hcap : len ≤ cap)
    (hK : KT w) (hbs : 0 < bs) (hf : w.free bs = true) (hr : w.rowOf bs = pre ++ cs U32 s.list ++ post) (hos : pre.size = os)
    (hc : ∀ i, i < 64 → w.cell? ⟨b, o + i, none⟩ = some (U8 (l.getD i 0))) :
    Calls Tryd.prog 66 #[.pointer (some ⟨bs, os, none⟩), .slice (some ⟨b, o, none⟩) len cap] w fun e w' => e = .returned (.tuple #[]) ∧ w.grownBy w' (some bs) ∧ w'.free bs = true ∧ w'.rowOf bs = pre ++ cs U32 (Sh.compress s l).list ++ post := by
  have hbl := free_lt hf
  have HS := hid (schedule_any b o len cap l w hlen hcap hc)
  have hcell : ∀ i, i < 8 → w.cell? ⟨bs, os + i, none⟩ = some (U32 (s.list.getD i 0)) := fun i hi => by
    rw [cell_rowOf, hr, Array.append_assoc, Array.getElem?_append_right (by omega), hos, Nat.add_sub_cancel_left, Array.getElem?_append_left (by simpa [Sh.S8.list] using hi), cs_get_lt (by simpa [Sh.S8.list] using hi)]
    rw [List.getD_eq_getElem?_getD, List.getElem?_eq_getElem]; rfl
  have HK := hid hK
  have HR := hid hr
  have HC := hid hcell
  have HF := hid hf
  have HP := hid hos
  clear hK hr hc hcell hf hos
  go_enter Tryd.func66, Tryd.ntmps66
  go_wp2_with fail
  refine HS.out.mono ?_
  rintro e w1 ⟨rfl, hb1⟩
  have h1 := hb1.size
  have c0 : w1.cell? ⟨bs, os, none⟩ = some (U32 s.a) := (hb1.cell hbl).trans (HC.out 0 (by omega))
  have c1 : w1.cell? ⟨bs, os + 1, none⟩ = some (U32 s.b) := (hb1.cell hbl).trans (HC.out 1 (by omega))
  have c2 : w1.cell? ⟨bs, os + 2, none⟩ = some (U32 s.c) := (hb1.cell hbl).trans (HC.out 2 (by omega))
  have c3 : w1.cell? ⟨bs, os + 3, none⟩ = some (U32 s.d) := (hb1.cell hbl).trans (HC.out 3 (by omega))
  have c4 : w1.cell? ⟨bs, os + 4, none⟩ = some (U32 s.e) := (hb1.cell hbl).trans (HC.out 4 (by omega))
  have c5 : w1.cell? ⟨bs, os + 5, none⟩ = some (U32 s.f) := (hb1.cell hbl).trans (HC.out 5 (by omega))
  have c6 : w1.cell? ⟨bs, os + 6, none⟩ = some (U32 s.g) := (hb1.cell hbl).trans (HC.out 6 (by omega))
  have c7 : w1.cell? ⟨bs, os + 7, none⟩ = some (U32 s.h) := (hb1.cell hbl).trans (HC.out 7 (by omega))
  have hlt1 : bs < w1.heap.size := by omega
  have hsl : (Sh.sched l 64).length = 64 := Sh.sched_len l 64
  clear HS
  go_wp2_with fail
  go_quiet (fail)
  clear c0 c1 c2 c3 c4 c5 c6 c7
  go_wp2_with fail
  obtain ⟨w2, hw2⟩ : ∃ w2, w2 = w1.alloc (.cells (cs U32 (Sh.sched l 64)) 106) := ⟨_, rfl⟩
  rw [← hw2]
  have hz2 : w2.heap.size = w1.heap.size + 1 := by rw [hw2]; simp
  have hb2 : Below w1.heap.size w1 w2 := by rw [hw2]; exact (Below.refl _ _).alloc (Nat.le_refl _) _
  have hr2 : w2.rowOf w1.heap.size = cs U32 (Sh.sched l 64) := by rw [hw2]; exact rowOf_alloc_at _ _ _ rfl
  have hf2 : w2.free w1.heap.size = true := by rw [hw2]; exact free_alloc_at _ _ _ rfl
  have hkc : ∀ i, i < 64 → w2.cell? ⟨0, i, none⟩ = some (U32 (Sh.K.getD i 0)) := fun i hi =>
    (hb2.cell (by exact (by omega : 0 < w1.heap.size))).trans ((hb1.cell (by exact (by omega : 0 < w.heap.size))).trans (HK.out.cell i hi))
  have hwc : ∀ i, i < 64 → w2.cell? ⟨w1.heap.size, i, none⟩ = some (U32 ((Sh.sched l 64).getD i 0)) := fun i hi => by
    rw [cell_rowOf, hr2, cs_get_lt (by omega), List.getD_eq_getElem?_getD, List.getElem?_eq_getElem (by omega)]; rfl
  have HKC := hid hkc
  have HWC := hid hwc
  have HB2 := hid hb2
  have HB1 := hid hb1
  clear hkc hwc hw2 hr2 hz2 hsl
  go_loopw [5, 6, 7, 8, 9, 10, 11, 12, 52] (fun a b c d e f g h t wr => ∃ k : Nat, k ≤ 64 ∧ t = .int .i64 k ∧ a = U32 (Sh.rounds s (Sh.sched l 64) k).a ∧ b = U32 (Sh.rounds s (Sh.sched l 64) k).b ∧ c = U32 (Sh.rounds s (Sh.sched l 64) k).c ∧ d = U32 (Sh.rounds s (Sh.sched l 64) k).d ∧ e = U32 (Sh.rounds s (Sh.sched l 64) k).e ∧ f = U32 (Sh.rounds s (Sh.sched l 64) k).f ∧ g = U32 (Sh.rounds s (Sh.sched l 64) k).g ∧ h = U32 (Sh.rounds s (Sh.sched l 64) k).h ∧ ∃ n, wr = w2.drewN n)
    (fun _ _ _ _ _ _ _ _ t _ => 64 - (intOf t).toNat)
  case atStart => exact ⟨0, by omega, rfl, rfl, rfl, rfl, rfl, rfl, rfl, rfl, rfl, nq, rfl⟩
  case round =>
    obtain ⟨k, hk, rfl, rfl, rfl, rfl, rfl, rfl, rfl, rfl, rfl, n, hwr⟩ := hrel
    have HW := hid hwr
    obtain ⟨r, hr⟩ : ∃ r, r = Sh.rounds s (Sh.sched l 64) k := ⟨_, rfl⟩
    rw [← hr]
    have Hr := hid hr
    clear hr
    by_cases hlt : k < 64
    · have k1 : wr.cell? ⟨0, k, none⟩ = some (U32 (Sh.K.getD k 0)) := by rw [hwr]; exact HKC.out k hlt
      have k2 : wr.cell? ⟨w1.heap.size, k, none⟩ = some (U32 ((Sh.sched l 64).getD k 0)) := by rw [hwr]; exact HWC.out k hlt
      clear hwr
      go_wp
      go_quiet ((go_at_call 75; exact Calls.quiet_of_same (rotl_any _ _ _ (by omega))))
      go_wp2_with (go_at_call 75; refine (rotl_any _ _ _ (by omega)).mono ?_; rintro e w' ⟨rfl, rfl⟩)
      go_roundw
      case rel =>
        refine ⟨k + 1, by omega, by go_num, ?_⟩
        rw [Sh.rounds, ← Hr.out]
        exact ⟨by simp [Sh.S8.step, Sh.t1, Sh.t2], rfl, rfl, rfl, by simp [Sh.S8.step, Sh.t1, Sh.t2], rfl, rfl, rfl, n + nq, by rw [HW.out, World.drewN_drewN]⟩
      case measure => simp [intOf]; omega
    · have : k = 64 := by omega
      subst this
      have hwb := hwr
      clear hwr
      have hbz : bs < wr.heap.size := by rw [hwb]; have := hb2.size; show bs < w2.heap.size; omega
      have hg0 : w.grownBy wr (some bs) := by
        rw [hwb]
        exact gb_drewN (gb_trans (gb_below hb1 _) (gb_below hb2 _)) n
      have hrow : wr.rowOf bs = pre ++ cs U32 s.list ++ post := by
        rw [hwb]; show w2.rowOf bs = _
        rw [below_row hb2 hlt1, below_row hb1 hbl]; exact HR.out
      have hfr : wr.free bs = true := by
        rw [hwb]; show w2.free bs = _
        rw [below_free hb2 hlt1, below_free hb1 hbl]; exact HF.out
      have HG := hid hg0
      have HRW := hid hrow
      have HFR := hid hfr
      clear hwb hg0 hrow hfr
      go_wp
      obtain ⟨wo, hwo⟩ : ∃ wo : World, wo = wr := ⟨_, rfl⟩
      rw [← hwo] at HG HRW HFR
      rw [← hwo]
      clear HW hwo
      go_loopw [121] (fun t wx => ∃ j : Nat, j ≤ 8 ∧ t = .int .i64 j ∧ wx.free bs = true ∧ wx.rowOf bs = pre ++ cs U32 (mixed s r j) ++ post ∧ w.grownBy wx (some bs)) (fun t _ => 8 - (intOf t).toNat)
      case atStart => exact ⟨0, by omega, rfl, HFR.out, by rw [HRW.out]; rfl, HG.out⟩
      case round =>
        obtain ⟨j, hj, rfl, hfx, hrx, hgx⟩ := hrel
        by_cases hlj : j < 8
        · have hidx := block_idx r j hlj
          obtain ⟨sj, hsj⟩ : ∃ sj, sj = s.list.getD j 0 := ⟨_, rfl⟩
          obtain ⟨rj, hrj⟩ : ∃ rj, rj = r.list.getD j 0 := ⟨_, rfl⟩
          rw [← hrj] at hidx
          have hcj : wr.cell? ⟨bs, os + j, none⟩ = some (U32 sj) := by
            rw [cell_rowOf, hrx, ← HP.out, mid_get _ _ _ _ (by rw [mixed_len s r j hj]; exact hlj), hsj, mixed_get s r j hlj]
          have hff := free_frozen hfx (os + j)
          have HRX := hid hrx
          have HSJ := hid hsj
          have HRJ := hid hrj
          clear hrx hsj hrj
          go_wp
          refine wp_region_qtail 9 (by kernel_rfl) (by kernel_rfl) ?_
          simp only [List.take_succ_cons, List.take_zero, List.drop_succ_cons, List.drop_zero]
          repeat (go_big_quiet_step (fail))
          refine wpQuiet_nil ?_
          go_wp
          go_roundw
          case rel =>
            refine ⟨j + 1, by omega, by go_num, ?_⟩
            rw [HSJ.out, HRJ.out]
            exact mixed_step (wx := wr.drewN 1) hlj hfx HRX.out HP.out (gb_drewN hgx 1)
          case measure => simp [intOf]; omega
        · have : j = 8 := by omega
          subst this
          go_wp
          go_end0
          refine ⟨rfl, hgx, hfx, ?_⟩
          rw [hrx, Sh.compress, ← Hr.out]
          rfl
end Go.Proofs.YtbigmnhjnjeeaaaDoor
