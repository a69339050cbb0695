/-
  Walks of package sha: rotate, word, schedule; own work.
  The walk of a block of SHA-256; own work.
  Walks of package sha: a hash that takes bytes; own work.
  Walks of package sha: the digest; own work.
-/
import Derived.Test.YtgclegdgngldoaaDoorMem
import Derived.Test.YtgclegdgngldoaaDoorShaSpec
import Derived.Test.YtgclegdgngldoaaDoorCelI
import Derived.Test.YtgclegdgngldoaaDoorBytes
set_option linter.unusedSimpArgs false
set_option linter.unusedVariables false
namespace Go.Proofs.YtgclegdgngldoaaDoor
open Go.RowKit

theorem and31 (k : Int) (hk : -32 < k ∧ k < 0) : bits BinOp.and IntKind.u64 (IntKind.u64.wrap k) 31 = 32 + k := by
  have h := bits_mask .u64 64 (by decide) (fun n h0 h1 => by rw [wrap_u64']; omega) 5 (by decide) (IntKind.u64.wrap k) (by rw [wrap_u64']; omega) (by rw [wrap_u64']; omega)
  have e : (31 : Int) = 2 ^ 5 - 1 := by decide
  rw [e, h, wrap_u64']
  omega

set_option maxHeartbeats 400000 in
theorem rotl_any (x : BitVec 32) (k : Int) (w : World) (hk : -32 < k ∧ k < 0) :
    Calls Tryd.prog 116 #[U32 x, .int .i64 k] w fun e w' => e = .returned (U32 (Sh.rr x (-k).toNat)) ∧ w' = w := by
  have h1 := and31 k hk
  obtain ⟨j, rfl⟩ : ∃ j : Nat, k = -(j : Int) := ⟨(-k).toNat, by omega⟩
  obtain ⟨s, hs⟩ : ∃ s : Nat, (s : Int) = 32 + -(j : Int) := ⟨32 - j, by omega⟩
  rw [← hs] at h1
  have h2 : (s : Int) ≤ 32 := by omega
  have h3 : (0 : Int) ≤ 32 - s := by omega
  have e1 : s = 32 - j := by omega
  have e2 : 32 - s = j := by omega
  have H1 := hid e1
  have H2 := hid e2
  clear e1 e2 hs
  go_enter Tryd.func116, Tryd.ntmps116
  go_wp2
  go_ret
  refine ⟨?_, rfl⟩
  show Ending.returned (U32 (x <<< s ||| x >>> (32 - s))) = _
  rw [H2.out, H1.out, BitVec.or_comm]
  simp [Sh.rr]

set_option maxHeartbeats 400000 in
theorem word_any (b o : Nat) (len cap : Nat) (b0 b1 b2 b3 : BitVec 8) (w : World) (hlen : 4 ≤ len) 
  (h0 : w.cell? ⟨b, o, none⟩ = some (U8 b0)) (h1 : w.cell? ⟨b, o + 1, none⟩ = some (U8 b1)) (h2 : w.cell? ⟨b, o + 2, none⟩ = some (U8 b2)) (h3 : w.cell? ⟨b, o + 3, none⟩ = some (U8 b3)):
    Calls Tryd.prog 120 #[.slice (some ⟨b, o, none⟩) len cap] w fun e w' => e = .returned (U32 (Sh.word b0 b1 b2 b3)) ∧ ∃ n, w' = w.drewN n := by
  have l0 : (0 : Int) < len := by omega
  have l1 : (1 : Int) < len := by omega
  have l2 : (2 : Int) < len := by omega
  have l3 : (3 : Int) < len := by omega
  go_enter Tryd.func120, Tryd.ntmps120
  go_wp2_with fail
  go_quiet (fail)
  go_wp2
  go_ret
  exact ⟨rfl, _, rfl⟩

theorem inf_k : (Tryd.prog.info? 153).map (·.size) = some 64 := by kernel_rfl
section
variable (ρ : Operand → Value) (dst : Option Tmp) (ty : TypeId) (pos : String) (after : Array Edge) (guard : Option (Nat × Bool)) (w : World)
@[go_sem ↓] theorem rl_k (x : Operand) : (execOp ρ { dst, op := .load 153 x, type := ty, pos, after, guard }).run Tryd.prog w = exLoad Tryd.prog 153 (ρ x) w := x_load ..
@[go_sem ↓] theorem rs_k (x y : Operand) : (execOp ρ { dst, op := .store 153 x y, type := ty, pos, after, guard }).run Tryd.prog w = exStore Tryd.prog 153 (ρ x) (ρ y) w := x_store ..
@[go_sem ↓] theorem ra_k : (execOp ρ { dst, op := .alloc 153, type := ty, pos, after, guard }).run Tryd.prog w = .ok (.value (.pointer (some ⟨w.heap.size, 0, none⟩))) (w.alloc (.cells (cs U32 (zs 64)) 153)) :=
  (x_alloc ..).trans (x_alloc0 (v := .agg (cs U32 (zs 64))) _ (by kernel_rfl))
@[go_sem] theorem xl_k (b : Nat) (h : (w.rowOf b).size = 64) : exLoad Tryd.prog 153 (.pointer (some ⟨b, 0, none⟩)) w = .ok (.value (.agg (w.rowOf b))) w := x_load0 _ Tryd.underlying153 rfl inf_k b h
@[go_sem] theorem xlm_k (b o : Nat) (ho : 0 < o) (h : o + 64 ≤ (w.rowOf b).size) : exLoad Tryd.prog 153 (.pointer (some ⟨b, o, none⟩)) w = .ok (.value (.agg ((w.rowOf b).extract o (o + 64)))) w := x_loadm _ Tryd.underlying153 rfl inf_k b o h
@[go_sem] theorem xs_k (b : Nat) (c : Array Value) (hl : c.size = 64) (h1 : ones c = true) (h : (w.rowOf b).size = 64) (hf : w.free b = true) : exStore Tryd.prog 153 (.pointer (some ⟨b, 0, none⟩)) (.agg c) w = .ok .skip (w.setRow b c) :=
  x_store0 _ inf_k b c hl h hf (ones_all h1)
@[go_sem] theorem xsm_k (b o : Nat) (ho : 0 < o) (c : Array Value) (hl : c.size = 64) (h1 : ones c = true) (h : o + 64 ≤ (w.rowOf b).size) (hf : w.free b = true) : exStore Tryd.prog 153 (.pointer (some ⟨b, o, none⟩)) (.agg c) w = .ok .skip (w.setSeg b o c) :=
  x_storem _ inf_k b o c hl h hf (ones_all h1)
end
theorem inf_u32 : (Tryd.prog.info? 67).map (·.size) = some 1 := by kernel_rfl
section
variable (ρ : Operand → Value) (dst : Option Tmp) (ty : TypeId) (pos : String) (after : Array Edge) (guard : Option (Nat × Bool)) (w : World)
@[go_sem ↓] theorem rs_u32 (x y : Operand) : (execOp ρ { dst, op := .store 67 x y, type := ty, pos, after, guard }).run Tryd.prog w = exStore Tryd.prog 67 (ρ x) (ρ y) w := x_store ..
@[go_sem] theorem xs_u32 (b o : Nat) (x : BitVec 32) (hc : (w.cell? ⟨b, o, none⟩).isSome = true) (hf : w.frozen? ⟨b, o, none⟩ = false) : exStore Tryd.prog 67 (.pointer (some ⟨b, o, none⟩)) (U32 x) w = .ok .skip (w.setCell ⟨b, o, none⟩ (U32 x)) :=
  x_store1 inf_u32 w b o _ rfl rfl hc hf
@[go_sem] theorem xsi_u32 (b o : Nat) (n : Int) (hc : (w.cell? ⟨b, o, none⟩).isSome = true) (hf : w.frozen? ⟨b, o, none⟩ = false) : exStore Tryd.prog 67 (.pointer (some ⟨b, o, none⟩)) (.int .u32 n) w = .ok .skip (w.setCell ⟨b, o, none⟩ (.int .u32 n)) :=
  x_store1 inf_u32 w b o _ rfl rfl hc hf
end

/-- the row of the schedule while it is made -/
def schedRow (l : List (BitVec 8)) (k : Nat) : List (BitVec 32) := Sh.sched l k ++ zs (64 - k)
theorem schedRow_len (l : List (BitVec 8)) (k : Nat) (h : k ≤ 64) : (schedRow l k).length = 64 := by simp [schedRow, Sh.sched_len]; omega

theorem sched_step {w wr : World} {l : List (BitVec 8)} {k : Nat} (hk : k < 64) (hr1 : wr.rowOf (w.heap.size + 1) = cs U32 (schedRow l k)) (hf1 : wr.free (w.heap.size + 1) = true) (hr0 : wr.rowOf w.heap.size = cs U32 (zs 64))
    (hf0 : wr.free w.heap.size = true) (hbl : Below w.heap.size w wr) (v : BitVec 32) (hv : Sh.sched l (k + 1) = Sh.sched l k ++ [v]) :
    (wr.setCell ⟨w.heap.size + 1, k, none⟩ (U32 v)).rowOf (w.heap.size + 1) = cs U32 (schedRow l (k + 1)) ∧ (wr.setCell ⟨w.heap.size + 1, k, none⟩ (U32 v)).free (w.heap.size + 1) = true ∧
    (wr.setCell ⟨w.heap.size + 1, k, none⟩ (U32 v)).rowOf w.heap.size = cs U32 (zs 64) ∧ (wr.setCell ⟨w.heap.size + 1, k, none⟩ (U32 v)).free w.heap.size = true ∧ Below w.heap.size w (wr.setCell ⟨w.heap.size + 1, k, none⟩ (U32 v)) := by
  rw [setCell_row hf1, hr1, cs_set]
  have e : (schedRow l k).set k v = schedRow l (k + 1) := by
    unfold schedRow
    rw [hv, List.set_append_right _ _ (by simp [Sh.sched_len]), Sh.sched_len, Nat.sub_self, show 64 - k = (64 - (k + 1)) + 1 from by omega]
    simp [zs, List.replicate_succ]
  rw [e]
  exact ⟨rowOf_setRow_same _ hf1, by rw [free_setRow]; exact hf1, by rw [rowOf_setRow_other _ _ (by omega)]; exact hr0, by rw [free_setRow]; exact hf0, below_setRow' hbl (by omega) _⟩

attribute [local irreducible] schedRow

set_option maxRecDepth 100000 in
set_option maxHeartbeats 1000000 in
theorem schedule_any (b o : Nat) (len cap : Nat) (l : List (BitVec 8)) (w : World) (hlen : 64 ≤ len) (hcap : len ≤ cap)
    (hc : ∀ i, i < 64 → w.cell? ⟨b, o + i, none⟩ = some (U8 (l.getD i 0))) :
    Calls Tryd.prog 115 #[.slice (some ⟨b, o, none⟩) len cap] w fun e w' => e = .returned (.agg (cs U32 (Sh.sched l 64))) ∧ Below w.heap.size w w' := by
  have HC := hid hc
  have hb : b < w.heap.size := by
    have := hc 0 (by omega)
    rw [cell_rowOf] at this
    exact row_lt (o := o + 0) (by have := (Array.getElem?_eq_some_iff.1 this).1; exact this)
  clear hc
  go_enter Tryd.func115, Tryd.ntmps115
  go_wp2_with fail
  go_loopw [9] (fun t wr => ∃ k : Nat, k ≤ 64 ∧ t = .int .i64 k ∧ wr.rowOf (w.heap.size + 1) = cs U32 (schedRow l k) ∧ wr.free (w.heap.size + 1) = true ∧ wr.rowOf w.heap.size = cs U32 (zs 64) ∧ wr.free w.heap.size = true ∧ Below w.heap.size w wr)
    (fun t _ => 64 - (intOf t).toNat)
  case atStart => exact ⟨0, by omega, rfl, by simp [go_sem, schedRow, Sh.sched], by simp [go_sem], by simp [go_sem], by simp [go_sem], ((Below.refl _ _).alloc (Nat.le_refl _) _).alloc (by simp) _⟩
  case round =>
    obtain ⟨k, hk, rfl, hr1, hf1, hr0, hf0, hbl⟩ := hrel
    have hsz1 : (wr.rowOf (w.heap.size + 1)).size = 64 := by rw [hr1]; simp [schedRow_len l k hk]
    have hsz0 : (wr.rowOf w.heap.size).size = 64 := by rw [hr0]; simp
    by_cases hlt : k < 64
    · by_cases h16 : k < 16
      · have HR := hid hr1
        clear hr1
        have hz := hbl.size
        have hne : ¬ (cap = 4 * k) := by omega
        have hcl := fun i (hi : i < 64) => (hbl.cell (p := ⟨b, o + i, none⟩) hb).trans (HC.out i hi)
        have hwd := word_any b (o + 4 * k) (len - 4 * k) (cap - 4 * k) (l.getD (4 * k) 0) (l.getD (4 * k + 1) 0) (l.getD (4 * k + 2) 0) (l.getD (4 * k + 3) 0) wr (by omega)
          (hcl (4 * k) (by omega)) (hcl (4 * k + 1) (by omega)) (hcl (4 * k + 2) (by omega)) (hcl (4 * k + 3) (by omega))
        have HW := hid hwd
        have hce : wr.cell? ⟨w.heap.size + 1, k, none⟩ = some (U32 ((schedRow l k)[k]'(by rw [schedRow_len l k hk]; exact hlt))) := by rw [cell_rowOf, HR.out, cs_get_lt]
        have hfe := free_frozen hf1 k
        clear hcl hwd
        go_wp2_with fail
        refine HW.out.mono ?_
        rintro e w1 ⟨rfl, nq, rfl⟩
        go_wp2_with fail
        go_roundw
        case rel =>
          exact ⟨k + 1, by omega, by go_num, sched_step (wr := wr.drewN nq) hlt HR.out hf1 hr0 hf0 (below_drewN hbl _) _ (by rw [Sh.sched, if_pos h16]; rfl)⟩
        case measure => simp [intOf]; omega
      · have HR := hid hr1
        clear hr1
        have hz := hbl.size
        have hce : ∀ i, i < 64 → ∃ x, wr.cell? ⟨w.heap.size + 1, i, none⟩ = some (U32 x) ∧ (i < k → x = (Sh.sched l k).getD i 0) := fun i hi => by
          have hl : i < (schedRow l k).length := by rw [schedRow_len l k hk]; exact hi
          refine ⟨(schedRow l k)[i], by rw [cell_rowOf, HR.out, cs_get_lt hl], fun h => ?_⟩
          simp only [schedRow]
          rw [List.getElem_append_left (by rw [Sh.sched_len]; exact h), List.getD_eq_getElem?_getD, List.getElem?_eq_getElem (by rw [Sh.sched_len]; exact h)]; rfl
        obtain ⟨x0, c0, -⟩ := hce k hlt
        obtain ⟨x2, c2, e2⟩ := hce (k - 2) (by omega)
        obtain ⟨x7, c7, e7⟩ := hce (k - 7) (by omega)
        obtain ⟨x15, c15, e15⟩ := hce (k - 15) (by omega)
        obtain ⟨x16, c16, e16⟩ := hce (k - 16) (by omega)
        have E2 := hid (e2 (by omega)); have E7 := hid (e7 (by omega)); have E15 := hid (e15 (by omega)); have E16 := hid (e16 (by omega))
        have hfe := free_frozen hf1 k
        have g1 : (0 : Int) ≤ k - 15 := by omega
        have g2 : (0 : Int) ≤ k - 2 := by omega
        have g7 : (0 : Int) ≤ k - 7 := by omega
        have g16 : (0 : Int) ≤ k - 16 := by omega
        clear hce e2 e7 e15 e16
        go_wp2_with fail
        go_quiet (fail)
        go_wp2_with (go_at_call 116; refine (rotl_any _ _ _ (by omega)).mono ?_; rintro e w' ⟨rfl, rfl⟩)
        refine wp_region_qtail 14 (by kernel_rfl) (by kernel_rfl) ?_
        simp only [List.take_succ_cons, List.take_zero, List.drop_succ_cons, List.drop_zero]
        repeat (go_big_quiet_step (fail))
        refine wpQuiet_nil ?_
        go_wp2_with fail
        go_roundw
        case rel =>
          exact ⟨k + 1, by omega, by go_num, sched_step (wr := wr.drewN (nq + 1)) hlt HR.out hf1 hr0 hf0 (below_drewN hbl _) _ (by rw [Sh.sched, if_neg h16]; rw [E2.out, E7.out, E15.out, E16.out]; rfl)⟩
        case measure => simp [intOf]; omega
    · have : k = 64 := by omega
      subst this
      have hsl := schedRow_len l 64 (by omega)
      go_wp2_with fail
      refine bodyPost_ret (res_row (b := w.heap.size) rfl Tryd.underlying153 rfl inf_k _ _ rfl ?_) rfl ?_
      · rw [rowOf_setRow_same _ hf0]; simp [hsl]
      · refine ⟨?_, below_setRow' hbl (Nat.le_refl _) _⟩
        rw [rowOf_setRow_same _ hf0]
        simp [schedRow, zs]
end Go.Proofs.YtgclegdgngldoaaDoor
set_option linter.unusedSimpArgs false
set_option linter.unusedVariables false
namespace Go.Proofs.YtgclegdgngldoaaDoor
open Go.RowKit

/-- the table of constants -/
def KT (w : World) : Prop := w.rowOf 0 = cs U32 Sh.K
theorem KT.cell {w : World} (h : KT w) (i : Nat) (hi : i < 64) : w.cell? ⟨0, i, none⟩ = some (U32 (Sh.K.getD i 0)) := by
  have hl : i < Sh.K.length := hi
  rw [cell_rowOf, h, cs_get_lt hl, List.getD_eq_getElem?_getD, List.getElem?_eq_getElem hl]; rfl

/-- the state while the sums are taken, word by word -/
def mixed (s r : Sh.S8) (j : Nat) : List (BitVec 32) := (s.plus r).list.take j ++ s.list.drop j
theorem mixed_len (s r : Sh.S8) (j : Nat) (h : j ≤ 8) : (mixed s r j).length = 8 := by
  simp [mixed, Sh.S8.list]; omega
theorem mixed_get (s r : Sh.S8) (j : Nat) (h : j < 8) : (mixed s r j)[j]'(by rw [mixed_len s r j (by omega)]; exact h) = s.list.getD j 0 := by
  match j, h with
  | 0, _ | 1, _ | 2, _ | 3, _ | 4, _ | 5, _ | 6, _ | 7, _ => rfl
theorem mixed_set (s r : Sh.S8) (j : Nat) (h : j < 8) : (mixed s r j).set j (s.list.getD j 0 + r.list.getD j 0) = mixed s r (j + 1) := by
  match j, h with
  | 0, _ | 1, _ | 2, _ | 3, _ | 4, _ | 5, _ | 6, _ | 7, _ => rfl
theorem block_idx (s : Sh.S8) (k : Nat) (hk : k < 8) (w : World) : (Instr.index 139 (.agg #[U32 s.a, U32 s.b, U32 s.c, U32 s.d, U32 s.e, U32 s.f, U32 s.g, U32 s.h]) (.int .i64 k)).run Tryd.prog w = .ok (U32 (s.list.getD k 0)) w := by
  match k, hk with
  | 0, _ => (show _ = _; kernel_rfl)
  | 1, _ => (show _ = _; kernel_rfl)
  | 2, _ => (show _ = _; kernel_rfl)
  | 3, _ => (show _ = _; kernel_rfl)
  | 4, _ => (show _ = _; kernel_rfl)
  | 5, _ => (show _ = _; kernel_rfl)
  | 6, _ => (show _ = _; kernel_rfl)
  | 7, _ => (show _ = _; kernel_rfl)

theorem mixed_step {w wx : World} {bs os j : Nat} {s r : Sh.S8} {pre post : Array Value} (hj : j < 8) (hf : wx.free bs = true) (hr : wx.rowOf bs = pre ++ cs U32 (mixed s r j) ++ post) (hos : pre.size = os) (hg : w.grownBy wx (some bs)) :
    (wx.setCell ⟨bs, os + j, none⟩ (U32 (s.list.getD j 0 + r.list.getD j 0))).free bs = true ∧ (wx.setCell ⟨bs, os + j, none⟩ (U32 (s.list.getD j 0 + r.list.getD j 0))).rowOf bs = pre ++ cs U32 (mixed s r (j + 1)) ++ post ∧ w.grownBy (wx.setCell ⟨bs, os + j, none⟩ (U32 (s.list.getD j 0 + r.list.getD j 0))) (some bs) := by
  rw [setCell_row hf, hr, ← hos, mid_set _ _ _ _ _ (by rw [mixed_len s r j (by omega)]; exact hj), mixed_set s r j hj]
  exact ⟨by rw [free_setRow]; exact hf, rowOf_setRow_same _ hf, gb_setRow hg _⟩

set_option maxRecDepth 100000 in
set_option maxHeartbeats 1000000 in
theorem block_any (bs os b o : Nat) (len cap : Nat) (s : Sh.S8) (pre post : Array Value) (l : List (BitVec 8)) (w : World) (hlen : 64 ≤ len) (hcap : len ≤ cap)
    (hK : KT w) (hbs : 0 < bs) (hf : w.free bs = true) (hr : w.rowOf bs = pre ++ cs U32 s.list ++ post) (hos : pre.size = os)
    (hc : ∀ i, i < 64 → w.cell? ⟨b, o + i, none⟩ = some (U8 (l.getD i 0))) :
    Calls Tryd.prog 105 #[.pointer (some ⟨bs, os, none⟩), .slice (some ⟨b, o, none⟩) len cap] w fun e w' => e = .returned (.tuple #[]) ∧ w.grownBy w' (some bs) ∧ w'.free bs = true ∧ w'.rowOf bs = pre ++ cs U32 (Sh.compress s l).list ++ post := by
  have hbl := free_lt hf
  have HS := hid (schedule_any b o len cap l w hlen hcap hc)
  have hcell : ∀ i, i < 8 → w.cell? ⟨bs, os + i, none⟩ = some (U32 (s.list.getD i 0)) := fun i hi => by
    rw [cell_rowOf, hr, Array.append_assoc, Array.getElem?_append_right (by omega), hos, Nat.add_sub_cancel_left, Array.getElem?_append_left (by simpa [Sh.S8.list] using hi), cs_get_lt (by simpa [Sh.S8.list] using hi)]
    rw [List.getD_eq_getElem?_getD, List.getElem?_eq_getElem]; rfl
  have HK := hid hK
  have HR := hid hr
  have HC := hid hcell
  have HF := hid hf
  have HP := hid hos
  clear hK hr hc hcell hf hos
  go_enter Tryd.func105, Tryd.ntmps105
  go_wp2_with fail
  refine HS.out.mono ?_
  rintro e w1 ⟨rfl, hb1⟩
  have h1 := hb1.size
  have c0 : w1.cell? ⟨bs, os, none⟩ = some (U32 s.a) := (hb1.cell hbl).trans (HC.out 0 (by omega))
  have c1 : w1.cell? ⟨bs, os + 1, none⟩ = some (U32 s.b) := (hb1.cell hbl).trans (HC.out 1 (by omega))
  have c2 : w1.cell? ⟨bs, os + 2, none⟩ = some (U32 s.c) := (hb1.cell hbl).trans (HC.out 2 (by omega))
  have c3 : w1.cell? ⟨bs, os + 3, none⟩ = some (U32 s.d) := (hb1.cell hbl).trans (HC.out 3 (by omega))
  have c4 : w1.cell? ⟨bs, os + 4, none⟩ = some (U32 s.e) := (hb1.cell hbl).trans (HC.out 4 (by omega))
  have c5 : w1.cell? ⟨bs, os + 5, none⟩ = some (U32 s.f) := (hb1.cell hbl).trans (HC.out 5 (by omega))
  have c6 : w1.cell? ⟨bs, os + 6, none⟩ = some (U32 s.g) := (hb1.cell hbl).trans (HC.out 6 (by omega))
  have c7 : w1.cell? ⟨bs, os + 7, none⟩ = some (U32 s.h) := (hb1.cell hbl).trans (HC.out 7 (by omega))
  have hlt1 : bs < w1.heap.size := by omega
  have hsl : (Sh.sched l 64).length = 64 := Sh.sched_len l 64
  clear HS
  go_wp2_with fail
  go_quiet (fail)
  clear c0 c1 c2 c3 c4 c5 c6 c7
  go_wp2_with fail
  obtain ⟨w2, hw2⟩ : ∃ w2, w2 = w1.alloc (.cells (cs U32 (Sh.sched l 64)) 153) := ⟨_, rfl⟩
  rw [← hw2]
  have hz2 : w2.heap.size = w1.heap.size + 1 := by rw [hw2]; simp
  have hb2 : Below w1.heap.size w1 w2 := by rw [hw2]; exact (Below.refl _ _).alloc (Nat.le_refl _) _
  have hr2 : w2.rowOf w1.heap.size = cs U32 (Sh.sched l 64) := by rw [hw2]; exact rowOf_alloc_at _ _ _ rfl
  have hf2 : w2.free w1.heap.size = true := by rw [hw2]; exact free_alloc_at _ _ _ rfl
  have hkc : ∀ i, i < 64 → w2.cell? ⟨0, i, none⟩ = some (U32 (Sh.K.getD i 0)) := fun i hi =>
    (hb2.cell (by exact (by omega : 0 < w1.heap.size))).trans ((hb1.cell (by exact (by omega : 0 < w.heap.size))).trans (HK.out.cell i hi))
  have hwc : ∀ i, i < 64 → w2.cell? ⟨w1.heap.size, i, none⟩ = some (U32 ((Sh.sched l 64).getD i 0)) := fun i hi => by
    rw [cell_rowOf, hr2, cs_get_lt (by omega), List.getD_eq_getElem?_getD, List.getElem?_eq_getElem (by omega)]; rfl
  have HKC := hid hkc
  have HWC := hid hwc
  have HB2 := hid hb2
  have HB1 := hid hb1
  clear hkc hwc hw2 hr2 hz2 hsl
  go_loopw [5, 6, 7, 8, 9, 10, 11, 12, 52] (fun a b c d e f g h t wr => ∃ k : Nat, k ≤ 64 ∧ t = .int .i64 k ∧ a = U32 (Sh.rounds s (Sh.sched l 64) k).a ∧ b = U32 (Sh.rounds s (Sh.sched l 64) k).b ∧ c = U32 (Sh.rounds s (Sh.sched l 64) k).c ∧ d = U32 (Sh.rounds s (Sh.sched l 64) k).d ∧ e = U32 (Sh.rounds s (Sh.sched l 64) k).e ∧ f = U32 (Sh.rounds s (Sh.sched l 64) k).f ∧ g = U32 (Sh.rounds s (Sh.sched l 64) k).g ∧ h = U32 (Sh.rounds s (Sh.sched l 64) k).h ∧ ∃ n, wr = w2.drewN n)
    (fun _ _ _ _ _ _ _ _ t _ => 64 - (intOf t).toNat)
  case atStart => exact ⟨0, by omega, rfl, rfl, rfl, rfl, rfl, rfl, rfl, rfl, rfl, nq, rfl⟩
  case round =>
    obtain ⟨k, hk, rfl, rfl, rfl, rfl, rfl, rfl, rfl, rfl, rfl, n, hwr⟩ := hrel
    have HW := hid hwr
    obtain ⟨r, hr⟩ : ∃ r, r = Sh.rounds s (Sh.sched l 64) k := ⟨_, rfl⟩
    rw [← hr]
    have Hr := hid hr
    clear hr
    by_cases hlt : k < 64
    · have k1 : wr.cell? ⟨0, k, none⟩ = some (U32 (Sh.K.getD k 0)) := by rw [hwr]; exact HKC.out k hlt
      have k2 : wr.cell? ⟨w1.heap.size, k, none⟩ = some (U32 ((Sh.sched l 64).getD k 0)) := by rw [hwr]; exact HWC.out k hlt
      clear hwr
      go_wp
      go_quiet ((go_at_call 116; exact Calls.quiet_of_same (rotl_any _ _ _ (by omega))))
      go_wp2_with (go_at_call 116; refine (rotl_any _ _ _ (by omega)).mono ?_; rintro e w' ⟨rfl, rfl⟩)
      go_roundw
      case rel =>
        refine ⟨k + 1, by omega, by go_num, ?_⟩
        rw [Sh.rounds, ← Hr.out]
        exact ⟨by simp [Sh.S8.step, Sh.t1, Sh.t2], rfl, rfl, rfl, by simp [Sh.S8.step, Sh.t1, Sh.t2], rfl, rfl, rfl, n + nq, by rw [HW.out, World.drewN_drewN]⟩
      case measure => simp [intOf]; omega
    · have : k = 64 := by omega
      subst this
      have hwb := hwr
      clear hwr
      have hbz : bs < wr.heap.size := by rw [hwb]; have := hb2.size; show bs < w2.heap.size; omega
      have hg0 : w.grownBy wr (some bs) := by
        rw [hwb]
        exact gb_drewN (gb_trans (gb_below hb1 _) (gb_below hb2 _)) n
      have hrow : wr.rowOf bs = pre ++ cs U32 s.list ++ post := by
        rw [hwb]; show w2.rowOf bs = _
        rw [below_row hb2 hlt1, below_row hb1 hbl]; exact HR.out
      have hfr : wr.free bs = true := by
        rw [hwb]; show w2.free bs = _
        rw [below_free hb2 hlt1, below_free hb1 hbl]; exact HF.out
      have HG := hid hg0
      have HRW := hid hrow
      have HFR := hid hfr
      clear hwb hg0 hrow hfr
      go_wp
      obtain ⟨wo, hwo⟩ : ∃ wo : World, wo = wr := ⟨_, rfl⟩
      rw [← hwo] at HG HRW HFR
      rw [← hwo]
      clear HW hwo
      go_loopw [121] (fun t wx => ∃ j : Nat, j ≤ 8 ∧ t = .int .i64 j ∧ wx.free bs = true ∧ wx.rowOf bs = pre ++ cs U32 (mixed s r j) ++ post ∧ w.grownBy wx (some bs)) (fun t _ => 8 - (intOf t).toNat)
      case atStart => exact ⟨0, by omega, rfl, HFR.out, by rw [HRW.out]; rfl, HG.out⟩
      case round =>
        obtain ⟨j, hj, rfl, hfx, hrx, hgx⟩ := hrel
        by_cases hlj : j < 8
        · have hidx := block_idx r j hlj
          obtain ⟨sj, hsj⟩ : ∃ sj, sj = s.list.getD j 0 := ⟨_, rfl⟩
          obtain ⟨rj, hrj⟩ : ∃ rj, rj = r.list.getD j 0 := ⟨_, rfl⟩
          rw [← hrj] at hidx
          have hcj : wr.cell? ⟨bs, os + j, none⟩ = some (U32 sj) := by
            rw [cell_rowOf, hrx, ← HP.out, mid_get _ _ _ _ (by rw [mixed_len s r j hj]; exact hlj), hsj, mixed_get s r j hlj]
          have hff := free_frozen hfx (os + j)
          have HRX := hid hrx
          have HSJ := hid hsj
          have HRJ := hid hrj
          clear hrx hsj hrj
          go_wp
          refine wp_region_qtail 9 (by kernel_rfl) (by kernel_rfl) ?_
          simp only [List.take_succ_cons, List.take_zero, List.drop_succ_cons, List.drop_zero]
          repeat (go_big_quiet_step (fail))
          refine wpQuiet_nil ?_
          go_wp
          go_roundw
          case rel =>
            refine ⟨j + 1, by omega, by go_num, ?_⟩
            rw [HSJ.out, HRJ.out]
            exact mixed_step (wx := wr.drewN 1) hlj hfx HRX.out HP.out (gb_drewN hgx 1)
          case measure => simp [intOf]; omega
        · have : j = 8 := by omega
          subst this
          go_wp
          go_end0
          refine ⟨rfl, hgx, hfx, ?_⟩
          rw [hrx, Sh.compress, ← Hr.out]
          rfl
end Go.Proofs.YtgclegdgngldoaaDoor
set_option linter.unusedSimpArgs false
set_option linter.unusedVariables false
namespace Go.Proofs.YtgclegdgngldoaaDoor
open Go.RowKit

theorem inf_byts : (Tryd.prog.info? 89).map (·.size) = some 1 := by kernel_rfl
section
variable (ρ : Operand → Value) (dst : Option Tmp) (ty : TypeId) (pos : String) (after : Array Edge) (guard : Option (Nat × Bool)) (w : World)
@[go_sem ↓] theorem rs_byts (x y : Operand) : (execOp ρ { dst, op := .store 89 x y, type := ty, pos, after, guard }).run Tryd.prog w = exStore Tryd.prog 89 (ρ x) (ρ y) w := x_store ..
@[go_sem] theorem xs_byts (b o : Nat) (v : Value) (hv : ones1 v = true) (ho : o < (w.rowOf b).size) (hf : w.free b = true) : exStore Tryd.prog 89 (.pointer (some ⟨b, o, none⟩)) v w = .ok .skip (w.setRow b ((w.rowOf b).setIfInBounds o v)) :=
  x_storec inf_byts w b o v hv ho hf
end

/-- a hash, as its row of cells -/
def hrow (s : Sh.S8) (rv : Value) (n : Nat) : Array Value := #[.bool true, U32 s.a, U32 s.b, U32 s.c, U32 s.d, U32 s.e, U32 s.f, U32 s.g, U32 s.h, rv, .int .i64 n]
/-- block b is a hash: its state, the bytes that wait, how many bytes there were, and the slice that holds those that wait -/
def HR (w : World) (b : Nat) (s : Sh.S8) (rest : List (BitVec 8)) (n : Nat) (rv : Value) : Prop :=
  w.free b = true ∧ w.rowOf b = hrow s rv n ∧ OB w (b + 1) rv rest
section
variable {w : World} {b : Nat} {s : Sh.S8} {rest : List (BitVec 8)} {n : Nat} {rv : Value}
theorem hr_c {i : Nat} (h : w.rowOf b = hrow s rv n) : w.cell? ⟨b, i, none⟩ = (hrow s rv n)[i]? := by rw [cell_rowOf, h]
end

set_option maxHeartbeats 400000 in
theorem good_yes (w : World) (b : Nat) (h : w.cell? ⟨b, 0, none⟩ = some (.bool true)) :
    Calls Tryd.prog 104 #[.pointer (some ⟨b, 0, none⟩)] w fun e w' => e = .returned (.bool true) ∧ w = w' := by
  go_enter Tryd.func104, Tryd.ntmps104
  go_wp2
  go_ret
  exact ⟨rfl, rfl⟩
theorem inf_st : (Tryd.prog.info? 140).map (·.size) = some 8 := by kernel_rfl
section
variable (ρ : Operand → Value) (dst : Option Tmp) (ty : TypeId) (pos : String) (after : Array Edge) (guard : Option (Nat × Bool)) (w : World)
@[go_sem ↓] theorem rl_st (x : Operand) : (execOp ρ { dst, op := .load 140 x, type := ty, pos, after, guard }).run Tryd.prog w = exLoad Tryd.prog 140 (ρ x) w := x_load ..
@[go_sem ↓] theorem rs_st (x y : Operand) : (execOp ρ { dst, op := .store 140 x y, type := ty, pos, after, guard }).run Tryd.prog w = exStore Tryd.prog 140 (ρ x) (ρ y) w := x_store ..
@[go_sem ↓] theorem ra_st : (execOp ρ { dst, op := .alloc 140, type := ty, pos, after, guard }).run Tryd.prog w = .ok (.value (.pointer (some ⟨w.heap.size, 0, none⟩))) (w.alloc (.cells (cs U32 (zs 8)) 140)) :=
  (x_alloc ..).trans (x_alloc0 (v := .agg (cs U32 (zs 8))) _ (by kernel_rfl))
@[go_sem] theorem xl_st (b : Nat) (h : (w.rowOf b).size = 8) : exLoad Tryd.prog 140 (.pointer (some ⟨b, 0, none⟩)) w = .ok (.value (.agg (w.rowOf b))) w := x_load0 _ Tryd.underlying140 rfl inf_st b h
@[go_sem] theorem xlm_st (b o : Nat) (ho : 0 < o) (h : o + 8 ≤ (w.rowOf b).size) : exLoad Tryd.prog 140 (.pointer (some ⟨b, o, none⟩)) w = .ok (.value (.agg ((w.rowOf b).extract o (o + 8)))) w := x_loadm _ Tryd.underlying140 rfl inf_st b o h
@[go_sem] theorem xs_st (b : Nat) (c : Array Value) (hl : c.size = 8) (h1 : ones c = true) (h : (w.rowOf b).size = 8) (hf : w.free b = true) : exStore Tryd.prog 140 (.pointer (some ⟨b, 0, none⟩)) (.agg c) w = .ok .skip (w.setRow b c) :=
  x_store0 _ inf_st b c hl h hf (ones_all h1)
@[go_sem] theorem xsm_st (b o : Nat) (ho : 0 < o) (c : Array Value) (hl : c.size = 8) (h1 : ones c = true) (h : o + 8 ≤ (w.rowOf b).size) (hf : w.free b = true) : exStore Tryd.prog 140 (.pointer (some ⟨b, o, none⟩)) (.agg c) w = .ok .skip (w.setSeg b o c) :=
  x_storem _ inf_st b o c hl h hf (ones_all h1)
end
set_option maxHeartbeats 400000 in
theorem begin_any (w : World) :
    Calls Tryd.prog 103 #[] w fun e w' => e = .returned (.agg (cs U32 Sh.init.list)) ∧ Below w.heap.size w w' := by
  go_enter Tryd.func103, Tryd.ntmps103
  go_wp2_with fail
  refine bodyPost_ret (res_row (b := w.heap.size) rfl Tryd.underlying140 rfl inf_st _ _ rfl ?_) rfl ?_
  · rw [rowOf_alloc_at _ _ _ rfl]; rfl
  · rw [rowOf_alloc_at _ _ _ rfl]
    exact ⟨rfl, (Below.refl _ _).alloc (Nat.le_refl _) _⟩

set_option maxHeartbeats 400000 in
theorem new_any (w : World) :
    Calls Tryd.prog 86 #[] w fun e w' => ∃ b, e = .returned (.pointer (some ⟨b, 0, none⟩)) ∧ w.heap.size ≤ b ∧ b < w'.heap.size ∧ HR w' b Sh.init [] 0 (.slice none 0 0) ∧ Below w.heap.size w w' := by
  go_enter Tryd.func86, Tryd.ntmps86
  go_wp2_with (go_at_call 103; refine (begin_any _).mono ?_; rintro e w1 ⟨rfl, hb1⟩)
  go_ret
  exact ⟨w1.heap.size, rfl, hb1.size, by simp, ⟨free_alloc_at _ _ _ rfl, (rowOf_alloc_at _ _ _ rfl).trans (by kernel_rfl), OB.nil _ _⟩, hb1.alloc hb1.size _⟩

/-- how long the bytes that wait are: what falls from round to round -/
def lenAt (b : Nat) (w : World) : Nat := match w.cell? ⟨b, 9, none⟩ with | some (.slice _ n _) => n | _ => 0
theorem lenAt_eq {w : World} {b : Nat} {a : Option Addr} {n c : Nat} (h : w.cell? ⟨b, 9, none⟩ = some (.slice a n c)) : lenAt b w = n := by simp [lenAt, h]
/-- what a round of Write does -/
theorem write_round {w wr w4 : World} {b b2 o2 cap2 n m : Nat} {s' : Sh.S8} {r' : List (BitVec 8)} {rv : Value} {X : Sh.S8 × List (BitVec 8)} {a : Option Addr} (hfx : wr.free b = true) (hb0 : 0 < b)
    (hb : BS wr (.slice (some ⟨b2, o2, none⟩) r'.length cap2) r') (hb2 : b2 ≠ b) (hx : Sh.absorb s' r' = X) (hk : KT wr) (hfr : Fr (fun k => k = b ∨ some k = rv.ownBlock) w wr) (h64 : 64 ≤ r'.length)
    (hg : wr.drew.grownBy w4 (some b)) (hf4 : w4.free b = true) (ha : 64 < r'.length → a = some ⟨b2, o2 + 64, none⟩) (hn : a = none ∨ ∃ o, a = some ⟨b2, o, none⟩) (c : Array Value)
    (hc : c = #[.bool true, U32 (Sh.compress s' (r'.take 64)).a, U32 (Sh.compress s' (r'.take 64)).b, U32 (Sh.compress s' (r'.take 64)).c, U32 (Sh.compress s' (r'.take 64)).d, U32 (Sh.compress s' (r'.take 64)).e, U32 (Sh.compress s' (r'.take 64)).f, U32 (Sh.compress s' (r'.take 64)).g, U32 (Sh.compress s' (r'.take 64)).h, .slice a (r'.length - 64) (cap2 - 64), .int .i64 ((n : Int) + m)]) :
    ∃ s'' r'' rv'', (w4.setRow b c).free b = true ∧ (w4.setRow b c).rowOf b = #[.bool true, U32 s''.a, U32 s''.b, U32 s''.c, U32 s''.d, U32 s''.e, U32 s''.f, U32 s''.g, U32 s''.h, rv'', .int .i64 ((n : Int) + m)] ∧ BS (w4.setRow b c) rv'' r'' ∧ rv''.ownBlock ≠ some b ∧
      Sh.absorb s'' r'' = X ∧ KT (w4.setRow b c) ∧ Fr (fun k => k = b ∨ some k = rv.ownBlock) w (w4.setRow b c) := by
  have hbz := free_lt hfx
  refine ⟨Sh.compress s' (r'.take 64), r'.drop 64, .slice a (r'.length - 64) (cap2 - 64), by rw [free_setRow]; exact hf4, by rw [rowOf_setRow_same _ hf4, hc], ?_, ?_, by rw [← Sh.absorb_ge h64]; exact hx, ?_, ?_⟩
  · have h1 : BS w4 (.slice (some ⟨b2, o2, none⟩) r'.length cap2) r' := SV.grown (w := wr.drew) (SV.drewN hb 1) hg (.inr (by simp [Value.ownBlock]; exact hb2))
    have h2 : BS (w4.setRow b c) (.slice (some ⟨b2, o2, none⟩) r'.length cap2) r' := SV.grown h1 (gb_setRow (gb_refl _ (some b)) c) (.inr (by simp [Value.ownBlock]; exact hb2))
    exact h2.tail 64 h64 a ha
  · rcases hn with rfl | ⟨o, rfl⟩
    · simp [Value.ownBlock]
    · simp [Value.ownBlock]; exact hb2
  · show (w4.setRow b c).rowOf _ = _
    rw [rowOf_setRow_other _ _ (by omega), gb_row hg (by show _ < wr.heap.size; omega) (by simp; omega)]; exact hk
  · exact Fr.setRow (Fr.trans hfr ((Fr.drewN (Fr.refl _ wr) 1).trans ((Fr.of_grown hg).mono (fun k _ hk => by left; left; left; injection hk)))) (.inl (.inl rfl)) c
attribute [local irreducible] Sh.compress

set_option maxRecDepth 100000 in
set_option maxHeartbeats 1000000 in
theorem write_any (w : World) (b : Nat) (s : Sh.S8) (rest l : List (BitVec 8)) (n : Nat) (rv v : Value) (hK : KT w) (hb0 : 0 < b) (h : HR w b s rest n rv) (hv : BS w v l)
    (hsep2 : l = [] ∨ v.ownBlock ≠ some b) (hn : n + l.length ≤ 1073741824) (hr : rest.length < 64) :
    Calls Tryd.prog 87 #[.pointer (some ⟨b, 0, none⟩), v] w fun e w' => e = .returned (.int .i64 0) ∧ ∃ rv', HR w' b (Sh.absorb s (rest ++ l)).1 (Sh.absorb s (rest ++ l)).2 (n + l.length) rv' ∧
      Fr (fun k => k = b ∨ some k = rv.ownBlock) w w' ∧ (∀ g, rv'.ownBlock = some g → w.heap.size ≤ g) := by
  obtain ⟨hf, hrow, hown⟩ := h
  have hbz := free_lt hf
  have hgb : ∀ g, rv.ownBlock = some g → b + 1 ≤ g ∧ g < w.heap.size := hown.lt
  have HOB : ∀ c, OB (w.setRow b c) (b + 1) rv rest := fun c => hown.kept (gb_setRow (gb_refl _ _) c) (by
    cases hq : rv.ownBlock with
    | none => exact .inl rfl
    | some g => exact .inr (fun e => by injection e with e; have := (hgb g hq).1; omega))
  have HBS : ∀ c, BS (w.setRow b c) v l := fun c => SV.grown' hv (gb_setRow (gb_refl _ (some b)) c) (hsep2.imp (fun e => by rw [e]; rfl) id)
  have HBZ : ∀ c, b + 1 ≤ (w.setRow b c).heap.size := fun c => by simp; omega
  have HG : ∀ (c : Array Value) (w2 : World), (w.setRow b c).grownBy w2 rv.ownBlock → w2.free b = true ∧ w2.rowOf b = c ∧ KT w2 ∧ Fr (fun k => k = b ∨ some k = rv.ownBlock) w w2 := fun c w2 hg => by
    have hne : some b ≠ rv.ownBlock := fun e => by have := (hgb b e.symm).1; omega
    have hne0 : some 0 ≠ rv.ownBlock := fun e => by have := (hgb _ e.symm).1; omega
    refine ⟨by rw [gb_free hg (by simpa using hbz) hne, free_setRow]; exact hf, by rw [gb_row hg (by simpa using hbz) hne, rowOf_setRow_same _ hf], ?_, ?_⟩
    · show w2.rowOf _ = _
      rw [gb_row hg (by simp; omega) hne0, rowOf_setRow_other _ _ (by omega)]; exact hK
    · exact (Fr.setRow (Fr.refl _ w) (.inl (.inl rfl)) c).trans ((Fr.of_grown hg).mono (fun k _ hk => .inl (.inr hk)))
  obtain ⟨av, cv, rfl, hcv⟩ := hv.shape
  have c0 : w.cell? ⟨b, 0, none⟩ = some (.bool true) := hr_c hrow
  have c9 : w.cell? ⟨b, 9, none⟩ = some rv := hr_c hrow
  have c10 : w.cell? ⟨b, 10, none⟩ = some (.int .i64 n) := hr_c hrow
  have hrl : w.rowOf b = #[.bool true, U32 s.a, U32 s.b, U32 s.c, U32 s.d, U32 s.e, U32 s.f, U32 s.g, U32 s.h, rv, .int .i64 n] := hrow
  clear hrow
  have n1 : ¬ (1073741824 - (n : Int) < l.length) := by omega
  have H1 := hid HOB; have H2 := hid HBS; have H3 := hid HBZ; have H4 := hid HG; have H5 := hid hgb; have H6 := hid hK
  clear HOB HBS HBZ HG hgb hK hsep2 hv hown
  go_enter Tryd.func87, Tryd.ntmps87
  go_wp2_with (first
    | (go_at_call 104; refine (good_yes _ _ ?_).mono ?_; assumption; rintro e w' ⟨rfl, rfl⟩)
    | (refine wpList_apb rfl (.tmp 31) (.tmp 32) rfl (b + 1) rv _ rest l rfl (H1.out _) rfl (H2.out _) (by omega) (H3.out _) ?_; rintro v2 w2 hown2 hg2 -; obtain ⟨a2, c2, rfl, hc2⟩ := hown2.bs.shape; obtain ⟨hf2, hrow2, hK2, hfr2⟩ := H4.out _ w2 hg2; have H7 := hid hown2; have H8 := hid hK2; have H9 := hid hfr2; clear hown2 hK2 hfr2 hg2))
  obtain ⟨w3, hw3⟩ : ∃ w3, w3 = w2.setRow b #[.bool true, U32 s.a, U32 s.b, U32 s.c, U32 s.d, U32 s.e, U32 s.f, U32 s.g, U32 s.h, .slice a2 (rest.length + l.length) c2, .int .i64 ((n : Int) + l.length)] := ⟨_, rfl⟩
  have hob3 : BS w3 (.slice a2 (rest ++ l).length c2) (rest ++ l) := by
    rw [hw3]; exact SV.grown H7.out.bs (gb_setRow (gb_refl _ (some b)) _) (.inr (fun e => by have := (H7.out.lt b e).1; omega))
  have hne3 : (Value.slice a2 (rest ++ l).length c2).ownBlock ≠ some b := fun e => by have := (H7.out.lt b e).1; omega
  have hf3 : w3.free b = true := by rw [hw3, free_setRow]; exact hf2
  have hr3 : w3.rowOf b = #[.bool true, U32 s.a, U32 s.b, U32 s.c, U32 s.d, U32 s.e, U32 s.f, U32 s.g, U32 s.h, .slice a2 (rest ++ l).length c2, .int .i64 ((n : Int) + l.length)] := by
    rw [hw3, rowOf_setRow_same _ hf2, List.length_append]
  have hk3 : KT w3 := by rw [hw3]; show (w2.setRow b _).rowOf _ = _; rw [rowOf_setRow_other _ _ (by omega)]; exact H8.out
  have hfr3 : Fr (fun k => k = b ∨ some k = rv.ownBlock) w w3 := by rw [hw3]; exact Fr.setRow H9.out (.inl (.inl rfl)) _
  have e3 := hw3
  rw [List.length_append] at hob3 hne3 hr3
  have G0 := hid hob3; have G1 := hid hne3; have G2 := hid hf3; have G3 := hid hr3; have G4 := hid hk3; have G5 := hid hfr3
  clear hob3 hne3 hf3 hr3 hk3 hfr3 hw3 H7 H8 H9 hf2 hrow2 c0 c9 c10 hrl hf
  rw [← e3]
  clear e3
  go_loopw [] (fun wr => ∃ s' r' rv', wr.free b = true ∧ wr.rowOf b = #[.bool true, U32 s'.a, U32 s'.b, U32 s'.c, U32 s'.d, U32 s'.e, U32 s'.f, U32 s'.g, U32 s'.h, rv', .int .i64 ((n : Int) + l.length)] ∧ BS wr rv' r' ∧ rv'.ownBlock ≠ some b ∧ Sh.absorb s' r' = Sh.absorb s (rest ++ l) ∧ KT wr ∧
      Fr (fun k => k = b ∨ some k = rv.ownBlock) w wr) (fun wr => lenAt b wr)
  case atStart =>
    have e : (rest ++ l).length = rest.length + l.length := List.length_append
    exact ⟨s, rest ++ l, _, G2.out, G3.out, by rw [← e]; rw [← e] at G0; exact G0.out, G1.out, rfl, G4.out, G5.out⟩
  case round =>
    obtain ⟨s', r', rv', hfx, hrx, hbx, hnx, habs, hkx, hfr⟩ := hrel
    have HA := hid habs; have HK := hid hkx; have HFR := hid hfr; have HN := hid hnx; have HB := hid hbx
    have c9 : wr.cell? ⟨b, 9, none⟩ = some rv' := by rw [cell_rowOf, hrx]; rfl
    have hbz : b < wr.heap.size := free_lt hfx
    clear G0 G1 G2 G3 G4 G5 habs hkx hfr
    by_cases h64 : 64 ≤ r'.length
    · obtain ⟨b2, o2, cap2, rfl, hcap, hcells⟩ := hbx.open (by intro e; simp [e] at h64)
      have hb2 : b2 ≠ b := fun e => hnx (by simp [Value.ownBlock, e])
      have HBK := block_any b 1 b2 o2 64 cap2 s' #[.bool true] #[.slice (some ⟨b2, o2, none⟩) r'.length cap2, .int .i64 ((n : Int) + l.length)] (r'.take 64) wr.drew (Nat.le_refl _) (by omega) HK.out hb0 hfx hrx rfl
        (fun i hi => by
          have := hcells i (by omega)
          rw [List.getD_eq_getElem?_getD, List.getElem?_take_of_lt hi, ← List.getD_eq_getElem?_getD]; exact this)
      have HBL := hid HBK
      have hcap' : (64 : Int) ≤ cap2 := by omega
      have h64' : (64 : Int) ≤ r'.length := by omega
      clear HBK hbx hnx hcells
      go_wp
      refine wp_region_qtail 8 (by kernel_rfl) (by kernel_rfl) ?_
      simp only [List.take_succ_cons, List.take_zero, List.drop_succ_cons, List.drop_zero]
      repeat (go_big_quiet_step (fail))
      refine wpQuiet_nil ?_
      go_wp
      refine HBL.out.mono ?_
      rintro e w4 ⟨rfl, hg4, hf4, hq4⟩
      have hr4 : w4.rowOf b = #[.bool true, U32 (Sh.compress s' (r'.take 64)).a, U32 (Sh.compress s' (r'.take 64)).b, U32 (Sh.compress s' (r'.take 64)).c, U32 (Sh.compress s' (r'.take 64)).d, U32 (Sh.compress s' (r'.take 64)).e, U32 (Sh.compress s' (r'.take 64)).f, U32 (Sh.compress s' (r'.take 64)).g, U32 (Sh.compress s' (r'.take 64)).h, .slice (some ⟨b2, o2, none⟩) r'.length cap2, .int .i64 ((n : Int) + l.length)] := hq4
      clear hq4
      have d9 : w4.cell? ⟨b, 9, none⟩ = some (.slice (some ⟨b2, o2, none⟩) r'.length cap2) := by rw [cell_rowOf, hr4]; rfl
      have HG4 := hid hg4
      have HHX := hid hrx
      clear hg4 hrx
      by_cases hc64 : cap2 = 64
      · subst hc64
        have h65 : (r'.length : Int) ≤ 64 := by omega
        dsimp only
        go_wp
        go_roundw
        case rel => exact write_round (cap2 := 64) (a := some ⟨b2, o2, none⟩) hfx hb0 HB.out hb2 HA.out HK.out HFR.out h64 HG4.out hf4 (fun h => by omega) (.inr ⟨_, rfl⟩) _ (by rw [show r'.length - 64 = 0 from by omega])
        case measure =>
          rw [lenAt_eq (a := some ⟨b2, o2, none⟩) (n := 0) (c := 0) (by rw [cell_rowOf, rowOf_setRow_same _ hf4]; rfl), lenAt_eq c9]; omega
      · dsimp only
        go_wp
        go_roundw
        case rel => exact write_round (a := some ⟨b2, o2 + 64, none⟩) hfx hb0 HB.out hb2 HA.out HK.out HFR.out h64 HG4.out hf4 (fun h => rfl) (.inr ⟨_, rfl⟩) _ rfl
        case measure =>
          rw [lenAt_eq (a := some ⟨b2, o2 + 64, none⟩) (n := r'.length - 64) (c := cap2 - 64) (by rw [cell_rowOf, rowOf_setRow_same _ hf4]; rfl), lenAt_eq c9]; omega
    · obtain ⟨ar, cr, rfl, hcr⟩ := hbx.shape
      have hlt64 : ¬ ((64 : Int) ≤ r'.length) := by omega
      have HHX := hid hrx
      clear hbx hnx hrx
      go_wp2_with (refine wpList_apb rfl (.const (.slice none 0 0)) (.tmp 63) rfl wr.heap.size (.slice none 0 0) _ [] r' rfl (OB.nil _ _) rfl HB.out (by simp; omega) (Nat.le_refl _) ?_; rintro v5 w5 hown5 hg5 -; obtain ⟨a5, c5, rfl, hc5⟩ := hown5.bs.shape; have hf5 := (gb_free hg5 hbz (by simp [Value.ownBlock])).trans hfx; have hr5 := (gb_row hg5 hbz (by simp [Value.ownBlock])).trans HHX.out; have HO5 := hid hown5; have HG5 := hid hg5; clear hown5 hg5)
      go_ret
      have e := Sh.absorb_lt (s := s') (l := r') (by omega)
      have hzz := HFR.out.size
      rw [← HA.out, e]
      refine ⟨rfl, _, ⟨by rw [free_setRow]; exact hf5, by rw [rowOf_setRow_same _ hf5]; rfl, ?_⟩, ?_, ?_⟩
      · have h1 : OB w5 wr.heap.size (.slice a5 r'.length c5) r' := HO5.out
        exact (h1.kept (gb_setRow (gb_refl _ (some b)) _) (by
          cases hq : (Value.slice a5 r'.length c5).ownBlock with
          | none => exact .inl rfl
          | some g => exact .inr (fun e => by injection e with e; have := (h1.lt g hq).1; omega))).mono hbz
      · exact Fr.setRow (Fr.trans HFR.out ((Fr.of_grown HG5.out).mono (fun k _ hk => by simp [Value.ownBlock] at hk))) (.inl (.inl rfl)) _
      · intro g hg
        have h1 : OB w5 wr.heap.size (.slice a5 r'.length c5) r' := HO5.out
        have := (h1.lt g hg).1
        omega
end Go.Proofs.YtgclegdgngldoaaDoor
set_option linter.unusedSimpArgs false
set_option linter.unusedVariables false
namespace Go.Proofs.YtgclegdgngldoaaDoor
open Go.RowKit

theorem be8_val (n k : Nat) (hk : k < 8) : Value.int .u8 ((n : Int) * 8 / 2 ^ (56 - 8 * k) % 256) = U8 ((Sh.be8 n).getD k 0) := by
  have key : ∀ m : Nat, Value.int .u8 (((m : Nat) : Int) % 256) = U8 (BitVec.ofNat 8 m) := fun m => by
    unfold U8; rw [BitVec.toNat_ofNat]; simp
  have e : ((n : Int) * 8 / 2 ^ (56 - 8 * k)) = ((n * 8 / 2 ^ (56 - 8 * k) : Nat) : Int) := by simp
  rw [e, key]
  match k, hk with
  | 0, _ | 1, _ | 2, _ | 3, _ | 4, _ | 5, _ | 6, _ => rfl
  | 7, _ => simp [Sh.be8]
theorem be8_take (n k : Nat) (hk : k < 8) : (Sh.be8 n).take (k + 1) = (Sh.be8 n).take k ++ [(Sh.be8 n).getD k 0] := by
  have hl : k < (Sh.be8 n).length := hk
  rw [List.take_succ_eq_append_getElem hl, List.getD_eq_getElem?_getD, List.getElem?_eq_getElem hl]; rfl
/-- the digest's row while it is written, word by word -/
def outRow (s : Sh.S8) (k : Nat) : List (BitVec 8) := s.bytes.take (4 * k) ++ zs (32 - 4 * k)
theorem outRow_len (s : Sh.S8) (k : Nat) (hk : k ≤ 8) : (outRow s k).length = 32 := by
  simp [outRow, Sh.bytes_len]; omega
theorem outRow_step (s : Sh.S8) (k : Nat) (hk : k < 8) : ((((outRow s k).set (4 * k) ((s.list.getD k 0 >>> 24).setWidth 8)).set (4 * k + 1) ((s.list.getD k 0 >>> 16).setWidth 8)).set (4 * k + 2) ((s.list.getD k 0 >>> 8).setWidth 8)).set (4 * k + 3) ((s.list.getD k 0).setWidth 8) = outRow s (k + 1) := by
  match k, hk with
  | 0, _ | 1, _ | 2, _ | 3, _ | 4, _ | 5, _ | 6, _ | 7, _ => rfl
theorem outRow_zero (s : Sh.S8) : outRow s 0 = zs 32 := by simp [outRow, zs]
theorem outRow_all (s : Sh.S8) : outRow s 8 = s.bytes := by
  have : s.bytes.take 32 = s.bytes := List.take_of_length_le (by rw [Sh.bytes_len]; exact Nat.le_refl _)
  simp [outRow, zs, this]
theorem word_idx (s : Sh.S8) (k : Nat) (hk : k < 8) (w : World) : (Instr.index 140 (.agg (cs U32 s.list)) (.int .i64 k)).run Tryd.prog w = .ok (U32 (s.list.getD k 0)) w := by
  match k, hk with
  | 0, _ | 1, _ | 2, _ | 3, _ | 4, _ | 5, _ | 6, _ | 7, _ => (show _ = _; kernel_rfl)
attribute [local irreducible] outRow
def slLen : Value → Nat | .slice _ n _ => n | _ => 0
set_option maxRecDepth 100000 in
set_option maxHeartbeats 2000000 in
theorem sumh_any (w : World) (b : Nat) (s : Sh.S8) (rest : List (BitVec 8)) (n : Nat) (rv : Value) (hK : KT w) (hb0 : 0 < b) (h : HR w b s rest n rv) (hn : n ≤ 1073741824) (hr : rest.length < 64) :
    Calls Tryd.prog 89 #[.pointer (some ⟨b, 0, none⟩)] w fun e w' => e = .returned (.agg (cs U8 (Sh.digest s rest n))) ∧ Below w.heap.size w w' := by
  obtain ⟨hf, hrow, hown⟩ := h
  have c0 : w.cell? ⟨b, 0, none⟩ = some (.bool true) := hr_c hrow
  have c9 : w.cell? ⟨b, 9, none⟩ = some rv := hr_c hrow
  have c10 : w.cell? ⟨b, 10, none⟩ = some (.int .i64 n) := hr_c hrow
  have hrl : w.rowOf b = #[.bool true, U32 s.a, U32 s.b, U32 s.c, U32 s.d, U32 s.e, U32 s.f, U32 s.g, U32 s.h, rv, .int .i64 n] := hrow
  have hbz := free_lt hf
  have hbz1 : b < w.heap.size + 1 := by omega
  have hbz2 : b < w.heap.size + 1 + 1 := by omega
  obtain ⟨ar, cr, rfl, hcr⟩ := hown.bs.shape
  have HO := hid hown
  have HK := hid hK
  clear hrow hown hK
  go_enter Tryd.func89, Tryd.ntmps89
  go_wp2_with (first
    | (go_at_call 104; refine (good_yes _ _ ?_).mono ?_; simp [*, go_sem]; rintro e w' ⟨rfl, rfl⟩)
    | (refine wpList_apb rfl (.const (.slice none 0 0)) (.tmp 20) rfl (w.heap.size + 3) _ _ [] rest rfl (OB.nil _ _) rfl (SV.alloc (SV.alloc (SV.alloc HO.out.bs _) _) _) (by simp; omega) (by simp) ?_; rintro v1 w1 hown1 hg1 -)
    | (refine wpList_apb rfl (.tmp 22) (.tmp 23) rfl (w.heap.size + 3) _ _ rest [128] rfl (OB.alloc hown1 _) rfl (BS.one _ _ 128 rfl _) (by simp; omega) (by have := hg1.size; simp at this ⊢; omega) ?_; rintro v2 w2 hown2 hg2 -))
  obtain ⟨w3, hw3⟩ : ∃ w3, w3 = ((w.alloc (Obj.cells (cs U8 (zs 32)) 23)).alloc (Obj.cells (cs U8 (zs 32)) 23)).alloc (Obj.cells (cs U32 s.list) 140) := ⟨_, rfl⟩
  have hz3 : w3.heap.size = w.heap.size + 3 := by rw [hw3]; simp
  have hb3 : Below w.heap.size w w3 := by rw [hw3]; exact (((Below.refl _ _).alloc (Nat.le_refl _) _).alloc (by simp) _).alloc (by simp; omega) _
  have hB1 : Below (w.heap.size + 3) w3 w1 := by
    rw [← hz3]; refine gb_to_below (r := none) ?_ _ (Nat.le_refl _) (fun g h => by cases h)
    rw [hw3]; exact hg1
  have hB2 : Below (w.heap.size + 3) w3 w2 := ob_below1 _ hB1 hown1 (by rw [← hz3]; exact hB1.size) hg2
  have r0 : w3.rowOf w.heap.size = cs U8 (zs 32) ∧ w3.free w.heap.size = true := by
    rw [hw3]; constructor <;> simp [go_sem]
  have r1 : w3.rowOf (w.heap.size + 1) = cs U8 (zs 32) ∧ w3.free (w.heap.size + 1) = true := by
    rw [hw3]; constructor <;> simp [go_sem]
  have r2 : w3.rowOf (w.heap.size + 2) = cs U32 s.list ∧ w3.free (w.heap.size + 2) = true := by
    rw [hw3]; constructor <;> simp [go_sem]
  have hz3' : w.heap.size + 3 ≤ w3.heap.size := by omega
  clear c0 c9 hrl hg1 hg2 hown1 hw3 hB1
  have hN1 := hid hb3; have hN2 := hid r0; have hN3 := hid r1; have hN4 := hid r2
  have c10' : ∀ wr, Below (w.heap.size + 3) w3 wr → wr.cell? ⟨b, 10, none⟩ = some (.int .i64 n) := fun wr h => (h.cell (p := ⟨b, 10, none⟩) (by show b < _; omega)).trans ((hb3.cell (p := ⟨b, 10, none⟩) hbz).trans c10)
  have HC := hid c10'
  clear r0 r1 r2 hb3 c10 c10'
  go_loopw [5] (fun v wr => ∃ j, j ≤ Sh.npad rest.length ∧ OB wr (w.heap.size + 3) v (rest ++ [128] ++ Sh.zeros j) ∧ Below (w.heap.size + 3) w3 wr) (fun v _ => 300 - slLen v)
  case atStart => exact ⟨0, by omega, by simpa [Sh.zeros] using hown2, hB2⟩
  case round =>
    obtain ⟨j, hj, hov, hbw⟩ := hrel
    have hpd : Sh.npad rest.length = (119 - rest.length % 64) % 64 := rfl
    have hz := hbw.size
    have hz' : w.heap.size + 3 ≤ wr.heap.size := by omega
    obtain ⟨N, hN⟩ : ∃ N, N = (rest ++ [128] ++ Sh.zeros j).length := ⟨_, rfl⟩
    have hN' : N = rest.length + 1 + j := by rw [hN]; simp [Sh.zeros]; omega
    obtain ⟨av, cv, rfl, hcv⟩ := hov.bs.shape' N hN.symm
    have hNle : N ≤ 200 := by omega
    have HN := hid hN
    clear hB2 hown2 hz3
    by_cases hlt : j < Sh.npad rest.length
    · have h56 : ((N : Int) % 64 != 56) = true := by rw [bne_iff_ne]; omega
      have HN' := hid hN'; have HP := hid hpd
      clear hN hN' hpd
      go_wp2_with (refine wpList_apb rfl (.tmp 29) (.tmp 30) rfl (w.heap.size + 3) _ _ _ [0] rfl (OB.alloc hov _) rfl (BS.one _ _ 0 rfl _) (by rw [← HN.out]; simp; omega) (by simp; omega) ?_; rintro v3 w4 hown3 hg3 -; have HB4 := ob_below1 _ hbw hov hz' hg3)
      go_roundw
      case rel => exact ⟨j + 1, by omega, by simpa [Sh.zeros, List.replicate_succ'] using hown3, HB4⟩
      case measure =>
        obtain ⟨a3, c3, rfl, hc3⟩ := hown3.bs.shape' (N + 1) (by rw [List.length_append, ← HN.out]; rfl)
        show 300 - (N + 1) < 300 - N
        omega
    · have h56 : ((N : Int) % 64 != 56) = false := by rw [bne_eq_false_iff_eq]; omega
      have hje : j = Sh.npad rest.length := by omega
      have HN' := hid hN'; have HP := hid hpd; have HJ := hid hje
      clear hN hN' hpd hje
      obtain ⟨wo, hwo⟩ : ∃ wo : World, wo = wr := ⟨_, rfl⟩
      rw [← hwo] at hov hbw hz'
      rw [← hwo]
      clear hwo hz
      go_wp2_with fail
      go_loopw [5, 6] (fun v i wr => ∃ k : Nat, k ≤ 8 ∧ i = .int .i64 (56 - 8 * (k : Int)) ∧ OB wr (w.heap.size + 3) v (rest ++ [128] ++ Sh.zeros (Sh.npad rest.length) ++ (Sh.be8 n).take k) ∧ Below (w.heap.size + 3) w3 wr) (fun _ i _ => (intOf i + 8).toNat)
      case atStart => exact ⟨0, by omega, rfl, by rw [← HJ.out]; simpa using hov, hbw⟩
      case round =>
        obtain ⟨k, hk, rfl, hok, hbk⟩ := hrel
        have hz := hbk.size
        have hz' : w.heap.size + 3 ≤ wr.heap.size := by omega
        have d10 := HC.out wr hbk
        clear hov hbw
        by_cases hlt : k < 8
        · have i0 : (0 : Int) ≤ 56 - 8 * k := by omega
          go_wp2_with (refine wpList_apb rfl (.tmp 36) (.tmp 46) rfl (w.heap.size + 3) _ _ _ [(Sh.be8 n).getD k 0] rfl (OB.alloc hok _) rfl (BS.one _ _ _ (be8_val n k hlt) _) (by simp [Sh.be8, Sh.zeros, Sh.npad]; omega) (by simp; omega) ?_; rintro v3 w4 hown3 hg3 -; have HB4 := ob_below1 _ hbk hok hz' hg3)
          go_roundw
          case rel => exact ⟨k + 1, by omega, by go_num, by rw [be8_take n k hlt, ← List.append_assoc]; exact hown3, HB4⟩
          case measure => simp [intOf]; omega
        · have hke : k = 8 := by omega
          subst hke
          have hfin : rest ++ [128] ++ Sh.zeros (Sh.npad rest.length) ++ (Sh.be8 n).take 8 = Sh.finish rest n := rfl
          rw [hfin] at hok
          have HOK := hid hok
          have hbs := hok.bs
          have hlo := hok.lt
          have HBS := hid hbs; have HLO := hid hlo
          obtain ⟨wo2, hwo⟩ : ∃ wo : World, wo = wr := ⟨_, rfl⟩
          rw [← hwo] at HBS HLO hbk hz'
          rw [← hwo]
          clear hwo hz hok hbs hlo d10 HOK hfin
          rw [show (56 : Int) - 8 * ((8 : Nat) : Int) = -8 from rfl]
          go_wp2_with fail
          go_loopw [5] (fun v wr => ∃ s' r, BS wr v r ∧ (∀ g, v.ownBlock = some g → w.heap.size + 3 ≤ g) ∧ r.length % 64 = 0 ∧ Sh.absorb s' r = Sh.absorb s (Sh.finish rest n) ∧ wr.free (w.heap.size + 2) = true ∧ wr.rowOf (w.heap.size + 2) = cs U32 s'.list ∧ Below (w.heap.size + 2) w3 wr) (fun v _ => slLen v)
          case atStart =>
            refine ⟨s, Sh.finish rest n, HBS.out, fun g hg => (HLO.out g hg).1, Sh.finish_mod rest n, rfl, ?_, ?_, hbk.mono (by omega)⟩
            · rw [below_free hbk (by omega)]; exact hN4.out.2
            · rw [below_row hbk (by omega)]; exact hN4.out.1
          case round =>
            obtain ⟨s', r, hbs, hlo, hmod, habs, hf2, hr2, hb2⟩ := hrel
            have HM := hid hmod; have HA := hid habs; have HB := hid hbs; have HR2 := hid hr2
            have hz := hb2.size
            by_cases hne : r = []
            · have HNE := hid hne
              obtain ⟨a5, c5, rfl, hc5⟩ := hbs.shape' 0 (by rw [hne]; rfl)
              clear hne hmod habs hbs hr2 hlo
              have hsl : s'.list.length = 8 := rfl
              have q1 : wr.rowOf (w.heap.size + 1 + 1) = cs U32 s'.list := HR2.out
              have q2 : wr.rowOf (w.heap.size + 1) = cs U8 (outRow s' 0) := by
                rw [below_row hb2 (by omega), outRow_zero]; exact hN3.out.1
              have q3 : wr.free (w.heap.size + 1) = true := by
                rw [below_free hb2 (by omega)]; exact hN3.out.2
              have q4 : wr.rowOf w.heap.size = cs U8 (zs 32) := by
                rw [below_row hb2 (by omega)]; exact hN2.out.1
              have q5 : wr.free w.heap.size = true := by
                rw [below_free hb2 (by omega)]; exact hN2.out.2
              have q6 : Below w.heap.size w wr := hN1.out.trans (hb2.mono (by omega))
              have Q2 := hid q2; have Q3 := hid q3; have Q4 := hid q4; have Q5 := hid q5; have Q6 := hid q6
              clear q2 q3 q4 q5 q6 hb2 hf2 hz hbk
              go_wp2_with fail
              obtain ⟨wo3, hwo⟩ : ∃ wo : World, wo = wr := ⟨_, rfl⟩
              rw [← hwo] at Q2 Q3 Q4 Q5 Q6
              rw [← hwo]
              clear hwo q1
              go_loopw [57] (fun t wr => ∃ k : Nat, k ≤ 8 ∧ t = .int .i64 k ∧ wr.rowOf (w.heap.size + 1) = cs U8 (outRow s' k) ∧ wr.free (w.heap.size + 1) = true ∧ wr.rowOf w.heap.size = cs U8 (zs 32) ∧ wr.free w.heap.size = true ∧ Below w.heap.size w wr) (fun t _ => 8 - (intOf t).toNat)
              case atStart => exact ⟨0, by omega, rfl, Q2.out, Q3.out, Q4.out, Q5.out, Q6.out⟩
              case round =>
                obtain ⟨k, hk, rfl, e1, e2, e3, e4, e5⟩ := hrel
                have E3 := hid e3; have E4 := hid e4; have E5 := hid e5
                clear Q2 Q3 Q4 Q5 Q6
                by_cases hlt : k < 8
                · have hidx := word_idx s' k hlt
                  have g0 : 4 * k < 32 := by omega
                  have g1 : 4 * k + 1 < 32 := by omega
                  have g2 : 4 * k + 2 < 32 := by omega
                  have g3 : 4 * k + 3 < 32 := by omega
                  have hlo : (outRow s' k).length = 32 := outRow_len s' k hk
                  clear e3 e4 e5
                  go_wp2_with fail
                  go_roundw
                  case rel =>
                    refine ⟨k + 1, by omega, by go_num, ?_, by rw [free_setRow]; exact e2, by rw [rowOf_setRow_other _ _ (by omega)]; exact E3.out, by rw [free_setRow]; exact E4.out, below_setRow' E5.out (by omega) _⟩
                    rw [rowOf_setRow_same _ e2, ← outRow_step s' k hlt, List.getD_eq_getElem?_getD, List.getElem?_eq_getElem (by exact hlt)]; rfl
                  case measure => simp [intOf]; omega
                · have : k = 8 := by omega
                  subst this
                  have hlo : (outRow s' 8).length = 32 := outRow_len s' 8 (by omega)
                  go_wp2_with fail
                  refine bodyPost_ret (res_row (b := w.heap.size) rfl Tryd.underlying23 rfl inf_key _ _ rfl ?_) rfl ?_
                  · rw [rowOf_setRow_same _ e4]; simp [hlo]
                  · rw [rowOf_setRow_same _ e4, outRow_all]
                    have hab := HA.out
                    rw [HNE.out, Sh.absorb_lt (by simp)] at hab
                    exact ⟨by rw [Sh.digest, ← hab], below_setRow' e5 (Nat.le_refl _) _⟩
            · obtain ⟨b2, o2, cap2, rfl, hcap, hcells⟩ := hbs.open hne
              have hlen : 64 ≤ r.length := by
                have : 0 < r.length := by cases r with | nil => exact absurd rfl hne | cons => simp
                omega
              have hblk : w.heap.size + 3 ≤ b2 := hlo b2 rfl
              have hKr : KT wr := by
                show wr.rowOf _ = _
                rw [below_row hb2 (by omega), below_row hN1.out (by omega)]; exact HK.out
              have HBK := hid (block_any (w.heap.size + 2) 0 b2 o2 64 cap2 s' #[] #[] (r.take 64) wr (Nat.le_refl _) (by omega) hKr (by omega) hf2 (by rw [hr2]; simp) rfl
                (fun i hi => by
                  have := hcells i (by omega)
                  rw [List.getD_eq_getElem?_getD, List.getElem?_take_of_lt hi, ← List.getD_eq_getElem?_getD]; exact this))
              have hpos : (0 : Int) < r.length := by omega
              have hcap' : (64 : Int) ≤ cap2 := by omega
              have h64' : (64 : Int) ≤ r.length := by omega
              clear hne hmod habs hbs hr2 hlo hcells hKr
              have HX : ∀ w4, wr.grownBy w4 (some (w.heap.size + 2)) → ∀ a, (64 < r.length → a = some ⟨b2, o2 + 64, none⟩) → BS w4 (.slice a (r.length - 64) (cap2 - 64)) (r.drop 64) ∧ Below (w.heap.size + 2) w3 w4 := fun w4 hg a ha =>
                ⟨BS.tail (SV.grown HB.out hg (.inr (by simp [Value.ownBlock]; omega))) 64 hlen a ha, hb2.trans (gb_to_below hg _ (by omega) (fun g h => by injection h; omega))⟩
              by_cases hc64 : cap2 = 64
              · subst hc64
                have h65 : (r.length : Int) ≤ 64 := by omega
                go_wp2_with (go_at_call 105; refine HBK.out.mono ?_; rintro e w4 ⟨rfl, hg4, hf4, hr4⟩)
                go_roundw
                case rel =>
                  obtain ⟨x1, x2⟩ := HX w4 hg4 (some ⟨b2, o2, none⟩) (fun h => by omega)
                  refine ⟨Sh.compress s' (r.take 64), r.drop 64, ?_, fun g hg => by have h5 : some b2 = some g := hg; injection h5 with h5; omega, by rw [List.length_drop, ← Nat.mod_eq_sub_mod hlen]; exact HM.out, by rw [← Sh.absorb_ge hlen]; exact HA.out, hf4, by rw [hr4]; simp, x2⟩
                  have e0 : r.length - 64 = 0 := by omega
                  rw [e0] at x1; exact x1
                case measure => show 0 < r.length; omega
              · go_wp2_with (go_at_call 105; refine HBK.out.mono ?_; rintro e w4 ⟨rfl, hg4, hf4, hr4⟩)
                go_roundw
                case rel =>
                  obtain ⟨x1, x2⟩ := HX w4 hg4 (some ⟨b2, o2 + 64, none⟩) (fun h => rfl)
                  exact ⟨Sh.compress s' (r.take 64), r.drop 64, x1, fun g hg => by have h5 : some b2 = some g := hg; injection h5 with h5; omega, by rw [List.length_drop, ← Nat.mod_eq_sub_mod hlen]; exact HM.out, by rw [← Sh.absorb_ge hlen]; exact HA.out, hf4, by rw [hr4]; simp, x2⟩
                case measure => show r.length - 64 < r.length; omega

set_option maxRecDepth 100000 in
set_option maxHeartbeats 1000000 in
theorem sum_any (w : World) (v : Value) (l : List (BitVec 8)) (hK : KT w) (hk0 : 0 < w.heap.size) (hv : BS w v l) (hn : l.length ≤ 1073741824) :
    Calls Tryd.prog 85 #[v] w fun e w' => e = .returned (.agg (cs U8 (Sh.sum l))) ∧ Below w.heap.size w w' := by
  have HK := hid hK
  have HV := hid hv
  clear hK hv
  go_enter Tryd.func85, Tryd.ntmps85
  go_wp2_with fail
  refine (new_any _).mono ?_
  rintro e w1 ⟨b, rfl, hb1, hb2, hr1, hbl1⟩
  have hsz : w.heap.size + 1 ≤ b := by simpa using hb1
  have hbl1' : Below (w.heap.size + 1) (w.alloc (.cells (cs U8 (zs 32)) 23)) w1 := hbl1.mono (by simp)
  have hw1 : Below w.heap.size w w1 := ((Below.refl _ _).alloc (Nat.le_refl _) _).trans (hbl1.mono (by simp))
  have hk1 : KT w1 := by show w1.rowOf _ = _; rw [below_row hw1 hk0]; exact HK.out
  have hv1 : BS w1 v l := SV.below HV.out hw1
  have hsp : l = [] ∨ v.ownBlock ≠ some b := by
    by_cases hl : l = []
    · exact .inl hl
    · exact .inr (fun e => by have := SV.lt HV.out b e (by simpa using hl); omega)
  have HW := hid (write_any w1 b Sh.init [] l 0 _ v hk1 (by omega) hr1 hv1 hsp (by omega) (by simp))
  have q1 : w1.rowOf w.heap.size = cs U8 (zs 32) := (below_row hbl1' (by omega)).trans (rowOf_alloc_at _ _ _ rfl)
  have q2 : w1.free w.heap.size = true := (below_free hbl1' (by omega)).trans (free_alloc_at _ _ _ rfl)
  have HK1 := hid hk1; have Q1 := hid q1; have Q2 := hid q2; have HW1 := hid hw1
  clear hbl1 hbl1' hw1 hk1 hv1 hsp hr1 q1 q2
  dsimp only
  go_wp2_with fail
  refine HW.out.mono ?_
  rintro e w2 ⟨rfl, rv2, hr2, hfr2, hge2⟩
  have hne : ∀ k, k < b → ¬ (k = b ∨ some k = (Value.slice none 0 0).ownBlock) := fun k hk h => by
    rcases h with h | h
    · omega
    · simp [Value.ownBlock] at h
  have hzz := HW1.out.size
  have hw2 : Below w.heap.size w w2 := HW1.out.trans (hfr2.below _ (by omega) (fun k _ h => by
    apply Classical.byContradiction; intro h2; exact hne k (by omega) h))
  have hk2 : KT w2 := by show w2.rowOf _ = _; rw [below_row hw2 hk0]; exact HK.out
  have hrl := (Sh.absorb_rest Sh.init ([] ++ l)).1
  have HS := hid (sumh_any w2 b _ _ _ rv2 hk2 (by omega) hr2 (by omega) hrl)
  have q1 : w2.rowOf w.heap.size = cs U8 (zs 32) := (hfr2.row (by omega) (hne _ (by omega))).trans Q1.out
  have q2 : w2.free w.heap.size = true := (hfr2.free (by omega) (hne _ (by omega))).trans Q2.out
  have R1 := hid q1; have R2 := hid q2; have HW2 := hid hw2
  clear hr2 hfr2 hge2 hne hw2 hk2 hrl q1 q2 HW
  dsimp only
  go_wp2_with fail
  refine HS.out.mono ?_
  rintro e w3 ⟨rfl, hb3⟩
  have hz2 : w.heap.size < w2.heap.size := free_lt R2.out
  have q1 : w3.rowOf w.heap.size = cs U8 (zs 32) := (below_row hb3 hz2).trans R1.out
  have q2 : w3.free w.heap.size = true := (below_free hb3 hz2).trans R2.out
  have hds : (Sh.digest (Sh.absorb Sh.init ([] ++ l)).1 (Sh.absorb Sh.init ([] ++ l)).2 (0 + l.length)) = Sh.sum l := by
    rw [List.nil_append, Nat.zero_add, Sh.digest_absorb]; rfl
  have hsl : (Sh.sum l).length = 32 := rfl
  have HB3 := hid hb3
  rw [hds]
  obtain ⟨D, hD⟩ : ∃ D, D = Sh.sum l := ⟨_, rfl⟩
  rw [← hD] at hsl
  rw [← hD]
  have HD := hid hD
  clear hb3 hds hD HS
  dsimp only
  go_wp2_with fail
  refine bodyPost_ret (res_row (b := w.heap.size) rfl Tryd.underlying23 rfl inf_key _ _ rfl ?_) rfl ?_
  · rw [rowOf_setRow_same _ q2]; simp [hsl]
  · rw [rowOf_setRow_same _ q2]
    exact ⟨by rw [HD.out], below_setRow' (HW2.out.trans (HB3.out.mono (by omega))) (Nat.le_refl _) _⟩
end Go.Proofs.YtgclegdgngldoaaDoor
