/-
  Walks of package sha: rotate, word, schedule; own work.
  The walk of a block of SHA-256; own work.
-/
import Derived.Test.YtgclegdgngldoaaDoorMem
import Derived.Test.YtgclegdgngldoaaDoorShaSpec
set_option linter.unusedSimpArgs false
set_option linter.unusedVariables false
namespace Go.Proofs.YtgclegdgngldoaaDoor
open Go.RowKit

theorem and31 (k : Int) (hk : -32 < k ∧ k < 0) : bits BinOp.and IntKind.u64 (IntKind.u64.wrap k) 31 = 32 + k := by
  have h := bits_mask .u64 64 (by decide) (fun n h0 h1 => by rw [wrap_u64']; omega) 5 (by decide) (IntKind.u64.wrap k) (by rw [wrap_u64']; omega) (by rw [wrap_u64']; omega)
  have e : (31 : Int) = 2 ^ 5 - 1 := by decide
  rw [e, h, wrap_u64']
  omega

set_option maxHeartbeats 400000 in
theorem rotl_any (x : BitVec 32) (k : Int) (w : World) (hk : -32 < k ∧ k < 0) :
    Calls Tryd.prog 116 #[U32 x, .int .i64 k] w fun e w' => e = .returned (U32 (Sh.rr x (-k).toNat)) ∧ w' = w := by
  have h1 := and31 k hk
  obtain ⟨j, rfl⟩ : ∃ j : Nat, k = -(j : Int) := ⟨(-k).toNat, by omega⟩
  obtain ⟨s, hs⟩ : ∃ s : Nat, (s : Int) = 32 + -(j : Int) := ⟨32 - j, by omega⟩
  rw [← hs] at h1
  have h2 : (s : Int) ≤ 32 := by omega
  have h3 : (0 : Int) ≤ 32 - s := by omega
  have e1 : s = 32 - j := by omega
  have e2 : 32 - s = j := by omega
  have H1 := hid e1
  have H2 := hid e2
  clear e1 e2 hs
  go_enter Tryd.func116, Tryd.ntmps116
  go_wp2
  go_ret
  refine ⟨?_, rfl⟩
  show Ending.returned (U32 (x <<< s ||| x >>> (32 - s))) = _
  rw [H2.out, H1.out, BitVec.or_comm]
  simp [Sh.rr]

set_option maxHeartbeats 400000 in
theorem word_any (b o : Nat) (len cap : Nat) (b0 b1 b2 b3 : BitVec 8) (w : World) (hlen : 4 ≤ len) 
  (h0 : w.cell? ⟨b, o, none⟩ = some (U8 b0)) (h1 : w.cell? ⟨b, o + 1, none⟩ = some (U8 b1)) (h2 : w.cell? ⟨b, o + 2, none⟩ = some (U8 b2)) (h3 : w.cell? ⟨b, o + 3, none⟩ = some (U8 b3)):
    Calls Tryd.prog 120 #[.slice (some ⟨b, o, none⟩) len cap] w fun e w' => e = .returned (U32 (Sh.word b0 b1 b2 b3)) ∧ ∃ n, w' = w.drewN n := by
  have l0 : (0 : Int) < len := by omega
  have l1 : (1 : Int) < len := by omega
  have l2 : (2 : Int) < len := by omega
  have l3 : (3 : Int) < len := by omega
  go_enter Tryd.func120, Tryd.ntmps120
  go_wp2_with fail
  go_quiet (fail)
  go_wp2
  go_ret
  exact ⟨rfl, _, rfl⟩

theorem inf_k : (Tryd.prog.info? 153).map (·.size) = some 64 := by kernel_rfl
section
variable (ρ : Operand → Value) (dst : Option Tmp) (ty : TypeId) (pos : String) (after : Array Edge) (guard : Option (Nat × Bool)) (w : World)
@[go_sem ↓] theorem rl_k (x : Operand) : (execOp ρ { dst, op := .load 153 x, type := ty, pos, after, guard }).run Tryd.prog w = exLoad Tryd.prog 153 (ρ x) w := x_load ..
@[go_sem ↓] theorem rs_k (x y : Operand) : (execOp ρ { dst, op := .store 153 x y, type := ty, pos, after, guard }).run Tryd.prog w = exStore Tryd.prog 153 (ρ x) (ρ y) w := x_store ..
@[go_sem ↓] theorem ra_k : (execOp ρ { dst, op := .alloc 153, type := ty, pos, after, guard }).run Tryd.prog w = .ok (.value (.pointer (some ⟨w.heap.size, 0, none⟩))) (w.alloc (.cells (cs U32 (zs 64)) 153)) :=
  (x_alloc ..).trans (x_alloc0 (v := .agg (cs U32 (zs 64))) _ (by kernel_rfl))
@[go_sem] theorem xl_k (b : Nat) (h : (w.rowOf b).size = 64) : exLoad Tryd.prog 153 (.pointer (some ⟨b, 0, none⟩)) w = .ok (.value (.agg (w.rowOf b))) w := x_load0 _ Tryd.underlying153 rfl inf_k b h
@[go_sem] theorem xlm_k (b o : Nat) (ho : 0 < o) (h : o + 64 ≤ (w.rowOf b).size) : exLoad Tryd.prog 153 (.pointer (some ⟨b, o, none⟩)) w = .ok (.value (.agg ((w.rowOf b).extract o (o + 64)))) w := x_loadm _ Tryd.underlying153 rfl inf_k b o h
@[go_sem] theorem xs_k (b : Nat) (c : Array Value) (hl : c.size = 64) (h1 : ones c = true) (h : (w.rowOf b).size = 64) (hf : w.free b = true) : exStore Tryd.prog 153 (.pointer (some ⟨b, 0, none⟩)) (.agg c) w = .ok .skip (w.setRow b c) :=
  x_store0 _ inf_k b c hl h hf (ones_all h1)
@[go_sem] theorem xsm_k (b o : Nat) (ho : 0 < o) (c : Array Value) (hl : c.size = 64) (h1 : ones c = true) (h : o + 64 ≤ (w.rowOf b).size) (hf : w.free b = true) : exStore Tryd.prog 153 (.pointer (some ⟨b, o, none⟩)) (.agg c) w = .ok .skip (w.setSeg b o c) :=
  x_storem _ inf_k b o c hl h hf (ones_all h1)
end
/-- at a step: a store, and a variable made -/
theorem wps_k {a : Act} {w : World} {K : Act → World → Prop} {Q : Exit → Act → World → Prop} {o : Oper} (p x : Operand) (ho : o.op = .store 153 p x) (b : Nat) (c : Array Value) (hp : a.eval p = .pointer (some ⟨b, 0, none⟩)) (hx : a.eval x = .agg c)
    (hl : c.size = 64) (h1 : ones c = true) (h : (w.rowOf b).size = 64) (hf : w.free b = true) (hK : K (a.put o.dst undef) (w.setRow b c)) : o.wp Tryd.prog a w K Q := by
  obtain ⟨dst, op, ty, pos, after, guard⟩ := o
  subst ho
  unfold Oper.wp
  rw [rs_k, hp, hx, xs_k _ _ _ hl h1 h hf]
  simp only [Oper.upon]
  exact hK
theorem wpa_k {a : Act} {w : World} {K : Act → World → Prop} {Q : Exit → Act → World → Prop} {o : Oper} (ho : o.op = .alloc 153)
    (hK : K (a.put o.dst (.pointer (some ⟨w.heap.size, 0, none⟩))) (w.alloc (.cells (cs U32 (zs 64)) 153))) : o.wp Tryd.prog a w K Q := by
  obtain ⟨dst, op, ty, pos, after, guard⟩ := o
  subst ho
  unfold Oper.wp
  rw [ra_k]
  simp only [Oper.upon]
  exact hK

theorem inf_u32 : (Tryd.prog.info? 67).map (·.size) = some 1 := by kernel_rfl
section
variable (ρ : Operand → Value) (dst : Option Tmp) (ty : TypeId) (pos : String) (after : Array Edge) (guard : Option (Nat × Bool)) (w : World)
@[go_sem ↓] theorem rs_u32 (x y : Operand) : (execOp ρ { dst, op := .store 67 x y, type := ty, pos, after, guard }).run Tryd.prog w = exStore Tryd.prog 67 (ρ x) (ρ y) w := x_store ..
@[go_sem] theorem xs_u32 (b o : Nat) (x : BitVec 32) (hc : (w.cell? ⟨b, o, none⟩).isSome = true) (hf : w.frozen? ⟨b, o, none⟩ = false) : exStore Tryd.prog 67 (.pointer (some ⟨b, o, none⟩)) (U32 x) w = .ok .skip (w.setCell ⟨b, o, none⟩ (U32 x)) :=
  x_store1 inf_u32 w b o _ rfl rfl hc hf
@[go_sem] theorem xsi_u32 (b o : Nat) (n : Int) (hc : (w.cell? ⟨b, o, none⟩).isSome = true) (hf : w.frozen? ⟨b, o, none⟩ = false) : exStore Tryd.prog 67 (.pointer (some ⟨b, o, none⟩)) (.int .u32 n) w = .ok .skip (w.setCell ⟨b, o, none⟩ (.int .u32 n)) :=
  x_store1 inf_u32 w b o _ rfl rfl hc hf
end

/-- the row of the schedule while it is made -/
def schedRow (l : List (BitVec 8)) (k : Nat) : List (BitVec 32) := Sh.sched l k ++ zs (64 - k)
theorem schedRow_len (l : List (BitVec 8)) (k : Nat) (h : k ≤ 64) : (schedRow l k).length = 64 := by simp [schedRow, Sh.sched_len]; omega

theorem sched_step {w wr : World} {l : List (BitVec 8)} {k : Nat} (hk : k < 64) (hr1 : wr.rowOf (w.heap.size + 1) = cs U32 (schedRow l k)) (hf1 : wr.free (w.heap.size + 1) = true) (hr0 : wr.rowOf w.heap.size = cs U32 (zs 64))
    (hf0 : wr.free w.heap.size = true) (hbl : Below w.heap.size w wr) (v : BitVec 32) (hv : Sh.sched l (k + 1) = Sh.sched l k ++ [v]) :
    (wr.setCell ⟨w.heap.size + 1, k, none⟩ (U32 v)).rowOf (w.heap.size + 1) = cs U32 (schedRow l (k + 1)) ∧ (wr.setCell ⟨w.heap.size + 1, k, none⟩ (U32 v)).free (w.heap.size + 1) = true ∧
    (wr.setCell ⟨w.heap.size + 1, k, none⟩ (U32 v)).rowOf w.heap.size = cs U32 (zs 64) ∧ (wr.setCell ⟨w.heap.size + 1, k, none⟩ (U32 v)).free w.heap.size = true ∧ Below w.heap.size w (wr.setCell ⟨w.heap.size + 1, k, none⟩ (U32 v)) := by
  rw [setCell_row hf1, hr1, cs_set]
  have e : (schedRow l k).set k v = schedRow l (k + 1) := by
    unfold schedRow
    rw [hv, List.set_append_right _ _ (by simp [Sh.sched_len]), Sh.sched_len, Nat.sub_self, show 64 - k = (64 - (k + 1)) + 1 from by omega]
    simp [zs, List.replicate_succ]
  rw [e]
  exact ⟨rowOf_setRow_same _ hf1, by rw [free_setRow]; exact hf1, by rw [rowOf_setRow_other _ _ (by omega)]; exact hr0, by rw [free_setRow]; exact hf0, below_setRow' hbl (by omega) _⟩

attribute [local irreducible] schedRow

set_option maxRecDepth 100000 in
set_option maxHeartbeats 1000000 in
theorem schedule_any (b o : Nat) (len cap : Nat) (l : List (BitVec 8)) (w : World) (hlen : 64 ≤ len) (hcap : len ≤ cap)
    (hc : ∀ i, i < 64 → w.cell? ⟨b, o + i, none⟩ = some (U8 (l.getD i 0))) :
    Calls Tryd.prog 115 #[.slice (some ⟨b, o, none⟩) len cap] w fun e w' => e = .returned (.agg (cs U32 (Sh.sched l 64))) ∧ Below w.heap.size w w' := by
  have HC := hid hc
  have hb : b < w.heap.size := by
    have := hc 0 (by omega)
    rw [cell_rowOf] at this
    exact row_lt (o := o + 0) (by have := (Array.getElem?_eq_some_iff.1 this).1; exact this)
  clear hc
  go_enter Tryd.func115, Tryd.ntmps115
  go_wp2_with fail
  go_loopw [9] (fun t wr => ∃ k : Nat, k ≤ 64 ∧ t = .int .i64 k ∧ wr.rowOf (w.heap.size + 1) = cs U32 (schedRow l k) ∧ wr.free (w.heap.size + 1) = true ∧ wr.rowOf w.heap.size = cs U32 (zs 64) ∧ wr.free w.heap.size = true ∧ Below w.heap.size w wr)
    (fun t _ => 64 - (intOf t).toNat)
  case atStart => exact ⟨0, by omega, rfl, by simp [go_sem, schedRow, Sh.sched], by simp [go_sem], by simp [go_sem], by simp [go_sem], ((Below.refl _ _).alloc (Nat.le_refl _) _).alloc (by simp) _⟩
  case round =>
    obtain ⟨k, hk, rfl, hr1, hf1, hr0, hf0, hbl⟩ := hrel
    have hsz1 : (wr.rowOf (w.heap.size + 1)).size = 64 := by rw [hr1]; simp [schedRow_len l k hk]
    have hsz0 : (wr.rowOf w.heap.size).size = 64 := by rw [hr0]; simp
    by_cases hlt : k < 64
    · by_cases h16 : k < 16
      · have HR := hid hr1
        clear hr1
        have hz := hbl.size
        have hne : ¬ (cap = 4 * k) := by omega
        have hcl := fun i (hi : i < 64) => (hbl.cell (p := ⟨b, o + i, none⟩) hb).trans (HC.out i hi)
        have hwd := word_any b (o + 4 * k) (len - 4 * k) (cap - 4 * k) (l.getD (4 * k) 0) (l.getD (4 * k + 1) 0) (l.getD (4 * k + 2) 0) (l.getD (4 * k + 3) 0) wr (by omega)
          (hcl (4 * k) (by omega)) (hcl (4 * k + 1) (by omega)) (hcl (4 * k + 2) (by omega)) (hcl (4 * k + 3) (by omega))
        have HW := hid hwd
        have hce : wr.cell? ⟨w.heap.size + 1, k, none⟩ = some (U32 ((schedRow l k)[k]'(by rw [schedRow_len l k hk]; exact hlt))) := by rw [cell_rowOf, HR.out, cs_get_lt]
        have hfe := free_frozen hf1 k
        clear hcl hwd
        go_wp2_with fail
        refine HW.out.mono ?_
        rintro e w1 ⟨rfl, nq, rfl⟩
        go_wp2_with fail
        go_roundw
        case rel =>
          exact ⟨k + 1, by omega, by go_num, sched_step (wr := wr.drewN nq) hlt HR.out hf1 hr0 hf0 (below_drewN hbl _) _ (by rw [Sh.sched, if_pos h16]; rfl)⟩
        case measure => simp [intOf]; omega
      · have HR := hid hr1
        clear hr1
        have hz := hbl.size
        have hce : ∀ i, i < 64 → ∃ x, wr.cell? ⟨w.heap.size + 1, i, none⟩ = some (U32 x) ∧ (i < k → x = (Sh.sched l k).getD i 0) := fun i hi => by
          have hl : i < (schedRow l k).length := by rw [schedRow_len l k hk]; exact hi
          refine ⟨(schedRow l k)[i], by rw [cell_rowOf, HR.out, cs_get_lt hl], fun h => ?_⟩
          simp only [schedRow]
          rw [List.getElem_append_left (by rw [Sh.sched_len]; exact h), List.getD_eq_getElem?_getD, List.getElem?_eq_getElem (by rw [Sh.sched_len]; exact h)]; rfl
        obtain ⟨x0, c0, -⟩ := hce k hlt
        obtain ⟨x2, c2, e2⟩ := hce (k - 2) (by omega)
        obtain ⟨x7, c7, e7⟩ := hce (k - 7) (by omega)
        obtain ⟨x15, c15, e15⟩ := hce (k - 15) (by omega)
        obtain ⟨x16, c16, e16⟩ := hce (k - 16) (by omega)
        have E2 := hid (e2 (by omega)); have E7 := hid (e7 (by omega)); have E15 := hid (e15 (by omega)); have E16 := hid (e16 (by omega))
        have hfe := free_frozen hf1 k
        have g1 : (0 : Int) ≤ k - 15 := by omega
        have g2 : (0 : Int) ≤ k - 2 := by omega
        have g7 : (0 : Int) ≤ k - 7 := by omega
        have g16 : (0 : Int) ≤ k - 16 := by omega
        clear hce e2 e7 e15 e16
        go_wp2_with fail
        go_quiet (fail)
        go_wp2_with (go_at_call 116; refine (rotl_any _ _ _ (by omega)).mono ?_; rintro e w' ⟨rfl, rfl⟩)
        refine wp_region_qtail 14 (by kernel_rfl) (by kernel_rfl) ?_
        simp only [List.take_succ_cons, List.take_zero, List.drop_succ_cons, List.drop_zero]
        repeat (go_big_quiet_step (fail))
        refine wpQuiet_nil ?_
        go_wp2_with fail
        go_roundw
        case rel =>
          exact ⟨k + 1, by omega, by go_num, sched_step (wr := wr.drewN (nq + 1)) hlt HR.out hf1 hr0 hf0 (below_drewN hbl _) _ (by rw [Sh.sched, if_neg h16]; rw [E2.out, E7.out, E15.out, E16.out]; rfl)⟩
        case measure => simp [intOf]; omega
    · have : k = 64 := by omega
      subst this
      have hsl := schedRow_len l 64 (by omega)
      go_wp2_with fail
      refine bodyPost_ret (res_row (b := w.heap.size) rfl Tryd.underlying153 rfl inf_k _ _ rfl ?_) rfl ?_
      · rw [rowOf_setRow_same _ hf0]; simp [hsl]
      · refine ⟨?_, below_setRow' hbl (Nat.le_refl _) _⟩
        rw [rowOf_setRow_same _ hf0]
        simp [schedRow, zs]
end Go.Proofs.YtgclegdgngldoaaDoor
set_option linter.unusedSimpArgs false
set_option linter.unusedVariables false
namespace Go.Proofs.YtgclegdgngldoaaDoor
open Go.RowKit

/-- the table of constants -/
def KT (w : World) : Prop := w.rowOf 0 = cs U32 Sh.K
theorem KT.cell {w : World} (h : KT w) (i : Nat) (hi : i < 64) : w.cell? ⟨0, i, none⟩ = some (U32 (Sh.K.getD i 0)) := by
  have hl : i < Sh.K.length := hi
  rw [cell_rowOf, h, cs_get_lt hl, List.getD_eq_getElem?_getD, List.getElem?_eq_getElem hl]; rfl

/-- the state while the sums are taken, word by word -/
def mixed (s r : Sh.S8) (j : Nat) : List (BitVec 32) := (s.plus r).list.take j ++ s.list.drop j
theorem mixed_len (s r : Sh.S8) (j : Nat) (h : j ≤ 8) : (mixed s r j).length = 8 := by
  simp [mixed, Sh.S8.list]; omega
theorem mixed_get (s r : Sh.S8) (j : Nat) (h : j < 8) : (mixed s r j)[j]'(by rw [mixed_len s r j (by omega)]; exact h) = s.list.getD j 0 := by
  match j, h with
  | 0, _ | 1, _ | 2, _ | 3, _ | 4, _ | 5, _ | 6, _ | 7, _ => rfl
theorem mixed_set (s r : Sh.S8) (j : Nat) (h : j < 8) : (mixed s r j).set j (s.list.getD j 0 + r.list.getD j 0) = mixed s r (j + 1) := by
  match j, h with
  | 0, _ | 1, _ | 2, _ | 3, _ | 4, _ | 5, _ | 6, _ | 7, _ => rfl
theorem block_idx (s : Sh.S8) (k : Nat) (hk : k < 8) (w : World) : (Instr.index 139 (.agg #[U32 s.a, U32 s.b, U32 s.c, U32 s.d, U32 s.e, U32 s.f, U32 s.g, U32 s.h]) (.int .i64 k)).run Tryd.prog w = .ok (U32 (s.list.getD k 0)) w := by
  match k, hk with
  | 0, _ => (show _ = _; kernel_rfl)
  | 1, _ => (show _ = _; kernel_rfl)
  | 2, _ => (show _ = _; kernel_rfl)
  | 3, _ => (show _ = _; kernel_rfl)
  | 4, _ => (show _ = _; kernel_rfl)
  | 5, _ => (show _ = _; kernel_rfl)
  | 6, _ => (show _ = _; kernel_rfl)
  | 7, _ => (show _ = _; kernel_rfl)

theorem mixed_step {w wx : World} {bs os j : Nat} {s r : Sh.S8} {pre post : Array Value} (hj : j < 8) (hf : wx.free bs = true) (hr : wx.rowOf bs = pre ++ cs U32 (mixed s r j) ++ post) (hos : pre.size = os) (hg : w.grownBy wx (some bs)) :
    (wx.setCell ⟨bs, os + j, none⟩ (U32 (s.list.getD j 0 + r.list.getD j 0))).free bs = true ∧ (wx.setCell ⟨bs, os + j, none⟩ (U32 (s.list.getD j 0 + r.list.getD j 0))).rowOf bs = pre ++ cs U32 (mixed s r (j + 1)) ++ post ∧ w.grownBy (wx.setCell ⟨bs, os + j, none⟩ (U32 (s.list.getD j 0 + r.list.getD j 0))) (some bs) := by
  rw [setCell_row hf, hr, ← hos, mid_set _ _ _ _ _ (by rw [mixed_len s r j (by omega)]; exact hj), mixed_set s r j hj]
  exact ⟨by rw [free_setRow]; exact hf, rowOf_setRow_same _ hf, gb_setRow hg _⟩

set_option maxRecDepth 100000 in
set_option maxHeartbeats 1000000 in
theorem block_any (bs os b o : Nat) (len cap : Nat) (s : Sh.S8) (pre post : Array Value) (l : List (BitVec 8)) (w : World) (hlen : 64 ≤ len) (hcap : len ≤ cap)
    (hK : KT w) (hbs : 0 < bs) (hf : w.free bs = true) (hr : w.rowOf bs = pre ++ cs U32 s.list ++ post) (hos : pre.size = os)
    (hc : ∀ i, i < 64 → w.cell? ⟨b, o + i, none⟩ = some (U8 (l.getD i 0))) :
    Calls Tryd.prog 105 #[.pointer (some ⟨bs, os, none⟩), .slice (some ⟨b, o, none⟩) len cap] w fun e w' => e = .returned (.tuple #[]) ∧ w.grownBy w' (some bs) ∧ w'.free bs = true ∧ w'.rowOf bs = pre ++ cs U32 (Sh.compress s l).list ++ post := by
  have hbl := free_lt hf
  have HS := hid (schedule_any b o len cap l w hlen hcap hc)
  have hcell : ∀ i, i < 8 → w.cell? ⟨bs, os + i, none⟩ = some (U32 (s.list.getD i 0)) := fun i hi => by
    rw [cell_rowOf, hr, Array.append_assoc, Array.getElem?_append_right (by omega), hos, Nat.add_sub_cancel_left, Array.getElem?_append_left (by simpa [Sh.S8.list] using hi), cs_get_lt (by simpa [Sh.S8.list] using hi)]
    rw [List.getD_eq_getElem?_getD, List.getElem?_eq_getElem]; rfl
  have HK := hid hK
  have HR := hid hr
  have HC := hid hcell
  have HF := hid hf
  have HP := hid hos
  clear hK hr hc hcell hf hos
  go_enter Tryd.func105, Tryd.ntmps105
  go_wp2_with fail
  refine HS.out.mono ?_
  rintro e w1 ⟨rfl, hb1⟩
  have h1 := hb1.size
  have c0 : w1.cell? ⟨bs, os, none⟩ = some (U32 s.a) := (hb1.cell hbl).trans (HC.out 0 (by omega))
  have c1 : w1.cell? ⟨bs, os + 1, none⟩ = some (U32 s.b) := (hb1.cell hbl).trans (HC.out 1 (by omega))
  have c2 : w1.cell? ⟨bs, os + 2, none⟩ = some (U32 s.c) := (hb1.cell hbl).trans (HC.out 2 (by omega))
  have c3 : w1.cell? ⟨bs, os + 3, none⟩ = some (U32 s.d) := (hb1.cell hbl).trans (HC.out 3 (by omega))
  have c4 : w1.cell? ⟨bs, os + 4, none⟩ = some (U32 s.e) := (hb1.cell hbl).trans (HC.out 4 (by omega))
  have c5 : w1.cell? ⟨bs, os + 5, none⟩ = some (U32 s.f) := (hb1.cell hbl).trans (HC.out 5 (by omega))
  have c6 : w1.cell? ⟨bs, os + 6, none⟩ = some (U32 s.g) := (hb1.cell hbl).trans (HC.out 6 (by omega))
  have c7 : w1.cell? ⟨bs, os + 7, none⟩ = some (U32 s.h) := (hb1.cell hbl).trans (HC.out 7 (by omega))
  have hlt1 : bs < w1.heap.size := by omega
  have hsl : (Sh.sched l 64).length = 64 := Sh.sched_len l 64
  clear HS
  go_wp2_with fail
  go_quiet (fail)
  clear c0 c1 c2 c3 c4 c5 c6 c7
  go_wp2_with fail
  obtain ⟨w2, hw2⟩ : ∃ w2, w2 = w1.alloc (.cells (cs U32 (Sh.sched l 64)) 153) := ⟨_, rfl⟩
  rw [← hw2]
  have hz2 : w2.heap.size = w1.heap.size + 1 := by rw [hw2]; simp
  have hb2 : Below w1.heap.size w1 w2 := by rw [hw2]; exact (Below.refl _ _).alloc (Nat.le_refl _) _
  have hr2 : w2.rowOf w1.heap.size = cs U32 (Sh.sched l 64) := by rw [hw2]; exact rowOf_alloc_at _ _ _ rfl
  have hf2 : w2.free w1.heap.size = true := by rw [hw2]; exact free_alloc_at _ _ _ rfl
  have hkc : ∀ i, i < 64 → w2.cell? ⟨0, i, none⟩ = some (U32 (Sh.K.getD i 0)) := fun i hi =>
    (hb2.cell (by exact (by omega : 0 < w1.heap.size))).trans ((hb1.cell (by exact (by omega : 0 < w.heap.size))).trans (HK.out.cell i hi))
  have hwc : ∀ i, i < 64 → w2.cell? ⟨w1.heap.size, i, none⟩ = some (U32 ((Sh.sched l 64).getD i 0)) := fun i hi => by
    rw [cell_rowOf, hr2, cs_get_lt (by omega), List.getD_eq_getElem?_getD, List.getElem?_eq_getElem (by omega)]; rfl
  have HKC := hid hkc
  have HWC := hid hwc
  have HB2 := hid hb2
  have HB1 := hid hb1
  clear hkc hwc hw2 hr2 hz2 hsl
  go_loopw [5, 6, 7, 8, 9, 10, 11, 12, 52] (fun a b c d e f g h t wr => ∃ k : Nat, k ≤ 64 ∧ t = .int .i64 k ∧ a = U32 (Sh.rounds s (Sh.sched l 64) k).a ∧ b = U32 (Sh.rounds s (Sh.sched l 64) k).b ∧ c = U32 (Sh.rounds s (Sh.sched l 64) k).c ∧ d = U32 (Sh.rounds s (Sh.sched l 64) k).d ∧ e = U32 (Sh.rounds s (Sh.sched l 64) k).e ∧ f = U32 (Sh.rounds s (Sh.sched l 64) k).f ∧ g = U32 (Sh.rounds s (Sh.sched l 64) k).g ∧ h = U32 (Sh.rounds s (Sh.sched l 64) k).h ∧ ∃ n, wr = w2.drewN n)
    (fun _ _ _ _ _ _ _ _ t _ => 64 - (intOf t).toNat)
  case atStart => exact ⟨0, by omega, rfl, rfl, rfl, rfl, rfl, rfl, rfl, rfl, rfl, nq, rfl⟩
  case round =>
    obtain ⟨k, hk, rfl, rfl, rfl, rfl, rfl, rfl, rfl, rfl, rfl, n, hwr⟩ := hrel
    have HW := hid hwr
    obtain ⟨r, hr⟩ : ∃ r, r = Sh.rounds s (Sh.sched l 64) k := ⟨_, rfl⟩
    rw [← hr]
    have Hr := hid hr
    clear hr
    by_cases hlt : k < 64
    · have k1 : wr.cell? ⟨0, k, none⟩ = some (U32 (Sh.K.getD k 0)) := by rw [hwr]; exact HKC.out k hlt
      have k2 : wr.cell? ⟨w1.heap.size, k, none⟩ = some (U32 ((Sh.sched l 64).getD k 0)) := by rw [hwr]; exact HWC.out k hlt
      clear hwr
      go_wp
      go_quiet ((go_at_call 116; exact Calls.quiet_of_same (rotl_any _ _ _ (by omega))))
      go_wp2_with (go_at_call 116; refine (rotl_any _ _ _ (by omega)).mono ?_; rintro e w' ⟨rfl, rfl⟩)
      go_roundw
      case rel =>
        refine ⟨k + 1, by omega, by go_num, ?_⟩
        rw [Sh.rounds, ← Hr.out]
        exact ⟨by simp [Sh.S8.step, Sh.t1, Sh.t2], rfl, rfl, rfl, by simp [Sh.S8.step, Sh.t1, Sh.t2], rfl, rfl, rfl, n + nq, by rw [HW.out, World.drewN_drewN]⟩
      case measure => simp [intOf]; omega
    · have : k = 64 := by omega
      subst this
      have hwb := hwr
      clear hwr
      have hbz : bs < wr.heap.size := by rw [hwb]; have := hb2.size; show bs < w2.heap.size; omega
      have hg0 : w.grownBy wr (some bs) := by
        rw [hwb]
        exact gb_drewN (gb_trans (gb_below hb1 _) (gb_below hb2 _)) n
      have hrow : wr.rowOf bs = pre ++ cs U32 s.list ++ post := by
        rw [hwb]; show w2.rowOf bs = _
        rw [below_row hb2 hlt1, below_row hb1 hbl]; exact HR.out
      have hfr : wr.free bs = true := by
        rw [hwb]; show w2.free bs = _
        rw [below_free hb2 hlt1, below_free hb1 hbl]; exact HF.out
      have HG := hid hg0
      have HRW := hid hrow
      have HFR := hid hfr
      clear hwb hg0 hrow hfr
      go_wp
      obtain ⟨wo, hwo⟩ : ∃ wo : World, wo = wr := ⟨_, rfl⟩
      rw [← hwo] at HG HRW HFR
      rw [← hwo]
      clear HW hwo
      go_loopw [121] (fun t wx => ∃ j : Nat, j ≤ 8 ∧ t = .int .i64 j ∧ wx.free bs = true ∧ wx.rowOf bs = pre ++ cs U32 (mixed s r j) ++ post ∧ w.grownBy wx (some bs)) (fun t _ => 8 - (intOf t).toNat)
      case atStart => exact ⟨0, by omega, rfl, HFR.out, by rw [HRW.out]; rfl, HG.out⟩
      case round =>
        obtain ⟨j, hj, rfl, hfx, hrx, hgx⟩ := hrel
        by_cases hlj : j < 8
        · have hidx := block_idx r j hlj
          obtain ⟨sj, hsj⟩ : ∃ sj, sj = s.list.getD j 0 := ⟨_, rfl⟩
          obtain ⟨rj, hrj⟩ : ∃ rj, rj = r.list.getD j 0 := ⟨_, rfl⟩
          rw [← hrj] at hidx
          have hcj : wr.cell? ⟨bs, os + j, none⟩ = some (U32 sj) := by
            rw [cell_rowOf, hrx, ← HP.out, mid_get _ _ _ _ (by rw [mixed_len s r j hj]; exact hlj), hsj, mixed_get s r j hlj]
          have hff := free_frozen hfx (os + j)
          have HRX := hid hrx
          have HSJ := hid hsj
          have HRJ := hid hrj
          clear hrx hsj hrj
          go_wp
          refine wp_region_qtail 9 (by kernel_rfl) (by kernel_rfl) ?_
          simp only [List.take_succ_cons, List.take_zero, List.drop_succ_cons, List.drop_zero]
          repeat (go_big_quiet_step (fail))
          refine wpQuiet_nil ?_
          go_wp
          go_roundw
          case rel =>
            refine ⟨j + 1, by omega, by go_num, ?_⟩
            rw [HSJ.out, HRJ.out]
            exact mixed_step (wx := wr.drewN 1) hlj hfx HRX.out HP.out (gb_drewN hgx 1)
          case measure => simp [intOf]; omega
        · have : j = 8 := by omega
          subst this
          go_wp
          go_end0
          refine ⟨rfl, hgx, hfx, ?_⟩
          rw [hrx, Sh.compress, ← Hr.out]
          rfl
end Go.Proofs.YtgclegdgngldoaaDoor
