/-
  Walks of package sha: rotate, word, schedule; own work.
-/
import Derived.Test.YtbigmnhjnjeeaaaDoorMem
import Derived.Test.YtbigmnhjnjeeaaaDoorShaSpec
set_option linter.unusedSimpArgs false
set_option linter.unusedVariables false
namespace Go.Proofs.YtbigmnhjnjeeaaaDoor
open Go.RowKit

theorem and31 (k : Int) (hk : -32 < k ∧ k < 0) : bits BinOp.and IntKind.u64 (IntKind.u64.wrap k) 31 = 32 + k := by
  have h := bits_mask .u64 64 (by decide) (fun n h0 h1 => by rw [wrap_u64']; omega) 5 (by decide) (IntKind.u64.wrap k) (by rw [wrap_u64']; omega) (by rw [wrap_u64']; omega)
  have e : (31 : Int) = 2 ^ 5 - 1 := by decide
  rw [e, h, wrap_u64']
  omega

set_option maxHeartbeats 400000 in
theorem rotl_any (x : BitVec 32) (k : Int) (w : World) (hk : -32 < k ∧ k < 0) :
    Calls Tryd.prog 75 #[U32 x, .int .i64 k] w fun e w' => e = .returned (U32 (Sh.rr x (-k).toNat)) ∧ w' = w := by
  have h1 := and31 k hk
  obtain ⟨j, rfl⟩ : ∃ j : Nat, k = -(j : Int) := ⟨(-k).toNat, by omega⟩
  obtain ⟨s, hs⟩ : ∃ s : Nat, (s : Int) = 32 + -(j : Int) := ⟨32 - j, by omega⟩
  rw [← hs] at h1
  have h2 : (s : Int) ≤ 32 := by omega
  have h3 : (0 : Int) ≤ 32 - s := by omega
  have e1 : s = 32 - j := by omega
  have e2 : 32 - s = j := by omega
  have H1 := hid e1
  have H2 := hid e2
  clear e1 e2 hs
  go_enter Tryd.func75, Tryd.ntmps75
  go_wp2
  go_ret
  refine ⟨?_, rfl⟩
  show Ending.returned (U32 (x <<< s ||| x >>> (32 - s))) = _
  rw [H2.out, H1.out, BitVec.or_comm]
  simp [Sh.rr]

set_option maxHeartbeats 400000 in
theorem word_any (b o : Nat) (len cap : Nat) (b0 b1 b2 b3 : BitVec 8) (w : World) (hlen : 4 ≤ len) 
  (h0 : w.cell? ⟨b, o, none⟩ = some (U8 b0)) (h1 : w.cell? ⟨b, o + 1, none⟩ = some (U8 b1)) (h2 : w.cell? ⟨b, o + 2, none⟩ = some (U8 b2)) (h3 : w.cell? ⟨b, o + 3, none⟩ = some (U8 b3)):
    Calls Tryd.prog 83 #[.slice (some ⟨b, o, none⟩) len cap] w fun e w' => e = .returned (U32 (Sh.word b0 b1 b2 b3)) ∧ ∃ n, w' = w.drewN n := by
  have l0 : (0 : Int) < len := by omega
  have l1 : (1 : Int) < len := by omega
  have l2 : (2 : Int) < len := by omega
  have l3 : (3 : Int) < len := by omega
  go_enter Tryd.func83, Tryd.ntmps83
  go_wp2_with fail
  go_quiet (fail)
  go_wp2
  go_ret
  exact ⟨rfl, _, rfl⟩

theorem inf_k : (Tryd.prog.info? 106).map (·.size) = some 64 := by kernel_rfl
section
variable (ρ : Operand → Value) (dst : Option Tmp) (ty : TypeId) (pos : String) (after : Array Edge) (guard : Option (Nat × Bool)) (w : World)
@[go_sem ↓] theorem rl_k (x : Operand) : (execOp ρ { dst, op := .load 106 x, type := ty, pos, after, guard }).run Tryd.prog w = exLoad Tryd.prog 106 (ρ x) w := x_load ..
@[go_sem ↓] theorem rs_k (x y : Operand) : (execOp ρ { dst, op := .store 106 x y, type := ty, pos, after, guard }).run Tryd.prog w = exStore Tryd.prog 106 (ρ x) (ρ y) w := x_store ..
@[go_sem ↓] theorem ra_k : (execOp ρ { dst, op := .alloc 106, type := ty, pos, after, guard }).run Tryd.prog w = .ok (.value (.pointer (some ⟨w.heap.size, 0, none⟩))) (w.alloc (.cells (cs U32 (zs 64)) 106)) :=
  (x_alloc ..).trans (x_alloc0 (v := .agg (cs U32 (zs 64))) _ (by kernel_rfl))
@[go_sem] theorem xl_k (b : Nat) (h : (w.rowOf b).size = 64) : exLoad Tryd.prog 106 (.pointer (some ⟨b, 0, none⟩)) w = .ok (.value (.agg (w.rowOf b))) w := x_load0 _ Tryd.underlying106 rfl inf_k b h
@[go_sem] theorem xlm_k (b o : Nat) (ho : 0 < o) (h : o + 64 ≤ (w.rowOf b).size) : exLoad Tryd.prog 106 (.pointer (some ⟨b, o, none⟩)) w = .ok (.value (.agg ((w.rowOf b).extract o (o + 64)))) w := x_loadm _ Tryd.underlying106 rfl inf_k b o h
@[go_sem] theorem xs_k (b : Nat) (c : Array Value) (hl : c.size = 64) (h1 : ones c = true) (h : (w.rowOf b).size = 64) (hf : w.free b = true) : exStore Tryd.prog 106 (.pointer (some ⟨b, 0, none⟩)) (.agg c) w = .ok .skip (w.setRow b c) :=
  x_store0 _ inf_k b c hl h hf (ones_all h1)
@[go_sem] theorem xsm_k (b o : Nat) (ho : 0 < o) (c : Array Value) (hl : c.size = 64) (h1 : ones c = true) (h : o + 64 ≤ (w.rowOf b).size) (hf : w.free b = true) : exStore Tryd.prog 106 (.pointer (some ⟨b, o, none⟩)) (.agg c) w = .ok .skip (w.setSeg b o c) :=
  x_storem _ inf_k b o c hl h hf (ones_all h1)
end
/-- at a step: a store, and a variable made -/
theorem wps_k {a : Act} {w : World} {K : Act → World → Prop} {Q : Exit → Act → World → Prop} {o : Oper} (p x : Operand) (ho : o.op = .store 106 p x) (b : Nat) (c : Array Value) (hp : a.eval p = .pointer (some ⟨b, 0, none⟩)) (hx : a.eval x = .agg c)
    (hl : c.size = 64) (h1 : ones c = true) (h : (w.rowOf b).size = 64) (hf : w.free b = true) (hK : K (a.put o.dst undef) (w.setRow b c)) : o.wp Tryd.prog a w K Q := by
  obtain ⟨dst, op, ty, pos, after, guard⟩ := o
  subst ho
  unfold Oper.wp
  rw [rs_k, hp, hx, xs_k _ _ _ hl h1 h hf]
  simp only [Oper.upon]
  exact hK
theorem wpa_k {a : Act} {w : World} {K : Act → World → Prop} {Q : Exit → Act → World → Prop} {o : Oper} (ho : o.op = .alloc 106)
    (hK : K (a.put o.dst (.pointer (some ⟨w.heap.size, 0, none⟩))) (w.alloc (.cells (cs U32 (zs 64)) 106))) : o.wp Tryd.prog a w K Q := by
  obtain ⟨dst, op, ty, pos, after, guard⟩ := o
  subst ho
  unfold Oper.wp
  rw [ra_k]
  simp only [Oper.upon]
  exact hK

theorem inf_u32 : (Tryd.prog.info? 63).map (·.size) = some 1 := by kernel_rfl
section
variable (ρ : Operand → Value) (dst : Option Tmp) (ty : TypeId) (pos : String) (after : Array Edge) (guard : Option (Nat × Bool)) (w : World)
@[go_sem ↓] theorem rs_u32 (x y : Operand) : (execOp ρ { dst, op := .store 63 x y, type := ty, pos, after, guard }).run Tryd.prog w = exStore Tryd.prog 63 (ρ x) (ρ y) w := x_store ..
@[go_sem] theorem xs_u32 (b o : Nat) (x : BitVec 32) (hc : (w.cell? ⟨b, o, none⟩).isSome = true) (hf : w.frozen? ⟨b, o, none⟩ = false) : exStore Tryd.prog 63 (.pointer (some ⟨b, o, none⟩)) (U32 x) w = .ok .skip (w.setCell ⟨b, o, none⟩ (U32 x)) :=
  x_store1 inf_u32 w b o _ rfl rfl hc hf
@[go_sem] theorem xsi_u32 (b o : Nat) (n : Int) (hc : (w.cell? ⟨b, o, none⟩).isSome = true) (hf : w.frozen? ⟨b, o, none⟩ = false) : exStore Tryd.prog 63 (.pointer (some ⟨b, o, none⟩)) (.int .u32 n) w = .ok .skip (w.setCell ⟨b, o, none⟩ (.int .u32 n)) :=
  x_store1 inf_u32 w b o _ rfl rfl hc hf
end

/-- the row of the schedule while it is made -/
def schedRow (l : List (BitVec 8)) (k : Nat) : List (BitVec 32) := Sh.sched l k ++ zs (64 - k)
theorem schedRow_len (l : List (BitVec 8)) (k : Nat) (h : k ≤ 64) : (schedRow l k).length = 64 := by simp [schedRow, Sh.sched_len]; omega

theorem sched_step {w wr : World} {l : List (BitVec 8)} {k : Nat} (hk : k < 64) (hr1 : wr.rowOf (w.heap.size + 1) = cs U32 (schedRow l k)) (hf1 : wr.free (w.heap.size + 1) = true) (hr0 : wr.rowOf w.heap.size = cs U32 (zs 64))
    (hf0 : wr.free w.heap.size = true) (hbl : Below w.heap.size w wr) (v : BitVec 32) (hv : Sh.sched l (k + 1) = Sh.sched l k ++ [v]) :
    (wr.setCell ⟨w.heap.size + 1, k, none⟩ (U32 v)).rowOf (w.heap.size + 1) = cs U32 (schedRow l (k + 1)) ∧ (wr.setCell ⟨w.heap.size + 1, k, none⟩ (U32 v)).free (w.heap.size + 1) = true ∧
    (wr.setCell ⟨w.heap.size + 1, k, none⟩ (U32 v)).rowOf w.heap.size = cs U32 (zs 64) ∧ (wr.setCell ⟨w.heap.size + 1, k, none⟩ (U32 v)).free w.heap.size = true ∧ Below w.heap.size w (wr.setCell ⟨w.heap.size + 1, k, none⟩ (U32 v)) := by
  rw [setCell_row hf1, hr1, cs_set]
  have e : (schedRow l k).set k v = schedRow l (k + 1) := by
    unfold schedRow
    rw [hv, List.set_append_right _ _ (by simp [Sh.sched_len]), Sh.sched_len, Nat.sub_self, show 64 - k = (64 - (k + 1)) + 1 from by omega]
    simp [zs, List.replicate_succ]
  rw [e]
  exact ⟨rowOf_setRow_same _ hf1, by rw [free_setRow]; exact hf1, by rw [rowOf_setRow_other _ _ (by omega)]; exact hr0, by rw [free_setRow]; exact hf0, below_setRow' hbl (by omega) _⟩

attribute [local irreducible] schedRow

set_option maxRecDepth 100000 in
set_option maxHeartbeats 1000000 in
theorem schedule_any (b o : Nat) (len cap : Nat) (l : List (BitVec 8)) (w : World) (hlen : 64 ≤ len) (hcap : len ≤ cap)
    (hc : ∀ i, i < 64 → w.cell? ⟨b, o + i, none⟩ = some (U8 (l.getD i 0))) :
    Calls Tryd.prog 74 #[.slice (some ⟨b, o, none⟩) len cap] w fun e w' => e = .returned (.agg (cs U32 (Sh.sched l 64))) ∧ Below w.heap.size w w' := by
  have HC := hid hc
  have hb : b < w.heap.size := by
    have := hc 0 (by omega)
    rw [cell_rowOf] at this
    exact row_lt (o := o + 0) (by have := (Array.getElem?_eq_some_iff.1 this).1; exact this)
  clear hc
  go_enter Tryd.func74, Tryd.ntmps74
  go_wp2_with fail
  go_loopw [9] (fun t wr => ∃ k : Nat, k ≤ 64 ∧ t = .int .i64 k ∧ wr.rowOf (w.heap.size + 1) = cs U32 (schedRow l k) ∧ wr.free (w.heap.size + 1) = true ∧ wr.rowOf w.heap.size = cs U32 (zs 64) ∧ wr.free w.heap.size = true ∧ Below w.heap.size w wr)
    (fun t _ => 64 - (intOf t).toNat)
  case atStart => exact ⟨0, by omega, rfl, by simp [go_sem, schedRow, Sh.sched], by simp [go_sem], by simp [go_sem], by simp [go_sem], ((Below.refl _ _).alloc (Nat.le_refl _) _).alloc (by simp) _⟩
  case round =>
    obtain ⟨k, hk, rfl, hr1, hf1, hr0, hf0, hbl⟩ := hrel
    have hsz1 : (wr.rowOf (w.heap.size + 1)).size = 64 := by rw [hr1]; simp [schedRow_len l k hk]
    have hsz0 : (wr.rowOf w.heap.size).size = 64 := by rw [hr0]; simp
    by_cases hlt : k < 64
    · by_cases h16 : k < 16
      · have HR := hid hr1
        clear hr1
        have hz := hbl.size
        have hne : ¬ (cap = 4 * k) := by omega
        have hcl := fun i (hi : i < 64) => (hbl.cell (p := ⟨b, o + i, none⟩) hb).trans (HC.out i hi)
        have hwd := word_any b (o + 4 * k) (len - 4 * k) (cap - 4 * k) (l.getD (4 * k) 0) (l.getD (4 * k + 1) 0) (l.getD (4 * k + 2) 0) (l.getD (4 * k + 3) 0) wr (by omega)
          (hcl (4 * k) (by omega)) (hcl (4 * k + 1) (by omega)) (hcl (4 * k + 2) (by omega)) (hcl (4 * k + 3) (by omega))
        have HW := hid hwd
        have hce : wr.cell? ⟨w.heap.size + 1, k, none⟩ = some (U32 ((schedRow l k)[k]'(by rw [schedRow_len l k hk]; exact hlt))) := by rw [cell_rowOf, HR.out, cs_get_lt]
        have hfe := free_frozen hf1 k
        clear hcl hwd
        go_wp2_with fail
        refine HW.out.mono ?_
        rintro e w1 ⟨rfl, nq, rfl⟩
        go_wp2_with fail
        go_roundw
        case rel =>
          exact ⟨k + 1, by omega, by go_num, sched_step (wr := wr.drewN nq) hlt HR.out hf1 hr0 hf0 (below_drewN hbl _) _ (by rw [Sh.sched, if_pos h16]; rfl)⟩
        case measure => simp [intOf]; omega
      · have HR := hid hr1
        clear hr1
        have hz := hbl.size
        have hce : ∀ i, i < 64 → ∃ x, wr.cell? ⟨w.heap.size + 1, i, none⟩ = some (U32 x) ∧ (i < k → x = (Sh.sched l k).getD i 0) := fun i hi => by
          have hl : i < (schedRow l k).length := by rw [schedRow_len l k hk]; exact hi
          refine ⟨(schedRow l k)[i], by rw [cell_rowOf, HR.out, cs_get_lt hl], fun h => ?_⟩
          simp only [schedRow]
          rw [List.getElem_append_left (by rw [Sh.sched_len]; exact h), List.getD_eq_getElem?_getD, List.getElem?_eq_getElem (by rw [Sh.sched_len]; exact h)]; rfl
        obtain ⟨x0, c0, -⟩ := hce k hlt
        obtain ⟨x2, c2, e2⟩ := hce (k - 2) (by omega)
        obtain ⟨x7, c7, e7⟩ := hce (k - 7) (by omega)
        obtain ⟨x15, c15, e15⟩ := hce (k - 15) (by omega)
        obtain ⟨x16, c16, e16⟩ := hce (k - 16) (by omega)
        have E2 := hid (e2 (by omega)); have E7 := hid (e7 (by omega)); have E15 := hid (e15 (by omega)); have E16 := hid (e16 (by omega))
        have hfe := free_frozen hf1 k
        have g1 : (0 : Int) ≤ k - 15 := by omega
        have g2 : (0 : Int) ≤ k - 2 := by omega
        have g7 : (0 : Int) ≤ k - 7 := by omega
        have g16 : (0 : Int) ≤ k - 16 := by omega
        clear hce e2 e7 e15 e16
        go_wp2_with fail
        go_quiet (fail)
        go_wp2_with (go_at_call 75; refine (rotl_any _ _ _ (by omega)).mono ?_; rintro e w' ⟨rfl, rfl⟩)
        refine wp_region_qtail 14 (by kernel_rfl) (by kernel_rfl) ?_
        simp only [List.take_succ_cons, List.take_zero, List.drop_succ_cons, List.drop_zero]
        repeat (go_big_quiet_step (fail))
        refine wpQuiet_nil ?_
        go_wp2_with fail
        go_roundw
        case rel =>
          exact ⟨k + 1, by omega, by go_num, sched_step (wr := wr.drewN (nq + 1)) hlt HR.out hf1 hr0 hf0 (below_drewN hbl _) _ (by rw [Sh.sched, if_neg h16]; rw [E2.out, E7.out, E15.out, E16.out]; rfl)⟩
        case measure => simp [intOf]; omega
    · have : k = 64 := by omega
      subst this
      have hsl := schedRow_len l 64 (by omega)
      go_wp2_with fail
      refine bodyPost_ret (res_row (b := w.heap.size) rfl Tryd.underlying106 rfl inf_k _ _ rfl ?_) rfl ?_
      · rw [rowOf_setRow_same _ hf0]; simp [hsl]
      · refine ⟨?_, below_setRow' hbl (Nat.le_refl _) _⟩
        rw [rowOf_setRow_same _ hf0]
        simp [schedRow, zs]
end Go.Proofs.YtbigmnhjnjeeaaaDoor
