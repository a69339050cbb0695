/-
  Package links: its types in memory; bytes; own work.
-/
import Derived.Test.YtojkcbhmhfjioaaLkS
import Derived.Test.YtojkcbhmhfjioaaSk1
import Derived.Test.YtojkcbhmhfjioaaDel
import Derived.Deep.Cut
import Derived.Deep.CutBlock
import Derived.Lib.SliceRun
import Derived.Laws.MakeOwn
set_option linter.unusedSimpArgs false
set_option linter.unusedVariables false
namespace Go.Proofs.Ytojkcbhmhfjioaa
open Go.RowKit
/-- an Item's cells -/
def ITR (too : Int) (v : Value) : Array Value := #[.int .i64 too, v]
/-- an Act of law 26 -/
structure A6 where
  q : Int
  by_ : BitVec 8
  at_ : Int
  too : Int
  byt : Int
  size : Int
def A6.zero : A6 := ⟨0, 0, 0, 0, 0, 0⟩
def AC6 (x : A6) : Array Value := #[.int .u8 x.q, U8 x.by_, .int .i64 x.at_, .int .i64 x.too, .int .i64 x.byt, .int .i64 x.size]
section
variable {too : Int} {v : Value} {x : A6} {w : World} {b : Nat}
@[simp] theorem ITR_size : (ITR too v).size = 2 := by simp [ITR]
@[simp] theorem AC6_size : (AC6 x).size = 6 := by simp [AC6]
theorem it_c0 (h : w.rowOf b = ITR too v) : w.cell? ⟨b, 0, none⟩ = some (.int .i64 too) := by rw [cell_rowOf, h]; rfl
theorem it_c1 (h : w.rowOf b = ITR too v) : w.cell? ⟨b, 1, none⟩ = some v := by rw [cell_rowOf, h]; rfl
theorem a6_c0 (h : w.rowOf b = AC6 x) : w.cell? ⟨b, 0, none⟩ = some (.int .u8 x.q) := by rw [cell_rowOf, h]; rfl
theorem a6_c1 (h : w.rowOf b = AC6 x) : w.cell? ⟨b, 1, none⟩ = some (U8 x.by_) := by rw [cell_rowOf, h]; rfl
theorem a6_c2 (h : w.rowOf b = AC6 x) : w.cell? ⟨b, 2, none⟩ = some (.int .i64 x.at_) := by rw [cell_rowOf, h]; rfl
theorem a6_c3 (h : w.rowOf b = AC6 x) : w.cell? ⟨b, 3, none⟩ = some (.int .i64 x.too) := by rw [cell_rowOf, h]; rfl
theorem a6_c4 (h : w.rowOf b = AC6 x) : w.cell? ⟨b, 4, none⟩ = some (.int .i64 x.byt) := by rw [cell_rowOf, h]; rfl
theorem a6_c5 (h : w.rowOf b = AC6 x) : w.cell? ⟨b, 5, none⟩ = some (.int .i64 x.size) := by rw [cell_rowOf, h]; rfl
end
@[go_sem] theorem ones_ITR (too : Int) (a : Option Addr) (n c : Nat) : ones (ITR too (.slice a n c)) = true := ones_an fun u hu => by
  simp only [ITR, List.mem_cons, List.not_mem_nil, or_false] at hu
  rcases hu with rfl | rfl <;> rfl
@[go_sem] theorem ones_AC6 (x : A6) : ones (AC6 x) = true := ones_an fun u hu => by
  simp only [AC6, List.mem_cons, List.not_mem_nil, or_false] at hu
  rcases hu with rfl | rfl | rfl | rfl | rfl | rfl <;> rfl
theorem inf_itm : (Try.prog.info? 72).map (·.size) = some 2 := by kernel_rfl
section
variable (ρ : Operand → Value) (dst : Option Tmp) (ty : TypeId) (pos : String) (after : Array Edge) (guard : Option (Nat × Bool)) (w : World)
@[go_sem ↓] theorem rl_itm (x : Operand) : (execOp ρ { dst, op := .load 72 x, type := ty, pos, after, guard }).run Try.prog w = exLoad Try.prog 72 (ρ x) w := x_load ..
@[go_sem ↓] theorem rs_itm (x y : Operand) : (execOp ρ { dst, op := .store 72 x y, type := ty, pos, after, guard }).run Try.prog w = exStore Try.prog 72 (ρ x) (ρ y) w := x_store ..
@[go_sem ↓] theorem ra_itm : (execOp ρ { dst, op := .alloc 72, type := ty, pos, after, guard }).run Try.prog w = .ok (.value (.pointer (some ⟨w.heap.size, 0, none⟩))) (w.alloc (.cells (ITR 0 (.slice none 0 0)) 72)) :=
  (x_alloc ..).trans (x_alloc0 (v := .agg (ITR 0 (.slice none 0 0))) _ (by kernel_rfl))
@[go_sem] theorem xl_itm (b : Nat) (h : (w.rowOf b).size = 2) : exLoad Try.prog 72 (.pointer (some ⟨b, 0, none⟩)) w = .ok (.value (.agg (w.rowOf b))) w := x_load0 _ Try.underlying72 rfl inf_itm b h
@[go_sem] theorem xlm_itm (b o : Nat) (ho : 0 < o) (h : o + 2 ≤ (w.rowOf b).size) : exLoad Try.prog 72 (.pointer (some ⟨b, o, none⟩)) w = .ok (.value (.agg ((w.rowOf b).extract o (o + 2)))) w := x_loadm _ Try.underlying72 rfl inf_itm b o h
@[go_sem] theorem xs_itm (b : Nat) (c : Array Value) (hl : c.size = 2) (h1 : ones c = true) (h : (w.rowOf b).size = 2) (hf : w.free b = true) : exStore Try.prog 72 (.pointer (some ⟨b, 0, none⟩)) (.agg c) w = .ok .skip (w.setRow b c) :=
  x_store0 _ inf_itm b c hl h hf (ones_all h1)
@[go_sem] theorem xsm_itm (b o : Nat) (ho : 0 < o) (c : Array Value) (hl : c.size = 2) (h1 : ones c = true) (h : o + 2 ≤ (w.rowOf b).size) (hf : w.free b = true) : exStore Try.prog 72 (.pointer (some ⟨b, o, none⟩)) (.agg c) w = .ok .skip (w.setSeg b o c) :=
  x_storem _ inf_itm b o c hl h hf (ones_all h1)
end
/-- at a step: a store, and a variable made -/
theorem wps_itm {a : Act} {w : World} {K : Act → World → Prop} {Q : Exit → Act → World → Prop} {o : Oper} (p x : Operand) (ho : o.op = .store 72 p x) (b : Nat) (c : Array Value) (hp : a.eval p = .pointer (some ⟨b, 0, none⟩)) (hx : a.eval x = .agg c)
    (hl : c.size = 2) (h1 : ones c = true) (h : (w.rowOf b).size = 2) (hf : w.free b = true) (hK : K (a.put o.dst undef) (w.setRow b c)) : o.wp Try.prog a w K Q := by
  obtain ⟨dst, op, ty, pos, after, guard⟩ := o
  subst ho
  unfold Oper.wp
  rw [rs_itm, hp, hx, xs_itm _ _ _ hl h1 h hf]
  simp only [Oper.upon]
  exact hK
theorem wpa_itm {a : Act} {w : World} {K : Act → World → Prop} {Q : Exit → Act → World → Prop} {o : Oper} (ho : o.op = .alloc 72)
    (hK : K (a.put o.dst (.pointer (some ⟨w.heap.size, 0, none⟩))) (w.alloc (.cells (ITR 0 (.slice none 0 0)) 72))) : o.wp Try.prog a w K Q := by
  obtain ⟨dst, op, ty, pos, after, guard⟩ := o
  subst ho
  unfold Oper.wp
  rw [ra_itm]
  simp only [Oper.upon]
  exact hK

theorem inf_rit : (Try.prog.info? 75).map (·.size) = some 2 := by kernel_rfl
section
variable (ρ : Operand → Value) (dst : Option Tmp) (ty : TypeId) (pos : String) (after : Array Edge) (guard : Option (Nat × Bool)) (w : World)
@[go_sem ↓] theorem rl_rit (x : Operand) : (execOp ρ { dst, op := .load 75 x, type := ty, pos, after, guard }).run Try.prog w = exLoad Try.prog 75 (ρ x) w := x_load ..
@[go_sem ↓] theorem rs_rit (x y : Operand) : (execOp ρ { dst, op := .store 75 x y, type := ty, pos, after, guard }).run Try.prog w = exStore Try.prog 75 (ρ x) (ρ y) w := x_store ..
@[go_sem ↓] theorem ra_rit : (execOp ρ { dst, op := .alloc 75, type := ty, pos, after, guard }).run Try.prog w = .ok (.value (.pointer (some ⟨w.heap.size, 0, none⟩))) (w.alloc (.cells (ITR 0 (.slice none 0 0)) 75)) :=
  (x_alloc ..).trans (x_alloc0 (v := .agg (ITR 0 (.slice none 0 0))) _ (by kernel_rfl))
@[go_sem] theorem xl_rit (b : Nat) (h : (w.rowOf b).size = 2) : exLoad Try.prog 75 (.pointer (some ⟨b, 0, none⟩)) w = .ok (.value (.agg (w.rowOf b))) w := x_load0 _ Try.underlying75 rfl inf_rit b h
@[go_sem] theorem xlm_rit (b o : Nat) (ho : 0 < o) (h : o + 2 ≤ (w.rowOf b).size) : exLoad Try.prog 75 (.pointer (some ⟨b, o, none⟩)) w = .ok (.value (.agg ((w.rowOf b).extract o (o + 2)))) w := x_loadm _ Try.underlying75 rfl inf_rit b o h
@[go_sem] theorem xs_rit (b : Nat) (c : Array Value) (hl : c.size = 2) (h1 : ones c = true) (h : (w.rowOf b).size = 2) (hf : w.free b = true) : exStore Try.prog 75 (.pointer (some ⟨b, 0, none⟩)) (.agg c) w = .ok .skip (w.setRow b c) :=
  x_store0 _ inf_rit b c hl h hf (ones_all h1)
@[go_sem] theorem xsm_rit (b o : Nat) (ho : 0 < o) (c : Array Value) (hl : c.size = 2) (h1 : ones c = true) (h : o + 2 ≤ (w.rowOf b).size) (hf : w.free b = true) : exStore Try.prog 75 (.pointer (some ⟨b, o, none⟩)) (.agg c) w = .ok .skip (w.setSeg b o c) :=
  x_storem _ inf_rit b o c hl h hf (ones_all h1)
end
/-- at a step: a store, and a variable made -/
theorem wps_rit {a : Act} {w : World} {K : Act → World → Prop} {Q : Exit → Act → World → Prop} {o : Oper} (p x : Operand) (ho : o.op = .store 75 p x) (b : Nat) (c : Array Value) (hp : a.eval p = .pointer (some ⟨b, 0, none⟩)) (hx : a.eval x = .agg c)
    (hl : c.size = 2) (h1 : ones c = true) (h : (w.rowOf b).size = 2) (hf : w.free b = true) (hK : K (a.put o.dst undef) (w.setRow b c)) : o.wp Try.prog a w K Q := by
  obtain ⟨dst, op, ty, pos, after, guard⟩ := o
  subst ho
  unfold Oper.wp
  rw [rs_rit, hp, hx, xs_rit _ _ _ hl h1 h hf]
  simp only [Oper.upon]
  exact hK
theorem wpa_rit {a : Act} {w : World} {K : Act → World → Prop} {Q : Exit → Act → World → Prop} {o : Oper} (ho : o.op = .alloc 75)
    (hK : K (a.put o.dst (.pointer (some ⟨w.heap.size, 0, none⟩))) (w.alloc (.cells (ITR 0 (.slice none 0 0)) 75))) : o.wp Try.prog a w K Q := by
  obtain ⟨dst, op, ty, pos, after, guard⟩ := o
  subst ho
  unfold Oper.wp
  rw [ra_rit]
  simp only [Oper.upon]
  exact hK

theorem inf_lnk : (Try.prog.info? 95).map (·.size) = some 2 := by kernel_rfl
section
variable (ρ : Operand → Value) (dst : Option Tmp) (ty : TypeId) (pos : String) (after : Array Edge) (guard : Option (Nat × Bool)) (w : World)
@[go_sem ↓] theorem rl_lnk (x : Operand) : (execOp ρ { dst, op := .load 95 x, type := ty, pos, after, guard }).run Try.prog w = exLoad Try.prog 95 (ρ x) w := x_load ..
@[go_sem ↓] theorem rs_lnk (x y : Operand) : (execOp ρ { dst, op := .store 95 x y, type := ty, pos, after, guard }).run Try.prog w = exStore Try.prog 95 (ρ x) (ρ y) w := x_store ..
@[go_sem ↓] theorem ra_lnk : (execOp ρ { dst, op := .alloc 95, type := ty, pos, after, guard }).run Try.prog w = .ok (.value (.pointer (some ⟨w.heap.size, 0, none⟩))) (w.alloc (.cells (STR 0 (.slice none 0 0)) 95)) :=
  (x_alloc ..).trans (x_alloc0 (v := .agg (STR 0 (.slice none 0 0))) _ (by kernel_rfl))
@[go_sem] theorem xl_lnk (b : Nat) (h : (w.rowOf b).size = 2) : exLoad Try.prog 95 (.pointer (some ⟨b, 0, none⟩)) w = .ok (.value (.agg (w.rowOf b))) w := x_load0 _ Try.underlying95 rfl inf_lnk b h
@[go_sem] theorem xlm_lnk (b o : Nat) (ho : 0 < o) (h : o + 2 ≤ (w.rowOf b).size) : exLoad Try.prog 95 (.pointer (some ⟨b, o, none⟩)) w = .ok (.value (.agg ((w.rowOf b).extract o (o + 2)))) w := x_loadm _ Try.underlying95 rfl inf_lnk b o h
@[go_sem] theorem xs_lnk (b : Nat) (c : Array Value) (hl : c.size = 2) (h1 : ones c = true) (h : (w.rowOf b).size = 2) (hf : w.free b = true) : exStore Try.prog 95 (.pointer (some ⟨b, 0, none⟩)) (.agg c) w = .ok .skip (w.setRow b c) :=
  x_store0 _ inf_lnk b c hl h hf (ones_all h1)
@[go_sem] theorem xsm_lnk (b o : Nat) (ho : 0 < o) (c : Array Value) (hl : c.size = 2) (h1 : ones c = true) (h : o + 2 ≤ (w.rowOf b).size) (hf : w.free b = true) : exStore Try.prog 95 (.pointer (some ⟨b, o, none⟩)) (.agg c) w = .ok .skip (w.setSeg b o c) :=
  x_storem _ inf_lnk b o c hl h hf (ones_all h1)
end
/-- at a step: a store, and a variable made -/
theorem wps_lnk {a : Act} {w : World} {K : Act → World → Prop} {Q : Exit → Act → World → Prop} {o : Oper} (p x : Operand) (ho : o.op = .store 95 p x) (b : Nat) (c : Array Value) (hp : a.eval p = .pointer (some ⟨b, 0, none⟩)) (hx : a.eval x = .agg c)
    (hl : c.size = 2) (h1 : ones c = true) (h : (w.rowOf b).size = 2) (hf : w.free b = true) (hK : K (a.put o.dst undef) (w.setRow b c)) : o.wp Try.prog a w K Q := by
  obtain ⟨dst, op, ty, pos, after, guard⟩ := o
  subst ho
  unfold Oper.wp
  rw [rs_lnk, hp, hx, xs_lnk _ _ _ hl h1 h hf]
  simp only [Oper.upon]
  exact hK
theorem wpa_lnk {a : Act} {w : World} {K : Act → World → Prop} {Q : Exit → Act → World → Prop} {o : Oper} (ho : o.op = .alloc 95)
    (hK : K (a.put o.dst (.pointer (some ⟨w.heap.size, 0, none⟩))) (w.alloc (.cells (STR 0 (.slice none 0 0)) 95))) : o.wp Try.prog a w K Q := by
  obtain ⟨dst, op, ty, pos, after, guard⟩ := o
  subst ho
  unfold Oper.wp
  rw [ra_lnk]
  simp only [Oper.upon]
  exact hK

theorem inf_rlk : (Try.prog.info? 67).map (·.size) = some 2 := by kernel_rfl
section
variable (ρ : Operand → Value) (dst : Option Tmp) (ty : TypeId) (pos : String) (after : Array Edge) (guard : Option (Nat × Bool)) (w : World)
@[go_sem ↓] theorem rl_rlk (x : Operand) : (execOp ρ { dst, op := .load 67 x, type := ty, pos, after, guard }).run Try.prog w = exLoad Try.prog 67 (ρ x) w := x_load ..
@[go_sem ↓] theorem rs_rlk (x y : Operand) : (execOp ρ { dst, op := .store 67 x y, type := ty, pos, after, guard }).run Try.prog w = exStore Try.prog 67 (ρ x) (ρ y) w := x_store ..
@[go_sem ↓] theorem ra_rlk : (execOp ρ { dst, op := .alloc 67, type := ty, pos, after, guard }).run Try.prog w = .ok (.value (.pointer (some ⟨w.heap.size, 0, none⟩))) (w.alloc (.cells (RSR (.slice none 0 0) 0) 67)) :=
  (x_alloc ..).trans (x_alloc0 (v := .agg (RSR (.slice none 0 0) 0)) _ (by kernel_rfl))
@[go_sem] theorem xl_rlk (b : Nat) (h : (w.rowOf b).size = 2) : exLoad Try.prog 67 (.pointer (some ⟨b, 0, none⟩)) w = .ok (.value (.agg (w.rowOf b))) w := x_load0 _ Try.underlying67 rfl inf_rlk b h
@[go_sem] theorem xlm_rlk (b o : Nat) (ho : 0 < o) (h : o + 2 ≤ (w.rowOf b).size) : exLoad Try.prog 67 (.pointer (some ⟨b, o, none⟩)) w = .ok (.value (.agg ((w.rowOf b).extract o (o + 2)))) w := x_loadm _ Try.underlying67 rfl inf_rlk b o h
@[go_sem] theorem xs_rlk (b : Nat) (c : Array Value) (hl : c.size = 2) (h1 : ones c = true) (h : (w.rowOf b).size = 2) (hf : w.free b = true) : exStore Try.prog 67 (.pointer (some ⟨b, 0, none⟩)) (.agg c) w = .ok .skip (w.setRow b c) :=
  x_store0 _ inf_rlk b c hl h hf (ones_all h1)
@[go_sem] theorem xsm_rlk (b o : Nat) (ho : 0 < o) (c : Array Value) (hl : c.size = 2) (h1 : ones c = true) (h : o + 2 ≤ (w.rowOf b).size) (hf : w.free b = true) : exStore Try.prog 67 (.pointer (some ⟨b, o, none⟩)) (.agg c) w = .ok .skip (w.setSeg b o c) :=
  x_storem _ inf_rlk b o c hl h hf (ones_all h1)
end
/-- at a step: a store, and a variable made -/
theorem wps_rlk {a : Act} {w : World} {K : Act → World → Prop} {Q : Exit → Act → World → Prop} {o : Oper} (p x : Operand) (ho : o.op = .store 67 p x) (b : Nat) (c : Array Value) (hp : a.eval p = .pointer (some ⟨b, 0, none⟩)) (hx : a.eval x = .agg c)
    (hl : c.size = 2) (h1 : ones c = true) (h : (w.rowOf b).size = 2) (hf : w.free b = true) (hK : K (a.put o.dst undef) (w.setRow b c)) : o.wp Try.prog a w K Q := by
  obtain ⟨dst, op, ty, pos, after, guard⟩ := o
  subst ho
  unfold Oper.wp
  rw [rs_rlk, hp, hx, xs_rlk _ _ _ hl h1 h hf]
  simp only [Oper.upon]
  exact hK
theorem wpa_rlk {a : Act} {w : World} {K : Act → World → Prop} {Q : Exit → Act → World → Prop} {o : Oper} (ho : o.op = .alloc 67)
    (hK : K (a.put o.dst (.pointer (some ⟨w.heap.size, 0, none⟩))) (w.alloc (.cells (RSR (.slice none 0 0) 0) 67))) : o.wp Try.prog a w K Q := by
  obtain ⟨dst, op, ty, pos, after, guard⟩ := o
  subst ho
  unfold Oper.wp
  rw [ra_rlk]
  simp only [Oper.upon]
  exact hK

theorem inf_ac6 : (Try.prog.info? 69).map (·.size) = some 6 := by kernel_rfl
section
variable (ρ : Operand → Value) (dst : Option Tmp) (ty : TypeId) (pos : String) (after : Array Edge) (guard : Option (Nat × Bool)) (w : World)
@[go_sem ↓] theorem rl_ac6 (x : Operand) : (execOp ρ { dst, op := .load 69 x, type := ty, pos, after, guard }).run Try.prog w = exLoad Try.prog 69 (ρ x) w := x_load ..
@[go_sem ↓] theorem rs_ac6 (x y : Operand) : (execOp ρ { dst, op := .store 69 x y, type := ty, pos, after, guard }).run Try.prog w = exStore Try.prog 69 (ρ x) (ρ y) w := x_store ..
@[go_sem ↓] theorem ra_ac6 : (execOp ρ { dst, op := .alloc 69, type := ty, pos, after, guard }).run Try.prog w = .ok (.value (.pointer (some ⟨w.heap.size, 0, none⟩))) (w.alloc (.cells (AC6 A6.zero) 69)) :=
  (x_alloc ..).trans (x_alloc0 (v := .agg (AC6 A6.zero)) _ (by kernel_rfl))
@[go_sem] theorem xl_ac6 (b : Nat) (h : (w.rowOf b).size = 6) : exLoad Try.prog 69 (.pointer (some ⟨b, 0, none⟩)) w = .ok (.value (.agg (w.rowOf b))) w := x_load0 _ Try.underlying69 rfl inf_ac6 b h
@[go_sem] theorem xlm_ac6 (b o : Nat) (ho : 0 < o) (h : o + 6 ≤ (w.rowOf b).size) : exLoad Try.prog 69 (.pointer (some ⟨b, o, none⟩)) w = .ok (.value (.agg ((w.rowOf b).extract o (o + 6)))) w := x_loadm _ Try.underlying69 rfl inf_ac6 b o h
@[go_sem] theorem xs_ac6 (b : Nat) (c : Array Value) (hl : c.size = 6) (h1 : ones c = true) (h : (w.rowOf b).size = 6) (hf : w.free b = true) : exStore Try.prog 69 (.pointer (some ⟨b, 0, none⟩)) (.agg c) w = .ok .skip (w.setRow b c) :=
  x_store0 _ inf_ac6 b c hl h hf (ones_all h1)
@[go_sem] theorem xsm_ac6 (b o : Nat) (ho : 0 < o) (c : Array Value) (hl : c.size = 6) (h1 : ones c = true) (h : o + 6 ≤ (w.rowOf b).size) (hf : w.free b = true) : exStore Try.prog 69 (.pointer (some ⟨b, o, none⟩)) (.agg c) w = .ok .skip (w.setSeg b o c) :=
  x_storem _ inf_ac6 b o c hl h hf (ones_all h1)
end
/-- at a step: a store, and a variable made -/
theorem wps_ac6 {a : Act} {w : World} {K : Act → World → Prop} {Q : Exit → Act → World → Prop} {o : Oper} (p x : Operand) (ho : o.op = .store 69 p x) (b : Nat) (c : Array Value) (hp : a.eval p = .pointer (some ⟨b, 0, none⟩)) (hx : a.eval x = .agg c)
    (hl : c.size = 6) (h1 : ones c = true) (h : (w.rowOf b).size = 6) (hf : w.free b = true) (hK : K (a.put o.dst undef) (w.setRow b c)) : o.wp Try.prog a w K Q := by
  obtain ⟨dst, op, ty, pos, after, guard⟩ := o
  subst ho
  unfold Oper.wp
  rw [rs_ac6, hp, hx, xs_ac6 _ _ _ hl h1 h hf]
  simp only [Oper.upon]
  exact hK
theorem wpa_ac6 {a : Act} {w : World} {K : Act → World → Prop} {Q : Exit → Act → World → Prop} {o : Oper} (ho : o.op = .alloc 69)
    (hK : K (a.put o.dst (.pointer (some ⟨w.heap.size, 0, none⟩))) (w.alloc (.cells (AC6 A6.zero) 69))) : o.wp Try.prog a w K Q := by
  obtain ⟨dst, op, ty, pos, after, guard⟩ := o
  subst ho
  unfold Oper.wp
  rw [ra_ac6]
  simp only [Oper.upon]
  exact hK

theorem bp_itm (l : List (Nat × Value)) : Try.prog.built 72 l = Instr.fill (([(0, 1), (1, 1)] : List (Nat × Nat)).toArray[·]?) (((Try.prog.info? 72).bind (·.zero)).getD undef).cells l := by kernel_rfl
theorem bz_itm : (((Try.prog.info? 72).bind (·.zero)).getD undef).cells.size = 2 := by kernel_rfl
@[go_sem ↓] theorem rb_itm (ρ : Operand → Value) (dst : Option Tmp) (ty : TypeId) (pos : String) (after : Array Edge) (guard : Option (Nat × Bool)) (w : World) (ps : Array (Nat × Operand)) :
    (execOp ρ { dst, op := .build 72 ps, type := ty, pos, after, guard }).run Try.prog w = exBuild Try.prog 72 (ps.map fun p => (p.1, ρ p.2)) w := x_build ..
theorem xb_itm (w : World) (ps : Array (Nat × Value)) (hc : Cont (([(0, 1), (1, 1)] : List (Nat × Nat)).toArray[·]?) 0 ps.toList) (hz : (catP ps.toList).size = 2) :
    exBuild Try.prog 72 ps w = .ok (.value (.agg (catP ps.toList))) w := by
  unfold exBuild; rw [run_build_cat w 72 ps _ _ bp_itm hc (by rw [bz_itm]; exact hz)]; rfl

theorem bp_rit (l : List (Nat × Value)) : Try.prog.built 75 l = Instr.fill (([(0, 1), (1, 1)] : List (Nat × Nat)).toArray[·]?) (((Try.prog.info? 75).bind (·.zero)).getD undef).cells l := by kernel_rfl
theorem bz_rit : (((Try.prog.info? 75).bind (·.zero)).getD undef).cells.size = 2 := by kernel_rfl
@[go_sem ↓] theorem rb_rit (ρ : Operand → Value) (dst : Option Tmp) (ty : TypeId) (pos : String) (after : Array Edge) (guard : Option (Nat × Bool)) (w : World) (ps : Array (Nat × Operand)) :
    (execOp ρ { dst, op := .build 75 ps, type := ty, pos, after, guard }).run Try.prog w = exBuild Try.prog 75 (ps.map fun p => (p.1, ρ p.2)) w := x_build ..
theorem xb_rit (w : World) (ps : Array (Nat × Value)) (hc : Cont (([(0, 1), (1, 1)] : List (Nat × Nat)).toArray[·]?) 0 ps.toList) (hz : (catP ps.toList).size = 2) :
    exBuild Try.prog 75 ps w = .ok (.value (.agg (catP ps.toList))) w := by
  unfold exBuild; rw [run_build_cat w 75 ps _ _ bp_rit hc (by rw [bz_rit]; exact hz)]; rfl

theorem bp_lnk (l : List (Nat × Value)) : Try.prog.built 95 l = Instr.fill (([(0, 1), (1, 1)] : List (Nat × Nat)).toArray[·]?) (((Try.prog.info? 95).bind (·.zero)).getD undef).cells l := by kernel_rfl
theorem bz_lnk : (((Try.prog.info? 95).bind (·.zero)).getD undef).cells.size = 2 := by kernel_rfl
@[go_sem ↓] theorem rb_lnk (ρ : Operand → Value) (dst : Option Tmp) (ty : TypeId) (pos : String) (after : Array Edge) (guard : Option (Nat × Bool)) (w : World) (ps : Array (Nat × Operand)) :
    (execOp ρ { dst, op := .build 95 ps, type := ty, pos, after, guard }).run Try.prog w = exBuild Try.prog 95 (ps.map fun p => (p.1, ρ p.2)) w := x_build ..
theorem xb_lnk (w : World) (ps : Array (Nat × Value)) (hc : Cont (([(0, 1), (1, 1)] : List (Nat × Nat)).toArray[·]?) 0 ps.toList) (hz : (catP ps.toList).size = 2) :
    exBuild Try.prog 95 ps w = .ok (.value (.agg (catP ps.toList))) w := by
  unfold exBuild; rw [run_build_cat w 95 ps _ _ bp_lnk hc (by rw [bz_lnk]; exact hz)]; rfl

theorem inf_sli : (Try.prog.info? 91).map (·.size) = some 1 := by kernel_rfl
section
variable (ρ : Operand → Value) (dst : Option Tmp) (ty : TypeId) (pos : String) (after : Array Edge) (guard : Option (Nat × Bool)) (w : World)
@[go_sem ↓] theorem rs_sli (x y : Operand) : (execOp ρ { dst, op := .store 91 x y, type := ty, pos, after, guard }).run Try.prog w = exStore Try.prog 91 (ρ x) (ρ y) w := x_store ..
@[go_sem] theorem xs_sli (b o : Nat) (v : Value) (hv : ones1 v = true) (ho : o < (w.rowOf b).size) (hf : w.free b = true) : exStore Try.prog 91 (.pointer (some ⟨b, o, none⟩)) v w = .ok .skip (w.setRow b ((w.rowOf b).setIfInBounds o v)) :=
  x_storec inf_sli w b o v hv ho hf
end

theorem inf_slq : (Try.prog.info? 65).map (·.size) = some 1 := by kernel_rfl
section
variable (ρ : Operand → Value) (dst : Option Tmp) (ty : TypeId) (pos : String) (after : Array Edge) (guard : Option (Nat × Bool)) (w : World)
@[go_sem ↓] theorem rs_slq (x y : Operand) : (execOp ρ { dst, op := .store 65 x y, type := ty, pos, after, guard }).run Try.prog w = exStore Try.prog 65 (ρ x) (ρ y) w := x_store ..
@[go_sem] theorem xs_slq (b o : Nat) (v : Value) (hv : ones1 v = true) (ho : o < (w.rowOf b).size) (hf : w.free b = true) : exStore Try.prog 65 (.pointer (some ⟨b, o, none⟩)) v w = .ok .skip (w.setRow b ((w.rowOf b).setIfInBounds o v)) :=
  x_storec inf_slq w b o v hv ho hf
end

theorem inf_slb : (Try.prog.info? 70).map (·.size) = some 1 := by kernel_rfl
section
variable (ρ : Operand → Value) (dst : Option Tmp) (ty : TypeId) (pos : String) (after : Array Edge) (guard : Option (Nat × Bool)) (w : World)
@[go_sem ↓] theorem rs_slb (x y : Operand) : (execOp ρ { dst, op := .store 70 x y, type := ty, pos, after, guard }).run Try.prog w = exStore Try.prog 70 (ρ x) (ρ y) w := x_store ..
@[go_sem] theorem xs_slb (b o : Nat) (v : Value) (hv : ones1 v = true) (ho : o < (w.rowOf b).size) (hf : w.free b = true) : exStore Try.prog 70 (.pointer (some ⟨b, o, none⟩)) v w = .ok .skip (w.setRow b ((w.rowOf b).setIfInBounds o v)) :=
  x_storec inf_slb w b o v hv ho hf
end

theorem xb_itm2 (w : World) (too : Int) (a : Option Addr) (n c : Nat) : exBuild Try.prog 72 #[(0, .int .i64 too), (1, .slice a n c)] w = .ok (.value (.agg (ITR too (.slice a n c)))) w := by
  rw [xb_itm w _ (by simp [Cont, Value.cells]) (by simp [catP, Value.cells])]
  simp [catP, Value.cells, ITR]
theorem xb_rit2 (w : World) (too : Int) (a : Option Addr) (n c : Nat) : exBuild Try.prog 75 #[(0, .int .i64 too), (1, .slice a n c)] w = .ok (.value (.agg (ITR too (.slice a n c)))) w := by
  rw [xb_rit w _ (by simp [Cont, Value.cells]) (by simp [catP, Value.cells])]
  simp [catP, Value.cells, ITR]
theorem xb_itm0 (w : World) : exBuild Try.prog 72 #[] w = .ok (.value (.agg (ITR 0 (.slice none 0 0)))) w := by
  unfold exBuild; rw [run_build w _ _ (ITR 0 (.slice none 0 0)) (by kernel_rfl)]; rfl
theorem xb_rit0 (w : World) : exBuild Try.prog 75 #[] w = .ok (.value (.agg (ITR 0 (.slice none 0 0)))) w := by
  unfold exBuild; rw [run_build w _ _ (ITR 0 (.slice none 0 0)) (by kernel_rfl)]; rfl
theorem xb_lnk0 (w : World) : exBuild Try.prog 95 #[] w = .ok (.value (.agg (STR 0 (.slice none 0 0)))) w := by
  unfold exBuild; rw [run_build w _ _ (STR 0 (.slice none 0 0)) (by kernel_rfl)]; rfl
theorem xb_lnk1 (w : World) (n : Int) : exBuild Try.prog 95 #[(0, .int .i64 n)] w = .ok (.value (.agg (STR n (.slice none 0 0)))) w := by
  unfold exBuild
  rw [run_build w 95 _ (STR n (.slice none 0 0)) ?_]
  · rfl
  kernel_rfl
/-! bytes of one's own -/
theorem Mm.grown8 {S : Nat → Prop} {w0 w w' : World} {H : List (Nat × Array Value)} {r : Option Nat} (M : Mm S w0 H w) (hg : w.grownBy w' r) (hr : ∀ g, r = some g → (S g ∨ w0.heap.size ≤ g) ∧ ∀ p ∈ H, p.1 ≠ g) : Mm S w0 H w' := M.gb hg hr
theorem OB.fr' {S : Nat → Prop} {w w' : World} {base : Nat} {v : Value} {l : List (BitVec 8)} (h : OB w base v l) (hf : Fr S w w') (hS : ∀ g, v.ownBlock = some g → ¬ S g) : OB w' base v l := by
  refine ⟨h.1, ?_⟩
  rcases h.2 with e | ⟨g, cap, cur, rfl, h1, h2, h3⟩
  · exact .inl e
  · exact .inr ⟨g, cap, cur, rfl, h1, (hf.block g (Array.getElem?_eq_some_iff.1 h2).1 (hS g rfl)).trans h2, h3⟩
theorem OB.below {w w' : World} {base : Nat} {v : Value} {l : List (BitVec 8)} (h : OB w base v l) (hb : Below w.heap.size w w') : OB w' base v l :=
  h.fr' (S := fun _ => False) (Fr.of_below hb) (fun _ _ h => h)
theorem OB.at_ {w : World} {base : Nat} {v : Value} {l : List (BitVec 8)} (h : OB w base v l) : ∀ g, v.ownBlock = some g → base ≤ g ∧ g < w.heap.size := fun g hg => h.lt g hg
section
variable {ops : Array Oper} {Q : Exit → Act → World → Prop} {i : Nat} {t : Tr} {a : Act} {o : Oper} {S S' : Nat → Prop} {w0 w w5 : World} {H : List (Nat × Array Value)}
theorem wpT_apb (dst : Nat) (s x : Operand) (M : Mm S w0 H w) (base : Nat) (v u : Value) (l m : List (BitVec 8)) (hdst : o.dst = some dst) (ho : ops[i]? = some o)
    (hop : o.op = .call { callee := .builtin .append, args := #[s, x], argTypes := #[70, 70] }) (hg : o.guard = none) (hs : a.eval s = v) (hown : OB w base v l) (hx : a.eval x = u) (hu : BS w u m)
    (hlen : l.length + m.length ≤ 140737488355328) (hbase : base ≤ w.heap.size) (hb0 : w0.heap.size ≤ base) (hsep : ∀ g, v.ownBlock = some g → ∀ p ∈ H, p.1 ≠ g)
    (h : ∀ v' w', OB w' base v' (l ++ m) → Mm S w0 H w' → wpT Try.prog ops Q t (a.put (some dst) v') w') : wpT Try.prog ops Q (.op i t) a w := by
  refine wpT_step ho hg (fun K hK => ?_)
  refine wp_apb s x hop base v u l m hs hown hx hu hlen hbase ?_
  intro v' w' h1 h2 h3
  rw [hdst]
  exact hK _ _ (h v' w' h1 (M.grown8 h2 (fun g hg => ⟨.inr (Nat.le_trans hb0 (hown.lt g hg).1), hsep g hg⟩)))
/-- a step: []byte{} -/
theorem wpT_bs08 {P : Program} (dst : Nat) (M : Mm S w0 H w) (hdst : o.dst = some dst) (ho : ops[i]? = some o) (hw : Region.wanted o (yielded ops a.tmps) = true)
    (hrun : (execOp a.eval o).run P w = .ok (.value (.slice (some ⟨w.heap.size, 0, none⟩) 0 0)) (w.alloc (.cells #[] 5)))
    (h : ∀ b w', OB w' w.heap.size (.slice (some ⟨b, 0, none⟩) 0 0) [] → w.heap.size ≤ b → w.heap.size ≤ w'.heap.size → Mm S w0 H w' → wpT P ops Q t (a.put (some dst) (.slice (some ⟨b, 0, none⟩) 0 0)) w') : wpT P ops Q (.op i t) a w := by
  refine wpT_val ho hw hrun (by rw [hdst]; exact h _ _ ⟨by simp, .inr ⟨w.heap.size, 0, #[], rfl, Nat.le_refl _, heap_new' _, Nat.le_refl _, Nat.zero_le _, by simp, by simp⟩⟩ (Nat.le_refl _) (by simp) (M.below (Below.alloc (Below.refl _ _) (Nat.le_refl _) _)))
/-- a step: a call that answers something new that is no row of ours -/
theorem wpT_newx {P : Program} {f : FuncId} {args : Array Value} {U : Type} (V : U → Value) (X : U → World → Prop) (dst : Nat) (M : Mm S w0 H w) (hdst : o.dst = some dst) (ho : ops[i]? = some o) (hw : Region.wanted o (yielded ops a.tmps) = true) (hrun : (execOp a.eval o).run P w = .ok (.enter f args) w)
    (hc : Calls P f args w fun e w' => ∃ u, e = .returned (V u) ∧ X u w' ∧ Below w.heap.size w w')
    (h : ∀ u w', X u w' → w.heap.size ≤ w'.heap.size → Mm S w0 H w' → wpT P ops Q t (a.put (some dst) (V u)) w') : wpT P ops Q (.op i t) a w := by
  refine wpT_call ho hw hrun hc (fun e w' => ?_)
  rintro ⟨u, he, O, hb⟩
  refine ⟨V u, he, ?_⟩
  rw [hdst]
  exact h u w' O hb.size (M.below hb)
end
theorem eqb_nil1 (w : World) (cap : Nat) : (binOp .eql 70 (.slice none 0 cap) (.slice none 0 0)).run Try.prog w = .ok (.bool true) w :=
  Lib.run_eql_slice_nil w _ _ none 0 cap 0 0 Try.underlying70
theorem eqb_nil0 (w : World) (ad : Addr) (n cap : Nat) : (binOp .eql 70 (.slice (some ad) n cap) (.slice none 0 0)).run Try.prog w = .ok (.bool false) w :=
  Lib.run_eql_slice_nil w _ _ (some ad) n cap 0 0 Try.underlying70
end Go.Proofs.Ytojkcbhmhfjioaa
