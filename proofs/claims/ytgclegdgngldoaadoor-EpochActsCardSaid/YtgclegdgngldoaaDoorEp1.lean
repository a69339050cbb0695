/-
  Package epoch: its types in memory; own work.
-/
import Derived.Test.YtgclegdgngldoaaDoorEpS
import Derived.Test.YtgclegdgngldoaaDoorGs
import Derived.Test.YtgclegdgngldoaaDoorSu1
import Derived.Test.YtgclegdgngldoaaDoorCelI
set_option linter.unusedSimpArgs false
set_option linter.unusedVariables false
namespace Go.Proofs.YtgclegdgngldoaaDoor
open Go.RowKit Fp
/-- a Slot's cells, a slot's, a Rotor's, the document's Slot's, an Act's -/
noncomputable def EPS (k : L8) (s : Ep.Sl) : Array Value := #[.int .i64 s.gen, .int .i64 (Ep.fin s.made)] ++ cs U8 (Ep.own k s.gen ++ Ep.pub k s.gen)
noncomputable def ESL (k : L8) (s : Ep.Sl) : Array Value := EPS k s ++ #[.int .i64 s.made]
def ROR (k : L8) (v : Value) (t : Int) : Array Value := cs U8 k ++ #[v, .int .i64 t]
def RSL (s : Ep.Sl) : Array Value := #[.int .i64 s.gen, .int .i64 s.made]
def ACT (x n : Int) : Array Value := #[.int .u8 x, .int .i64 n]
def ZPS : Array Value := #[.int .i64 0, .int .i64 0] ++ cs U8 (zs 64)
def ZSL : Array Value := ZPS ++ #[.int .i64 0]
section
variable {k : L8} {s : Ep.Sl} {v : Value} {t : Int} {w : World} {b : Nat}
@[simp] theorem EPS_size : (EPS k s).size = 66 := by simp [EPS]
@[simp] theorem ESL_size : (ESL k s).size = 67 := by simp [ESL]
@[simp] theorem ZPS_size : ZPS.size = 66 := by simp [ZPS]
@[simp] theorem ZSL_size : ZSL.size = 67 := by simp [ZSL]
@[simp] theorem RSL_size : (RSL s).size = 2 := by simp [RSL]
@[simp] theorem ACT_size {x : Int} : (ACT x t).size = 2 := by simp [ACT]
theorem ROR_size (hk : k.length = 32) : (ROR k v t).size = 34 := by simp [ROR, hk]
theorem eps_c1 (h : w.rowOf b = EPS k s) : w.cell? ⟨b, 1, none⟩ = some (.int .i64 (Ep.fin s.made)) := by rw [cell_rowOf, h]; simp [EPS]
theorem esl_c0 (h : w.rowOf b = ESL k s) : w.cell? ⟨b, 0, none⟩ = some (.int .i64 s.gen) := by rw [cell_rowOf, h]; simp [ESL, EPS]
theorem esl_c1 (h : w.rowOf b = ESL k s) : w.cell? ⟨b, 1, none⟩ = some (.int .i64 (Ep.fin s.made)) := by rw [cell_rowOf, h]; simp [ESL, EPS]
theorem esl_c66 (h : w.rowOf b = ESL k s) : w.cell? ⟨b, 66, none⟩ = some (.int .i64 s.made) := by
  rw [cell_rowOf, h]; unfold ESL; rw [Array.getElem?_append_right (by simp)]; simp
theorem esl_p0 : (ESL k s).extract 0 (0 + 66) = EPS k s := by
  have h := EPS_size (k := k) (s := s)
  unfold ESL; apply Array.toList_inj.1
  rw [Array.toList_extract, Array.toList_append]
  simp only [List.extract_eq_take_drop, List.drop_zero]
  rw [List.take_append_of_le_length (by simp), List.take_of_length_le (by simp)]
theorem ror_p0 (hk : k.length = 32) : (ROR k v t).extract 0 (0 + 32) = cs U8 k := by
  unfold ROR; apply Array.toList_inj.1; simp [cs, hk, List.take_append, List.take_of_length_le]
theorem ror_c32 (hk : k.length = 32) (h : w.rowOf b = ROR k v t) : w.cell? ⟨b, 32, none⟩ = some v := by
  rw [cell_rowOf, h]; unfold ROR; rw [Array.getElem?_append_right (by simp [hk])]; simp [hk]
theorem ror_c33 (hk : k.length = 32) (h : w.rowOf b = ROR k v t) : w.cell? ⟨b, 33, none⟩ = some (.int .i64 t) := by
  rw [cell_rowOf, h]; unfold ROR; rw [Array.getElem?_append_right (by simp [hk])]; simp [hk]
theorem ror_s32 (hk : k.length = 32) (u : Value) : (ROR k v t).setIfInBounds 32 u = ROR k u t := by
  unfold ROR; apply Array.toList_inj.1; simp [cs, hk, List.set_append]
theorem ror_s33 (hk : k.length = 32) (u : Int) : (ROR k v t).setIfInBounds 33 (.int .i64 u) = ROR k v u := by
  unfold ROR; apply Array.toList_inj.1; simp [cs, hk, List.set_append]
theorem act_c0 {x : Int} (h : w.rowOf b = ACT x t) : w.cell? ⟨b, 0, none⟩ = some (.int .u8 x) := by rw [cell_rowOf, h]; simp [ACT]
theorem act_c1 {x : Int} (h : w.rowOf b = ACT x t) : w.cell? ⟨b, 1, none⟩ = some (.int .i64 t) := by rw [cell_rowOf, h]; simp [ACT]
end
theorem ones_any {c : Array Value} (h : ∀ u ∈ c.toList, u.oneCell' = true) : ones c = true := by unfold ones; rw [List.all_eq_true]; exact h
theorem one_EPS {k : L8} {s : Ep.Sl} : ∀ u ∈ (EPS k s).toList, u.oneCell' = true := by
  intro u hu
  simp only [EPS, cs, Array.toList_append, List.mem_append, List.mem_cons, List.not_mem_nil, or_false, List.mem_map] at hu
  rcases hu with (rfl | rfl) | ⟨x, _, rfl⟩ <;> rfl
theorem one_ESL {k : L8} {s : Ep.Sl} : ∀ u ∈ (ESL k s).toList, u.oneCell' = true := by
  intro u hu
  simp only [ESL, Array.toList_append, List.mem_append, List.mem_cons, List.not_mem_nil, or_false] at hu
  rcases hu with hu | rfl
  · exact one_EPS u hu
  · rfl
theorem one_RSL {s : Ep.Sl} : ∀ u ∈ (RSL s).toList, u.oneCell' = true := by
  intro u hu
  simp only [RSL, List.mem_cons, List.not_mem_nil, or_false] at hu
  rcases hu with rfl | rfl <;> rfl
theorem one_ZPS : ∀ u ∈ ZPS.toList, u.oneCell' = true := by
  intro u hu
  simp only [ZPS, cs, Array.toList_append, List.mem_append, List.mem_cons, List.not_mem_nil, or_false, List.mem_map] at hu
  rcases hu with (rfl | rfl) | ⟨x, _, rfl⟩ <;> rfl
theorem one_ZSL : ∀ u ∈ ZSL.toList, u.oneCell' = true := by
  intro u hu
  simp only [ZSL, Array.toList_append, List.mem_append, List.mem_cons, List.not_mem_nil, or_false] at hu
  rcases hu with hu | rfl
  · exact one_ZPS u hu
  · rfl
@[go_sem] theorem ones_EPS (k : L8) (s : Ep.Sl) : ones (EPS k s) = true := ones_any one_EPS
@[go_sem] theorem ones_ESL (k : L8) (s : Ep.Sl) : ones (ESL k s) = true := ones_any one_ESL
@[go_sem] theorem ones_RSL (s : Ep.Sl) : ones (RSL s) = true := ones_any one_RSL
@[go_sem] theorem ones_ACT (x n : Int) : ones (ACT x n) = true := by
  refine ones_any fun u hu => ?_
  simp only [ACT, List.mem_cons, List.not_mem_nil, or_false] at hu
  rcases hu with rfl | rfl <;> rfl
@[go_sem] theorem ones_ROR (k : L8) (a : Option Addr) (n c : Nat) (t : Int) : ones (ROR k (.slice a n c) t) = true := by
  refine ones_any fun u hu => ?_
  simp only [ROR, cs, Array.toList_append, List.mem_append, List.mem_cons, List.not_mem_nil, or_false, List.mem_map] at hu
  rcases hu with ⟨x, _, rfl⟩ | rfl | rfl <;> rfl
theorem inf_eps : (Tryd.prog.info? 66).map (·.size) = some 66 := by kernel_rfl
section
variable (ρ : Operand → Value) (dst : Option Tmp) (ty : TypeId) (pos : String) (after : Array Edge) (guard : Option (Nat × Bool)) (w : World)
@[go_sem ↓] theorem rl_eps (x : Operand) : (execOp ρ { dst, op := .load 66 x, type := ty, pos, after, guard }).run Tryd.prog w = exLoad Tryd.prog 66 (ρ x) w := x_load ..
@[go_sem ↓] theorem rs_eps (x y : Operand) : (execOp ρ { dst, op := .store 66 x y, type := ty, pos, after, guard }).run Tryd.prog w = exStore Tryd.prog 66 (ρ x) (ρ y) w := x_store ..
@[go_sem ↓] theorem ra_eps : (execOp ρ { dst, op := .alloc 66, type := ty, pos, after, guard }).run Tryd.prog w = .ok (.value (.pointer (some ⟨w.heap.size, 0, none⟩))) (w.alloc (.cells (ZPS) 66)) :=
  (x_alloc ..).trans (x_alloc0 (v := .agg (ZPS)) _ (by kernel_rfl))
@[go_sem] theorem xl_eps (b : Nat) (h : (w.rowOf b).size = 66) : exLoad Tryd.prog 66 (.pointer (some ⟨b, 0, none⟩)) w = .ok (.value (.agg (w.rowOf b))) w := x_load0 _ Tryd.underlying66 rfl inf_eps b h
@[go_sem] theorem xlm_eps (b o : Nat) (ho : 0 < o) (h : o + 66 ≤ (w.rowOf b).size) : exLoad Tryd.prog 66 (.pointer (some ⟨b, o, none⟩)) w = .ok (.value (.agg ((w.rowOf b).extract o (o + 66)))) w := x_loadm _ Tryd.underlying66 rfl inf_eps b o h
@[go_sem] theorem xs_eps (b : Nat) (c : Array Value) (hl : c.size = 66) (h1 : ones c = true) (h : (w.rowOf b).size = 66) (hf : w.free b = true) : exStore Tryd.prog 66 (.pointer (some ⟨b, 0, none⟩)) (.agg c) w = .ok .skip (w.setRow b c) :=
  x_store0 _ inf_eps b c hl h hf (ones_all h1)
@[go_sem] theorem xsm_eps (b o : Nat) (ho : 0 < o) (c : Array Value) (hl : c.size = 66) (h1 : ones c = true) (h : o + 66 ≤ (w.rowOf b).size) (hf : w.free b = true) : exStore Tryd.prog 66 (.pointer (some ⟨b, o, none⟩)) (.agg c) w = .ok .skip (w.setSeg b o c) :=
  x_storem _ inf_eps b o c hl h hf (ones_all h1)
end
theorem inf_esl : (Tryd.prog.info? 83).map (·.size) = some 67 := by kernel_rfl
section
variable (ρ : Operand → Value) (dst : Option Tmp) (ty : TypeId) (pos : String) (after : Array Edge) (guard : Option (Nat × Bool)) (w : World)
@[go_sem ↓] theorem rl_esl (x : Operand) : (execOp ρ { dst, op := .load 83 x, type := ty, pos, after, guard }).run Tryd.prog w = exLoad Tryd.prog 83 (ρ x) w := x_load ..
@[go_sem ↓] theorem rs_esl (x y : Operand) : (execOp ρ { dst, op := .store 83 x y, type := ty, pos, after, guard }).run Tryd.prog w = exStore Tryd.prog 83 (ρ x) (ρ y) w := x_store ..
@[go_sem ↓] theorem ra_esl : (execOp ρ { dst, op := .alloc 83, type := ty, pos, after, guard }).run Tryd.prog w = .ok (.value (.pointer (some ⟨w.heap.size, 0, none⟩))) (w.alloc (.cells (ZSL) 83)) :=
  (x_alloc ..).trans (x_alloc0 (v := .agg (ZSL)) _ (by kernel_rfl))
@[go_sem] theorem xl_esl (b : Nat) (h : (w.rowOf b).size = 67) : exLoad Tryd.prog 83 (.pointer (some ⟨b, 0, none⟩)) w = .ok (.value (.agg (w.rowOf b))) w := x_load0 _ Tryd.underlying83 rfl inf_esl b h
@[go_sem] theorem xlm_esl (b o : Nat) (ho : 0 < o) (h : o + 67 ≤ (w.rowOf b).size) : exLoad Tryd.prog 83 (.pointer (some ⟨b, o, none⟩)) w = .ok (.value (.agg ((w.rowOf b).extract o (o + 67)))) w := x_loadm _ Tryd.underlying83 rfl inf_esl b o h
@[go_sem] theorem xs_esl (b : Nat) (c : Array Value) (hl : c.size = 67) (h1 : ones c = true) (h : (w.rowOf b).size = 67) (hf : w.free b = true) : exStore Tryd.prog 83 (.pointer (some ⟨b, 0, none⟩)) (.agg c) w = .ok .skip (w.setRow b c) :=
  x_store0 _ inf_esl b c hl h hf (ones_all h1)
@[go_sem] theorem xsm_esl (b o : Nat) (ho : 0 < o) (c : Array Value) (hl : c.size = 67) (h1 : ones c = true) (h : o + 67 ≤ (w.rowOf b).size) (hf : w.free b = true) : exStore Tryd.prog 83 (.pointer (some ⟨b, o, none⟩)) (.agg c) w = .ok .skip (w.setSeg b o c) :=
  x_storem _ inf_esl b o c hl h hf (ones_all h1)
end
theorem inf_rot : (Tryd.prog.info? 73).map (·.size) = some 34 := by kernel_rfl
section
variable (ρ : Operand → Value) (dst : Option Tmp) (ty : TypeId) (pos : String) (after : Array Edge) (guard : Option (Nat × Bool)) (w : World)
@[go_sem ↓] theorem rl_rot (x : Operand) : (execOp ρ { dst, op := .load 73 x, type := ty, pos, after, guard }).run Tryd.prog w = exLoad Tryd.prog 73 (ρ x) w := x_load ..
@[go_sem ↓] theorem rs_rot (x y : Operand) : (execOp ρ { dst, op := .store 73 x y, type := ty, pos, after, guard }).run Tryd.prog w = exStore Tryd.prog 73 (ρ x) (ρ y) w := x_store ..
@[go_sem ↓] theorem ra_rot : (execOp ρ { dst, op := .alloc 73, type := ty, pos, after, guard }).run Tryd.prog w = .ok (.value (.pointer (some ⟨w.heap.size, 0, none⟩))) (w.alloc (.cells (ROR (zs 32) (.slice none 0 0) 0) 73)) :=
  (x_alloc ..).trans (x_alloc0 (v := .agg (ROR (zs 32) (.slice none 0 0) 0)) _ (by kernel_rfl))
@[go_sem] theorem xl_rot (b : Nat) (h : (w.rowOf b).size = 34) : exLoad Tryd.prog 73 (.pointer (some ⟨b, 0, none⟩)) w = .ok (.value (.agg (w.rowOf b))) w := x_load0 _ Tryd.underlying73 rfl inf_rot b h
@[go_sem] theorem xlm_rot (b o : Nat) (ho : 0 < o) (h : o + 34 ≤ (w.rowOf b).size) : exLoad Tryd.prog 73 (.pointer (some ⟨b, o, none⟩)) w = .ok (.value (.agg ((w.rowOf b).extract o (o + 34)))) w := x_loadm _ Tryd.underlying73 rfl inf_rot b o h
@[go_sem] theorem xs_rot (b : Nat) (c : Array Value) (hl : c.size = 34) (h1 : ones c = true) (h : (w.rowOf b).size = 34) (hf : w.free b = true) : exStore Tryd.prog 73 (.pointer (some ⟨b, 0, none⟩)) (.agg c) w = .ok .skip (w.setRow b c) :=
  x_store0 _ inf_rot b c hl h hf (ones_all h1)
@[go_sem] theorem xsm_rot (b o : Nat) (ho : 0 < o) (c : Array Value) (hl : c.size = 34) (h1 : ones c = true) (h : o + 34 ≤ (w.rowOf b).size) (hf : w.free b = true) : exStore Tryd.prog 73 (.pointer (some ⟨b, o, none⟩)) (.agg c) w = .ok .skip (w.setSeg b o c) :=
  x_storem _ inf_rot b o c hl h hf (ones_all h1)
end
theorem inf_rsl : (Tryd.prog.info? 61).map (·.size) = some 2 := by kernel_rfl
section
variable (ρ : Operand → Value) (dst : Option Tmp) (ty : TypeId) (pos : String) (after : Array Edge) (guard : Option (Nat × Bool)) (w : World)
@[go_sem ↓] theorem rl_rsl (x : Operand) : (execOp ρ { dst, op := .load 61 x, type := ty, pos, after, guard }).run Tryd.prog w = exLoad Tryd.prog 61 (ρ x) w := x_load ..
@[go_sem ↓] theorem rs_rsl (x y : Operand) : (execOp ρ { dst, op := .store 61 x y, type := ty, pos, after, guard }).run Tryd.prog w = exStore Tryd.prog 61 (ρ x) (ρ y) w := x_store ..
@[go_sem ↓] theorem ra_rsl : (execOp ρ { dst, op := .alloc 61, type := ty, pos, after, guard }).run Tryd.prog w = .ok (.value (.pointer (some ⟨w.heap.size, 0, none⟩))) (w.alloc (.cells (RSL ⟨0, 0⟩) 61)) :=
  (x_alloc ..).trans (x_alloc0 (v := .agg (RSL ⟨0, 0⟩)) _ (by kernel_rfl))
@[go_sem] theorem xl_rsl (b : Nat) (h : (w.rowOf b).size = 2) : exLoad Tryd.prog 61 (.pointer (some ⟨b, 0, none⟩)) w = .ok (.value (.agg (w.rowOf b))) w := x_load0 _ Tryd.underlying61 rfl inf_rsl b h
@[go_sem] theorem xlm_rsl (b o : Nat) (ho : 0 < o) (h : o + 2 ≤ (w.rowOf b).size) : exLoad Tryd.prog 61 (.pointer (some ⟨b, o, none⟩)) w = .ok (.value (.agg ((w.rowOf b).extract o (o + 2)))) w := x_loadm _ Tryd.underlying61 rfl inf_rsl b o h
@[go_sem] theorem xs_rsl (b : Nat) (c : Array Value) (hl : c.size = 2) (h1 : ones c = true) (h : (w.rowOf b).size = 2) (hf : w.free b = true) : exStore Tryd.prog 61 (.pointer (some ⟨b, 0, none⟩)) (.agg c) w = .ok .skip (w.setRow b c) :=
  x_store0 _ inf_rsl b c hl h hf (ones_all h1)
@[go_sem] theorem xsm_rsl (b o : Nat) (ho : 0 < o) (c : Array Value) (hl : c.size = 2) (h1 : ones c = true) (h : o + 2 ≤ (w.rowOf b).size) (hf : w.free b = true) : exStore Tryd.prog 61 (.pointer (some ⟨b, o, none⟩)) (.agg c) w = .ok .skip (w.setSeg b o c) :=
  x_storem _ inf_rsl b o c hl h hf (ones_all h1)
end
theorem inf_rrt : (Tryd.prog.info? 49).map (·.size) = some 34 := by kernel_rfl
section
variable (ρ : Operand → Value) (dst : Option Tmp) (ty : TypeId) (pos : String) (after : Array Edge) (guard : Option (Nat × Bool)) (w : World)
@[go_sem ↓] theorem rl_rrt (x : Operand) : (execOp ρ { dst, op := .load 49 x, type := ty, pos, after, guard }).run Tryd.prog w = exLoad Tryd.prog 49 (ρ x) w := x_load ..
@[go_sem ↓] theorem rs_rrt (x y : Operand) : (execOp ρ { dst, op := .store 49 x y, type := ty, pos, after, guard }).run Tryd.prog w = exStore Tryd.prog 49 (ρ x) (ρ y) w := x_store ..
@[go_sem ↓] theorem ra_rrt : (execOp ρ { dst, op := .alloc 49, type := ty, pos, after, guard }).run Tryd.prog w = .ok (.value (.pointer (some ⟨w.heap.size, 0, none⟩))) (w.alloc (.cells (ROR (zs 32) (.slice none 0 0) 0) 49)) :=
  (x_alloc ..).trans (x_alloc0 (v := .agg (ROR (zs 32) (.slice none 0 0) 0)) _ (by kernel_rfl))
@[go_sem] theorem xl_rrt (b : Nat) (h : (w.rowOf b).size = 34) : exLoad Tryd.prog 49 (.pointer (some ⟨b, 0, none⟩)) w = .ok (.value (.agg (w.rowOf b))) w := x_load0 _ Tryd.underlying49 rfl inf_rrt b h
@[go_sem] theorem xlm_rrt (b o : Nat) (ho : 0 < o) (h : o + 34 ≤ (w.rowOf b).size) : exLoad Tryd.prog 49 (.pointer (some ⟨b, o, none⟩)) w = .ok (.value (.agg ((w.rowOf b).extract o (o + 34)))) w := x_loadm _ Tryd.underlying49 rfl inf_rrt b o h
@[go_sem] theorem xs_rrt (b : Nat) (c : Array Value) (hl : c.size = 34) (h1 : ones c = true) (h : (w.rowOf b).size = 34) (hf : w.free b = true) : exStore Tryd.prog 49 (.pointer (some ⟨b, 0, none⟩)) (.agg c) w = .ok .skip (w.setRow b c) :=
  x_store0 _ inf_rrt b c hl h hf (ones_all h1)
@[go_sem] theorem xsm_rrt (b o : Nat) (ho : 0 < o) (c : Array Value) (hl : c.size = 34) (h1 : ones c = true) (h : o + 34 ≤ (w.rowOf b).size) (hf : w.free b = true) : exStore Tryd.prog 49 (.pointer (some ⟨b, o, none⟩)) (.agg c) w = .ok .skip (w.setSeg b o c) :=
  x_storem _ inf_rrt b o c hl h hf (ones_all h1)
end
theorem inf_act : (Tryd.prog.info? 52).map (·.size) = some 2 := by kernel_rfl
section
variable (ρ : Operand → Value) (dst : Option Tmp) (ty : TypeId) (pos : String) (after : Array Edge) (guard : Option (Nat × Bool)) (w : World)
@[go_sem ↓] theorem rl_act (x : Operand) : (execOp ρ { dst, op := .load 52 x, type := ty, pos, after, guard }).run Tryd.prog w = exLoad Tryd.prog 52 (ρ x) w := x_load ..
@[go_sem ↓] theorem rs_act (x y : Operand) : (execOp ρ { dst, op := .store 52 x y, type := ty, pos, after, guard }).run Tryd.prog w = exStore Tryd.prog 52 (ρ x) (ρ y) w := x_store ..
@[go_sem ↓] theorem ra_act : (execOp ρ { dst, op := .alloc 52, type := ty, pos, after, guard }).run Tryd.prog w = .ok (.value (.pointer (some ⟨w.heap.size, 0, none⟩))) (w.alloc (.cells (ACT 0 0) 52)) :=
  (x_alloc ..).trans (x_alloc0 (v := .agg (ACT 0 0)) _ (by kernel_rfl))
@[go_sem] theorem xl_act (b : Nat) (h : (w.rowOf b).size = 2) : exLoad Tryd.prog 52 (.pointer (some ⟨b, 0, none⟩)) w = .ok (.value (.agg (w.rowOf b))) w := x_load0 _ Tryd.underlying52 rfl inf_act b h
@[go_sem] theorem xlm_act (b o : Nat) (ho : 0 < o) (h : o + 2 ≤ (w.rowOf b).size) : exLoad Tryd.prog 52 (.pointer (some ⟨b, o, none⟩)) w = .ok (.value (.agg ((w.rowOf b).extract o (o + 2)))) w := x_loadm _ Tryd.underlying52 rfl inf_act b o h
@[go_sem] theorem xs_act (b : Nat) (c : Array Value) (hl : c.size = 2) (h1 : ones c = true) (h : (w.rowOf b).size = 2) (hf : w.free b = true) : exStore Tryd.prog 52 (.pointer (some ⟨b, 0, none⟩)) (.agg c) w = .ok .skip (w.setRow b c) :=
  x_store0 _ inf_act b c hl h hf (ones_all h1)
@[go_sem] theorem xsm_act (b o : Nat) (ho : 0 < o) (c : Array Value) (hl : c.size = 2) (h1 : ones c = true) (h : o + 2 ≤ (w.rowOf b).size) (hf : w.free b = true) : exStore Tryd.prog 52 (.pointer (some ⟨b, o, none⟩)) (.agg c) w = .ok .skip (w.setSeg b o c) :=
  x_storem _ inf_act b o c hl h hf (ones_all h1)
end
theorem bp_eps (l : List (Nat × Value)) : Tryd.prog.built 66 l = Instr.fill (([(0, 1), (1, 1), (2, 32), (34, 32)] : List (Nat × Nat)).toArray[·]?) (((Tryd.prog.info? 66).bind (·.zero)).getD undef).cells l := by kernel_rfl
theorem bz_eps : (((Tryd.prog.info? 66).bind (·.zero)).getD undef).cells.size = 66 := by kernel_rfl
@[go_sem ↓] theorem rb_eps (ρ : Operand → Value) (dst : Option Tmp) (ty : TypeId) (pos : String) (after : Array Edge) (guard : Option (Nat × Bool)) (w : World) (ps : Array (Nat × Operand)) :
    (execOp ρ { dst, op := .build 66 ps, type := ty, pos, after, guard }).run Tryd.prog w = exBuild Tryd.prog 66 (ps.map fun p => (p.1, ρ p.2)) w := x_build ..
theorem xb_eps (w : World) (ps : Array (Nat × Value)) (hc : Cont (([(0, 1), (1, 1), (2, 32), (34, 32)] : List (Nat × Nat)).toArray[·]?) 0 ps.toList) (hz : (catP ps.toList).size = 66) :
    exBuild Tryd.prog 66 ps w = .ok (.value (.agg (catP ps.toList))) w := by
  unfold exBuild; rw [run_build_cat w 66 ps _ _ bp_eps hc (by rw [bz_eps]; exact hz)]; rfl

theorem bp_esl (l : List (Nat × Value)) : Tryd.prog.built 83 l = Instr.fill (([(0, 66), (66, 1)] : List (Nat × Nat)).toArray[·]?) (((Tryd.prog.info? 83).bind (·.zero)).getD undef).cells l := by kernel_rfl
theorem bz_esl : (((Tryd.prog.info? 83).bind (·.zero)).getD undef).cells.size = 67 := by kernel_rfl
@[go_sem ↓] theorem rb_esl (ρ : Operand → Value) (dst : Option Tmp) (ty : TypeId) (pos : String) (after : Array Edge) (guard : Option (Nat × Bool)) (w : World) (ps : Array (Nat × Operand)) :
    (execOp ρ { dst, op := .build 83 ps, type := ty, pos, after, guard }).run Tryd.prog w = exBuild Tryd.prog 83 (ps.map fun p => (p.1, ρ p.2)) w := x_build ..
theorem xb_esl (w : World) (ps : Array (Nat × Value)) (hc : Cont (([(0, 66), (66, 1)] : List (Nat × Nat)).toArray[·]?) 0 ps.toList) (hz : (catP ps.toList).size = 67) :
    exBuild Tryd.prog 83 ps w = .ok (.value (.agg (catP ps.toList))) w := by
  unfold exBuild; rw [run_build_cat w 83 ps _ _ bp_esl hc (by rw [bz_esl]; exact hz)]; rfl

@[go_sem ↓] theorem rb_rrt (ρ : Operand → Value) (dst : Option Tmp) (ty : TypeId) (pos : String) (after : Array Edge) (guard : Option (Nat × Bool)) (w : World) (ps : Array (Nat × Operand)) :
    (execOp ρ { dst, op := .build 49 ps, type := ty, pos, after, guard }).run Tryd.prog w = exBuild Tryd.prog 49 (ps.map fun p => (p.1, ρ p.2)) w := x_build ..
@[go_sem ↓] theorem rb_rsl (ρ : Operand → Value) (dst : Option Tmp) (ty : TypeId) (pos : String) (after : Array Edge) (guard : Option (Nat × Bool)) (w : World) (ps : Array (Nat × Operand)) :
    (execOp ρ { dst, op := .build 61 ps, type := ty, pos, after, guard }).run Tryd.prog w = exBuild Tryd.prog 61 (ps.map fun p => (p.1, ρ p.2)) w := x_build ..
theorem bp_rot (l : List (Nat × Value)) : Tryd.prog.built 73 l = Instr.fill (([(0, 32), (32, 1), (33, 1)] : List (Nat × Nat)).toArray[·]?) (((Tryd.prog.info? 73).bind (·.zero)).getD undef).cells l := by kernel_rfl
@[go_sem ↓] theorem rb_rot (ρ : Operand → Value) (dst : Option Tmp) (ty : TypeId) (pos : String) (after : Array Edge) (guard : Option (Nat × Bool)) (w : World) (ps : Array (Nat × Operand)) :
    (execOp ρ { dst, op := .build 73 ps, type := ty, pos, after, guard }).run Tryd.prog w = exBuild Tryd.prog 73 (ps.map fun p => (p.1, ρ p.2)) w := x_build ..
theorem inf_sls : (Tryd.prog.info? 71).map (·.size) = some 1 := by kernel_rfl
section
variable (ρ : Operand → Value) (dst : Option Tmp) (ty : TypeId) (pos : String) (after : Array Edge) (guard : Option (Nat × Bool)) (w : World)
@[go_sem ↓] theorem rs_sls (x y : Operand) : (execOp ρ { dst, op := .store 71 x y, type := ty, pos, after, guard }).run Tryd.prog w = exStore Tryd.prog 71 (ρ x) (ρ y) w := x_store ..
@[go_sem] theorem xs_sls (b o : Nat) (v : Value) (hv : ones1 v = true) (ho : o < (w.rowOf b).size) (hf : w.free b = true) : exStore Tryd.prog 71 (.pointer (some ⟨b, o, none⟩)) v w = .ok .skip (w.setRow b ((w.rowOf b).setIfInBounds o v)) :=
  x_storec inf_sls w b o v hv ho hf
end

theorem inf_slr : (Tryd.prog.info? 47).map (·.size) = some 1 := by kernel_rfl
section
variable (ρ : Operand → Value) (dst : Option Tmp) (ty : TypeId) (pos : String) (after : Array Edge) (guard : Option (Nat × Bool)) (w : World)
@[go_sem ↓] theorem rs_slr (x y : Operand) : (execOp ρ { dst, op := .store 47 x y, type := ty, pos, after, guard }).run Tryd.prog w = exStore Tryd.prog 47 (ρ x) (ρ y) w := x_store ..
@[go_sem] theorem xs_slr (b o : Nat) (v : Value) (hv : ones1 v = true) (ho : o < (w.rowOf b).size) (hf : w.free b = true) : exStore Tryd.prog 47 (.pointer (some ⟨b, o, none⟩)) v w = .ok .skip (w.setRow b ((w.rowOf b).setIfInBounds o v)) :=
  x_storec inf_slr w b o v hv ho hf
end

/-- the slices' elements -/
noncomputable def e67 (k : L8) (s : Ep.Sl) : List Value := (ESL k s).toList
noncomputable def e66 (k : L8) (s : Ep.Sl) : List Value := (EPS k s).toList
def e2 (s : Ep.Sl) : List Value := (RSL s).toList
theorem e67_len (k : L8) (s : Ep.Sl) : (e67 k s).length = 67 := by simp [e67]
theorem e66_len (k : L8) (s : Ep.Sl) : (e66 k s).length = 66 := by simp [e66]
theorem elt_esl : Elt Tryd.prog 83 71 67 88 (.agg ZSL) := ⟨Tryd.underlying71, by kernel_rfl, by simp [Value.cells], by decide, by decide, one_ZSL, by decide⟩
theorem elt_eps : Elt Tryd.prog 66 63 66 80 (.agg ZPS) := ⟨Tryd.underlying63, by kernel_rfl, by simp [Value.cells], by decide, by decide, one_ZPS, by decide⟩
theorem xb_eps4 (w : World) (k : L8) (s : Ep.Sl) : exBuild Tryd.prog 66 #[(0, .int .i64 s.gen), (1, .int .i64 (Ep.fin s.made)), (2, .agg (cs U8 (Ep.own k s.gen))), (3, .agg (cs U8 (Ep.pub k s.gen)))] w = .ok (.value (.agg (EPS k s))) w := by
  rw [xb_eps w _ (by simp [Cont, Value.cells]) (by simp [catP, Value.cells])]
  simp [catP, Value.cells, EPS, cs_append]
theorem xb_esl2 (w : World) (k : L8) (s : Ep.Sl) : exBuild Tryd.prog 83 #[(0, .agg (EPS k s)), (1, .int .i64 s.made)] w = .ok (.value (.agg (ESL k s))) w := by
  rw [xb_esl w _ (by simp [Cont, Value.cells]) (by simp [catP, Value.cells])]
  simp [catP, Value.cells, ESL]
end Go.Proofs.YtgclegdgngldoaaDoor
