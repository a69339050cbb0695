/-
  Package setup: bundles in memory, Show; own work.
-/
import Derived.Test.YtgclegdgngldoaaDoorSuS
import Derived.Test.YtgclegdgngldoaaDoorPsl
import Derived.Test.YtgclegdgngldoaaDoorStp
import Derived.Test.YtgclegdgngldoaaDoorHmc
set_option linter.unusedSimpArgs false
set_option linter.unusedVariables false
namespace Go.Proofs.YtgclegdgngldoaaDoor
open Go.RowKit Fp
/-- a bundle's cells: a lasting key, one that changes, one for one use, and whether there is that one -/
def BR (L P O : L8) (h : Bool) : Array Value := cs U8 (L ++ (P ++ O)) ++ #[.bool h]
section
variable {L P O : L8} {h : Bool}
end
@[go_sem] theorem ones_br (L P O : L8) (h : Bool) : ones (BR L P O h) = true := by
  unfold BR
  simp [ones, cs, List.all_eq_true]
  exact ⟨fun _ _ => rfl, fun _ _ => rfl, fun _ _ => rfl, rfl⟩
theorem inf_bun : (Tryd.prog.info? 30).map (·.size) = some 97 := by kernel_rfl
section
variable (ρ : Operand → Value) (dst : Option Tmp) (ty : TypeId) (pos : String) (after : Array Edge) (guard : Option (Nat × Bool)) (w : World)
@[go_sem ↓] theorem rl_bun (x : Operand) : (execOp ρ { dst, op := .load 30 x, type := ty, pos, after, guard }).run Tryd.prog w = exLoad Tryd.prog 30 (ρ x) w := x_load ..
@[go_sem ↓] theorem rs_bun (x y : Operand) : (execOp ρ { dst, op := .store 30 x y, type := ty, pos, after, guard }).run Tryd.prog w = exStore Tryd.prog 30 (ρ x) (ρ y) w := x_store ..
@[go_sem ↓] theorem ra_bun : (execOp ρ { dst, op := .alloc 30, type := ty, pos, after, guard }).run Tryd.prog w = .ok (.value (.pointer (some ⟨w.heap.size, 0, none⟩))) (w.alloc (.cells (BR (zs 32) (zs 32) (zs 32) false) 30)) :=
  (x_alloc ..).trans (x_alloc0 (v := .agg (BR (zs 32) (zs 32) (zs 32) false)) _ (by kernel_rfl))
@[go_sem] theorem xl_bun (b : Nat) (h : (w.rowOf b).size = 97) : exLoad Tryd.prog 30 (.pointer (some ⟨b, 0, none⟩)) w = .ok (.value (.agg (w.rowOf b))) w := x_load0 _ Tryd.underlying30 rfl inf_bun b h
@[go_sem] theorem xlm_bun (b o : Nat) (ho : 0 < o) (h : o + 97 ≤ (w.rowOf b).size) : exLoad Tryd.prog 30 (.pointer (some ⟨b, o, none⟩)) w = .ok (.value (.agg ((w.rowOf b).extract o (o + 97)))) w := x_loadm _ Tryd.underlying30 rfl inf_bun b o h
@[go_sem] theorem xs_bun (b : Nat) (c : Array Value) (hl : c.size = 97) (h1 : ones c = true) (h : (w.rowOf b).size = 97) (hf : w.free b = true) : exStore Tryd.prog 30 (.pointer (some ⟨b, 0, none⟩)) (.agg c) w = .ok .skip (w.setRow b c) :=
  x_store0 _ inf_bun b c hl h hf (ones_all h1)
@[go_sem] theorem xsm_bun (b o : Nat) (ho : 0 < o) (c : Array Value) (hl : c.size = 97) (h1 : ones c = true) (h : o + 97 ≤ (w.rowOf b).size) (hf : w.free b = true) : exStore Tryd.prog 30 (.pointer (some ⟨b, o, none⟩)) (.agg c) w = .ok .skip (w.setSeg b o c) :=
  x_storem _ inf_bun b o c hl h hf (ones_all h1)
end
theorem inf_sec : (Tryd.prog.info? 35).map (·.size) = some 97 := by kernel_rfl
section
variable (ρ : Operand → Value) (dst : Option Tmp) (ty : TypeId) (pos : String) (after : Array Edge) (guard : Option (Nat × Bool)) (w : World)
@[go_sem ↓] theorem rl_sec (x : Operand) : (execOp ρ { dst, op := .load 35 x, type := ty, pos, after, guard }).run Tryd.prog w = exLoad Tryd.prog 35 (ρ x) w := x_load ..
@[go_sem ↓] theorem rs_sec (x y : Operand) : (execOp ρ { dst, op := .store 35 x y, type := ty, pos, after, guard }).run Tryd.prog w = exStore Tryd.prog 35 (ρ x) (ρ y) w := x_store ..
@[go_sem ↓] theorem ra_sec : (execOp ρ { dst, op := .alloc 35, type := ty, pos, after, guard }).run Tryd.prog w = .ok (.value (.pointer (some ⟨w.heap.size, 0, none⟩))) (w.alloc (.cells (BR (zs 32) (zs 32) (zs 32) false) 35)) :=
  (x_alloc ..).trans (x_alloc0 (v := .agg (BR (zs 32) (zs 32) (zs 32) false)) _ (by kernel_rfl))
@[go_sem] theorem xl_sec (b : Nat) (h : (w.rowOf b).size = 97) : exLoad Tryd.prog 35 (.pointer (some ⟨b, 0, none⟩)) w = .ok (.value (.agg (w.rowOf b))) w := x_load0 _ Tryd.underlying35 rfl inf_sec b h
@[go_sem] theorem xlm_sec (b o : Nat) (ho : 0 < o) (h : o + 97 ≤ (w.rowOf b).size) : exLoad Tryd.prog 35 (.pointer (some ⟨b, o, none⟩)) w = .ok (.value (.agg ((w.rowOf b).extract o (o + 97)))) w := x_loadm _ Tryd.underlying35 rfl inf_sec b o h
@[go_sem] theorem xs_sec (b : Nat) (c : Array Value) (hl : c.size = 97) (h1 : ones c = true) (h : (w.rowOf b).size = 97) (hf : w.free b = true) : exStore Tryd.prog 35 (.pointer (some ⟨b, 0, none⟩)) (.agg c) w = .ok .skip (w.setRow b c) :=
  x_store0 _ inf_sec b c hl h hf (ones_all h1)
@[go_sem] theorem xsm_sec (b o : Nat) (ho : 0 < o) (c : Array Value) (hl : c.size = 97) (h1 : ones c = true) (h : o + 97 ≤ (w.rowOf b).size) (hf : w.free b = true) : exStore Tryd.prog 35 (.pointer (some ⟨b, o, none⟩)) (.agg c) w = .ok .skip (w.setSeg b o c) :=
  x_storem _ inf_sec b o c hl h hf (ones_all h1)
end
@[go_sem ↓] theorem rb_bun (ρ : Operand → Value) (dst : Option Tmp) (ty : TypeId) (pos : String) (after : Array Edge) (guard : Option (Nat × Bool)) (w : World) (ps : Array (Nat × Operand)) :
    (execOp ρ { dst, op := .build 30 ps, type := ty, pos, after, guard }).run Tryd.prog w = exBuild Tryd.prog 30 (ps.map fun p => (p.1, ρ p.2)) w := x_build ..
@[go_sem ↓] theorem rb_sec (ρ : Operand → Value) (dst : Option Tmp) (ty : TypeId) (pos : String) (after : Array Edge) (guard : Option (Nat × Bool)) (w : World) (ps : Array (Nat × Operand)) :
    (execOp ρ { dst, op := .build 35 ps, type := ty, pos, after, guard }).run Tryd.prog w = exBuild Tryd.prog 35 (ps.map fun p => (p.1, ρ p.2)) w := x_build ..
@[go_sem ↓] theorem rb_pr2 (ρ : Operand → Value) (dst : Option Tmp) (ty : TypeId) (pos : String) (after : Array Edge) (guard : Option (Nat × Bool)) (w : World) (ps : Array (Nat × Operand)) :
    (execOp ρ { dst, op := .build 76 ps, type := ty, pos, after, guard }).run Tryd.prog w = exBuild Tryd.prog 76 (ps.map fun p => (p.1, ρ p.2)) w := x_build ..
theorem fill_one (place : Nat → Option (Nat × Nat)) (i : Nat) (v : Value) (done old rest : Array Value) (r : List (Nat × Value)) (hp : place i = some (done.size, v.cells.size)) (ho : old.size = v.cells.size) :
    Instr.fill place (done ++ old ++ rest) ((i, v) :: r) = Instr.fill place (done ++ v.cells ++ rest) r := by
  have hf : v.cells.zipIdx.foldl (fun cs (x : Value × Nat) => cs.setIfInBounds (done.size + x.2) x.1) (done ++ old ++ rest) = done ++ v.cells ++ rest := by
    have := fold_put v.cells.toList done.toList (old ++ rest).toList done.size 0 (by simp) (by simp) (by simp; omega)
    simp only [List.take_zero, List.nil_append, Nat.zero_add] at this
    rw [← Array.foldl_toList, Array.toList_zipIdx]
    have e : (done ++ old ++ rest) = (done.toList ++ (old ++ rest).toList).toArray := by simp
    rw [e]
    refine this.trans ?_
    apply Array.toList_inj.1
    simp [← ho]
  conv => lhs; unfold Instr.fill
  rw [hp]
  simp only [ne_eq, not_true_eq_false, Bool.or_eq_true, decide_eq_true_eq]
  rw [if_neg (by simp; omega), hf]
theorem pub_v (w : World) (a X : L8) (ha : a.length = 32) (hX : X = Su.pub a) :
    Calls Tryd.prog 20 #[.agg (cs U8 a)] w fun e w' => e = .returned (.agg (cs U8 X)) ∧ Below w.heap.size w w' := by
  rw [hX]; exact public_c w a ha
/-- a bundle of secrets -/
noncomputable def Su.once (O : L8) (h : Bool) : L8 := if h then Su.pub O else zs 32
attribute [local irreducible] BR Su.pub
end Go.Proofs.YtgclegdgngldoaaDoor
