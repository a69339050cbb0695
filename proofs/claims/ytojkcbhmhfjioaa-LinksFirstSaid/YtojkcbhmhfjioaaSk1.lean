/-
  Package skipped: its types in memory; own work.
-/
import Derived.Test.YtojkcbhmhfjioaaSkS
import Derived.Test.YtojkcbhmhfjioaaEqK
import Derived.Test.YtojkcbhmhfjioaaCelI
set_option linter.unusedSimpArgs false
set_option linter.unusedVariables false
namespace Go.Proofs.Ytojkcbhmhfjioaa
open Go.RowKit
/-- an Entry's cells, a Store's, the document's Store's, an Act's -/
def ENR (x : Sk.En) : Array Value := cs U8 (x.pub.l ++ x.key.l) ++ #[.int .i64 x.n]
def STR (room : Int) (v : Value) : Array Value := #[.int .i64 room, v]
def RSR (v : Value) (most : Int) : Array Value := #[v, .int .i64 most]
def ACS (q : Int) (p : Ky) (n : Int) (v : Value) : Array Value := #[.int .u8 q] ++ cs U8 p.l ++ #[.int .i64 n, v]
section
variable {x : Sk.En} {room most q n : Int} {v : Value} {p : Ky} {w : World} {b : Nat}
@[simp] theorem ENR_size : (ENR x).size = 65 := by simp [ENR]
@[simp] theorem STR_size : (STR room v).size = 2 := by simp [STR]
@[simp] theorem RSR_size : (RSR v most).size = 2 := by simp [RSR]
@[simp] theorem ACS_size : (ACS q p n v).size = 35 := by simp [ACS]
theorem en_p0 : (ENR x).extract 0 (0 + 32) = cs U8 x.pub.l := by
  unfold ENR; apply Array.toList_inj.1; simp [cs, List.take_append, List.take_of_length_le]
theorem en_p32 : (ENR x).extract 32 (32 + 32) = cs U8 x.key.l := by
  unfold ENR; apply Array.toList_inj.1; simp [cs, List.take_append, List.drop_append, List.take_of_length_le, List.drop_of_length_le]
theorem en_c64 (h : w.rowOf b = ENR x) : w.cell? ⟨b, 64, none⟩ = some (.int .i64 x.n) := by
  rw [cell_rowOf, h]; unfold ENR; rw [Array.getElem?_append_right (by simp)]; simp
theorem st_c0 (h : w.rowOf b = STR room v) : w.cell? ⟨b, 0, none⟩ = some (.int .i64 room) := by rw [cell_rowOf, h]; rfl
theorem st_c1 (h : w.rowOf b = STR room v) : w.cell? ⟨b, 1, none⟩ = some v := by rw [cell_rowOf, h]; rfl
theorem st_s1 (u : Value) : (STR room v).setIfInBounds 1 u = STR room u := rfl
theorem rs_c0 (h : w.rowOf b = RSR v most) : w.cell? ⟨b, 0, none⟩ = some v := by rw [cell_rowOf, h]; rfl
theorem rs_c1 (h : w.rowOf b = RSR v most) : w.cell? ⟨b, 1, none⟩ = some (.int .i64 most) := by rw [cell_rowOf, h]; rfl
theorem rs_s0 (u : Value) : (RSR v most).setIfInBounds 0 u = RSR u most := rfl
theorem as_c0 (h : w.rowOf b = ACS q p n v) : w.cell? ⟨b, 0, none⟩ = some (.int .u8 q) := by rw [cell_rowOf, h]; simp [ACS]
theorem as_p1 : (ACS q p n v).extract 1 (1 + 32) = cs U8 p.l := by
  unfold ACS; apply Array.toList_inj.1; simp [cs, List.take_append, List.drop_append, List.take_of_length_le]
theorem as_c33 (h : w.rowOf b = ACS q p n v) : w.cell? ⟨b, 33, none⟩ = some (.int .i64 n) := by
  rw [cell_rowOf, h]; unfold ACS; rw [Array.getElem?_append_right (by simp)]; simp
theorem as_c34 (h : w.rowOf b = ACS q p n v) : w.cell? ⟨b, 34, none⟩ = some v := by
  rw [cell_rowOf, h]; unfold ACS; rw [Array.getElem?_append_right (by simp)]; simp
theorem sk_cell_one (h : w.rowOf b = #[v]) : w.cell? ⟨b, 0, none⟩ = some v := by rw [cell_rowOf, h]; rfl
end
theorem ones_an {c : Array Value} (h : ∀ u ∈ c.toList, u.oneCell' = true) : ones c = true := by unfold ones; rw [List.all_eq_true]; exact h
theorem one_ENR {x : Sk.En} : ∀ u ∈ (ENR x).toList, u.oneCell' = true := by
  intro u hu
  simp only [ENR, cs, Array.toList_append, List.mem_append, List.mem_cons, List.not_mem_nil, or_false, List.mem_map] at hu
  rcases hu with ⟨x, _, rfl⟩ | rfl <;> rfl
@[go_sem] theorem ones_ENR (x : Sk.En) : ones (ENR x) = true := ones_an one_ENR
@[go_sem] theorem ones_STR (room : Int) (a : Option Addr) (n c : Nat) : ones (STR room (.slice a n c)) = true := ones_an fun u hu => by
  simp only [STR, List.mem_cons, List.not_mem_nil, or_false] at hu
  rcases hu with rfl | rfl <;> rfl
@[go_sem] theorem ones_RSR (most : Int) (a : Option Addr) (n c : Nat) : ones (RSR (.slice a n c) most) = true := ones_an fun u hu => by
  simp only [RSR, List.mem_cons, List.not_mem_nil, or_false] at hu
  rcases hu with rfl | rfl <;> rfl
@[go_sem] theorem ones_ACS (q : Int) (p : Ky) (n : Int) (a : Option Addr) (m c : Nat) : ones (ACS q p n (.slice a m c)) = true := ones_an fun u hu => by
  simp only [ACS, cs, Array.toList_append, List.mem_append, List.mem_cons, List.not_mem_nil, or_false, List.mem_map] at hu
  rcases hu with (rfl | ⟨x, _, rfl⟩) | rfl | rfl <;> rfl
def EZ : Sk.En := ⟨Ky.zero, Ky.zero, 0⟩
theorem inf_en : (Try.prog.info? 41).map (·.size) = some 65 := by kernel_rfl
section
variable (ρ : Operand → Value) (dst : Option Tmp) (ty : TypeId) (pos : String) (after : Array Edge) (guard : Option (Nat × Bool)) (w : World)
@[go_sem ↓] theorem rl_en (x : Operand) : (execOp ρ { dst, op := .load 41 x, type := ty, pos, after, guard }).run Try.prog w = exLoad Try.prog 41 (ρ x) w := x_load ..
@[go_sem ↓] theorem rs_en (x y : Operand) : (execOp ρ { dst, op := .store 41 x y, type := ty, pos, after, guard }).run Try.prog w = exStore Try.prog 41 (ρ x) (ρ y) w := x_store ..
@[go_sem ↓] theorem ra_en : (execOp ρ { dst, op := .alloc 41, type := ty, pos, after, guard }).run Try.prog w = .ok (.value (.pointer (some ⟨w.heap.size, 0, none⟩))) (w.alloc (.cells (ENR EZ) 41)) :=
  (x_alloc ..).trans (x_alloc0 (v := .agg (ENR EZ)) _ (by kernel_rfl))
@[go_sem] theorem xl_en (b : Nat) (h : (w.rowOf b).size = 65) : exLoad Try.prog 41 (.pointer (some ⟨b, 0, none⟩)) w = .ok (.value (.agg (w.rowOf b))) w := x_load0 _ Try.underlying41 rfl inf_en b h
@[go_sem] theorem xlm_en (b o : Nat) (ho : 0 < o) (h : o + 65 ≤ (w.rowOf b).size) : exLoad Try.prog 41 (.pointer (some ⟨b, o, none⟩)) w = .ok (.value (.agg ((w.rowOf b).extract o (o + 65)))) w := x_loadm _ Try.underlying41 rfl inf_en b o h
@[go_sem] theorem xs_en (b : Nat) (c : Array Value) (hl : c.size = 65) (h1 : ones c = true) (h : (w.rowOf b).size = 65) (hf : w.free b = true) : exStore Try.prog 41 (.pointer (some ⟨b, 0, none⟩)) (.agg c) w = .ok .skip (w.setRow b c) :=
  x_store0 _ inf_en b c hl h hf (ones_all h1)
@[go_sem] theorem xsm_en (b o : Nat) (ho : 0 < o) (c : Array Value) (hl : c.size = 65) (h1 : ones c = true) (h : o + 65 ≤ (w.rowOf b).size) (hf : w.free b = true) : exStore Try.prog 41 (.pointer (some ⟨b, o, none⟩)) (.agg c) w = .ok .skip (w.setSeg b o c) :=
  x_storem _ inf_en b o c hl h hf (ones_all h1)
end
/-- at a step: a store, and a variable made -/
theorem wps_en {a : Act} {w : World} {K : Act → World → Prop} {Q : Exit → Act → World → Prop} {o : Oper} (p x : Operand) (ho : o.op = .store 41 p x) (b : Nat) (c : Array Value) (hp : a.eval p = .pointer (some ⟨b, 0, none⟩)) (hx : a.eval x = .agg c)
    (hl : c.size = 65) (h1 : ones c = true) (h : (w.rowOf b).size = 65) (hf : w.free b = true) (hK : K (a.put o.dst undef) (w.setRow b c)) : o.wp Try.prog a w K Q := by
  obtain ⟨dst, op, ty, pos, after, guard⟩ := o
  subst ho
  unfold Oper.wp
  rw [rs_en, hp, hx, xs_en _ _ _ hl h1 h hf]
  simp only [Oper.upon]
  exact hK
theorem wpa_en {a : Act} {w : World} {K : Act → World → Prop} {Q : Exit → Act → World → Prop} {o : Oper} (ho : o.op = .alloc 41)
    (hK : K (a.put o.dst (.pointer (some ⟨w.heap.size, 0, none⟩))) (w.alloc (.cells (ENR EZ) 41))) : o.wp Try.prog a w K Q := by
  obtain ⟨dst, op, ty, pos, after, guard⟩ := o
  subst ho
  unfold Oper.wp
  rw [ra_en]
  simp only [Oper.upon]
  exact hK

theorem inf_ren : (Try.prog.info? 60).map (·.size) = some 65 := by kernel_rfl
section
variable (ρ : Operand → Value) (dst : Option Tmp) (ty : TypeId) (pos : String) (after : Array Edge) (guard : Option (Nat × Bool)) (w : World)
@[go_sem ↓] theorem rl_ren (x : Operand) : (execOp ρ { dst, op := .load 60 x, type := ty, pos, after, guard }).run Try.prog w = exLoad Try.prog 60 (ρ x) w := x_load ..
@[go_sem ↓] theorem rs_ren (x y : Operand) : (execOp ρ { dst, op := .store 60 x y, type := ty, pos, after, guard }).run Try.prog w = exStore Try.prog 60 (ρ x) (ρ y) w := x_store ..
@[go_sem ↓] theorem ra_ren : (execOp ρ { dst, op := .alloc 60, type := ty, pos, after, guard }).run Try.prog w = .ok (.value (.pointer (some ⟨w.heap.size, 0, none⟩))) (w.alloc (.cells (ENR EZ) 60)) :=
  (x_alloc ..).trans (x_alloc0 (v := .agg (ENR EZ)) _ (by kernel_rfl))
@[go_sem] theorem xl_ren (b : Nat) (h : (w.rowOf b).size = 65) : exLoad Try.prog 60 (.pointer (some ⟨b, 0, none⟩)) w = .ok (.value (.agg (w.rowOf b))) w := x_load0 _ Try.underlying60 rfl inf_ren b h
@[go_sem] theorem xlm_ren (b o : Nat) (ho : 0 < o) (h : o + 65 ≤ (w.rowOf b).size) : exLoad Try.prog 60 (.pointer (some ⟨b, o, none⟩)) w = .ok (.value (.agg ((w.rowOf b).extract o (o + 65)))) w := x_loadm _ Try.underlying60 rfl inf_ren b o h
@[go_sem] theorem xs_ren (b : Nat) (c : Array Value) (hl : c.size = 65) (h1 : ones c = true) (h : (w.rowOf b).size = 65) (hf : w.free b = true) : exStore Try.prog 60 (.pointer (some ⟨b, 0, none⟩)) (.agg c) w = .ok .skip (w.setRow b c) :=
  x_store0 _ inf_ren b c hl h hf (ones_all h1)
@[go_sem] theorem xsm_ren (b o : Nat) (ho : 0 < o) (c : Array Value) (hl : c.size = 65) (h1 : ones c = true) (h : o + 65 ≤ (w.rowOf b).size) (hf : w.free b = true) : exStore Try.prog 60 (.pointer (some ⟨b, o, none⟩)) (.agg c) w = .ok .skip (w.setSeg b o c) :=
  x_storem _ inf_ren b o c hl h hf (ones_all h1)
end
/-- at a step: a store, and a variable made -/
theorem wps_ren {a : Act} {w : World} {K : Act → World → Prop} {Q : Exit → Act → World → Prop} {o : Oper} (p x : Operand) (ho : o.op = .store 60 p x) (b : Nat) (c : Array Value) (hp : a.eval p = .pointer (some ⟨b, 0, none⟩)) (hx : a.eval x = .agg c)
    (hl : c.size = 65) (h1 : ones c = true) (h : (w.rowOf b).size = 65) (hf : w.free b = true) (hK : K (a.put o.dst undef) (w.setRow b c)) : o.wp Try.prog a w K Q := by
  obtain ⟨dst, op, ty, pos, after, guard⟩ := o
  subst ho
  unfold Oper.wp
  rw [rs_ren, hp, hx, xs_ren _ _ _ hl h1 h hf]
  simp only [Oper.upon]
  exact hK
theorem wpa_ren {a : Act} {w : World} {K : Act → World → Prop} {Q : Exit → Act → World → Prop} {o : Oper} (ho : o.op = .alloc 60)
    (hK : K (a.put o.dst (.pointer (some ⟨w.heap.size, 0, none⟩))) (w.alloc (.cells (ENR EZ) 60))) : o.wp Try.prog a w K Q := by
  obtain ⟨dst, op, ty, pos, after, guard⟩ := o
  subst ho
  unfold Oper.wp
  rw [ra_ren]
  simp only [Oper.upon]
  exact hK

theorem inf_sto : (Try.prog.info? 58).map (·.size) = some 2 := by kernel_rfl
section
variable (ρ : Operand → Value) (dst : Option Tmp) (ty : TypeId) (pos : String) (after : Array Edge) (guard : Option (Nat × Bool)) (w : World)
@[go_sem ↓] theorem rl_sto (x : Operand) : (execOp ρ { dst, op := .load 58 x, type := ty, pos, after, guard }).run Try.prog w = exLoad Try.prog 58 (ρ x) w := x_load ..
@[go_sem ↓] theorem rs_sto (x y : Operand) : (execOp ρ { dst, op := .store 58 x y, type := ty, pos, after, guard }).run Try.prog w = exStore Try.prog 58 (ρ x) (ρ y) w := x_store ..
@[go_sem ↓] theorem ra_sto : (execOp ρ { dst, op := .alloc 58, type := ty, pos, after, guard }).run Try.prog w = .ok (.value (.pointer (some ⟨w.heap.size, 0, none⟩))) (w.alloc (.cells (STR 0 (.slice none 0 0)) 58)) :=
  (x_alloc ..).trans (x_alloc0 (v := .agg (STR 0 (.slice none 0 0))) _ (by kernel_rfl))
@[go_sem] theorem xl_sto (b : Nat) (h : (w.rowOf b).size = 2) : exLoad Try.prog 58 (.pointer (some ⟨b, 0, none⟩)) w = .ok (.value (.agg (w.rowOf b))) w := x_load0 _ Try.underlying58 rfl inf_sto b h
@[go_sem] theorem xlm_sto (b o : Nat) (ho : 0 < o) (h : o + 2 ≤ (w.rowOf b).size) : exLoad Try.prog 58 (.pointer (some ⟨b, o, none⟩)) w = .ok (.value (.agg ((w.rowOf b).extract o (o + 2)))) w := x_loadm _ Try.underlying58 rfl inf_sto b o h
@[go_sem] theorem xs_sto (b : Nat) (c : Array Value) (hl : c.size = 2) (h1 : ones c = true) (h : (w.rowOf b).size = 2) (hf : w.free b = true) : exStore Try.prog 58 (.pointer (some ⟨b, 0, none⟩)) (.agg c) w = .ok .skip (w.setRow b c) :=
  x_store0 _ inf_sto b c hl h hf (ones_all h1)
@[go_sem] theorem xsm_sto (b o : Nat) (ho : 0 < o) (c : Array Value) (hl : c.size = 2) (h1 : ones c = true) (h : o + 2 ≤ (w.rowOf b).size) (hf : w.free b = true) : exStore Try.prog 58 (.pointer (some ⟨b, o, none⟩)) (.agg c) w = .ok .skip (w.setSeg b o c) :=
  x_storem _ inf_sto b o c hl h hf (ones_all h1)
end
/-- at a step: a store, and a variable made -/
theorem wps_sto {a : Act} {w : World} {K : Act → World → Prop} {Q : Exit → Act → World → Prop} {o : Oper} (p x : Operand) (ho : o.op = .store 58 p x) (b : Nat) (c : Array Value) (hp : a.eval p = .pointer (some ⟨b, 0, none⟩)) (hx : a.eval x = .agg c)
    (hl : c.size = 2) (h1 : ones c = true) (h : (w.rowOf b).size = 2) (hf : w.free b = true) (hK : K (a.put o.dst undef) (w.setRow b c)) : o.wp Try.prog a w K Q := by
  obtain ⟨dst, op, ty, pos, after, guard⟩ := o
  subst ho
  unfold Oper.wp
  rw [rs_sto, hp, hx, xs_sto _ _ _ hl h1 h hf]
  simp only [Oper.upon]
  exact hK
theorem wpa_sto {a : Act} {w : World} {K : Act → World → Prop} {Q : Exit → Act → World → Prop} {o : Oper} (ho : o.op = .alloc 58)
    (hK : K (a.put o.dst (.pointer (some ⟨w.heap.size, 0, none⟩))) (w.alloc (.cells (STR 0 (.slice none 0 0)) 58))) : o.wp Try.prog a w K Q := by
  obtain ⟨dst, op, ty, pos, after, guard⟩ := o
  subst ho
  unfold Oper.wp
  rw [ra_sto]
  simp only [Oper.upon]
  exact hK

theorem inf_rst : (Try.prog.info? 45).map (·.size) = some 2 := by kernel_rfl
section
variable (ρ : Operand → Value) (dst : Option Tmp) (ty : TypeId) (pos : String) (after : Array Edge) (guard : Option (Nat × Bool)) (w : World)
@[go_sem ↓] theorem rl_rst (x : Operand) : (execOp ρ { dst, op := .load 45 x, type := ty, pos, after, guard }).run Try.prog w = exLoad Try.prog 45 (ρ x) w := x_load ..
@[go_sem ↓] theorem rs_rst (x y : Operand) : (execOp ρ { dst, op := .store 45 x y, type := ty, pos, after, guard }).run Try.prog w = exStore Try.prog 45 (ρ x) (ρ y) w := x_store ..
@[go_sem ↓] theorem ra_rst : (execOp ρ { dst, op := .alloc 45, type := ty, pos, after, guard }).run Try.prog w = .ok (.value (.pointer (some ⟨w.heap.size, 0, none⟩))) (w.alloc (.cells (RSR (.slice none 0 0) 0) 45)) :=
  (x_alloc ..).trans (x_alloc0 (v := .agg (RSR (.slice none 0 0) 0)) _ (by kernel_rfl))
@[go_sem] theorem xl_rst (b : Nat) (h : (w.rowOf b).size = 2) : exLoad Try.prog 45 (.pointer (some ⟨b, 0, none⟩)) w = .ok (.value (.agg (w.rowOf b))) w := x_load0 _ Try.underlying45 rfl inf_rst b h
@[go_sem] theorem xlm_rst (b o : Nat) (ho : 0 < o) (h : o + 2 ≤ (w.rowOf b).size) : exLoad Try.prog 45 (.pointer (some ⟨b, o, none⟩)) w = .ok (.value (.agg ((w.rowOf b).extract o (o + 2)))) w := x_loadm _ Try.underlying45 rfl inf_rst b o h
@[go_sem] theorem xs_rst (b : Nat) (c : Array Value) (hl : c.size = 2) (h1 : ones c = true) (h : (w.rowOf b).size = 2) (hf : w.free b = true) : exStore Try.prog 45 (.pointer (some ⟨b, 0, none⟩)) (.agg c) w = .ok .skip (w.setRow b c) :=
  x_store0 _ inf_rst b c hl h hf (ones_all h1)
@[go_sem] theorem xsm_rst (b o : Nat) (ho : 0 < o) (c : Array Value) (hl : c.size = 2) (h1 : ones c = true) (h : o + 2 ≤ (w.rowOf b).size) (hf : w.free b = true) : exStore Try.prog 45 (.pointer (some ⟨b, o, none⟩)) (.agg c) w = .ok .skip (w.setSeg b o c) :=
  x_storem _ inf_rst b o c hl h hf (ones_all h1)
end
/-- at a step: a store, and a variable made -/
theorem wps_rst {a : Act} {w : World} {K : Act → World → Prop} {Q : Exit → Act → World → Prop} {o : Oper} (p x : Operand) (ho : o.op = .store 45 p x) (b : Nat) (c : Array Value) (hp : a.eval p = .pointer (some ⟨b, 0, none⟩)) (hx : a.eval x = .agg c)
    (hl : c.size = 2) (h1 : ones c = true) (h : (w.rowOf b).size = 2) (hf : w.free b = true) (hK : K (a.put o.dst undef) (w.setRow b c)) : o.wp Try.prog a w K Q := by
  obtain ⟨dst, op, ty, pos, after, guard⟩ := o
  subst ho
  unfold Oper.wp
  rw [rs_rst, hp, hx, xs_rst _ _ _ hl h1 h hf]
  simp only [Oper.upon]
  exact hK
theorem wpa_rst {a : Act} {w : World} {K : Act → World → Prop} {Q : Exit → Act → World → Prop} {o : Oper} (ho : o.op = .alloc 45)
    (hK : K (a.put o.dst (.pointer (some ⟨w.heap.size, 0, none⟩))) (w.alloc (.cells (RSR (.slice none 0 0) 0) 45))) : o.wp Try.prog a w K Q := by
  obtain ⟨dst, op, ty, pos, after, guard⟩ := o
  subst ho
  unfold Oper.wp
  rw [ra_rst]
  simp only [Oper.upon]
  exact hK

theorem inf_acs : (Try.prog.info? 31).map (·.size) = some 35 := by kernel_rfl
section
variable (ρ : Operand → Value) (dst : Option Tmp) (ty : TypeId) (pos : String) (after : Array Edge) (guard : Option (Nat × Bool)) (w : World)
@[go_sem ↓] theorem rl_acs (x : Operand) : (execOp ρ { dst, op := .load 31 x, type := ty, pos, after, guard }).run Try.prog w = exLoad Try.prog 31 (ρ x) w := x_load ..
@[go_sem ↓] theorem rs_acs (x y : Operand) : (execOp ρ { dst, op := .store 31 x y, type := ty, pos, after, guard }).run Try.prog w = exStore Try.prog 31 (ρ x) (ρ y) w := x_store ..
@[go_sem ↓] theorem ra_acs : (execOp ρ { dst, op := .alloc 31, type := ty, pos, after, guard }).run Try.prog w = .ok (.value (.pointer (some ⟨w.heap.size, 0, none⟩))) (w.alloc (.cells (ACS 0 Ky.zero 0 (.slice none 0 0)) 31)) :=
  (x_alloc ..).trans (x_alloc0 (v := .agg (ACS 0 Ky.zero 0 (.slice none 0 0))) _ (by kernel_rfl))
@[go_sem] theorem xl_acs (b : Nat) (h : (w.rowOf b).size = 35) : exLoad Try.prog 31 (.pointer (some ⟨b, 0, none⟩)) w = .ok (.value (.agg (w.rowOf b))) w := x_load0 _ Try.underlying31 rfl inf_acs b h
@[go_sem] theorem xlm_acs (b o : Nat) (ho : 0 < o) (h : o + 35 ≤ (w.rowOf b).size) : exLoad Try.prog 31 (.pointer (some ⟨b, o, none⟩)) w = .ok (.value (.agg ((w.rowOf b).extract o (o + 35)))) w := x_loadm _ Try.underlying31 rfl inf_acs b o h
@[go_sem] theorem xs_acs (b : Nat) (c : Array Value) (hl : c.size = 35) (h1 : ones c = true) (h : (w.rowOf b).size = 35) (hf : w.free b = true) : exStore Try.prog 31 (.pointer (some ⟨b, 0, none⟩)) (.agg c) w = .ok .skip (w.setRow b c) :=
  x_store0 _ inf_acs b c hl h hf (ones_all h1)
@[go_sem] theorem xsm_acs (b o : Nat) (ho : 0 < o) (c : Array Value) (hl : c.size = 35) (h1 : ones c = true) (h : o + 35 ≤ (w.rowOf b).size) (hf : w.free b = true) : exStore Try.prog 31 (.pointer (some ⟨b, o, none⟩)) (.agg c) w = .ok .skip (w.setSeg b o c) :=
  x_storem _ inf_acs b o c hl h hf (ones_all h1)
end
/-- at a step: a store, and a variable made -/
theorem wps_acs {a : Act} {w : World} {K : Act → World → Prop} {Q : Exit → Act → World → Prop} {o : Oper} (p x : Operand) (ho : o.op = .store 31 p x) (b : Nat) (c : Array Value) (hp : a.eval p = .pointer (some ⟨b, 0, none⟩)) (hx : a.eval x = .agg c)
    (hl : c.size = 35) (h1 : ones c = true) (h : (w.rowOf b).size = 35) (hf : w.free b = true) (hK : K (a.put o.dst undef) (w.setRow b c)) : o.wp Try.prog a w K Q := by
  obtain ⟨dst, op, ty, pos, after, guard⟩ := o
  subst ho
  unfold Oper.wp
  rw [rs_acs, hp, hx, xs_acs _ _ _ hl h1 h hf]
  simp only [Oper.upon]
  exact hK
theorem wpa_acs {a : Act} {w : World} {K : Act → World → Prop} {Q : Exit → Act → World → Prop} {o : Oper} (ho : o.op = .alloc 31)
    (hK : K (a.put o.dst (.pointer (some ⟨w.heap.size, 0, none⟩))) (w.alloc (.cells (ACS 0 Ky.zero 0 (.slice none 0 0)) 31))) : o.wp Try.prog a w K Q := by
  obtain ⟨dst, op, ty, pos, after, guard⟩ := o
  subst ho
  unfold Oper.wp
  rw [ra_acs]
  simp only [Oper.upon]
  exact hK

theorem bp_en (l : List (Nat × Value)) : Try.prog.built 41 l = Instr.fill (([(0, 32), (32, 32), (64, 1)] : List (Nat × Nat)).toArray[·]?) (((Try.prog.info? 41).bind (·.zero)).getD undef).cells l := by kernel_rfl
theorem bz_en : (((Try.prog.info? 41).bind (·.zero)).getD undef).cells.size = 65 := by kernel_rfl
@[go_sem ↓] theorem rb_en (ρ : Operand → Value) (dst : Option Tmp) (ty : TypeId) (pos : String) (after : Array Edge) (guard : Option (Nat × Bool)) (w : World) (ps : Array (Nat × Operand)) :
    (execOp ρ { dst, op := .build 41 ps, type := ty, pos, after, guard }).run Try.prog w = exBuild Try.prog 41 (ps.map fun p => (p.1, ρ p.2)) w := x_build ..
theorem xb_en (w : World) (ps : Array (Nat × Value)) (hc : Cont (([(0, 32), (32, 32), (64, 1)] : List (Nat × Nat)).toArray[·]?) 0 ps.toList) (hz : (catP ps.toList).size = 65) :
    exBuild Try.prog 41 ps w = .ok (.value (.agg (catP ps.toList))) w := by
  unfold exBuild; rw [run_build_cat w 41 ps _ _ bp_en hc (by rw [bz_en]; exact hz)]; rfl

theorem bp_ren (l : List (Nat × Value)) : Try.prog.built 60 l = Instr.fill (([(0, 32), (32, 32), (64, 1)] : List (Nat × Nat)).toArray[·]?) (((Try.prog.info? 60).bind (·.zero)).getD undef).cells l := by kernel_rfl
theorem bz_ren : (((Try.prog.info? 60).bind (·.zero)).getD undef).cells.size = 65 := by kernel_rfl
@[go_sem ↓] theorem rb_ren (ρ : Operand → Value) (dst : Option Tmp) (ty : TypeId) (pos : String) (after : Array Edge) (guard : Option (Nat × Bool)) (w : World) (ps : Array (Nat × Operand)) :
    (execOp ρ { dst, op := .build 60 ps, type := ty, pos, after, guard }).run Try.prog w = exBuild Try.prog 60 (ps.map fun p => (p.1, ρ p.2)) w := x_build ..
theorem xb_ren (w : World) (ps : Array (Nat × Value)) (hc : Cont (([(0, 32), (32, 32), (64, 1)] : List (Nat × Nat)).toArray[·]?) 0 ps.toList) (hz : (catP ps.toList).size = 65) :
    exBuild Try.prog 60 ps w = .ok (.value (.agg (catP ps.toList))) w := by
  unfold exBuild; rw [run_build_cat w 60 ps _ _ bp_ren hc (by rw [bz_ren]; exact hz)]; rfl

theorem bp_sto (l : List (Nat × Value)) : Try.prog.built 58 l = Instr.fill (([(0, 1), (1, 1)] : List (Nat × Nat)).toArray[·]?) (((Try.prog.info? 58).bind (·.zero)).getD undef).cells l := by kernel_rfl
theorem bz_sto : (((Try.prog.info? 58).bind (·.zero)).getD undef).cells.size = 2 := by kernel_rfl
@[go_sem ↓] theorem rb_sto (ρ : Operand → Value) (dst : Option Tmp) (ty : TypeId) (pos : String) (after : Array Edge) (guard : Option (Nat × Bool)) (w : World) (ps : Array (Nat × Operand)) :
    (execOp ρ { dst, op := .build 58 ps, type := ty, pos, after, guard }).run Try.prog w = exBuild Try.prog 58 (ps.map fun p => (p.1, ρ p.2)) w := x_build ..
theorem xb_sto (w : World) (ps : Array (Nat × Value)) (hc : Cont (([(0, 1), (1, 1)] : List (Nat × Nat)).toArray[·]?) 0 ps.toList) (hz : (catP ps.toList).size = 2) :
    exBuild Try.prog 58 ps w = .ok (.value (.agg (catP ps.toList))) w := by
  unfold exBuild; rw [run_build_cat w 58 ps _ _ bp_sto hc (by rw [bz_sto]; exact hz)]; rfl

theorem inf_sle : (Try.prog.info? 38).map (·.size) = some 1 := by kernel_rfl
section
variable (ρ : Operand → Value) (dst : Option Tmp) (ty : TypeId) (pos : String) (after : Array Edge) (guard : Option (Nat × Bool)) (w : World)
@[go_sem ↓] theorem rs_sle (x y : Operand) : (execOp ρ { dst, op := .store 38 x y, type := ty, pos, after, guard }).run Try.prog w = exStore Try.prog 38 (ρ x) (ρ y) w := x_store ..
@[go_sem] theorem xs_sle (b o : Nat) (v : Value) (hv : ones1 v = true) (ho : o < (w.rowOf b).size) (hf : w.free b = true) : exStore Try.prog 38 (.pointer (some ⟨b, o, none⟩)) v w = .ok .skip (w.setRow b ((w.rowOf b).setIfInBounds o v)) :=
  x_storec inf_sle w b o v hv ho hf
end

theorem inf_slr : (Try.prog.info? 43).map (·.size) = some 1 := by kernel_rfl
section
variable (ρ : Operand → Value) (dst : Option Tmp) (ty : TypeId) (pos : String) (after : Array Edge) (guard : Option (Nat × Bool)) (w : World)
@[go_sem ↓] theorem rs_slr (x y : Operand) : (execOp ρ { dst, op := .store 43 x y, type := ty, pos, after, guard }).run Try.prog w = exStore Try.prog 43 (ρ x) (ρ y) w := x_store ..
@[go_sem] theorem xs_slr (b o : Nat) (v : Value) (hv : ones1 v = true) (ho : o < (w.rowOf b).size) (hf : w.free b = true) : exStore Try.prog 43 (.pointer (some ⟨b, o, none⟩)) v w = .ok .skip (w.setRow b ((w.rowOf b).setIfInBounds o v)) :=
  x_storec inf_slr w b o v hv ho hf
end

def eE (x : Sk.En) : List Value := (ENR x).toList
def eK (k : Ky) : List Value := (cs U8 k.l).toList
theorem eE_len (x : Sk.En) : (eE x).length = 65 := by simp [eE]
theorem eK_len (k : Ky) : (eK k).length = 32 := by simp [eK]
theorem one_eK (k : Ky) : ∀ u ∈ eK k, u.oneCell' = true := by
  intro u hu
  simp only [eK, cs, List.mem_map] at hu
  obtain ⟨x, _, rfl⟩ := hu; rfl
theorem elt_en : Elt Try.prog 41 38 65 72 (.agg (ENR EZ)) := ⟨Try.underlying38, by kernel_rfl, by simp [Value.cells], by decide, by decide, one_ENR, by decide⟩
theorem elt_ren : Elt Try.prog 60 43 65 72 (.agg (ENR EZ)) := ⟨Try.underlying43, by kernel_rfl, by simp [Value.cells], by decide, by decide, one_ENR, by decide⟩
theorem xb_en3 (w : World) (x : Sk.En) : exBuild Try.prog 41 #[(0, .agg (cs U8 x.pub.l)), (1, .agg (cs U8 x.key.l)), (2, .int .i64 x.n)] w = .ok (.value (.agg (ENR x))) w := by
  rw [xb_en w _ (by simp [Cont, Value.cells]) (by simp [catP, Value.cells])]
  simp [catP, Value.cells, ENR, cs_append]
theorem xb_ren3 (w : World) (x : Sk.En) : exBuild Try.prog 60 #[(0, .agg (cs U8 x.pub.l)), (1, .agg (cs U8 x.key.l)), (2, .int .i64 x.n)] w = .ok (.value (.agg (ENR x))) w := by
  rw [xb_ren w _ (by simp [Cont, Value.cells]) (by simp [catP, Value.cells])]
  simp [catP, Value.cells, ENR, cs_append]
theorem xb_sto2 (w : World) (room : Int) (a : Option Addr) (n c : Nat) : exBuild Try.prog 58 #[(0, .int .i64 room), (1, .slice a n c)] w = .ok (.value (.agg (STR room (.slice a n c)))) w := by
  rw [xb_sto w _ (by simp [Cont, Value.cells]) (by simp [catP, Value.cells])]
  simp [catP, Value.cells, STR]
theorem xb_k0s (w : World) : exBuild Try.prog 28 #[] w = .ok (.value (.agg (cs U8 (zs 32)))) w := by
  unfold exBuild; rw [run_build w _ _ (cs U8 (zs 32)) (by kernel_rfl)]; rfl
end Go.Proofs.Ytojkcbhmhfjioaa
