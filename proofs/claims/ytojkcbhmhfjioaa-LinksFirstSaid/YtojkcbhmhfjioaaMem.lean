/-
  Blocks of cells as rows: what a whole array or struct reads as, and what a store leaves; own work.
-/
import Derived.Test.YtojkcbhmhfjioaaBase
import Derived.Deep.MidRow
import Derived.Deep.Draws
import Derived.StillTailTactics
set_option linter.unusedSimpArgs false
set_option linter.unusedVariables false
namespace Go
def World.rowOf (w : World) (b : Nat) : Array Value :=
  match w.heap[b]? with
  | some (.cells c _ _) => c
  | _ => #[]
def World.free (w : World) (b : Nat) : Bool :=
  match w.heap[b]? with
  | some (.cells _ _ fz) => fz == (0, 0)
  | _ => false
def World.setSeg (w : World) (b o : Nat) (cs : Array Value) : World :=
  w.setRow b ((w.rowOf b).extract 0 o ++ cs ++ (w.rowOf b).extract (o + cs.size) (w.rowOf b).size)
end Go
namespace Go.Proofs.Ytojkcbhmhfjioaa
open Go.RowKit

theorem hid {p : Prop} (h : p) : Hid p := h
/-- the cells of a list -/
def cs {α : Type} (f : α → Value) (l : List α) : Array Value := (l.map f).toArray
def zs {k : Nat} (n : Nat) : List (BitVec k) := List.replicate n 0
section
variable {α : Type} {f : α → Value} {l : List α}
@[simp, go_sem] theorem cs_size : (cs f l).size = l.length := by simp [cs]
theorem cs_get (i : Nat) : (cs f l)[i]? = (l[i]?).map f := by simp [cs]
theorem cs_get_lt {i : Nat} (h : i < l.length) : (cs f l)[i]? = some (f l[i]) := by rw [cs_get, List.getElem?_eq_getElem h]; rfl
theorem cs_append (l m : List α) : cs f (l ++ m) = cs f l ++ cs f m := by simp [cs]
theorem cs_set (i : Nat) (x : α) : (cs f l).setIfInBounds i (f x) = cs f (l.set i x) := by simp [cs, List.map_set]
@[go_sem] theorem cs_set8 {l : List (BitVec 8)} (i : Nat) (x : BitVec 8) : (cs U8 l).setIfInBounds i (U8 x) = cs U8 (l.set i x) := by simp [cs, List.map_set]
@[go_sem] theorem cs_set32 {l : List (BitVec 32)} (i : Nat) (x : BitVec 32) : (cs U32 l).setIfInBounds i (U32 x) = cs U32 (l.set i x) := by simp [cs, List.map_set]
@[go_sem] theorem cs_set64 {l : List (BitVec 64)} (i : Nat) (x : BitVec 64) : (cs U64 l).setIfInBounds i (U64 x) = cs U64 (l.set i x) := by simp [cs, List.map_set]
theorem cs_extract (i j : Nat) : (cs f l).extract i j = cs f ((l.take j).drop i) := by
  simp [cs, ← List.map_drop, ← List.map_take, List.extract_eq_take_drop, List.take_drop]
  by_cases h : i ≤ j
  · rw [Nat.add_sub_cancel' h]
  · have : j - i = 0 := by omega
    simp only [this, Nat.add_zero]
    rw [List.drop_eq_nil_of_le (by simp; omega), List.drop_eq_nil_of_le (by simp; omega)]
theorem cs_one (hf : ∀ x, (f x).oneCell' = true) : (cs f l).all (·.oneCell') = true := by
  simp [cs, hf]
@[simp] theorem zs_len {k n : Nat} : (zs n : List (BitVec k)).length = n := by simp [zs]
end
/-- each is one cell -/
def ones (c : Array Value) : Bool := c.toList.all (·.oneCell')
theorem ones_all {c : Array Value} (h : ones c = true) : c.all (·.oneCell') = true := by
  rw [← Array.all_toList]; exact h
@[go_sem] theorem ones_8 (l : List (BitVec 8)) : ones (cs U8 l) = true := by simp [ones, cs, List.all_eq_true]; intro _ _; rfl
@[go_sem] theorem ones_32 (l : List (BitVec 32)) : ones (cs U32 l) = true := by simp [ones, cs, List.all_eq_true]; intro _ _; rfl
@[go_sem] theorem ones_64 (l : List (BitVec 64)) : ones (cs U64 l) = true := by simp [ones, cs, List.all_eq_true]; intro _ _; rfl
@[go_sem] theorem ones_append (a b : Array Value) : ones (a ++ b) = (ones a && ones b) := by simp [ones]
@[go_sem] theorem ones_nil : ones (#[] : Array Value) = true := of_eq_true (eq_true rfl)
@[go_sem] theorem ones_cons (v : Value) (l : List Value) : ones (v :: l).toArray = (v.oneCell' && ones l.toArray) := by simp [ones]
@[go_sem] theorem one_u8 (x : BitVec 8) : (U8 x).oneCell' = true := of_eq_true (eq_true rfl)
@[go_sem] theorem one_u32 (x : BitVec 32) : (U32 x).oneCell' = true := of_eq_true (eq_true rfl)
@[go_sem] theorem one_u64 (x : BitVec 64) : (U64 x).oneCell' = true := of_eq_true (eq_true rfl)
@[go_sem] theorem one_int (k : IntKind) (n : Int) : (Value.int k n).oneCell' = true := of_eq_true (eq_true rfl)
@[go_sem] theorem one_bool (b : Bool) : (Value.bool b).oneCell' = true := of_eq_true (eq_true rfl)
@[go_sem] theorem one_ptr (a : Option Addr) : (Value.pointer a).oneCell' = true := of_eq_true (eq_true rfl)
@[go_sem] theorem one_slice (a : Option Addr) (n c : Nat) : (Value.slice a n c).oneCell' = true := of_eq_true (eq_true rfl)
section
variable {w : World} {b : Nat}
theorem rowOf_eq {c : Array Value} {T : TypeId} {fz : Nat × Nat} (h : w.heap[b]? = some (.cells c T fz)) : w.rowOf b = c := by simp [World.rowOf, h]
theorem free_eq {c : Array Value} {T : TypeId} (h : w.heap[b]? = some (.cells c T (0, 0))) : w.free b = true := by simp [World.free, h]
theorem cell_rowOf (o : Nat) : w.cell? ⟨b, o, none⟩ = (w.rowOf b)[o]? := by
  unfold World.cell? World.rowOf
  cases h : w.heap[b]? with
  | none => simp
  | some x => cases x <;> simp
theorem free_frozen (h : w.free b = true) (o : Nat) : w.frozen? ⟨b, o, none⟩ = false := by
  unfold World.free at h
  unfold World.frozen?
  cases hb : w.heap[b]? with
  | none => simp
  | some x => cases x <;> simp_all
theorem free_block (h : w.free b = true) : ∃ T, w.heap[b]? = some (.cells (w.rowOf b) T (0, 0)) := by
  unfold World.free at h
  unfold World.rowOf
  cases hb : w.heap[b]? with
  | none => simp [hb] at h
  | some x => cases x <;> simp_all
theorem heap_new' (o : Obj) : (w.alloc o).heap[w.heap.size]? = some o := by
  show (w.heap.push o)[w.heap.size]? = some o
  simp
@[go_sem] theorem rowOf_alloc_at (c : Array Value) (t : TypeId) (n : Nat) (hn : n = w.heap.size) : (w.alloc (.cells c t)).rowOf n = c := by
  subst hn; unfold World.rowOf; rw [heap_new']
@[go_sem] theorem rowOf_alloc_past (o : Obj) (n : Nat) (hn : n < w.heap.size) : (w.alloc o).rowOf n = w.rowOf n := by
  unfold World.rowOf; rw [Below.heap_alloc w o n hn]
@[go_sem] theorem free_alloc_at (c : Array Value) (t : TypeId) (n : Nat) (hn : n = w.heap.size) : (w.alloc (.cells c t)).free n = true := by
  subst hn; unfold World.free; rw [heap_new']; rfl
@[go_sem] theorem free_alloc_past (o : Obj) (n : Nat) (hn : n < w.heap.size) : (w.alloc o).free n = w.free n := by
  unfold World.free; rw [Below.heap_alloc w o n hn]
@[go_sem] theorem rowOf_drew : w.drew.rowOf b = w.rowOf b := rfl
@[go_sem] theorem free_drew : w.drew.free b = w.free b := rfl
@[go_sem] theorem rowOf_drewN (n : Nat) : (w.drewN n).rowOf b = w.rowOf b := rfl
@[go_sem] theorem free_drewN (n : Nat) : (w.drewN n).free b = w.free b := rfl
theorem heap_setRow_same {c cur : Array Value} {T : TypeId} {fz : Nat × Nat} (h : w.heap[b]? = some (.cells cur T fz)) : (w.setRow b c).heap[b]? = some (.cells c T fz) := setRow_heap w b cur c T fz h
theorem heap_setRow_other {c : Array Value} {g : Nat} (h : g ≠ b) : (w.setRow b c).heap[g]? = w.heap[g]? := setRow_other w b g c h
@[go_sem] theorem rowOf_setRow_same (c : Array Value) (h : w.free b = true) : (w.setRow b c).rowOf b = c := by
  obtain ⟨T, hb⟩ := free_block h
  exact rowOf_eq (heap_setRow_same hb)
@[go_sem] theorem rowOf_setRow_other (c : Array Value) (g : Nat) (h : g ≠ b) : (w.setRow b c).rowOf g = w.rowOf g := by
  simp [World.rowOf, heap_setRow_other h]
@[go_sem] theorem free_setRow (c : Array Value) (g : Nat) : (w.setRow b c).free g = w.free g := by
  by_cases h : g = b
  · subst h
    unfold World.free World.setRow
    simp only [Array.getElem?_modify, if_true]
    cases hb : w.heap[g]? with
    | none => rfl
    | some x => cases x <;> rfl
  · simp [World.free, heap_setRow_other h]
@[go_sem] theorem setRow_alloc_at (c c' : Array Value) (t : TypeId) (n : Nat) (hn : n = w.heap.size) : (w.alloc (.cells c t)).setRow n c' = w.alloc (.cells c' t) := by
  subst hn
  unfold World.setRow World.alloc
  simp only [World.mk.injEq, and_true]
  apply Array.ext
  · simp
  · intro i h1 h2
    simp only [Array.getElem_modify, Array.getElem_push]
    by_cases h : i < w.heap.size
    · simp [h, Nat.ne_of_gt h]
    · have : i = w.heap.size := by simp at h2; omega
      simp [this]
@[go_sem] theorem setRow_alloc_past (o : Obj) (n : Nat) (c : Array Value) (hn : n < w.heap.size) : (w.alloc o).setRow n c = (w.setRow n c).alloc o := by
  unfold World.setRow World.alloc
  simp only [World.mk.injEq, and_true]
  apply Array.ext
  · simp
  · intro i h1 h2
    simp only [Array.getElem_modify, Array.getElem_push, Array.size_modify]
    by_cases h : i < w.heap.size
    · simp [h]
    · have : i = w.heap.size := by simp at h2; omega
      simp [this, Nat.ne_of_lt hn]
@[go_sem] theorem setRow_twice (c c' : Array Value) : (w.setRow b c).setRow b c' = w.setRow b c' := setRow_setRow w b c c'
@[go_sem] theorem setRow_drew (c : Array Value) : w.drew.setRow b c = (w.setRow b c).drew := rfl
@[go_sem] theorem setRow_drewN (c : Array Value) (n : Nat) : (w.drewN n).setRow b c = (w.setRow b c).drewN n := rfl
theorem below_setRow' {B : Nat} {a : World} (h : Below B a w) (hb : B ≤ b) (c : Array Value) : Below B a (w.setRow b c) :=
  h.trans ⟨rfl, rfl, rfl, by simp, fun k hk => setRow_other w b k c (by omega)⟩
theorem below_drewN {B : Nat} {a : World} (h : Below B a w) (n : Nat) : Below B a (w.drewN n) := ⟨h.os, h.tape, h.output, h.size, h.block⟩
theorem below_row {B : Nat} {w' : World} (h : Below B w w') (hb : b < B) : w'.rowOf b = w.rowOf b := by simp [World.rowOf, h.block b hb]
theorem below_free {B : Nat} {w' : World} (h : Below B w w') (hb : b < B) : w'.free b = w.free b := by simp [World.free, h.block b hb]
theorem free_lt (h : w.free b = true) : b < w.heap.size := by
  obtain ⟨T, hb⟩ := free_block h
  by_cases hlt : b < w.heap.size
  · exact hlt
  · rw [Array.getElem?_eq_none (by omega)] at hb; cases hb
theorem row_lt {o : Nat} (h : o < (w.rowOf b).size) : b < w.heap.size := by
  by_cases hlt : b < w.heap.size
  · exact hlt
  · unfold World.rowOf at h; rw [Array.getElem?_eq_none (by omega)] at h; simp at h
/-- a store of one cell, into a row that is free -/
theorem setCell_row (h : w.free b = true) (o : Nat) (v : Value) : w.setCell ⟨b, o, none⟩ v = w.setRow b ((w.rowOf b).setIfInBounds o v) := by
  obtain ⟨T, hb⟩ := free_block h
  exact setCell_eq_setRow w b o _ T _ v hb
end
/-! what may have changed: one row, and new blocks -/
theorem gb_refl (w : World) (r : Option Nat) : w.grownBy w r := ⟨rfl, rfl, rfl, Nat.le_refl _, fun _ _ _ => rfl⟩
theorem gb_trans {a b c : World} {r : Option Nat} (h : a.grownBy b r) (k : b.grownBy c r) : a.grownBy c r :=
  ⟨k.os.trans h.os, k.tape.trans h.tape, k.output.trans h.output, Nat.le_trans h.size k.size, fun i hi hr => (k.block i (Nat.lt_of_lt_of_le hi h.size) hr).trans (h.block i hi hr)⟩
theorem gb_below {a b : World} (h : Below a.heap.size a b) (r : Option Nat) : a.grownBy b r := ⟨h.os, h.tape, h.output, h.size, fun k hk _ => h.block k hk⟩
theorem gb_setRow {a b : World} {g : Nat} (h : a.grownBy b (some g)) (c : Array Value) : a.grownBy (b.setRow g c) (some g) :=
  ⟨h.os, h.tape, h.output, by simpa using h.size, fun k hk hr => (setRow_other b g k c (fun e => hr (by rw [e]))).trans (h.block k hk hr)⟩
theorem gb_drewN {a b : World} {r : Option Nat} (h : a.grownBy b r) (n : Nat) : a.grownBy (b.drewN n) r := ⟨h.os, h.tape, h.output, h.size, h.block⟩
theorem gb_alloc {a b : World} {r : Option Nat} (h : a.grownBy b r) (o : Obj) : a.grownBy (b.alloc o) r :=
  ⟨h.os, h.tape, h.output, by have := h.size; simp; omega, fun k hk hr => (Below.heap_alloc b o k (Nat.lt_of_lt_of_le hk h.size)).trans (h.block k hk hr)⟩
theorem gb_to_below {a b : World} {r : Option Nat} (h : a.grownBy b r) (B : Nat) (hB : B ≤ a.heap.size) (hr : ∀ g, r = some g → B ≤ g) : Below B a b :=
  ⟨h.os, h.tape, h.output, h.size, fun k hk => h.block k (by omega) (fun e => by have := hr k e.symm; omega)⟩
theorem gb_row {a b : World} {r : Option Nat} (h : a.grownBy b r) {g : Nat} (hg : g < a.heap.size) (hr : some g ≠ r) : b.rowOf g = a.rowOf g := by simp [World.rowOf, h.block g hg hr]
theorem gb_free {a b : World} {r : Option Nat} (h : a.grownBy b r) {g : Nat} (hg : g < a.heap.size) (hr : some g ≠ r) : b.free g = a.free g := by simp [World.free, h.block g hg hr]
theorem gb_cell {a b : World} {r : Option Nat} (h : a.grownBy b r) {p : Addr} (hg : p.block < a.heap.size) (hr : some p.block ≠ r) : b.cell? p = a.cell? p := World.cell?_of_block (h.block _ hg hr)
/-- what may have changed: the blocks in S, and new ones -/
structure Fr (S : Nat → Prop) (w w' : World) : Prop where
  os : w'.os = w.os
  tape : w'.tape = w.tape
  output : w'.output = w.output
  size : w.heap.size ≤ w'.heap.size
  block : ∀ k, k < w.heap.size → ¬ S k → w'.heap[k]? = w.heap[k]?
theorem Fr.refl (S : Nat → Prop) (w : World) : Fr S w w := ⟨rfl, rfl, rfl, Nat.le_refl _, fun _ _ _ => rfl⟩
theorem Fr.mono {S S' : Nat → Prop} {a b : World} (h : Fr S a b) (hs : ∀ k, k < a.heap.size → S k → S' k) : Fr S' a b := ⟨h.os, h.tape, h.output, h.size, fun k hk hn => h.block k hk (fun e => hn (hs k hk e))⟩
theorem Fr.trans {S : Nat → Prop} {a b c : World} (h : Fr S a b) (k : Fr (fun i => S i ∨ a.heap.size ≤ i) b c) : Fr S a c :=
  ⟨k.os.trans h.os, k.tape.trans h.tape, k.output.trans h.output, Nat.le_trans h.size k.size, fun i hi hr => (k.block i (Nat.lt_of_lt_of_le hi h.size) (fun e => e.elim hr (by omega))).trans (h.block i hi hr)⟩
theorem Fr.of_below {S : Nat → Prop} {a b : World} (h : Below a.heap.size a b) : Fr S a b := ⟨h.os, h.tape, h.output, h.size, fun k hk _ => h.block k hk⟩
theorem Fr.of_below' {B : Nat} {a b : World} (h : Below B a b) : Fr (fun k => B ≤ k) a b := ⟨h.os, h.tape, h.output, h.size, fun k _ hn => h.block k (by omega)⟩
theorem Fr.of_grown {r : Option Nat} {a b : World} (h : a.grownBy b r) : Fr (fun k => some k = r) a b := ⟨h.os, h.tape, h.output, h.size, h.block⟩
theorem Fr.below {S : Nat → Prop} {a b : World} (h : Fr S a b) (B : Nat) (hB : B ≤ a.heap.size) (hs : ∀ k, k < a.heap.size → S k → B ≤ k) : Below B a b := ⟨h.os, h.tape, h.output, h.size, fun k hk => h.block k (by omega) (fun e => by have := hs k (by omega) e; omega)⟩
theorem Fr.setRow {S : Nat → Prop} {a b : World} {g : Nat} (h : Fr S a b) (hg : S g ∨ a.heap.size ≤ g) (c : Array Value) : Fr S a (b.setRow g c) :=
  ⟨h.os, h.tape, h.output, by simpa using h.size, fun k hk hr => (setRow_other b g k c (fun e => by subst e; exact hg.elim hr (by omega))).trans (h.block k hk hr)⟩
theorem Fr.drewN {S : Nat → Prop} {a b : World} (h : Fr S a b) (n : Nat) : Fr S a (b.drewN n) := ⟨h.os, h.tape, h.output, h.size, h.block⟩
theorem Fr.alloc {S : Nat → Prop} {a b : World} (h : Fr S a b) (o : Obj) : Fr S a (b.alloc o) :=
  ⟨h.os, h.tape, h.output, by have := h.size; simp; omega, fun k hk hr => (Below.heap_alloc b o k (Nat.lt_of_lt_of_le hk h.size)).trans (h.block k hk hr)⟩
theorem Fr.row {S : Nat → Prop} {a b : World} (h : Fr S a b) {g : Nat} (hg : g < a.heap.size) (hr : ¬ S g) : b.rowOf g = a.rowOf g := by simp [World.rowOf, h.block g hg hr]
theorem Fr.free {S : Nat → Prop} {a b : World} (h : Fr S a b) {g : Nat} (hg : g < a.heap.size) (hr : ¬ S g) : b.free g = a.free g := by simp [World.free, h.block g hg hr]
theorem Fr.cell {S : Nat → Prop} {a b : World} (h : Fr S a b) {p : Addr} (hg : p.block < a.heap.size) (hr : ¬ S p.block) : b.cell? p = a.cell? p := World.cell?_of_block (h.block _ hg hr)
@[go_sem] theorem cell_setRow_same {w : World} {b : Nat} (c : Array Value) (o : Nat) (h : w.free b = true) : (w.setRow b c).cell? ⟨b, o, none⟩ = c[o]? := by rw [cell_rowOf, rowOf_setRow_same _ h]
@[go_sem] theorem cell_setRow_other {w : World} {b g : Nat} (c : Array Value) (o : Nat) (h : g ≠ b) : (w.setRow b c).cell? ⟨g, o, none⟩ = w.cell? ⟨g, o, none⟩ := by rw [cell_rowOf, cell_rowOf, rowOf_setRow_other _ _ h]
/-- a store into the middle part of a row -/
theorem mid_set {α : Type} {f : α → Value} (pre post : Array Value) (m : List α) (j : Nat) (v : α) (hj : j < m.length) : (pre ++ cs f m ++ post).setIfInBounds (pre.size + j) (f v) = pre ++ cs f (m.set j v) ++ post := by
  apply Array.ext'
  simp only [Array.toList_setIfInBounds, Array.toList_append, cs]
  rw [List.append_assoc, List.append_assoc, List.set_append_right _ _ (by simp), List.set_append_left _ _ (by simpa using hj)]
  simp [List.map_set]
theorem mid_get {α : Type} {f : α → Value} (pre post : Array Value) (m : List α) (j : Nat) (hj : j < m.length) : (pre ++ cs f m ++ post)[pre.size + j]? = some (f m[j]) := by
  rw [Array.append_assoc, Array.getElem?_append_right (by omega), Nat.add_sub_cancel_left, Array.getElem?_append_left (by simpa using hj), cs_get_lt hj]

section
variable {P : Program}
theorem ld_row {T : TypeId} {n : Nat} {d : TypeDesc} (hu : P.underlying T = some d) (hd : d.isRow = true) (hi : (P.info? T).map (·.size) = some n)
    (w : World) (b o : Nat) (h : o + n ≤ (w.rowOf b).size) :
    (Instr.loadAt T (.pointer (some ⟨b, o, none⟩))).run P w = .ok (.agg ((w.rowOf b).extract o (o + n))) w := by
  have hl : ((w.rowOf b).extract o (o + n)).toList.length = n := by simp; omega
  have := run_loadAt_mid (P := P) w b o T ((w.rowOf b).extract o (o + n)).toList d (fun j v hj => by
    rw [cell_rowOf, ← hj]
    have hlt : j < n := by have := (List.getElem?_eq_some_iff.1 hj).1; omega
    simp only [Array.getElem?_toList, Array.getElem?_extract]
    rw [if_pos (by omega)]) hu hd (by rw [hl, hi])
  rw [this]
theorem ld_row0 {T : TypeId} {n : Nat} {d : TypeDesc} (hu : P.underlying T = some d) (hd : d.isRow = true) (hi : (P.info? T).map (·.size) = some n)
    (w : World) (b : Nat) (h : (w.rowOf b).size = n) :
    (Instr.loadAt T (.pointer (some ⟨b, 0, none⟩))).run P w = .ok (.agg (w.rowOf b)) w := by
  rw [ld_row hu hd hi w b 0 (by omega)]
  simp [← h]
theorem lv_row0 {T : TypeId} {n : Nat} {d : TypeDesc} (hu : P.underlying T = some d) (hd : d.isRow = true) (hi : (P.info? T).map (·.size) = some n)
    (w : World) (b : Nat) (h : (w.rowOf b).size = n) :
    (loadVar T ⟨b, 0, none⟩).run P w = .ok (.agg (w.rowOf b)) w := by
  have := ld_row0 hu hd hi w b h
  simpa [Instr.loadAt, Instr.sureAddr] using this
theorem st_row {T : TypeId} {n : Nat} (hi : (P.info? T).map (·.size) = some n)
    (w : World) (b o : Nat) (cells : Array Value) (hn : cells.size = n) (h : o + n ≤ (w.rowOf b).size) (hf : w.free b = true) (h1 : cells.all (·.oneCell') = true) :
    (Instr.storeAt T (.pointer (some ⟨b, o, none⟩)) (.agg cells)).run P w = .ok () (w.setSeg b o cells) := by
  have ht : w.there b o cells.size := fun j hj => ⟨by rw [cell_rowOf, Array.getElem?_eq_getElem (by omega)]; rfl, free_frozen hf _⟩
  rw [run_storeAt_mid w b o T cells ht (by rw [hn, hi]) h1]
  congr 1
  obtain ⟨T', hb⟩ := free_block hf
  have key : ∀ (l : List Value) (o : Nat) (w : World) (cur : Array Value), w.heap[b]? = some (.cells cur T' (0, 0)) → o + l.length ≤ cur.size →
      w.setCells b o l = w.setRow b (cur.extract 0 o ++ l.toArray ++ cur.extract (o + l.length) cur.size) := by
    intro l
    induction l with
    | nil =>
      intro o w cur hb hl
      have : cur.extract 0 o ++ ([] : List Value).toArray ++ cur.extract (o + ([] : List Value).length) cur.size = cur := by
        simp at hl ⊢
        exact .inr (by omega)
      rw [this, setRow_self w b cur T' _ hb]; rfl
    | cons x l ih =>
      intro o w cur hb hl
      simp only [List.length_cons] at hl
      show (w.setCell ⟨b, o, none⟩ x).setCells b (o + 1) l = _
      have e := setCell_eq_setRow w b o cur T' _ x hb
      rw [e, ih (o + 1) _ _ (setRow_heap w b cur _ T' _ hb) (by simp; omega), setRow_setRow]
      congr 1
      apply Array.ext'
      simp only [Array.toList_append, Array.toList_extract, Array.toList_setIfInBounds, List.extract_eq_take_drop, List.length_cons, Array.size_setIfInBounds, Nat.sub_zero, List.drop_zero]
      rw [List.take_set, List.drop_set_of_lt (by omega)]
      have hlt : o < cur.toList.length := by simp; omega
      rw [List.take_succ_eq_append_getElem hlt, List.set_append_right _ _ (by simp; omega)]
      simp [Nat.min_eq_left (Nat.le_of_lt (by simpa using hlt)), Nat.add_assoc, Nat.add_comm 1]
  rw [key cells.toList o w _ hb (by simp; omega)]
  rfl
theorem st_row0 {T : TypeId} {n : Nat} (hi : (P.info? T).map (·.size) = some n)
    (w : World) (b : Nat) (cells : Array Value) (hn : cells.size = n) (h : (w.rowOf b).size = n) (hf : w.free b = true) (h1 : cells.all (·.oneCell') = true) :
    (Instr.storeAt T (.pointer (some ⟨b, 0, none⟩)) (.agg cells)).run P w = .ok () (w.setRow b cells) := by
  rw [st_row hi w b 0 cells hn (by omega) hf h1]
  unfold World.setSeg
  have : (w.rowOf b).extract 0 0 ++ cells ++ (w.rowOf b).extract (0 + cells.size) (w.rowOf b).size = cells := by
    simp [hn, h]
  rw [this]
theorem al_row {T : TypeId} {v : Value} (hz : ((P.info? T).bind (·.zero)) = some v) (w : World) (h : Bool) : (Instr.alloc T true (.tuple #[])).run P w = .ok (.pointer (some ⟨w.heap.size, 0, none⟩)) (w.alloc (.cells v.cells T)) := by
  obtain ⟨i, h1, h2⟩ := Option.bind_eq_some_iff.1 hz
  simp [Instr.alloc, zeroValue, typeInfo, h1, h2, newVar, newRow]
end
/-! Operations on rows, each under one name: so that the walk does not open them cell by cell. -/
section
variable (P : Program) (T : TypeId) (v u : Value) (w : World)
def exLoad : Result Next := ((Instr.loadAt T v).run P w).andThen fun x w' => .ok (.value x) w'
def exStore : Result Next := ((Instr.storeAt T v u).run P w).andThen fun _ w' => .ok .skip w'
def exAlloc : Result Next := ((Instr.alloc T true (.tuple #[])).run P w).andThen fun x w' => .ok (.value x) w'
end
section
variable {P : Program} (ρ : Operand → Value) (dst : Option Tmp) (ty : TypeId) (pos : String) (after : Array Edge) (guard : Option (Nat × Bool)) (w : World)
theorem x_load (T : TypeId) (x : Operand) : (execOp ρ { dst, op := .load T x, type := ty, pos, after, guard }).run P w = exLoad P T (ρ x) w := by
  simp only [execOp, Sem.run_bind, exLoad]; rfl
theorem x_store (T : TypeId) (x y : Operand) : (execOp ρ { dst, op := .store T x y, type := ty, pos, after, guard }).run P w = exStore P T (ρ x) (ρ y) w := by
  simp only [execOp, Sem.run_bind, exStore]; rfl
theorem x_alloc (T : TypeId) : (execOp ρ { dst, op := .alloc T, type := ty, pos, after, guard }).run P w = exAlloc P T w := by
  simp only [execOp, Sem.run_bind, exAlloc]; rfl
theorem x_load0 {T : TypeId} {n : Nat} {d : TypeDesc} (hu : P.underlying T = some d) (hd : d.isRow = true) (hi : (P.info? T).map (·.size) = some n)
    (b : Nat) (h : (w.rowOf b).size = n) : exLoad P T (.pointer (some ⟨b, 0, none⟩)) w = .ok (.value (.agg (w.rowOf b))) w := by
  unfold exLoad; rw [ld_row0 hu hd hi w b h]; rfl
theorem x_loadm {T : TypeId} {n : Nat} {d : TypeDesc} (hu : P.underlying T = some d) (hd : d.isRow = true) (hi : (P.info? T).map (·.size) = some n)
    (b o : Nat) (h : o + n ≤ (w.rowOf b).size) : exLoad P T (.pointer (some ⟨b, o, none⟩)) w = .ok (.value (.agg ((w.rowOf b).extract o (o + n)))) w := by
  unfold exLoad; rw [ld_row hu hd hi w b o h]; rfl
theorem x_store0 {T : TypeId} {n : Nat} (hi : (P.info? T).map (·.size) = some n) (b : Nat) (cells : Array Value) (hn : cells.size = n) (h : (w.rowOf b).size = n)
    (hf : w.free b = true) (h1 : cells.all (·.oneCell') = true) : exStore P T (.pointer (some ⟨b, 0, none⟩)) (.agg cells) w = .ok .skip (w.setRow b cells) := by
  unfold exStore; rw [st_row0 hi w b cells hn h hf h1]; rfl
theorem x_storem {T : TypeId} {n : Nat} (hi : (P.info? T).map (·.size) = some n) (b o : Nat) (cells : Array Value) (hn : cells.size = n) (h : o + n ≤ (w.rowOf b).size)
    (hf : w.free b = true) (h1 : cells.all (·.oneCell') = true) : exStore P T (.pointer (some ⟨b, o, none⟩)) (.agg cells) w = .ok .skip (w.setSeg b o cells) := by
  unfold exStore; rw [st_row hi w b o cells hn h hf h1]; rfl
theorem x_alloc0 {T : TypeId} {v : Value} (hz : ((P.info? T).bind (·.zero)) = some v) : exAlloc P T w = .ok (.value (.pointer (some ⟨w.heap.size, 0, none⟩))) (w.alloc (.cells v.cells T)) := by
  unfold exAlloc; rw [al_row hz w true]; rfl
end
/-- a store of one cell, where there is one that may be written -/
theorem x_store1 {P : Program} {T : TypeId} (hi : (P.info? T).map (·.size) = some 1) (w : World) (b o : Nat) (v : Value) (hv : v.cells = #[v]) (h1 : v.oneCell' = true)
    (hc : (w.cell? ⟨b, o, none⟩).isSome = true) (hf : w.frozen? ⟨b, o, none⟩ = false) : exStore P T (.pointer (some ⟨b, o, none⟩)) v w = .ok .skip (w.setCell ⟨b, o, none⟩ v) := by
  obtain ⟨u, hu⟩ := Option.isSome_iff_exists.1 hc
  cases hq : P.info? T with
  | none => simp [hq] at hi
  | some i =>
    have hs : i.size = 1 := by simpa [hq] using hi
    have hst : (store ⟨b, o, none⟩ v).run P w = .ok () (w.setCell ⟨b, o, none⟩ v) := by
      rw [run_store P w _ v .plain h1]; simp [stored, hu, hf]
    have e0 : (⟨b, o, none⟩ : Addr).add 0 = ⟨b, o, none⟩ := rfl
    unfold exStore
    simp only [Instr.storeAt, Instr.sureAddr, Sem.run_bind, Sem.run_pure, Result.andThen_ok, storeVar, sizeOf, typeInfo, program, hv]
    simp [Sem.run, hq, hs, storeCells, e0, hst, Sem.run_bind]
def ones1 (v : Value) : Bool := v.oneCell'
@[go_sem] theorem ones1_u8 (x : BitVec 8) : ones1 (U8 x) = true := of_eq_true (eq_true rfl)
@[go_sem] theorem ones1_u32 (x : BitVec 32) : ones1 (U32 x) = true := of_eq_true (eq_true rfl)
@[go_sem] theorem ones1_u64 (x : BitVec 64) : ones1 (U64 x) = true := of_eq_true (eq_true rfl)
@[go_sem] theorem ones1_int (k : IntKind) (n : Int) : ones1 (Value.int k n) = true := of_eq_true (eq_true rfl)
@[go_sem] theorem ones1_bool (b : Bool) : ones1 (Value.bool b) = true := of_eq_true (eq_true rfl)
@[go_sem] theorem ones1_ptr (a : Option Addr) : ones1 (Value.pointer a) = true := of_eq_true (eq_true rfl)
@[go_sem] theorem ones1_slice (a : Option Addr) (n c : Nat) : ones1 (Value.slice a n c) = true := of_eq_true (eq_true rfl)
/-- a store of one cell into a row -/
theorem x_storec {P : Program} {T : TypeId} (hi : (P.info? T).map (·.size) = some 1) (w : World) (b o : Nat) (v : Value) (hv : ones1 v = true) (ho : o < (w.rowOf b).size) (hf : w.free b = true) :
    exStore P T (.pointer (some ⟨b, o, none⟩)) v w = .ok .skip (w.setRow b ((w.rowOf b).setIfInBounds o v)) := by
  rw [x_store1 hi w b o v (by cases v <;> first | rfl | (simp [ones1, Value.oneCell'] at hv)) hv (by rw [cell_rowOf, Array.getElem?_eq_getElem ho]; rfl) (free_frozen hf _), setCell_row hf]
/-! A region that draws its order, whose last operations come in one forced order behind a head that leaves the world alone. -/
theorem wpStill_of_quiet {P : Program} {ops : Array Oper} {w0 : World} {Q : Act → Prop} : ∀ (l : List Oper) (a : Act), wpQuiet P ops (fun w' => w' = w0) Q l a → wpStill P ops w0 Q l a
  | [], _, h => h
  | o :: rest, a, h => by
    unfold wpQuiet at h
    unfold wpStill
    split
    · rename_i hw
      rw [if_pos hw] at h
      obtain ⟨v, h1, h2⟩ := h
      have h3 := h1 w0 rfl
      unfold Oper.quietAt at h3
      unfold Oper.still
      generalize (execOp a.eval o).run P w0 = r at *
      cases r with
      | ok n w' =>
        cases n <;> simp only [Oper.quietUpon] at h3 <;> simp only [Oper.stillUpon]
        case value u => exact ⟨h3.1, by rw [h3.2]; exact wpStill_of_quiet rest _ h2⟩
        case skip => exact ⟨h3.1, by rw [← h3.2]; exact wpStill_of_quiet rest _ h2⟩
        case enter f args => exact ⟨h3.1, v, h3.2, wpStill_of_quiet rest _ h2⟩
      | halt x w' => simp only [Oper.quietUpon] at h3
    · rename_i hw
      rw [if_neg hw] at h
      exact wpStill_of_quiet rest _ h
theorem wp_region_qtail {P : Program} {id : Nat} {Q : Exit → Act → World → Prop} {a : Act} {w : World} {l : List Oper} (n : Nat) (hm : P.follows .mixedOrders = true) (hB : Region.lexTailB .any l.toArray n = true)
    (h : wpQuiet P l.toArray (fun w' => w' = w.drew) (fun a' => wpList P l.toArray Q (l.drop n) a' w.drew) (l.take n) a) : (Code.region id l.toArray true).wp P Q a w :=
  wp_region_still_tail n hm hB (wpStill_of_quiet _ _ h)
/-! The same where the first operation is a move that only the tail reads. -/
def after1 (o : Oper) : Oper := { o with after := o.after.push ⟨0, .data⟩ }
def addE (n : Nat) (l : List Oper) : List Oper := l.modify n after1
def isMove (o : Oper) : Bool := match o with
  | ⟨_, .move _, _, _, _, none⟩ => true
  | _ => false
section
variable {P : Program} {Q : Exit → Act → World → Prop} {n : Nat} {l : List Oper}
theorem addE_at (j : Nat) : (addE n l).toArray[j]? = (l.toArray[j]?).map fun o => if n = j then after1 o else o := by
  simp only [addE, List.getElem?_toArray, List.getElem?_modify]
  cases l[j]? with
  | none => rfl
  | some o => by_cases h : n = j <;> simp [h]
theorem addE_yielded : yielded (addE n l).toArray = yielded l.toArray := by
  funext t g
  unfold yielded
  rw [addE_at]
  cases l.toArray[g]? with
  | none => rfl
  | some o => by_cases h : n = g <;> simp [h, after1]
theorem after1_exec (ρ : Operand → Value) (o : Oper) : execOp ρ (after1 o) = execOp ρ o := by cases o; rfl
theorem after1_wanted (o : Oper) : Region.wanted (after1 o) = Region.wanted o := rfl
theorem after1_wp (o : Oper) (a : Act) (w : World) (K : Act → World → Prop) : (after1 o).wp P a w K Q = o.wp P a w K Q := by
  unfold Oper.wp; rw [after1_exec]; rfl
theorem after1_asks (o : Oper) (a : Act) (w : World) : (after1 o).asks P a w = o.asks P a w := by
  unfold Oper.asks; rw [after1_exec]
theorem addE_wpOp (i : Nat) (K : Act → World → Prop) (a : Act) (w : World) : wpOp P (addE n l).toArray Q i K a w = wpOp P l.toArray Q i K a w := by
  unfold wpOp
  rw [addE_at, addE_yielded]
  cases l.toArray[i]? with
  | none => rfl
  | some o =>
    by_cases h : n = i
    · simp only [h, Option.map_some, if_true, after1_wp, after1_asks, after1_wanted]; rfl
    · simp only [h, Option.map_some, if_false]
theorem addE_ready {md : Region.Mode} {listed : Array Bool} (h0 : listed.getD 0 false = true) : Region.ready md (addE n l).toArray listed = Region.ready md l.toArray listed := by
  unfold Region.ready
  have hs : (addE n l).toArray.size = l.toArray.size := by simp [addE]
  rw [hs]
  apply List.filter_congr
  intro i _
  rw [addE_at]
  cases l.toArray[i]? with
  | none => rfl
  | some o =>
    by_cases h : n = i
    · simp only [h, Option.map_some, if_true, after1, Array.all_push, h0, Bool.or_true, Bool.and_true]
    · simp only [h, Option.map_some, if_false]
theorem addE_any {md : Region.Mode} : ∀ (f : Nat) (listed : Array Bool) (a : Act) (w : World), listed.getD 0 false = true →
    wpAny P md (addE n l).toArray Q f listed a w → wpAny P md l.toArray Q f listed a w
  | 0, listed, a, w, h0, h => by unfold wpAny at *; rwa [addE_ready h0] at h
  | f + 1, listed, a, w, h0, h => by
    unfold wpAny at *
    rw [addE_ready h0] at h
    refine ⟨h.1, fun i hi => ?_⟩
    have h1 := h.2 i hi
    rw [addE_wpOp] at h1
    exact wpOp_mono (fun a' w' h' => addE_any f _ a' w' (getD_set_true h0) h') h1
theorem addE_still {w : World} {K K' : Act → Prop} (hK : ∀ a, K a → K' a) : ∀ (m : List Oper) (a : Act), wpStill P l.toArray w K m a → wpStill P (addE n l).toArray w K' m a
  | [], a, h => hK a h
  | o :: m, a, h => by
    unfold wpStill at *
    rw [addE_yielded]
    split
    · rename_i hw; rw [if_pos hw] at h; exact Oper.still_mono (fun a' h' => addE_still hK m a' h') h
    · rename_i hw; rw [if_neg hw] at h; exact addE_still hK m _ h
theorem addE_list : ∀ (m : List Oper) (a : Act) (w : World), wpList P l.toArray Q m a w → wpList P (addE n l).toArray Q m a w
  | [], a, w, h => h
  | o :: m, a, w, h => by
    unfold wpList at *
    rw [addE_yielded]
    split
    · rename_i hw; rw [if_pos hw] at h; exact h.imp (Oper.wp_mono fun a' w' h' => addE_list m a' w' h') id
    · rename_i hw; rw [if_neg hw] at h; exact addE_list m _ _ h
theorem addE_tail (a : Act) (w : World) (h : wpList P l.toArray Q (l.drop n) a w) : wpList P (addE n l).toArray Q ((addE n l).drop n) a w := by
  have he : (addE n l).drop n = match l.drop n with | [] => [] | o :: m => after1 o :: m := by
    apply List.ext_getElem?
    intro j
    rw [List.getElem?_drop]
    have h1 := addE_at (n := n) (l := l) (n + j)
    simp only [List.getElem?_toArray] at h1
    rw [h1]
    have h2 : l[n + j]? = (l.drop n)[j]? := (List.getElem?_drop ..).symm
    rw [h2]
    cases l.drop n with
    | nil => simp
    | cons o m =>
      cases j with
      | zero => simp
      | succ j => simp [show ¬ n = n + (j + 1) by omega]
  rw [he]
  cases hd : l.drop n with
  | nil => rw [hd] at h; exact h
  | cons o m =>
    rw [hd] at h
    have h1 := addE_list (n := n) _ _ _ h
    unfold wpList at h1 ⊢
    simp only [after1_wanted, after1_wp, after1_asks] at *
    exact h1
theorem wp_region_qtail1 {id : Nat} {a : Act} {w : World} {o : Oper} {rest : List Oper} (n : Nat) (hm : P.follows .mixedOrders = true) (hB : Region.lexTailB .any (addE (n + 1) (o :: rest)).toArray (n + 1) = true)
    (hF : (isMove o && Region.free .any (o :: rest).toArray (Array.replicate (rest.length + 1) false) 0 && (Region.ready .any (o :: rest).toArray (Array.replicate (rest.length + 1) false)).contains 0 && Region.noSelect (o :: rest).toArray) = true)
    (hQ : ∀ v c a w, Q (.panic c) (a.put o.dst v) w → Q (.panic c) a w)
    (h : wpQuiet P (o :: rest).toArray (fun w' => w' = w.drew) (fun a' => wpList P (o :: rest).toArray Q ((o :: rest).drop (n + 1)) a' w.drew) ((o :: rest).take (n + 1)) a) : (Code.region id (o :: rest).toArray true).wp P Q a w := by
  have hs := wpStill_of_quiet _ _ h
  clear h
  simp only [Bool.and_eq_true] at hF
  obtain ⟨⟨⟨hmv, hfr⟩, hrd⟩, hns⟩ := hF
  obtain ⟨dst, op, ty, pos, after, guard⟩ := o
  cases op <;> cases guard <;> simp only [isMove, Bool.false_eq_true] at hmv
  rename_i x
  rw [List.take_succ_cons] at hs
  unfold wpStill at hs
  have hwt : ∀ t, Region.wanted ⟨dst, .move x, ty, pos, after, none⟩ t = true := fun t => rfl
  have hex : ∀ (ρ : Operand → Value) w', (execOp ρ ⟨dst, .move x, ty, pos, after, none⟩).run P w' = .ok (.value (ρ x)) w' := fun ρ w' => rfl
  rw [if_pos (hwt _)] at hs
  unfold Oper.still at hs
  rw [hex, Oper.stillUpon_value] at hs
  generalize ho : (⟨dst, .move x, ty, pos, after, none⟩ : Oper) = o at *
  have hod : o.dst = dst := by rw [← ho]
  have hlen : ((o :: rest).toArray).size = rest.length + 1 := by simp
  have hlen' : ((addE (n + 1) (o :: rest)).toArray).size = rest.length + 1 := by simp [addE]
  simp only [Region.lexTailB, Bool.and_eq_true, decide_eq_true_eq, hlen'] at hB
  obtain ⟨⟨⟨⟨hsel, hn⟩, hsk⟩, hc⟩, hlex⟩ := hB
  have hn' : n < rest.length := by omega
  simp only [Region.lexHead, Bool.and_eq_true] at hlex
  obtain ⟨⟨hr0, hf0⟩, hlex⟩ := hlex
  have inv0 : HeadInv .any (addE (n + 1) (o :: rest)).toArray (n + 1) (Array.replicate (rest.length + 1) false) :=
    ⟨by simp [hlen'], fun j oj _ hl => (by rw [getD_replicate_false] at hl; cases hl), fun t _ ht => getD_in (by rw [hlen'] at ht; simpa using ht) (getD_replicate_false _ _)⟩
  have htl : (rest.take n).length = n := by simp; omega
  have inv1 := inv0.set (by simpa using hr0) (by omega)
  have h1 := addE_still (n := n + 1) (fun a' h' => addE_tail a' _ h') _ _ hs
  have H := wpAnyL_lex (md := .any) (g := rest.length + 1 - (n + 1)) hsel hsk hc (by rw [hlen']; exact hn) (rest.take n) 1 _ _ (fun j hj => by
    have hj' : j < n := by rw [htl] at hj; exact hj
    have h2 := addE_at (n := n + 1) (l := o :: rest) (1 + j)
    rw [h2]
    simp [Nat.add_comm 1 j, hj', show ¬ n = j by omega]) (by rw [htl]; omega) inv1 (by rw [htl]; exact hlex) h1
  have H2 := wpAny_of_head (Q' := Q) (g := rest.length + 1 - (n + 1)) (fun listed a' hL => by
    have hdl : ((addE (n + 1) (o :: rest)).drop (n + 1)).length = rest.length + 1 - (n + 1) := by simp [addE]
    have h3 := wpAny_of_seq (md := .any) (Q' := Q) ((addE (n + 1) (o :: rest)).drop (n + 1)) (n + 1) listed a' w.drew (fun j => by simp [List.getElem?_drop]) (by rw [hdl]; exact hL.1) hL.2
    rwa [hdl] at h3) _ _ _ H
  rw [htl] at H2
  refine wp_region_any hm ?_
  have hsz : ((o :: rest).toArray).size = n + (rest.length + 1 - (n + 1)) + 1 := by rw [hlen]; omega
  rw [hsz]
  have hrep : Array.replicate (n + (rest.length + 1 - (n + 1)) + 1) false = Array.replicate (rest.length + 1) false := by congr 1; omega
  rw [hrep]
  refine wpAny_take (i := 0) (oi := o) (v := a.eval x) (by simp) hns hfr hrd (fun _ _ _ h => ?_) (.inl ⟨by rw [← ho]; rfl, fun w' => by rw [← ho]; rfl⟩) ?_
  · exact hQ _ _ _ _ h
  · exact addE_any _ _ _ _ (by simp) H2
end
theorem res_row {P : Program} {fn : Func} {p : Tmp} {ty : TypeId} (h : fn.results = #[.cell p ty]) {n : Nat} {d : TypeDesc} (hu : P.underlying ty = some d) (hd : d.isRow = true) (hi : (P.info? ty).map (·.size) = some n)
    (tmps : Array Value) (w : World) (b : Nat) (hp : tmps.getD p undef = .pointer (some ⟨b, 0, none⟩)) (hr : (w.rowOf b).size = n) :
    (results fn tmps).run P w = .ok (.agg (w.rowOf b)) w := by
  have hp' : tmps[p]?.getD undef = .pointer (some ⟨b, 0, none⟩) := by simpa using hp
  simp [results, h, hp', asAddr, lv_row0 hu hd hi w b hr]
end Go.Proofs.Ytojkcbhmhfjioaa
