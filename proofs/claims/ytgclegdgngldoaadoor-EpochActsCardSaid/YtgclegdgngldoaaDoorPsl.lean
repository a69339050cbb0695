/-
  Slices of pairs of keys: read, built, and one's own by append; own work.
-/
import Derived.Test.YtgclegdgngldoaaDoorLin
import Derived.Test.YtgclegdgngldoaaDoorStep
import Derived.Test.YtgclegdgngldoaaDoorApp
set_option linter.unusedSimpArgs false
set_option linter.unusedVariables false
namespace Go.Proofs.YtgclegdgngldoaaDoor
open Go.RowKit
theorem inf_pr2 : (Tryd.prog.info? 76).map (·.size) = some 64 := by kernel_rfl
section
variable (ρ : Operand → Value) (dst : Option Tmp) (ty : TypeId) (pos : String) (after : Array Edge) (guard : Option (Nat × Bool)) (w : World)
@[go_sem ↓] theorem rl_pr2 (x : Operand) : (execOp ρ { dst, op := .load 76 x, type := ty, pos, after, guard }).run Tryd.prog w = exLoad Tryd.prog 76 (ρ x) w := x_load ..
@[go_sem ↓] theorem rs_pr2 (x y : Operand) : (execOp ρ { dst, op := .store 76 x y, type := ty, pos, after, guard }).run Tryd.prog w = exStore Tryd.prog 76 (ρ x) (ρ y) w := x_store ..
@[go_sem ↓] theorem ra_pr2 : (execOp ρ { dst, op := .alloc 76, type := ty, pos, after, guard }).run Tryd.prog w = .ok (.value (.pointer (some ⟨w.heap.size, 0, none⟩))) (w.alloc (.cells (cs U8 (zs 64)) 76)) :=
  (x_alloc ..).trans (x_alloc0 (v := .agg (cs U8 (zs 64))) _ (by kernel_rfl))
@[go_sem] theorem xl_pr2 (b : Nat) (h : (w.rowOf b).size = 64) : exLoad Tryd.prog 76 (.pointer (some ⟨b, 0, none⟩)) w = .ok (.value (.agg (w.rowOf b))) w := x_load0 _ Tryd.underlying76 rfl inf_pr2 b h
@[go_sem] theorem xlm_pr2 (b o : Nat) (ho : 0 < o) (h : o + 64 ≤ (w.rowOf b).size) : exLoad Tryd.prog 76 (.pointer (some ⟨b, o, none⟩)) w = .ok (.value (.agg ((w.rowOf b).extract o (o + 64)))) w := x_loadm _ Tryd.underlying76 rfl inf_pr2 b o h
@[go_sem] theorem xs_pr2 (b : Nat) (c : Array Value) (hl : c.size = 64) (h1 : ones c = true) (h : (w.rowOf b).size = 64) (hf : w.free b = true) : exStore Tryd.prog 76 (.pointer (some ⟨b, 0, none⟩)) (.agg c) w = .ok .skip (w.setRow b c) :=
  x_store0 _ inf_pr2 b c hl h hf (ones_all h1)
@[go_sem] theorem xsm_pr2 (b o : Nat) (ho : 0 < o) (c : Array Value) (hl : c.size = 64) (h1 : ones c = true) (h : o + 64 ≤ (w.rowOf b).size) (hf : w.free b = true) : exStore Tryd.prog 76 (.pointer (some ⟨b, o, none⟩)) (.agg c) w = .ok .skip (w.setSeg b o c) :=
  x_storem _ inf_pr2 b o c hl h hf (ones_all h1)
end
/-- the value v is a slice of the keys L -/
def PS (w : World) (v : Value) (L : List (List (BitVec 8))) : Prop :=
  ∃ a cap, v = .slice a L.length cap ∧ L.length ≤ cap ∧ L.length ≤ maxLen ∧ (∀ i, i < L.length → (L.getD i []).length = 64) ∧
    (0 < L.length → ∃ b o, a = some ⟨b, o, none⟩ ∧ ∀ i j, i < L.length → j < 64 → w.cell? ⟨b, o + i * 64 + j, none⟩ = some (U8 ((L.getD i []).getD j 0)))
theorem ext_cells2 {r : Array Value} {off : Nat} {k : List (BitVec 8)} (hk : 0 < k.length) (h : ∀ j, j < k.length → r[off + j]? = some (U8 (k.getD j 0))) : off + k.length ≤ r.size ∧ r.extract off (off + k.length) = cs U8 k := by
  have h1 : off + k.length ≤ r.size := by
    have := (Array.getElem?_eq_some_iff.1 (h (k.length - 1) (by omega))).1
    omega
  refine ⟨h1, ?_⟩
  apply Array.ext
  · simp; omega
  · intro i i1 i2
    have i3 : i < k.length := by simp at i1; omega
    have h2 := h i i3
    have h4 := cs_get_lt (f := U8) (l := k) (i := i) i3
    rw [(Array.getElem?_eq_some_iff.1 h4).2, Array.getElem_extract, (Array.getElem?_eq_some_iff.1 h2).2, List.getD_eq_getElem?_getD, List.getElem?_eq_getElem i3]
    rfl
section
variable {w w' : World} {L : List (List (BitVec 8))} {b o n cap : Nat} {k : List (BitVec 8)}
/-- the cells of a key of the slice -/
def PC (w : World) (b o : Nat) (k : List (BitVec 8)) : Prop := k.length = 64 ∧ ∀ j, j < 64 → w.cell? ⟨b, o + j, none⟩ = some (U8 (k.getD j 0))
theorem PC.below (h : PC w b o k) (hb : Below w.heap.size w w') : PC w' b o k := by
  refine ⟨h.1, fun j hj => ?_⟩
  rw [← h.2 j hj]
  have h0 := h.2 j hj
  rw [cell_rowOf] at h0
  exact World.cell?_of_block (a := ⟨b, o + j, none⟩) (hb.block b (row_lt (Array.getElem?_eq_some_iff.1 h0).1))
theorem PC.load (h : PC w b o k) : exLoad Tryd.prog 76 (.pointer (some ⟨b, o, none⟩)) w = .ok (.value (.agg (cs U8 k))) w := by
  obtain ⟨h1, h2⟩ := h
  have e := ext_cells2 (r := w.rowOf b) (off := o) (k := k) (by omega) (fun j hj => by rw [← cell_rowOf]; exact h2 j (by omega))
  rw [h1] at e
  rw [x_loadm w Tryd.underlying76 rfl inf_pr2 b o e.1, e.2]
end
theorem PS.key {w : World} {a : Option Addr} {n cap : Nat} {L : List (List (BitVec 8))} (h : PS w (.slice a n cap) L) (h0 : 0 < L.length) : ∃ b o, a = some ⟨b, o, none⟩ ∧ ∀ i, i < L.length → PC w b (o + i * 64) (L.getD i []) := by
  obtain ⟨a', cap', e, h1, h2, h3, h4⟩ := h
  injection e with e1 e2 e3
  subst e1
  obtain ⟨b, o, e, hc⟩ := h4 h0
  exact ⟨b, o, e, fun i hi => ⟨h3 i hi, fun j hj => hc i j hi hj⟩⟩
theorem PS.below {w w' : World} {v : Value} {L : List (List (BitVec 8))} (h : PS w v L) (hb : Below w.heap.size w w') : PS w' v L := by
  have h' := h
  obtain ⟨a, cap, rfl, h1, h2, h3, h4⟩ := h
  refine ⟨a, cap, rfl, h1, h2, h3, fun h0 => ?_⟩
  obtain ⟨b, o, e, hk⟩ := h'.key h0
  exact ⟨b, o, e, fun i j hi hj => ((hk i hi).below hb).2 j hj⟩
section
variable {ops : Array Oper} {Q : Exit → Act → World → Prop} {i : Nat} {t : Tr} {a : Act} {o : Oper} {S : Nat → Prop} {w0 w : World} {H : List (Nat × Array Value)}
end
section
variable {ops : Array Oper} {B N : Nat} {qs fs : List Nat} {K' : Act → World → Prop} {i : Nat} {o : Oper} {r : List Oper} {a : Act} {acc : List (Nat × Array Value × TypeId)} {I : World → Prop}
end

def pfl (L : List (List (BitVec 8))) : List Value := L.flatMap (fun k => k.map U8)
/-- a slice of keys of the call's own -/
def PO (w : World) (base : Nat) (v : Value) (L : List (List (BitVec 8))) : Prop := w.ownsRow base 76 64 v L.length (pfl L) ∧ ∀ k ∈ L, k.length = 64
theorem pfl_len {L : List (List (BitVec 8))} (h : ∀ k ∈ L, k.length = 64) : (pfl L).length = L.length * 64 := by
  induction L with
  | nil => rfl
  | cons k L ih =>
    have := ih (fun x hx => h x (List.mem_cons_of_mem _ hx))
    have h1 := h k (List.mem_cons_self ..)
    unfold pfl at *
    simp only [List.flatMap_cons, List.length_append, List.length_map, List.length_cons, this, h1]
    omega
theorem pfl_get {L : List (List (BitVec 8))} (h : ∀ k ∈ L, k.length = 64) : ∀ i j, i < L.length → j < 64 → (pfl L)[i * 64 + j]? = some (U8 ((L.getD i []).getD j 0)) := by
  induction L with
  | nil => intro i j hi; simp at hi
  | cons k L ih =>
    intro i j hi hj
    have h1 := h k (List.mem_cons_self ..)
    have e : pfl (k :: L) = k.map U8 ++ pfl L := rfl
    rw [e]
    cases i with
    | zero =>
      rw [List.getElem?_append_left (by simp; omega)]
      simp [List.getD_eq_getElem?_getD, List.getElem?_eq_getElem (show j < k.length by omega)]
    | succ i =>
      rw [List.getElem?_append_right (by simp; omega)]
      simp only [List.length_map, h1]
      rw [show (i + 1) * 64 + j - 64 = i * 64 + j by omega, ih (fun x hx => h x (List.mem_cons_of_mem _ hx)) i j (by simpa using hi) hj]
      rfl
theorem PO.nil (w : World) (base : Nat) : PO w base (.slice none 0 0) [] := ⟨World.ownsRow_nil w base _ _, fun _ h => by cases h⟩
theorem PO.ks {w : World} {base : Nat} {v : Value} {L : List (List (BitVec 8))} (h : PO w base v L) : PS w v L := by
  have hs : SV w v L.length (pfl L) := SV.of_own h.1
  have hg := pfl_get h.2
  have hl := pfl_len h.2
  have hm := hs.len
  obtain ⟨a, cap, rfl, h1, h2, h3⟩ := hs
  refine ⟨a, cap, rfl, h1, hm, fun i hi => ?_, fun h0 => ?_⟩
  · have : L.getD i [] = L[i] := by rw [List.getD_eq_getElem?_getD, List.getElem?_eq_getElem hi]; rfl
    rw [this]; exact h.2 _ (List.getElem_mem hi)
  · obtain ⟨b, o, e, hc⟩ := h3 (by intro e; rw [e] at hl; simp at hl; omega)
    refine ⟨b, o, e, fun i j hi hj => ?_⟩
    have := hc (i * 64 + j) (by rw [hl]; have : (i + 1) * 64 ≤ L.length * 64 := Nat.mul_le_mul_right _ hi; omega)
    rw [Nat.add_assoc, this]
    exact hg i j hi hj
theorem PO.shape {w : World} {base : Nat} {v : Value} {L : List (List (BitVec 8))} (h : PO w base v L) (n : Nat) (hn : L.length = n) : ∃ a cap, v = .slice a n cap := by
  obtain ⟨a, cap, e, _⟩ := h.ks
  exact ⟨a, cap, by rw [← hn]; exact e⟩
theorem PO.kept {w w' : World} {base : Nat} {v : Value} {L : List (List (BitVec 8))} {r : Option Nat} (h : PO w base v L) (hg : w.grownBy w' r) (hne : v.ownBlock = none ∨ v.ownBlock ≠ r) : PO w' base v L := ⟨World.ownsRow.kept h.1 hg hne, h.2⟩
/-- what it needs is its own block alone -/
theorem PO.blk {w w' : World} {base : Nat} {v : Value} {L : List (List (BitVec 8))} (h : PO w base v L) (hg : ∀ g, v.ownBlock = some g → w'.heap[g]? = w.heap[g]?) : PO w' base v L := by
  refine ⟨⟨h.1.1, ?_⟩, h.2⟩
  rcases h.1.2 with e | ⟨g, cap, cur, rfl, h1, h2, h3⟩
  · exact .inl e
  · exact .inr ⟨g, cap, cur, rfl, h1, (hg g rfl).trans h2, h3⟩
theorem PO.at_ {w : World} {base : Nat} {v : Value} {L : List (List (BitVec 8))} (h : PO w base v L) : ∀ g, v.ownBlock = some g → base ≤ g ∧ g < w.heap.size := by
  intro g hg
  rcases h.1.2 with ⟨rfl, _⟩ | ⟨g', cap, cur, rfl, h1, h2, h3⟩
  · simp [Value.ownBlock] at hg
  · simp [Value.ownBlock] at hg
    subst hg
    exact ⟨h1, (Array.getElem?_eq_some_iff.1 h2).1⟩
theorem PO.fr {S : Nat → Prop} {w w' : World} {base : Nat} {v : Value} {L : List (List (BitVec 8))} (h : PO w base v L) (hf : Fr S w w') (hS : ∀ g, v.ownBlock = some g → ¬ S g) : PO w' base v L :=
  h.blk fun g hg => hf.block g (h.at_ g hg).2 (hS g hg)
theorem PO.below {w w' : World} {base : Nat} {v : Value} {L : List (List (BitVec 8))} (h : PO w base v L) (hb : Below w.heap.size w w') : PO w' base v L :=
  h.blk fun g hg => hb.block g (h.at_ g hg).2
section
variable {ops : Array Oper} {Q : Exit → Act → World → Prop} {i : Nat} {t : Tr} {a : Act} {o : Oper} {S : Nat → Prop} {w0 w : World} {H : List (Nat × Array Value)}
end
end Go.Proofs.YtgclegdgngldoaaDoor
