/-
  Slices of pairs of keys: read, built, and one's own by append; own work.
-/
import Derived.Test.YtgclegdgngldoaaDoorLin
import Derived.Test.YtgclegdgngldoaaDoorStep
import Derived.Test.YtgclegdgngldoaaDoorApp
set_option linter.unusedSimpArgs false
set_option linter.unusedVariables false
namespace Go.Proofs.YtgclegdgngldoaaDoor
open Go.RowKit
theorem inf_pr2 : (Tryd.prog.info? 76).map (·.size) = some 64 := by kernel_rfl
section
variable (ρ : Operand → Value) (dst : Option Tmp) (ty : TypeId) (pos : String) (after : Array Edge) (guard : Option (Nat × Bool)) (w : World)
@[go_sem ↓] theorem rl_pr2 (x : Operand) : (execOp ρ { dst, op := .load 76 x, type := ty, pos, after, guard }).run Tryd.prog w = exLoad Tryd.prog 76 (ρ x) w := x_load ..
@[go_sem ↓] theorem rs_pr2 (x y : Operand) : (execOp ρ { dst, op := .store 76 x y, type := ty, pos, after, guard }).run Tryd.prog w = exStore Tryd.prog 76 (ρ x) (ρ y) w := x_store ..
@[go_sem ↓] theorem ra_pr2 : (execOp ρ { dst, op := .alloc 76, type := ty, pos, after, guard }).run Tryd.prog w = .ok (.value (.pointer (some ⟨w.heap.size, 0, none⟩))) (w.alloc (.cells (cs U8 (zs 64)) 76)) :=
  (x_alloc ..).trans (x_alloc0 (v := .agg (cs U8 (zs 64))) _ (by kernel_rfl))
@[go_sem] theorem xl_pr2 (b : Nat) (h : (w.rowOf b).size = 64) : exLoad Tryd.prog 76 (.pointer (some ⟨b, 0, none⟩)) w = .ok (.value (.agg (w.rowOf b))) w := x_load0 _ Tryd.underlying76 rfl inf_pr2 b h
@[go_sem] theorem xlm_pr2 (b o : Nat) (ho : 0 < o) (h : o + 64 ≤ (w.rowOf b).size) : exLoad Tryd.prog 76 (.pointer (some ⟨b, o, none⟩)) w = .ok (.value (.agg ((w.rowOf b).extract o (o + 64)))) w := x_loadm _ Tryd.underlying76 rfl inf_pr2 b o h
@[go_sem] theorem xs_pr2 (b : Nat) (c : Array Value) (hl : c.size = 64) (h1 : ones c = true) (h : (w.rowOf b).size = 64) (hf : w.free b = true) : exStore Tryd.prog 76 (.pointer (some ⟨b, 0, none⟩)) (.agg c) w = .ok .skip (w.setRow b c) :=
  x_store0 _ inf_pr2 b c hl h hf (ones_all h1)
@[go_sem] theorem xsm_pr2 (b o : Nat) (ho : 0 < o) (c : Array Value) (hl : c.size = 64) (h1 : ones c = true) (h : o + 64 ≤ (w.rowOf b).size) (hf : w.free b = true) : exStore Tryd.prog 76 (.pointer (some ⟨b, o, none⟩)) (.agg c) w = .ok .skip (w.setSeg b o c) :=
  x_storem _ inf_pr2 b o c hl h hf (ones_all h1)
end
/-- at a step: a store, and a variable made -/
theorem wps_pr2 {a : Act} {w : World} {K : Act → World → Prop} {Q : Exit → Act → World → Prop} {o : Oper} (p x : Operand) (ho : o.op = .store 76 p x) (b : Nat) (c : Array Value) (hp : a.eval p = .pointer (some ⟨b, 0, none⟩)) (hx : a.eval x = .agg c)
    (hl : c.size = 64) (h1 : ones c = true) (h : (w.rowOf b).size = 64) (hf : w.free b = true) (hK : K (a.put o.dst undef) (w.setRow b c)) : o.wp Tryd.prog a w K Q := by
  obtain ⟨dst, op, ty, pos, after, guard⟩ := o
  subst ho
  unfold Oper.wp
  rw [rs_pr2, hp, hx, xs_pr2 _ _ _ hl h1 h hf]
  simp only [Oper.upon]
  exact hK
theorem wpa_pr2 {a : Act} {w : World} {K : Act → World → Prop} {Q : Exit → Act → World → Prop} {o : Oper} (ho : o.op = .alloc 76)
    (hK : K (a.put o.dst (.pointer (some ⟨w.heap.size, 0, none⟩))) (w.alloc (.cells (cs U8 (zs 64)) 76))) : o.wp Tryd.prog a w K Q := by
  obtain ⟨dst, op, ty, pos, after, guard⟩ := o
  subst ho
  unfold Oper.wp
  rw [ra_pr2]
  simp only [Oper.upon]
  exact hK

/-- the value v is a slice of the keys L -/
def PS (w : World) (v : Value) (L : List (List (BitVec 8))) : Prop :=
  ∃ a cap, v = .slice a L.length cap ∧ L.length ≤ cap ∧ L.length ≤ maxLen ∧ (∀ i, i < L.length → (L.getD i []).length = 64) ∧
    (0 < L.length → ∃ b o, a = some ⟨b, o, none⟩ ∧ ∀ i j, i < L.length → j < 64 → w.cell? ⟨b, o + i * 64 + j, none⟩ = some (U8 ((L.getD i []).getD j 0)))
theorem ext_cells2 {r : Array Value} {off : Nat} {k : List (BitVec 8)} (hk : 0 < k.length) (h : ∀ j, j < k.length → r[off + j]? = some (U8 (k.getD j 0))) : off + k.length ≤ r.size ∧ r.extract off (off + k.length) = cs U8 k := by
  have h1 : off + k.length ≤ r.size := by
    have := (Array.getElem?_eq_some_iff.1 (h (k.length - 1) (by omega))).1
    omega
  refine ⟨h1, ?_⟩
  apply Array.ext
  · simp; omega
  · intro i i1 i2
    have i3 : i < k.length := by simp at i1; omega
    have h2 := h i i3
    have h4 := cs_get_lt (f := U8) (l := k) (i := i) i3
    rw [(Array.getElem?_eq_some_iff.1 h4).2, Array.getElem_extract, (Array.getElem?_eq_some_iff.1 h2).2, List.getD_eq_getElem?_getD, List.getElem?_eq_getElem i3]
    rfl
section
variable {w w' : World} {L : List (List (BitVec 8))} {b o n cap : Nat} {k : List (BitVec 8)}
/-- the cells of a key of the slice -/
def PC (w : World) (b o : Nat) (k : List (BitVec 8)) : Prop := k.length = 64 ∧ ∀ j, j < 64 → w.cell? ⟨b, o + j, none⟩ = some (U8 (k.getD j 0))
theorem PC.below (h : PC w b o k) (hb : Below w.heap.size w w') : PC w' b o k := by
  refine ⟨h.1, fun j hj => ?_⟩
  rw [← h.2 j hj]
  have h0 := h.2 j hj
  rw [cell_rowOf] at h0
  exact World.cell?_of_block (a := ⟨b, o + j, none⟩) (hb.block b (row_lt (Array.getElem?_eq_some_iff.1 h0).1))
theorem PC.load (h : PC w b o k) : exLoad Tryd.prog 76 (.pointer (some ⟨b, o, none⟩)) w = .ok (.value (.agg (cs U8 k))) w := by
  obtain ⟨h1, h2⟩ := h
  have e := ext_cells2 (r := w.rowOf b) (off := o) (k := k) (by omega) (fun j hj => by rw [← cell_rowOf]; exact h2 j (by omega))
  rw [h1] at e
  rw [x_loadm w Tryd.underlying76 rfl inf_pr2 b o e.1, e.2]
end
theorem PS.key {w : World} {a : Option Addr} {n cap : Nat} {L : List (List (BitVec 8))} (h : PS w (.slice a n cap) L) (h0 : 0 < L.length) : ∃ b o, a = some ⟨b, o, none⟩ ∧ ∀ i, i < L.length → PC w b (o + i * 64) (L.getD i []) := by
  obtain ⟨a', cap', e, h1, h2, h3, h4⟩ := h
  injection e with e1 e2 e3
  subst e1
  obtain ⟨b, o, e, hc⟩ := h4 h0
  exact ⟨b, o, e, fun i hi => ⟨h3 i hi, fun j hj => hc i j hi hj⟩⟩
theorem PS.below {w w' : World} {v : Value} {L : List (List (BitVec 8))} (h : PS w v L) (hb : Below w.heap.size w w') : PS w' v L := by
  have h' := h
  obtain ⟨a, cap, rfl, h1, h2, h3, h4⟩ := h
  refine ⟨a, cap, rfl, h1, h2, h3, fun h0 => ?_⟩
  obtain ⟨b, o, e, hk⟩ := h'.key h0
  exact ⟨b, o, e, fun i j hi hj => ((hk i hi).below hb).2 j hj⟩
/-- a slice in a row of its own -/
theorem PS.of_row {w : World} {b : Nat} (L : List (List (BitVec 8))) (n : Nat) (hn : L.length = n) (hm : n ≤ maxLen) (h64 : ∀ i, i < L.length → (L.getD i []).length = 64) (c : List (BitVec 8)) (hc : ∀ i j, i < L.length → j < 64 → c[i * 64 + j]? = some ((L.getD i []).getD j 0)) (h : w.rowOf b = cs U8 c) : PS w (.slice (some ⟨b, 0, none⟩) n n) L := by
  subst hn
  refine ⟨_, _, rfl, Nat.le_refl _, hm, h64, fun h0 => ⟨b, 0, rfl, fun i j hi hj => ?_⟩⟩
  rw [cell_rowOf, h, Nat.zero_add]
  have h1 := hc i j hi hj
  have h2 := (List.getElem?_eq_some_iff.1 h1)
  rw [cs_get_lt (f := U8) (l := c) h2.1, h2.2]
theorem pair_info : ∃ ie z, Tryd.prog.info? 76 = some ie ∧ ie.zero = some z ∧ ie.size = 64 ∧ z.cells.size = 64 := by
  have h : (Tryd.prog.info? 76).map (fun i => (i.zero, i.size)) = some (some (.agg (cs U8 (zs 64))), 64) := by kernel_rfl
  cases hi : Tryd.prog.info? 76 with
  | none => rw [hi] at h; cases h
  | some ie =>
    rw [hi] at h
    injection h with h
    injection h with h1 h2
    exact ⟨ie, _, rfl, h1, h2, by simp [Value.cells]⟩
section
variable {ops : Array Oper} {Q : Exit → Act → World → Prop} {i : Nat} {t : Tr} {a : Act} {o : Oper} {S : Nat → Prop} {w0 w : World} {H : List (Nat × Array Value)}
theorem wpT_pairs (dst n : Nat) (ps : Array (Nat × Operand)) (M : Mm S w0 H w) (c : Array Value) (hn : n = ps.size) (hn0 : 0 < n) (hn1 : n ≤ 1000) (hdst : o.dst = some dst) (ho : ops[i]? = some o) (hop : o.op = .buildSlice 77 n ps)
    (hc : Cont (fun i => some (i * 64, 64)) 0 (ps.map fun (i, x) => (i, a.eval x)).toList) (hs : (catP (ps.map fun (i, x) => (i, a.eval x)).toList).size = n * 64) (hcc : catP (ps.map fun (i, x) => (i, a.eval x)).toList = c) (hw : Region.wanted o (yielded ops a.tmps) = true)
    (h : ∀ b w', Mm S w0 ((b, c) :: H) w' → Below w.heap.size w w' → w.heap.size ≤ b → wpT Tryd.prog ops Q t (a.put (some dst) (.slice (some ⟨b, 0, none⟩) n n)) w') : wpT Tryd.prog ops Q (.op i t) a w := by
  obtain ⟨ie, z, h1, h2, h3, h4⟩ := pair_info
  refine wpT_bsl dst M c ie z Tryd.underlying77 h1 h2 (by rw [h3]; omega) (by rw [h3]; omega) (by decide) hdst ho hop ?_ hw h
  rw [h3]
  have := fill_cat (fun i => some (i * 64, 64)) (ps.map fun (i, x) => (i, a.eval x)).toList #[] ((Array.range (n * 64)).map (z.cells[· % z.cells.size]!)) hc (by rw [hs]; simp)
  rw [Array.empty_append, Array.empty_append] at this
  rw [this, hcc]
theorem wpT_pairs1 (dst : Nat) (x : Operand) (M : Mm S w0 H w) (k : List (BitVec 8)) (hk : k.length = 64) (hdst : o.dst = some dst) (ho : ops[i]? = some o) (hop : o.op = .buildSlice 77 1 #[(0, x)])
    (hx : a.eval x = .agg (cs U8 k)) (hw : Region.wanted o (yielded ops a.tmps) = true)
    (h : ∀ b w', Mm S w0 ((b, cs U8 k) :: H) w' → Below w.heap.size w w' → w.heap.size ≤ b → wpT Tryd.prog ops Q t (a.put (some dst) (.slice (some ⟨b, 0, none⟩) 1 1)) w') : wpT Tryd.prog ops Q (.op i t) a w := by
  have e : (Array.map (fun (x : Nat × Operand) => (x.1, a.eval x.2)) #[(0, x)]).toList = [(0, .agg (cs U8 k))] := by simp [hx]
  refine wpT_pairs dst 1 #[(0, x)] M _ rfl (by decide) (by decide) hdst ho hop ?_ ?_ ?_ hw h
  · rw [e]; simp [Cont, Value.cells, hk]
  · rw [e]; simp [catP, Value.cells, hk]
  · rw [e]; simp [catP, Value.cells]
theorem wpT_pairs3 (dst : Nat) (x y z : Operand) (M : Mm S w0 H w) (k l m : List (BitVec 8)) (hk : k.length = 64) (hl : l.length = 64) (hm : m.length = 64) (hdst : o.dst = some dst) (ho : ops[i]? = some o) (hop : o.op = .buildSlice 77 3 #[(0, x), (1, y), (2, z)])
    (hx : a.eval x = .agg (cs U8 k)) (hy : a.eval y = .agg (cs U8 l)) (hz : a.eval z = .agg (cs U8 m)) (hw : Region.wanted o (yielded ops a.tmps) = true)
    (h : ∀ b w', Mm S w0 ((b, cs U8 (k ++ (l ++ m))) :: H) w' → Below w.heap.size w w' → w.heap.size ≤ b → wpT Tryd.prog ops Q t (a.put (some dst) (.slice (some ⟨b, 0, none⟩) 3 3)) w') : wpT Tryd.prog ops Q (.op i t) a w := by
  have e : (Array.map (fun (x : Nat × Operand) => (x.1, a.eval x.2)) #[(0, x), (1, y), (2, z)]).toList = [(0, .agg (cs U8 k)), (1, .agg (cs U8 l)), (2, .agg (cs U8 m))] := by simp [hx, hy, hz]
  refine wpT_pairs dst 3 #[(0, x), (1, y), (2, z)] M _ rfl (by decide) (by decide) hdst ho hop ?_ ?_ ?_ hw h
  · rw [e]; simp [Cont, Value.cells, hk, hl, hm]
  · rw [e]; simp [catP, Value.cells, hk, hl, hm]
  · rw [e]; simp [catP, Value.cells, cs_append]
end
section
variable {ops : Array Oper} {B N : Nat} {qs fs : List Nat} {K' : Act → World → Prop} {i : Nat} {o : Oper} {r : List Oper} {a : Act} {acc : List (Nat × Array Value × TypeId)} {I : World → Prop}
theorem SeqA.ldp {p : Operand} (b off : Nat) (k : List (BitVec 8)) (ho : o.op = .load 76 p) (hp : a.eval p = .pointer (some ⟨b, off, none⟩)) (hI : ∀ w, I w → PC w b off k) (hw : Region.wanted o (yielded ops a.tmps) = true)
    (h : SeqA Tryd.prog ops B N qs fs K' (i + 1) r (a.put o.dst (.agg (cs U8 k))) acc I) (hf : fs.contains i = false := by rfl) : SeqA Tryd.prog ops B N qs fs K' i (o :: r) a acc I :=
  .read (.agg (cs U8 k)) (fun w hiw => by
    obtain ⟨dst, op, ty, pos, after, guard⟩ := o
    subst ho
    rw [x_load, hp, (hI w hiw).load]) (by unfold isNewOp; rw [ho]) hw h hf
end

/-! one's own -/
theorem Mm.grownp {S : Nat → Prop} {w0 w w' : World} {H : List (Nat × Array Value)} {r : Option Nat} (M : Mm S w0 H w) (hg : w.grownBy w' r) (hr : ∀ g, r = some g → (S g ∨ w0.heap.size ≤ g) ∧ ∀ p ∈ H, p.1 ≠ g) : Mm S w0 H w' := by
  refine ⟨⟨hg.os.trans M.fr.os, hg.tape.trans M.fr.tape, hg.output.trans M.fr.output, Nat.le_trans M.fr.size hg.size, fun k hk hS => ?_⟩, fun p hp => ?_, M.nd⟩
  · rw [hg.block k (Nat.lt_of_lt_of_le hk M.fr.size) (fun e => ?_)]
    · exact M.fr.block k hk hS
    · rcases (hr k e.symm).1 with h | h
      · exact hS h
      · omega
  · obtain ⟨h1, T, hT, hb⟩ := M.own p hp
    refine ⟨h1, T, hT, ?_⟩
    rw [hg.block p.1 (Array.getElem?_eq_some_iff.1 hb).1 (fun e => (hr p.1 e.symm).2 p hp rfl)]
    exact hb
def pfl (L : List (List (BitVec 8))) : List Value := L.flatMap (fun k => k.map U8)
/-- a slice of keys of the call's own -/
def PO (w : World) (base : Nat) (v : Value) (L : List (List (BitVec 8))) : Prop := w.ownsRow base 76 64 v L.length (pfl L) ∧ ∀ k ∈ L, k.length = 64
theorem pfl_len {L : List (List (BitVec 8))} (h : ∀ k ∈ L, k.length = 64) : (pfl L).length = L.length * 64 := by
  induction L with
  | nil => rfl
  | cons k L ih =>
    have := ih (fun x hx => h x (List.mem_cons_of_mem _ hx))
    have h1 := h k (List.mem_cons_self ..)
    unfold pfl at *
    simp only [List.flatMap_cons, List.length_append, List.length_map, List.length_cons, this, h1]
    omega
theorem pfl_get {L : List (List (BitVec 8))} (h : ∀ k ∈ L, k.length = 64) : ∀ i j, i < L.length → j < 64 → (pfl L)[i * 64 + j]? = some (U8 ((L.getD i []).getD j 0)) := by
  induction L with
  | nil => intro i j hi; simp at hi
  | cons k L ih =>
    intro i j hi hj
    have h1 := h k (List.mem_cons_self ..)
    have e : pfl (k :: L) = k.map U8 ++ pfl L := rfl
    rw [e]
    cases i with
    | zero =>
      rw [List.getElem?_append_left (by simp; omega)]
      simp [List.getD_eq_getElem?_getD, List.getElem?_eq_getElem (show j < k.length by omega)]
    | succ i =>
      rw [List.getElem?_append_right (by simp; omega)]
      simp only [List.length_map, h1]
      rw [show (i + 1) * 64 + j - 64 = i * 64 + j by omega, ih (fun x hx => h x (List.mem_cons_of_mem _ hx)) i j (by simpa using hi) hj]
      rfl
theorem PO.nil (w : World) (base : Nat) : PO w base (.slice none 0 0) [] := ⟨World.ownsRow_nil w base _ _, fun _ h => by cases h⟩
theorem PO.ks {w : World} {base : Nat} {v : Value} {L : List (List (BitVec 8))} (h : PO w base v L) : PS w v L := by
  have hs : SV w v L.length (pfl L) := SV.of_own h.1
  have hg := pfl_get h.2
  have hl := pfl_len h.2
  have hm := hs.len
  obtain ⟨a, cap, rfl, h1, h2, h3⟩ := hs
  refine ⟨a, cap, rfl, h1, hm, fun i hi => ?_, fun h0 => ?_⟩
  · have : L.getD i [] = L[i] := by rw [List.getD_eq_getElem?_getD, List.getElem?_eq_getElem hi]; rfl
    rw [this]; exact h.2 _ (List.getElem_mem hi)
  · obtain ⟨b, o, e, hc⟩ := h3 (by intro e; rw [e] at hl; simp at hl; omega)
    refine ⟨b, o, e, fun i j hi hj => ?_⟩
    have := hc (i * 64 + j) (by rw [hl]; have : (i + 1) * 64 ≤ L.length * 64 := Nat.mul_le_mul_right _ hi; omega)
    rw [Nat.add_assoc, this]
    exact hg i j hi hj
theorem PO.shape {w : World} {base : Nat} {v : Value} {L : List (List (BitVec 8))} (h : PO w base v L) (n : Nat) (hn : L.length = n) : ∃ a cap, v = .slice a n cap := by
  obtain ⟨a, cap, e, _⟩ := h.ks
  exact ⟨a, cap, by rw [← hn]; exact e⟩
theorem PO.kept {w w' : World} {base : Nat} {v : Value} {L : List (List (BitVec 8))} {r : Option Nat} (h : PO w base v L) (hg : w.grownBy w' r) (hne : v.ownBlock = none ∨ v.ownBlock ≠ r) : PO w' base v L := ⟨World.ownsRow.kept h.1 hg hne, h.2⟩
/-- what it needs is its own block alone -/
theorem PO.blk {w w' : World} {base : Nat} {v : Value} {L : List (List (BitVec 8))} (h : PO w base v L) (hg : ∀ g, v.ownBlock = some g → w'.heap[g]? = w.heap[g]?) : PO w' base v L := by
  refine ⟨⟨h.1.1, ?_⟩, h.2⟩
  rcases h.1.2 with e | ⟨g, cap, cur, rfl, h1, h2, h3⟩
  · exact .inl e
  · exact .inr ⟨g, cap, cur, rfl, h1, (hg g rfl).trans h2, h3⟩
theorem PO.at_ {w : World} {base : Nat} {v : Value} {L : List (List (BitVec 8))} (h : PO w base v L) : ∀ g, v.ownBlock = some g → base ≤ g ∧ g < w.heap.size := by
  intro g hg
  rcases h.1.2 with ⟨rfl, _⟩ | ⟨g', cap, cur, rfl, h1, h2, h3⟩
  · simp [Value.ownBlock] at hg
  · simp [Value.ownBlock] at hg
    subst hg
    exact ⟨h1, (Array.getElem?_eq_some_iff.1 h2).1⟩
theorem PO.fr {S : Nat → Prop} {w w' : World} {base : Nat} {v : Value} {L : List (List (BitVec 8))} (h : PO w base v L) (hf : Fr S w w') (hS : ∀ g, v.ownBlock = some g → ¬ S g) : PO w' base v L :=
  h.blk fun g hg => hf.block g (h.at_ g hg).2 (hS g hg)
theorem PO.below {w w' : World} {base : Nat} {v : Value} {L : List (List (BitVec 8))} (h : PO w base v L) (hb : Below w.heap.size w w') : PO w' base v L :=
  h.blk fun g hg => hb.block g (h.at_ g hg).2
theorem SV.pair {w : World} {b : Nat} {k : List (BitVec 8)} (h : w.rowOf b = cs U8 k) : SV w (.slice (some ⟨b, 0, none⟩) 1 1) 1 (k.map U8) := by
  refine ⟨_, _, rfl, Nat.le_refl _, by unfold maxLen; omega, fun _ => ⟨b, 0, rfl, fun i hi => ?_⟩⟩
  rw [cell_rowOf, h, Nat.zero_add]
  simp [cs]
theorem pair_inf3 : (Tryd.prog.info? 76).map (fun i => (i.zero, i.size, i.bytes)) = some (some (.agg (cs U8 (zs 64))), 64, 64) := by kernel_rfl
section
variable {ops : Array Oper} {Q : Exit → Act → World → Prop} {i : Nat} {t : Tr} {a : Act} {o : Oper} {S : Nat → Prop} {w0 w : World} {H : List (Nat × Array Value)}
/-- append of one key -/
theorem wpT_app (dst : Nat) (s x : Operand) (M : Mm S w0 H w) (base : Nat) (v u : Value) (L : List (List (BitVec 8))) (k : List (BitVec 8)) (hdst : o.dst = some dst) (ho : ops[i]? = some o)
    (hop : o.op = .call { callee := .builtin .append, args := #[s, x], argTypes := #[77, 77] }) (hg : o.guard = none) (hs : a.eval s = v) (hown : PO w base v L) (hx : a.eval x = u) (hk : k.length = 64) (hsv : SV w u 1 (k.map U8))
    (hlen : L.length ≤ 1000000) (hbase : base ≤ w.heap.size) (hb0 : w0.heap.size ≤ base) (hsep : ∀ g, v.ownBlock = some g → ∀ p ∈ H, p.1 ≠ g)
    (h : ∀ v' w', PO w' base v' (L ++ [k]) → Mm S w0 H w' → (v'.ownBlock = v.ownBlock ∨ v'.ownBlock = some w.heap.size) → w.heap.size ≤ w'.heap.size → wpT Tryd.prog ops Q t (a.put (some dst) v') w') : wpT Tryd.prog ops Q (.op i t) a w := by
  refine wpT_step ho hg (fun K hK => ?_)
  refine wp_apd s x 77 hop base 76 (.agg (cs U8 (zs 64))) 64 64 Tryd.underlying77 pair_inf3 (by simp [Value.cells]) (by decide) v u L.length 1 (pfl L) (k.map U8) hs hown.1 hx hsv (by simp [hk]) (by simp; intro _ _; rfl) (by unfold maxLen; omega) (by omega) hbase ?_
  intro v' w' h1 h2 h3
  rw [hdst]
  refine hK _ _ (h v' w' ⟨by simpa [pfl] using h1, fun x hx => ?_⟩ (M.grownp h2 (fun g hg => ⟨.inr (Nat.le_trans hb0 (hown.at_ g hg).1), hsep g hg⟩)) h3 h2.size)
  rcases List.mem_append.1 hx with e | e
  · exact hown.2 x e
  · simp at e; subst e; exact hk
end
end Go.Proofs.YtgclegdgngldoaaDoor
