/-
  A region that does not draw, walked in the order of its list, the world known at each step; own work.
-/
import Derived.Test.YtgneclfnfnpmkaaSeq3
import Derived.Great.BuildSlice
set_option linter.unusedSimpArgs false
set_option linter.unusedVariables false
namespace Go.Proofs.Ytgneclfnfnpmkaa
open Go.RowKit
/-- the operations from k on, in their order -/
def lin : Nat → Nat → Tr
  | _, 0 => .done
  | k, g + 1 => .op k (lin (k + 1) g)
section
variable {P : Program} {Q : Exit → Act → World → Prop}
theorem wpList_lin {ops : Array Oper} : ∀ (g k : Nat) (a : Act) (w : World), k + g = ops.size → wpT P ops Q (lin k g) a w → wpList P ops Q (ops.toList.drop k) a w
  | 0, k, a, w, hk, h => by
    have : ops.toList.drop k = [] := List.drop_eq_nil_of_le (by simp; omega)
    rw [this]
    exact h
  | g + 1, k, a, w, hk, h => by
    have hlt : k < ops.size := by omega
    have ho : ops[k]? = some ops[k] := Array.getElem?_eq_getElem hlt
    have hkl : k < ops.toList.length := by simpa using hlt
    rw [List.drop_eq_getElem_cons hkl]
    have h1 : wpOp P ops Q k (wpT P ops Q (lin (k + 1) g)) a w := h
    unfold wpOp at h1
    rw [ho] at h1
    unfold wpList
    simp only [Array.getElem_toList]
    split
    · rename_i hw
      simp only [hw, if_true] at h1
      exact h1.imp (Oper.wp_mono fun a' w' h' => wpList_lin g (k + 1) a' w' (by omega) h') id
    · rename_i hw
      simp only [hw, if_false] at h1
      exact wpList_lin g (k + 1) _ _ (by omega) h1
theorem wp_region_lin {id : Nat} {l : List Oper} {a : Act} {w : World} (t : Tr) (ht : lin 0 l.length = t) (h : wpT P l.toArray Q t a w) : (Code.region id l.toArray false).wp P Q a w := by
  refine wp_region_lit ?_
  have := wpList_lin (P := P) (Q := Q) (ops := l.toArray) l.length 0 a w (by simp) (by rw [ht]; exact h)
  simpa using this
end
section
variable {P : Program} {ops : Array Oper} {Q : Exit → Act → World → Prop} {i : Nat} {t : Tr} {a : Act} {o : Oper} {S : Nat → Prop} {w0 w : World} {H : List (Nat × Array Value)}
/-- a whole row is read -/
theorem wpT_ld0 {T : TypeId} {p : Operand} {n : Nat} {d : TypeDesc} (dst : Nat) (hu : P.underlying T = some d) (hd : d.isRow = true) (hi : (P.info? T).map (·.size) = some n) (b : Nat) (C : Array Value) (hdst : o.dst = some dst) (ho : ops[i]? = some o) (hop : o.op = .load T p)
    (hp : a.eval p = .pointer (some ⟨b, 0, none⟩)) (hI : w.rowOf b = C) (hC : C.size = n) (hw : Region.wanted o (yielded ops a.tmps) = true)
    (h : wpT P ops Q t (a.put (some dst) (.agg C)) w) : wpT P ops Q (.op i t) a w :=
  wpT_val (w' := w) (v := .agg C) ho hw (by
    obtain ⟨dst, op, ty, pos, after, guard⟩ := o
    subst hop
    rw [x_load, hp, x_load0 w hu hd hi b (by rw [hI]; exact hC), hI]) (by rw [hdst]; exact h)
/-- an operation that yields a value and nothing else -/
theorem wpT_valp {v : Value} (dst : Nat) (hdst : o.dst = some dst) (ho : ops[i]? = some o) (hw : Region.wanted o (yielded ops a.tmps) = true) (hrun : (execOp a.eval o).run P w = .ok (.value v) w) (h : wpT P ops Q t (a.put (some dst) v) w) : wpT P ops Q (.op i t) a w :=
  wpT_val ho hw hrun (by rw [hdst]; exact h)
/-- a new variable -/
theorem wpT_new {T : TypeId} {z : Value} (dst : Nat) (M : Mm S w0 H w) (hz : ((P.info? T).bind (·.zero)) = some z) (hT : T ≠ 5) (hdst : o.dst = some dst) (ho : ops[i]? = some o) (hop : o.op = .alloc T) (hw : Region.wanted o (yielded ops a.tmps) = true)
    (h : ∀ b w', Mm S w0 ((b, z.cells) :: H) w' → wpT P ops Q t (a.put (some dst) (.pointer (some ⟨b, 0, none⟩))) w') : wpT P ops Q (.op i t) a w :=
  wpT_val (w' := w.alloc (.cells z.cells T)) (v := .pointer (some ⟨w.heap.size, 0, none⟩)) ho hw (by
    obtain ⟨dst, op, ty, pos, after, guard⟩ := o
    subst hop
    rw [x_alloc, x_alloc0 w hz]) (by rw [hdst]; exact h _ _ (M.alloc _ T hT))
/-- a call that makes no more than new memory -/
theorem wpT_callv (dst : Nat) (M : Mm S w0 H w) {f : FuncId} {args : Array Value} {v : Value} (hdst : o.dst = some dst) (ho : ops[i]? = some o) (hw : Region.wanted o (yielded ops a.tmps) = true) (hrun : (execOp a.eval o).run P w = .ok (.enter f args) w)
    (hc : Calls P f args w fun e w' => e = .returned v ∧ Below w.heap.size w w')
    (h : ∀ w', Mm S w0 H w' → wpT P ops Q t (a.put (some dst) v) w') : wpT P ops Q (.op i t) a w :=
  wpT_call ho hw hrun hc (fun e w' ⟨he, hb⟩ => ⟨v, he, by rw [hdst]; exact h w' (M.below hb)⟩)
/-- a slice that is built of parts -/
theorem wpT_bsl {T e : TypeId} {len : Nat} {ps : Array (Nat × Operand)} (dst : Nat) (M : Mm S w0 H w) (c : Array Value) (ie : TypeInfo) (z : Value) (hu : P.underlying T = some (.slice e)) (hie : P.info? e = some ie) (hz : ie.zero = some z)
    (hsmall : ¬ len * ie.size > 2 ^ 24) (hpos : ¬ len * ie.size = 0) (hT : e ≠ 5) (hdst : o.dst = some dst) (ho : ops[i]? = some o) (hop : o.op = .buildSlice T len ps)
    (hf : Instr.fill (fun i => some (i * ie.size, ie.size)) ((Array.range (len * ie.size)).map (z.cells[· % z.cells.size]!)) (ps.map fun (i, x) => (i, a.eval x)).toList = some c) (hw : Region.wanted o (yielded ops a.tmps) = true)
    (h : ∀ b w', Mm S w0 ((b, c) :: H) w' → wpT P ops Q t (a.put (some dst) (.slice (some ⟨b, 0, none⟩) len len)) w') : wpT P ops Q (.op i t) a w :=
  wpT_val (w' := w.alloc (.cells c e)) (v := .slice (some ⟨w.heap.size, 0, none⟩) len len) ho hw (by
    obtain ⟨dst, op, ty, pos, after, guard⟩ := o
    subst hop
    simp only [execOp, Sem.run_bind]
    rw [run_buildSlice w T e len _ c ie z hu hie hz hsmall hpos hf]; rfl) (by rw [hdst]; exact h _ _ (M.alloc _ e hT))
end
end Go.Proofs.Ytgneclfnfnpmkaa
