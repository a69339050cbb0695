/-
  Loads and stores of rows, at the steps of such a walk; own work.
-/
import Derived.Test.YtgneclfnfnpmkaaSeq2
set_option linter.unusedSimpArgs false
set_option linter.unusedVariables false
namespace Go.Proofs.Ytgneclfnfnpmkaa
open Go.RowKit

section
variable {P : Program} {ops : Array Oper} {B N : Nat} {qs fs : List Nat} {K : Act → World → Prop} {i : Nat} {o : Oper} {r : List Oper} {a : Act} {acc : List (Nat × Array Value × TypeId)} {I : World → Prop}
/-- a whole row is read -/
theorem SeqA.ld0 {T : TypeId} {p : Operand} {n : Nat} {d : TypeDesc} (hu : P.underlying T = some d) (hd : d.isRow = true) (hi : (P.info? T).map (·.size) = some n) (b : Nat) (C : Array Value) (ho : o.op = .load T p)
    (hp : a.eval p = .pointer (some ⟨b, 0, none⟩)) (hI : ∀ w, I w → w.rowOf b = C) (hC : C.size = n) (hw : Region.wanted o (yielded ops a.tmps) = true)
    (h : SeqA P ops B N qs fs K (i + 1) r (a.put o.dst (.agg C)) acc I) (hf : fs.contains i = false := by rfl) : SeqA P ops B N qs fs K i (o :: r) a acc I :=
  .read (.agg C) (fun w hiw => by
    obtain ⟨dst, op, ty, pos, after, guard⟩ := o
    subst ho
    have e := hI w hiw
    rw [x_load, hp, x_load0 w hu hd hi b (by rw [e]; exact hC), e]) (by unfold isNewOp; rw [ho]) hw h hf
/-- a part of a row is read -/
theorem SeqA.ldm {T : TypeId} {p : Operand} {n : Nat} {d : TypeDesc} (hu : P.underlying T = some d) (hd : d.isRow = true) (hi : (P.info? T).map (·.size) = some n) (b off : Nat) (C X : Array Value) (ho : o.op = .load T p)
    (hp : a.eval p = .pointer (some ⟨b, off, none⟩)) (hI : ∀ w, I w → w.rowOf b = C) (hC : off + n ≤ C.size) (hX : C.extract off (off + n) = X) (hw : Region.wanted o (yielded ops a.tmps) = true)
    (h : SeqA P ops B N qs fs K (i + 1) r (a.put o.dst (.agg X)) acc I) (hf : fs.contains i = false := by rfl) : SeqA P ops B N qs fs K i (o :: r) a acc I :=
  .read (.agg X) (fun w hiw => by
    obtain ⟨dst, op, ty, pos, after, guard⟩ := o
    subst ho
    have e := hI w hiw
    rw [x_load, hp, x_loadm w hu hd hi b off (by rw [e]; exact hC), e, hX]) (by unfold isNewOp; rw [ho]) hw h hf
/-- a new variable -/
theorem SeqA.var {T : TypeId} {z : Value} {d : Nat} (hz : ((P.info? T).bind (·.zero)) = some z) (ho : o.op = .alloc T) (hd : o.dst = some d) (hT : T ≠ 5) (hw : Region.wanted o (yielded ops a.tmps) = true)
    (h : SeqA P ops B N qs fs K (i + 1) r a ((d, z.cells, T) :: acc) I) (hf : fs.contains i = false := by rfl) : SeqA P ops B N qs fs K i (o :: r) a acc I :=
  .new d z.cells T (by unfold isNewOp; rw [ho]) hd hT hw (fun w => by
    obtain ⟨dst, op, ty, pos, after, guard⟩ := o
    subst ho
    rw [x_alloc, x_alloc0 w hz]) h hf
end
section
variable {P : Program} {ops : Array Oper} {Q : Exit → Act → World → Prop} {i : Nat} {t : Tr} {a : Act} {o : Oper} {S : Nat → Prop} {w0 w : World} {H : List (Nat × Array Value)}
theorem wpT_run {w' : World} (ho : ops[i]? = some o) (hw : Region.wanted o (yielded ops a.tmps) = true) (hrun : (execOp a.eval o).run P w = .ok .skip w') (h : wpT P ops Q t (a.put o.dst undef) w') : wpT P ops Q (.op i t) a w := by
  show wpOp P ops Q i (wpT P ops Q t) a w
  unfold wpOp
  rw [ho]
  simp only [hw, if_true]
  refine .inl ?_
  unfold Oper.wp
  rw [hrun]
  exact h
theorem wpT_val {w' : World} {v : Value} (ho : ops[i]? = some o) (hw : Region.wanted o (yielded ops a.tmps) = true) (hrun : (execOp a.eval o).run P w = .ok (.value v) w') (h : wpT P ops Q t (a.put o.dst v) w') : wpT P ops Q (.op i t) a w := by
  show wpOp P ops Q i (wpT P ops Q t) a w
  unfold wpOp
  rw [ho]
  simp only [hw, if_true]
  refine .inl ?_
  unfold Oper.wp
  rw [hrun]
  exact h
theorem wpT_call {f : FuncId} {args : Array Value} {R : Ending → World → Prop} (ho : ops[i]? = some o) (hw : Region.wanted o (yielded ops a.tmps) = true) (hrun : (execOp a.eval o).run P w = .ok (.enter f args) w) (hc : Calls P f args w R)
    (h : ∀ e w', R e w' → ∃ v, e = .returned v ∧ wpT P ops Q t (a.put o.dst v) w') : wpT P ops Q (.op i t) a w := by
  show wpOp P ops Q i (wpT P ops Q t) a w
  unfold wpOp
  rw [ho]
  simp only [hw, if_true]
  refine .inl ?_
  have hg : Gives P a.eval o w (fun v w' => wpT P ops Q t (a.put o.dst v) w') := by
    unfold Gives
    rw [hrun]
    exact hc.mono h
  exact Gives.wp hg (fun _ _ h => h)
/-- a whole row is stored -/
theorem wpT_st0 {T : TypeId} {p x : Operand} {n : Nat} {b : Nat} {C : Array Value} (M : Mm S w0 H w) (k : Nat) (C' : Array Value) (hi : (P.info? T).map (·.size) = some n) (hk : H[k]? = some (b, C)) (ho : ops[i]? = some o) (hop : o.op = .store T p x) (hd : o.dst = none)
    (hp : a.eval p = .pointer (some ⟨b, 0, none⟩)) (hx : a.eval x = .agg C') (hC : C.size = n) (hC' : C'.size = n) (h1 : ones C' = true) (hw : Region.wanted o (yielded ops a.tmps) = true)
    (h : ∀ w', Mm S w0 (H.set k (b, C')) w' → wpT P ops Q t a w') : wpT P ops Q (.op i t) a w := by
  have hm := List.mem_of_getElem? hk
  refine wpT_run (w' := w.setRow b C') ho hw ?_ ?_
  · obtain ⟨dst, op, ty, pos, after, guard⟩ := o
    subst hop
    rw [x_store, hp, hx, x_store0 w hi b C' hC' (by rw [M.row hm]; exact hC) (M.free hm) (ones_all h1)]
  · rw [hd]; exact h _ (M.set k C' hk)
/-- a part of a row is stored -/
theorem wpT_stm {T : TypeId} {p x : Operand} {n : Nat} {b off : Nat} {C : Array Value} (M : Mm S w0 H w) (k : Nat) (X C' : Array Value) (hi : (P.info? T).map (·.size) = some n) (hk : H[k]? = some (b, C)) (ho : ops[i]? = some o) (hop : o.op = .store T p x) (hd : o.dst = none)
    (hp : a.eval p = .pointer (some ⟨b, off, none⟩)) (hx : a.eval x = .agg X) (hC : off + n ≤ C.size) (hX : X.size = n) (h1 : ones X = true) (hC' : C.extract 0 off ++ X ++ C.extract (off + X.size) C.size = C') (hw : Region.wanted o (yielded ops a.tmps) = true)
    (h : ∀ w', Mm S w0 (H.set k (b, C')) w' → wpT P ops Q t a w') : wpT P ops Q (.op i t) a w := by
  have hm := List.mem_of_getElem? hk
  refine wpT_run (w' := w.setSeg b off X) ho hw ?_ ?_
  · obtain ⟨dst, op, ty, pos, after, guard⟩ := o
    subst hop
    rw [x_store, hp, hx, x_storem w hi b off X hX (by rw [M.row hm]; exact hC) (M.free hm) (ones_all h1)]
  · have e : w.setSeg b off X = w.setRow b C' := by
      unfold World.setSeg
      rw [M.row hm, hC']
    rw [hd, e]; exact h _ (M.set k C' hk)
/-- a cell is stored -/
theorem wpT_stc {T : TypeId} {p x : Operand} {b off : Nat} {C : Array Value} (M : Mm S w0 H w) (k : Nat) (v : Value) (C' : Array Value) (hi : (P.info? T).map (·.size) = some 1) (hk : H[k]? = some (b, C)) (ho : ops[i]? = some o) (hop : o.op = .store T p x) (hd : o.dst = none)
    (hp : a.eval p = .pointer (some ⟨b, off, none⟩)) (hx : a.eval x = v) (hoff : off < C.size) (hv : ones1 v = true) (hC' : C.setIfInBounds off v = C') (hw : Region.wanted o (yielded ops a.tmps) = true)
    (h : ∀ w', Mm S w0 (H.set k (b, C')) w' → wpT P ops Q t a w') : wpT P ops Q (.op i t) a w := by
  have hm := List.mem_of_getElem? hk
  refine wpT_run (w' := w.setRow b C') ho hw ?_ ?_
  · obtain ⟨dst, op, ty, pos, after, guard⟩ := o
    subst hop
    rw [x_store, hp, hx, x_storec hi w b off v hv (by rw [M.row hm]; exact hoff) (M.free hm), M.row hm, hC']
  · rw [hd]; exact h _ (M.set k C' hk)
end
/-- the new variables of a region -/
theorem news_one {N : Nat} {w' : World} {K : Act → Prop} {prev : List Nat} {d : Nat} {c : Array Value} {T : TypeId} {r : List (Nat × Array Value × TypeId)} {a : Act}
    (h : ∀ b, N ≤ b → w'.heap[b]? = some (.cells c T (0, 0)) → b ∉ prev → newsP N w' K (b :: prev) r (a.put (some d) (.pointer (some ⟨b, 0, none⟩)))) : newsP N w' K prev ((d, c, T) :: r) a := h
/-- .. into the rows that are known -/
theorem Mm.in_ {S : Nat → Prop} {w0 w w' : World} {H H0 : List (Nat × Array Value)} {b : Nat} {c : Array Value} {T : TypeId} {prev : List Nat} (M : Mm S w0 H0 w) (M' : Mm S w0 H w') (hN : w.heap.size ≤ b) (hb : w'.heap[b]? = some (.cells c T (0, 0))) (hT : T ≠ 5) (hp : b ∉ prev)
    (hH : H.map (·.1) = prev ++ H0.map (·.1)) : Mm S w0 ((b, c) :: H) w' :=
  Mm.new M hN hb hT M' (by rw [hH, List.mem_append]; exact fun h => h.elim hp (M.notin hN))
end Go.Proofs.Ytgneclfnfnpmkaa
