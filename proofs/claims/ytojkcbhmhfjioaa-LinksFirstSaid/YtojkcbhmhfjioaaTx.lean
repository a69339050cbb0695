/-
  A region that draws, as a tree of one's own: at each node the operations that are ready, or such as yield the same wherever J holds, taken first; own work.
-/
import Derived.Test.YtojkcbhmhfjioaaLin
set_option linter.unusedSimpArgs false
set_option linter.unusedVariables false
namespace Go.Proofs.Ytojkcbhmhfjioaa
open Go.RowKit
inductive TX
  | done
  | op (i : Nat) (t : TX)
  | two (i : Nat) (t : TX) (j : Nat) (u : TX)
  | yld (ps : List Nat) (t : TX)
section
variable {P : Program} {ops : Array Oper} {Q : Exit → Act → World → Prop} {md : Region.Mode} {J : World → Prop}
def okX (md : Region.Mode) (ops : Array Oper) : TX → Nat → Array Bool → Bool
  | .done, _, L => decide (Region.ready md ops L = [])
  | .op _ _, 0, _ => false
  | .op i t, f + 1, L => decide (Region.ready md ops L = [i]) && okX md ops t f (L.setIfInBounds i true)
  | .two _ _ _ _, 0, _ => false
  | .two i t j u, f + 1, L => decide (Region.ready md ops L = [i, j]) && okX md ops t f (L.setIfInBounds i true) && okX md ops u f (L.setIfInBounds j true)
  | .yld ps t, f, L => chkY md ops ps L && decide (ps.length ≤ f) && okX md ops t (f - ps.length) (setY ps L)
def wpX (P : Program) (ops : Array Oper) (Q : Exit → Act → World → Prop) (J : World → Prop) : TX → Act → World → Prop
  | .done, a, w => J w ∧ Q .normal a w
  | .op i t, a, w => J w ∧ wpOp P ops Q i (wpX P ops Q J t) a w
  | .two i t j u, a, w => J w ∧ wpOp P ops Q i (wpX P ops Q J t) a w ∧ wpOp P ops Q j (wpX P ops Q J u) a w
  | .yld ps t, a, w => wpYJ P ops J ps (fun a' => wpX P ops Q J t a' w) a
theorem wpX_any (hs : Region.noSelect ops = true) (hQ : ∀ d v c a w, Q (.panic c) (a.put d v) w → Q (.panic c) a w) : ∀ (t : TX) (f : Nat) (L : Array Bool) (a : Act) (w : World), okX md ops t f L = true → wpX P ops Q J t a w → wpAnyJ P md ops Q J f L a w
  | .done, f, L, a, w, hc, h => by
    simp only [okX, decide_eq_true_eq] at hc
    cases f with
    | zero => exact ⟨h.1, hc, h.2⟩
    | succ f => exact ⟨h.1, fun _ => h.2, by rw [hc]; simp⟩
  | .op i t, 0, L, a, w, hc, h => by simp [okX] at hc
  | .op i t, f + 1, L, a, w, hc, h => by
    simp only [okX, Bool.and_eq_true, decide_eq_true_eq] at hc
    refine ⟨h.1, fun e => (by rw [hc.1] at e; cases e), fun k hk => ?_⟩
    rw [hc.1, List.mem_singleton] at hk
    subst hk
    exact wpOp_mono (fun a' w' h' => wpX_any hs hQ t f _ a' w' hc.2 h') h.2
  | .two i t j u, 0, L, a, w, hc, h => by simp [okX] at hc
  | .two i t j u, f + 1, L, a, w, hc, h => by
    simp only [okX, Bool.and_eq_true, decide_eq_true_eq] at hc
    refine ⟨h.1, fun e => (by rw [hc.1.1] at e; cases e), fun k hk => ?_⟩
    rw [hc.1.1, List.mem_cons, List.mem_singleton] at hk
    rcases hk with e | e
    · subst e; exact wpOp_mono (fun a' w' h' => wpX_any hs hQ t f _ a' w' hc.1.2 h') h.2.1
    · subst e; exact wpOp_mono (fun a' w' h' => wpX_any hs hQ u f _ a' w' hc.2 h') h.2.2
  | .yld ps t, f, L, a, w, hc, h => by
    simp only [okX, Bool.and_eq_true, decide_eq_true_eq] at hc
    have h2 := wpAny_YJ (md := md) (w := w) hs hQ ps (f - ps.length) L a hc.1.1 (wpYJ_mono (fun a' h' => wpX_any hs hQ t _ _ a' w hc.2 h') ps a h)
    rwa [Nat.sub_add_cancel hc.1.2] at h2
theorem wp_region_X {id : Nat} {a : Act} {w : World} {l : List Oper} (J : World → Prop) (t : TX) (hm : P.follows .mixedOrders = true) (hs : Region.noSelect l.toArray = true)
    (hc : okX .any l.toArray t l.length (Array.replicate l.length false) = true) (hQ : ∀ d v c a w, Q (.panic c) (a.put d v) w → Q (.panic c) a w)
    (h : wpX P l.toArray Q J t a w.drew) : (Code.region id l.toArray true).wp P Q a w := by
  refine wp_region_any hm ?_
  have h2 := wpX_any (md := .any) hs hQ t l.length (Array.replicate l.length false) a w.drew hc h
  exact h2.drop
/-! the steps -/
variable {i : Nat} {t u : TX} {a : Act} {o : Oper} {S : Nat → Prop} {w0 w : World} {H : List (Nat × Array Value)}
theorem wpX_yld {ps : List Nat} (h : wpYJ P ops J ps (fun a' => wpX P ops Q J t a' w) a) : wpX P ops Q J (.yld ps t) a w := h
/-- one step, whatever comes behind -/
theorem stepX {K : Act → World → Prop} (dst : Nat) {w' : World} {v : Value} (hdst : o.dst = some dst) (ho : ops[i]? = some o) (hw : Region.wanted o (yielded ops a.tmps) = true) (hrun : (execOp a.eval o).run P w = .ok (.value v) w') (h : K (a.put (some dst) v) w') : wpOp P ops Q i K a w := by
  unfold wpOp
  rw [ho]
  simp only [hw, if_true]
  refine .inl ?_
  unfold Oper.wp
  rw [hrun]
  show K (a.put o.dst v) w'
  rw [hdst]; exact h
theorem callX {K : Act → World → Prop} (dst : Nat) {f : FuncId} {args : Array Value} {R : Ending → World → Prop} (hdst : o.dst = some dst) (ho : ops[i]? = some o) (hw : Region.wanted o (yielded ops a.tmps) = true) (hrun : (execOp a.eval o).run P w = .ok (.enter f args) w) (hc : Calls P f args w R)
    (h : ∀ e w', R e w' → ∃ v, e = .returned v ∧ K (a.put (some dst) v) w') : wpOp P ops Q i K a w := by
  unfold wpOp
  rw [ho]
  simp only [hw, if_true]
  refine .inl ?_
  have hg : Gives P a.eval o w (fun v w' => K (a.put o.dst v) w') := by
    unfold Gives
    rw [hrun, hdst]
    exact hc.mono h
  exact Gives.wp hg (fun _ _ h => h)
theorem newX {K : Act → World → Prop} {T : TypeId} {z : Value} (dst : Nat) (M : Mm S w0 H w) (hz : ((P.info? T).bind (·.zero)) = some z) (hT : T ≠ 5) (hdst : o.dst = some dst) (ho : ops[i]? = some o) (hop : o.op = .alloc T) (hw : Region.wanted o (yielded ops a.tmps) = true)
    (h : ∀ b w', Mm S w0 ((b, z.cells) :: H) w' → Below w.heap.size w w' → w.heap.size ≤ b → K (a.put (some dst) (.pointer (some ⟨b, 0, none⟩))) w') : wpOp P ops Q i K a w :=
  stepX (w' := w.alloc (.cells z.cells T)) (v := .pointer (some ⟨w.heap.size, 0, none⟩)) dst hdst ho hw (by
    obtain ⟨dst, op, ty, pos, after, guard⟩ := o
    subst hop
    rw [x_alloc, x_alloc0 w hz]) (h _ _ (M.alloc _ T hT) ((Below.refl _ _).alloc (Nat.le_refl _) _) (Nat.le_refl _))
theorem st0X {K : Act → World → Prop} {T : TypeId} {p x : Operand} {n : Nat} {b : Nat} {C : Array Value} (M : Mm S w0 H w) (k : Nat) (C' : Array Value) (hi : (P.info? T).map (·.size) = some n) (hk : H[k]? = some (b, C)) (ho : ops[i]? = some o) (hop : o.op = .store T p x) (hd : o.dst = none)
    (hp : a.eval p = .pointer (some ⟨b, 0, none⟩)) (hx : a.eval x = .agg C') (hC : C.size = n) (hC' : C'.size = n) (h1 : ones C' = true) (hw : Region.wanted o (yielded ops a.tmps) = true)
    (h : ∀ w', Mm S w0 (H.set k (b, C')) w' → K a w') : wpOp P ops Q i K a w := by
  have hm := List.mem_of_getElem? hk
  unfold wpOp
  rw [ho]
  simp only [hw, if_true]
  refine .inl ?_
  unfold Oper.wp
  have hrun : (execOp a.eval o).run P w = .ok .skip (w.setRow b C') := by
    obtain ⟨dst, op, ty, pos, after, guard⟩ := o
    subst hop
    rw [x_store, hp, hx, x_store0 w hi b C' hC' (by rw [M.row hm]; exact hC) (M.free hm) (ones_all h1)]
  rw [hrun]
  show K (a.put o.dst undef) _
  rw [hd]; exact h _ (M.set k C' hk)
/-- branches that meet -/
theorem meet4 {A B C D : Sort _} {P G : A → B → C → D → Prop} {Goal : Prop} (h1 : (∀ x y z v, P x y z v → G x y z v) → Goal) (h2 : ∀ x y z v, P x y z v → G x y z v) : Goal := h1 h2
end
end Go.Proofs.Ytojkcbhmhfjioaa
