/-
  A region that draws its order, as the tree of its orders; own work.
-/
import Derived.Test.YtgclegdgngldoaaDoorApp
set_option linter.unusedSimpArgs false
set_option linter.unusedVariables false
namespace Go.Proofs.YtgclegdgngldoaaDoor
open Go.RowKit

inductive Tr
  | done
  | bad
  | op (i : Nat) (t : Tr)
  | both (l r : Tr)
def Tr.all : List Tr → Tr
  | [] => .done
  | [t] => t
  | t :: r => .both t (Tr.all r)
/-- the orders that the edges allow, from here on -/
def mkT (md : Region.Mode) (ops : Array Oper) : Nat → Array Bool → Tr
  | 0, listed => if Region.ready md ops listed = [] then .done else .bad
  | f + 1, listed => Tr.all ((Region.ready md ops listed).map fun i => .op i (mkT md ops f (listed.setIfInBounds i true)))
def wpT (P : Program) (ops : Array Oper) (Q : Exit → Act → World → Prop) : Tr → Act → World → Prop
  | .done, a, w => Q .normal a w
  | .bad, _, _ => False
  | .op i t, a, w => wpOp P ops Q i (wpT P ops Q t) a w
  | .both l r, a, w => wpT P ops Q l a w ∧ wpT P ops Q r a w
section
variable {P : Program} {ops : Array Oper} {Q : Exit → Act → World → Prop} {md : Region.Mode}
theorem wpT_all (a : Act) (w : World) : ∀ (l : List Tr), wpT P ops Q (Tr.all l) a w → ∀ t ∈ l, wpT P ops Q t a w
  | [], _, t, ht => by cases ht
  | [x], h, t, ht => by rw [List.mem_singleton] at ht; subst ht; exact h
  | x :: y :: r, h, t, ht => by
    have h' : wpT P ops Q x a w ∧ wpT P ops Q (Tr.all (y :: r)) a w := h
    rcases List.mem_cons.1 ht with e | e
    · subst e; exact h'.1
    · exact wpT_all a w (y :: r) h'.2 t e
theorem wpAny_tree : ∀ (f : Nat) (listed : Array Bool) (a : Act) (w : World), wpT P ops Q (mkT md ops f listed) a w → wpAny P md ops Q f listed a w
  | 0, listed, a, w, h => by
    unfold mkT at h
    unfold wpAny
    by_cases e : Region.ready md ops listed = []
    · rw [if_pos e] at h; exact ⟨e, h⟩
    · rw [if_neg e] at h; exact h.elim
  | f + 1, listed, a, w, h => by
    unfold mkT at h
    unfold wpAny
    refine ⟨fun e => by rw [e] at h; exact h, fun i hi => ?_⟩
    have h2 := wpT_all a w _ h (.op i (mkT md ops f (listed.setIfInBounds i true))) (List.mem_map.2 ⟨i, hi, rfl⟩)
    exact wpOp_mono (fun a' w' h' => wpAny_tree f _ a' w' h') h2
/-- operations that yield the same in every world, taken first -/
def wpY (P : Program) (ops : Array Oper) : List Nat → (Act → Prop) → Act → Prop
  | [], K, a => K a
  | i :: r, K, a => match ops[i]? with
    | some o => ∃ v, Yields P ops o v a ∧ wpY P ops r K (a.put o.dst v)
    | none => False
def chkY (md : Region.Mode) (ops : Array Oper) : List Nat → Array Bool → Bool
  | [], _ => true
  | i :: r, listed => Region.free md ops listed i && (Region.ready md ops listed).contains i && chkY md ops r (listed.setIfInBounds i true)
def setY : List Nat → Array Bool → Array Bool
  | [], listed => listed
  | i :: r, listed => setY r (listed.setIfInBounds i true)
theorem wpAny_Y (hs : Region.noSelect ops = true) (hQ : ∀ d v c a w, Q (.panic c) (a.put d v) w → Q (.panic c) a w) {w : World} : ∀ (ps : List Nat) (f : Nat) (listed : Array Bool) (a : Act), chkY md ops ps listed = true →
    wpY P ops ps (fun a' => wpAny P md ops Q f (setY ps listed) a' w) a → wpAny P md ops Q (f + ps.length) listed a w
  | [], f, listed, a, _, h => h
  | i :: r, f, listed, a, hc, h => by
    simp only [chkY, Bool.and_eq_true] at hc
    unfold wpY at h
    cases ho : ops[i]? with
    | none => rw [ho] at h; exact h.elim
    | some o =>
      rw [ho] at h
      obtain ⟨v, hy, h2⟩ := h
      have := wpAny_Y hs hQ r f _ _ hc.2 h2
      rw [List.length_cons, ← Nat.add_assoc]
      exact wpAny_take ho hs hc.1.1 hc.1.2 (fun c a w => hQ _ _ c a w) hy this
theorem wpY_mono {K K' : Act → Prop} (hK : ∀ a, K a → K' a) : ∀ (ps : List Nat) (a : Act), wpY P ops ps K a → wpY P ops ps K' a
  | [], a, h => hK a h
  | i :: r, a, h => by
    unfold wpY at *
    cases ho : ops[i]? with
    | none => rw [ho] at h; exact h.elim
    | some o =>
      rw [ho] at h
      obtain ⟨v, hy, h2⟩ := h
      exact ⟨v, hy, wpY_mono hK r _ h2⟩
theorem wp_region_tree {id : Nat} {a : Act} {w : World} {l : List Oper} (ps : List Nat) (t : Tr) (hm : P.follows .mixedOrders = true)
    (hc : (Region.noSelect l.toArray && chkY .any l.toArray ps (Array.replicate l.length false) && decide (ps.length ≤ l.length)) = true)
    (ht : mkT .any l.toArray (l.length - ps.length) (setY ps (Array.replicate l.length false)) = t)
    (hQ : ∀ d v c a w, Q (.panic c) (a.put d v) w → Q (.panic c) a w)
    (h : wpY P l.toArray ps (fun a' => wpT P l.toArray Q t a' w.drew) a) : (Code.region id l.toArray true).wp P Q a w := by
  simp only [Bool.and_eq_true, decide_eq_true_eq] at hc
  refine wp_region_any hm ?_
  have h2 := wpAny_Y (md := .any) (w := w.drew) hc.1.1 hQ ps (l.length - ps.length) (Array.replicate l.length false) a hc.1.2
    (wpY_mono (fun a' h' => wpAny_tree _ _ _ _ (by rw [ht]; exact h')) ps a h)
  rw [Nat.sub_add_cancel hc.2] at h2
  exact h2
/-- one step of the tree: an operation without a guard -/
theorem wpT_step {i : Nat} {t : Tr} {a : Act} {w : World} {o : Oper} (ho : ops[i]? = some o) (hg : o.guard = none)
    (h : ∀ K : Act → World → Prop, (∀ a w, wpT P ops Q t a w → K a w) → o.wp P a w K Q) : wpT P ops Q (.op i t) a w := by
  show wpOp P ops Q i (wpT P ops Q t) a w
  unfold wpOp
  rw [ho]
  have hw : Region.wanted o (yielded ops a.tmps) = true := by simp [Region.wanted, hg]
  simp only [hw, if_true]
  exact .inl (h _ fun _ _ h => h)
end
/-- append of bytes at such a step -/
theorem wp_apb {w : World} {K : Act → World → Prop} {o : Oper} {a : Act} {Q : Exit → Act → World → Prop} (s x : Operand)
    (ho : o.op = .call { callee := .builtin .append, args := #[s, x], argTypes := #[89, 89] })
    (base : Nat) (v u : Value) (l m : List (BitVec 8)) (hs : a.eval s = v) (hown : OB w base v l) (hx : a.eval x = u) (hu : BS w u m)
    (hlen : l.length + m.length ≤ 140737488355328) (hbase : base ≤ w.heap.size)
    (h : ∀ v' w', OB w' base v' (l ++ m) → w.grownBy w' v.ownBlock → (v'.ownBlock = v.ownBlock ∨ v'.ownBlock = some w.heap.size) → K (a.put o.dst v') w') : o.wp Tryd.prog a w K Q := by
  refine wp_apd s x 89 ho base 5 (.int .u8 0) 1 1 Tryd.underlying89 info_u8 rfl (by decide) v u l.length m.length (l.map U8) (m.map U8) hs hown hx hu (by simp) (by simp; intro _ _; rfl) (by unfold maxLen; omega) (by omega) hbase ?_
  intro v' w' h1 h2 h3
  exact h v' w' (by unfold OB; simpa using h1) h2 h3
end Go.Proofs.YtgclegdgngldoaaDoor
