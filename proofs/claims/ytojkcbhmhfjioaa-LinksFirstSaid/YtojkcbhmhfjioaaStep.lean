/-
  A region that draws its order, as the tree of its orders; own work.
  A struct that is built of parts, some of them whole rows; own work.
  Several results, of which some lie in rows; own work.
  Steps at keys: a key that is read, or built; own work.
-/
import Derived.Test.YtojkcbhmhfjioaaApp
import Derived.Test.YtojkcbhmhfjioaaMem
import Derived.Test.YtojkcbhmhfjioaaBytes
set_option linter.unusedSimpArgs false
set_option linter.unusedVariables false
namespace Go.Proofs.Ytojkcbhmhfjioaa
open Go.RowKit

inductive Tr
  | done
  | bad
  | op (i : Nat) (t : Tr)
  | both (l r : Tr)
def Tr.all : List Tr → Tr
  | [] => .done
  | [t] => t
  | t :: r => .both t (Tr.all r)
/-- the orders that the edges allow, from here on -/
def mkT (md : Region.Mode) (ops : Array Oper) : Nat → Array Bool → Tr
  | 0, listed => if Region.ready md ops listed = [] then .done else .bad
  | f + 1, listed => Tr.all ((Region.ready md ops listed).map fun i => .op i (mkT md ops f (listed.setIfInBounds i true)))
def wpT (P : Program) (ops : Array Oper) (Q : Exit → Act → World → Prop) : Tr → Act → World → Prop
  | .done, a, w => Q .normal a w
  | .bad, _, _ => False
  | .op i t, a, w => wpOp P ops Q i (wpT P ops Q t) a w
  | .both l r, a, w => wpT P ops Q l a w ∧ wpT P ops Q r a w
section
variable {P : Program} {ops : Array Oper} {Q : Exit → Act → World → Prop} {md : Region.Mode}
theorem wpT_all (a : Act) (w : World) : ∀ (l : List Tr), wpT P ops Q (Tr.all l) a w → ∀ t ∈ l, wpT P ops Q t a w
  | [], _, t, ht => by cases ht
  | [x], h, t, ht => by rw [List.mem_singleton] at ht; subst ht; exact h
  | x :: y :: r, h, t, ht => by
    have h' : wpT P ops Q x a w ∧ wpT P ops Q (Tr.all (y :: r)) a w := h
    rcases List.mem_cons.1 ht with e | e
    · subst e; exact h'.1
    · exact wpT_all a w (y :: r) h'.2 t e
theorem wpAny_tree : ∀ (f : Nat) (listed : Array Bool) (a : Act) (w : World), wpT P ops Q (mkT md ops f listed) a w → wpAny P md ops Q f listed a w
  | 0, listed, a, w, h => by
    unfold mkT at h
    unfold wpAny
    by_cases e : Region.ready md ops listed = []
    · rw [if_pos e] at h; exact ⟨e, h⟩
    · rw [if_neg e] at h; exact h.elim
  | f + 1, listed, a, w, h => by
    unfold mkT at h
    unfold wpAny
    refine ⟨fun e => by rw [e] at h; exact h, fun i hi => ?_⟩
    have h2 := wpT_all a w _ h (.op i (mkT md ops f (listed.setIfInBounds i true))) (List.mem_map.2 ⟨i, hi, rfl⟩)
    exact wpOp_mono (fun a' w' h' => wpAny_tree f _ a' w' h') h2
/-- operations that yield the same in every world, taken first -/
def wpY (P : Program) (ops : Array Oper) : List Nat → (Act → Prop) → Act → Prop
  | [], K, a => K a
  | i :: r, K, a => match ops[i]? with
    | some o => ∃ v, Yields P ops o v a ∧ wpY P ops r K (a.put o.dst v)
    | none => False
def chkY (md : Region.Mode) (ops : Array Oper) : List Nat → Array Bool → Bool
  | [], _ => true
  | i :: r, listed => Region.free md ops listed i && (Region.ready md ops listed).contains i && chkY md ops r (listed.setIfInBounds i true)
def setY : List Nat → Array Bool → Array Bool
  | [], listed => listed
  | i :: r, listed => setY r (listed.setIfInBounds i true)
theorem wpAny_Y (hs : Region.noSelect ops = true) (hQ : ∀ d v c a w, Q (.panic c) (a.put d v) w → Q (.panic c) a w) {w : World} : ∀ (ps : List Nat) (f : Nat) (listed : Array Bool) (a : Act), chkY md ops ps listed = true →
    wpY P ops ps (fun a' => wpAny P md ops Q f (setY ps listed) a' w) a → wpAny P md ops Q (f + ps.length) listed a w
  | [], f, listed, a, _, h => h
  | i :: r, f, listed, a, hc, h => by
    simp only [chkY, Bool.and_eq_true] at hc
    unfold wpY at h
    cases ho : ops[i]? with
    | none => rw [ho] at h; exact h.elim
    | some o =>
      rw [ho] at h
      obtain ⟨v, hy, h2⟩ := h
      have := wpAny_Y hs hQ r f _ _ hc.2 h2
      rw [List.length_cons, ← Nat.add_assoc]
      exact wpAny_take ho hs hc.1.1 hc.1.2 (fun c a w => hQ _ _ c a w) hy this
theorem wpY_mono {K K' : Act → Prop} (hK : ∀ a, K a → K' a) : ∀ (ps : List Nat) (a : Act), wpY P ops ps K a → wpY P ops ps K' a
  | [], a, h => hK a h
  | i :: r, a, h => by
    unfold wpY at *
    cases ho : ops[i]? with
    | none => rw [ho] at h; exact h.elim
    | some o =>
      rw [ho] at h
      obtain ⟨v, hy, h2⟩ := h
      exact ⟨v, hy, wpY_mono hK r _ h2⟩
theorem wp_region_tree {id : Nat} {a : Act} {w : World} {l : List Oper} (ps : List Nat) (t : Tr) (hm : P.follows .mixedOrders = true)
    (hc : (Region.noSelect l.toArray && chkY .any l.toArray ps (Array.replicate l.length false) && decide (ps.length ≤ l.length)) = true)
    (ht : mkT .any l.toArray (l.length - ps.length) (setY ps (Array.replicate l.length false)) = t)
    (hQ : ∀ d v c a w, Q (.panic c) (a.put d v) w → Q (.panic c) a w)
    (h : wpY P l.toArray ps (fun a' => wpT P l.toArray Q t a' w.drew) a) : (Code.region id l.toArray true).wp P Q a w := by
  simp only [Bool.and_eq_true, decide_eq_true_eq] at hc
  refine wp_region_any hm ?_
  have h2 := wpAny_Y (md := .any) (w := w.drew) hc.1.1 hQ ps (l.length - ps.length) (Array.replicate l.length false) a hc.1.2
    (wpY_mono (fun a' h' => wpAny_tree _ _ _ _ (by rw [ht]; exact h')) ps a h)
  rw [Nat.sub_add_cancel hc.2] at h2
  exact h2
/-- one step of the tree: an operation without a guard -/
theorem wpT_step {i : Nat} {t : Tr} {a : Act} {w : World} {o : Oper} (ho : ops[i]? = some o) (hg : o.guard = none)
    (h : ∀ K : Act → World → Prop, (∀ a w, wpT P ops Q t a w → K a w) → o.wp P a w K Q) : wpT P ops Q (.op i t) a w := by
  show wpOp P ops Q i (wpT P ops Q t) a w
  unfold wpOp
  rw [ho]
  have hw : Region.wanted o (yielded ops a.tmps) = true := by simp [Region.wanted, hg]
  simp only [hw, if_true]
  exact .inl (h _ fun _ _ h => h)
end
/-- append of bytes at such a step -/
theorem wp_apb {w : World} {K : Act → World → Prop} {o : Oper} {a : Act} {Q : Exit → Act → World → Prop} (s x : Operand)
    (ho : o.op = .call { callee := .builtin .append, args := #[s, x], argTypes := #[70, 70] })
    (base : Nat) (v u : Value) (l m : List (BitVec 8)) (hs : a.eval s = v) (hown : OB w base v l) (hx : a.eval x = u) (hu : BS w u m)
    (hlen : l.length + m.length ≤ 140737488355328) (hbase : base ≤ w.heap.size)
    (h : ∀ v' w', OB w' base v' (l ++ m) → w.grownBy w' v.ownBlock → (v'.ownBlock = v.ownBlock ∨ v'.ownBlock = some w.heap.size) → K (a.put o.dst v') w') : o.wp Try.prog a w K Q := by
  refine wp_apd s x 70 ho base 5 (.int .u8 0) 1 1 Try.underlying70 info_u8 rfl (by decide) v u l.length m.length (l.map U8) (m.map U8) hs hown hx hu (by simp) (by simp; intro _ _; rfl) (by unfold maxLen; omega) (by omega) hbase ?_
  intro v' w' h1 h2 h3
  exact h v' w' (by unfold OB; simpa using h1) h2 h3
end Go.Proofs.Ytojkcbhmhfjioaa
set_option linter.unusedSimpArgs false
set_option linter.unusedVariables false
namespace Go.Proofs.Ytojkcbhmhfjioaa
open Go.RowKit

/-- the parts, one behind the other -/
def catP : List (Nat × Value) → Array Value
  | [] => #[]
  | (_, v) :: r => v.cells ++ catP r
def Cont (place : Nat → Option (Nat × Nat)) : Nat → List (Nat × Value) → Prop
  | _, [] => True
  | off, (i, v) :: r => place i = some (off, v.cells.size) ∧ Cont place (off + v.cells.size) r
theorem fold_put (c a b : List Value) (o : Nat) (k : Nat) (ho : o = a.length) (hk : k ≤ b.length) (hc : c.length ≤ b.length - k) :
    ((c.zipIdx k).foldl (fun cs (x : Value × Nat) => cs.setIfInBounds (o + x.2) x.1) (a ++ b).toArray) = (a ++ (b.take k ++ c ++ b.drop (k + c.length))).toArray := by
  induction c generalizing k b with
  | nil => simp
  | cons x r ih =>
    simp only [List.zipIdx_cons, List.foldl_cons, List.length_cons] at hc ⊢
    have h1 : ((a ++ b).toArray.setIfInBounds (o + k) x) = (a ++ b.set k x).toArray := by
      subst ho
      simp only [List.setIfInBounds_toArray]
      rw [List.set_append_right _ _ (by omega)]
      simp
    rw [h1, ih (b.set k x) (k + 1) (by simp; omega) (by simp; omega)]
    congr 2
    have hlt : k < b.length := by omega
    rw [List.drop_set_of_lt (by omega), List.take_set, List.take_succ_eq_append_getElem hlt, List.set_append_right _ _ (by simp; omega)]
    simp [Nat.min_eq_left (Nat.le_of_lt hlt), Nat.add_assoc, Nat.add_comm 1]
theorem fill_cat (place : Nat → Option (Nat × Nat)) : ∀ (ps : List (Nat × Value)) (done rest : Array Value), Cont place done.size ps → rest.size = (catP ps).size → Instr.fill place (done ++ rest) ps = some (done ++ catP ps)
  | [], done, rest, _, h => by
    have : rest = #[] := by simpa [catP] using h
    subst this; simp [Instr.fill, catP]
  | (i, v) :: r, done, rest, hc, h => by
    obtain ⟨h1, h2⟩ := hc
    simp only [catP, Array.size_append] at h
    have hf : v.cells.zipIdx.foldl (fun cs (x : Value × Nat) => cs.setIfInBounds (done.size + x.2) x.1) (done ++ rest) = done ++ v.cells ++ (rest.toList.drop v.cells.size).toArray := by
      have := fold_put v.cells.toList done.toList rest.toList done.size 0 (by simp) (by simp) (by simp; omega)
      simp only [List.take_zero, List.nil_append, Nat.zero_add] at this
      rw [← Array.foldl_toList, Array.toList_zipIdx]
      have e : (done ++ rest) = (done.toList ++ rest.toList).toArray := by simp
      rw [e]
      refine this.trans ?_
      simp
    unfold Instr.fill
    rw [h1]
    simp only []
    rw [if_neg (by simp; omega)]
    have h3 := fill_cat place r (done ++ v.cells) (rest.toList.drop v.cells.size).toArray (by rw [Array.size_append]; exact h2) (by simp; omega)
    refine (congrArg (fun z => Instr.fill place z r) hf).trans (h3.trans ?_)
    simp [catP, Array.append_assoc]
section
variable {P : Program}
theorem run_build_cat (w : World) (T : TypeId) (ps : Array (Nat × Value)) (place : Nat → Option (Nat × Nat)) (z : Array Value) (hb : ∀ l, P.built T l = Instr.fill place z l) (hc : Cont place 0 ps.toList) (hz : (catP ps.toList).size = z.size) :
    (Instr.build T ps).run P w = .ok (.agg (catP ps.toList)) w := by
  refine run_build w T ps _ ?_
  rw [hb]
  have := fill_cat place ps.toList #[] z hc hz.symm
  simpa using this
def exBuild (P : Program) (T : TypeId) (ps : Array (Nat × Value)) (w : World) : Result Next := ((Instr.build T ps).run P w).andThen fun x w' => .ok (.value x) w'
theorem x_build (ρ : Operand → Value) (dst : Option Tmp) (ty : TypeId) (pos : String) (after : Array Edge) (guard : Option (Nat × Bool)) (w : World) (T : TypeId) (ps : Array (Nat × Operand)) :
    (execOp ρ { dst, op := .build T ps, type := ty, pos, after, guard }).run P w = exBuild P T (ps.map fun p => (p.1, ρ p.2)) w := by
  simp only [execOp, Sem.run_bind, exBuild]; rfl
end
end Go.Proofs.Ytojkcbhmhfjioaa
set_option linter.unusedSimpArgs false
set_option linter.unusedVariables false
namespace Go.Proofs.Ytojkcbhmhfjioaa
open Go.RowKit

def rvS (tmps : Array Value) : ResultVar → Sem Value
  | .tmp t => pure (tmps.getD t undef)
  | .cell a t => do loadVar t (← asAddr (tmps.getD a undef))
theorem results_rv (fn : Func) (tmps : Array Value) : results fn tmps = (do let vs ← fn.results.mapM (rvS tmps); pure (if h : vs.size = 1 then vs[0] else .tuple vs)) := by
  unfold results
  congr 1
section
variable {P : Program} {fn : Func} {tmps : Array Value} {w : World}
theorem rv_tmp (t : Tmp) (v : Value) (h : tmps.getD t undef = v) : (rvS tmps (.tmp t)).run P w = .ok v w := by
  subst h; rfl
theorem rv_row {n : Nat} {d : TypeDesc} {a ty : Nat} (hu : P.underlying ty = some d) (hd : d.isRow = true) (hi : (P.info? ty).map (·.size) = some n) (b : Nat) (hp : tmps.getD a undef = .pointer (some ⟨b, 0, none⟩)) (hr : (w.rowOf b).size = n) :
    (rvS tmps (.cell a ty)).run P w = .ok (.agg (w.rowOf b)) w := by
  have hp' : tmps[a]?.getD undef = .pointer (some ⟨b, 0, none⟩) := by simpa using hp
  simp [rvS, hp', asAddr, lv_row0 hu hd hi w b hr]
theorem res_two {r1 r2 : ResultVar} {v1 v2 : Value} (h : fn.results = #[r1, r2]) (h1 : (rvS tmps r1).run P w = .ok v1 w) (h2 : (rvS tmps r2).run P w = .ok v2 w) :
    (results fn tmps).run P w = .ok (.tuple #[v1, v2]) w := by
  rw [results_rv, h]
  simp [h1, h2]
theorem res_three {r1 r2 r3 : ResultVar} {v1 v2 v3 : Value} (h : fn.results = #[r1, r2, r3]) (h1 : (rvS tmps r1).run P w = .ok v1 w) (h2 : (rvS tmps r2).run P w = .ok v2 w) (h3 : (rvS tmps r3).run P w = .ok v3 w) :
    (results fn tmps).run P w = .ok (.tuple #[v1, v2, v3]) w := by
  rw [results_rv, h]
  simp [h1, h2, h3]
theorem res_four {r1 r2 r3 r4 : ResultVar} {v1 v2 v3 v4 : Value} (h : fn.results = #[r1, r2, r3, r4]) (h1 : (rvS tmps r1).run P w = .ok v1 w) (h2 : (rvS tmps r2).run P w = .ok v2 w) (h3 : (rvS tmps r3).run P w = .ok v3 w) (h4 : (rvS tmps r4).run P w = .ok v4 w) :
    (results fn tmps).run P w = .ok (.tuple #[v1, v2, v3, v4]) w := by
  rw [results_rv, h]
  simp [h1, h2, h3, h4]
end
end Go.Proofs.Ytojkcbhmhfjioaa
set_option linter.unusedSimpArgs false
set_option linter.unusedVariables false
namespace Go.Proofs.Ytojkcbhmhfjioaa
open Go.RowKit

@[go_sem ↓] theorem rb_key (ρ : Operand → Value) (dst : Option Tmp) (ty : TypeId) (pos : String) (after : Array Edge) (guard : Option (Nat × Bool)) (w : World) (ps : Array (Nat × Operand)) :
    (execOp ρ { dst, op := .build 28 ps, type := ty, pos, after, guard }).run Try.prog w = exBuild Try.prog 28 (ps.map fun p => (p.1, ρ p.2)) w := x_build ..
@[go_sem] theorem xb_key0 (w : World) : exBuild Try.prog 28 #[] w = .ok (.value (.agg (cs U8 (zs 32)))) w := by
  unfold exBuild; rw [run_build w _ #[] (cs U8 (zs 32)) (by kernel_rfl)]; rfl
@[go_sem] theorem xb_key1 (w : World) : exBuild Try.prog 28 #[(0, .int .u8 1)] w = .ok (.value (.agg (cs U8 (1 :: zs 31)))) w := by
  unfold exBuild; rw [run_build w _ _ (cs U8 (1 :: zs 31)) (by kernel_rfl)]; rfl
def lget : List Oper → Nat → Option Oper
  | [], _ => none
  | a :: _, 0 => some a
  | _ :: r, n + 1 => lget r n
theorem lget_eq : ∀ (l : List Oper) (n : Nat), lget l n = l[n]?
  | [], _ => by simp [lget]
  | a :: _, 0 => by simp [lget]
  | _ :: r, n + 1 => by simp [lget, lget_eq r n]
/-- one step of the tree, over a list: its operation is found fast -/
theorem wpL_step {P : Program} {l : List Oper} {Q : Exit → Act → World → Prop} {i : Nat} {t : Tr} {a : Act} {w : World} {o : Oper} (ho : lget l i = some o) (hg : o.guard = none)
    (h : ∀ K, (∀ a w, wpT P l.toArray Q t a w → K a w) → o.wp P a w K Q) : wpT P l.toArray Q (.op i t) a w :=
  wpT_step (by rw [lget_eq] at ho; simpa using ho) hg h
/-- a pure operation that is taken first -/
theorem wpYL_cons {P : Program} {l : List Oper} {ps : List Nat} {K : Act → Prop} {a : Act} {i : Nat} {o : Oper} {d : Tmp} (v : Value) (ho : lget l i = some o) (hd : o.dst = some d) (hg : o.guard = none) (hv : ∀ w', (execOp a.eval o).run P w' = .ok (.value v) w')
    (h : wpY P l.toArray ps K (a.put (some d) v)) : wpY P l.toArray (i :: ps) K a := by
  have e : l.toArray[i]? = some o := by rw [lget_eq] at ho; simpa using ho
  unfold wpY
  rw [e]
  exact ⟨v, .inl ⟨by simp [Region.wanted, hg], hv⟩, by rw [hd]; exact h⟩
theorem wpYL_nil {P : Program} {ops : Array Oper} {K : Act → Prop} {a : Act} (h : K a) : wpY P ops [] K a := h
/-- a step that yields a value; one that yields none -/
theorem wpL_val {P : Program} {l : List Oper} {Q : Exit → Act → World → Prop} {i : Nat} {t : Tr} {a : Act} {w w' : World} {o : Oper} {d : Tmp} (v : Value) (ho : lget l i = some o) (hg : o.guard = none) (hd : o.dst = some d)
    (hv : (execOp a.eval o).run P w = .ok (.value v) w') (h : wpT P l.toArray Q t (a.put (some d) v) w') : wpT P l.toArray Q (.op i t) a w :=
  wpL_step ho hg (fun K hK => by unfold Oper.wp; rw [hv]; simp only [Oper.upon]; rw [hd]; exact hK _ _ h)
theorem wpL_ld {P : Program} {l : List Oper} {Q : Exit → Act → World → Prop} {i : Nat} {t : Tr} {a : Act} {w : World} {o : Oper} {d : Tmp} (v : Value) (ho : lget l i = some o) (hg : o.guard = none) (hd : o.dst = some d)
    (hv : (execOp a.eval o).run P w = .ok (.value v) w) (h : wpT P l.toArray Q t (a.put (some d) v) w) : wpT P l.toArray Q (.op i t) a w := wpL_val v ho hg hd hv h
theorem wpL_skip {P : Program} {l : List Oper} {Q : Exit → Act → World → Prop} {i : Nat} {t : Tr} {a : Act} {w : World} {o : Oper} (w' : World) (ho : lget l i = some o) (hg : o.guard = none) (hd : o.dst = none)
    (hv : (execOp a.eval o).run P w = .ok .skip w') (h : wpT P l.toArray Q t a w') : wpT P l.toArray Q (.op i t) a w :=
  wpL_step ho hg (fun K hK => by unfold Oper.wp; rw [hv]; simp only [Oper.upon]; rw [hd]; exact hK _ _ h)
theorem wpl_key {a : Act} {w : World} {K : Act → World → Prop} {Q : Exit → Act → World → Prop} {o : Oper} (p : Operand) (ho : o.op = .load 28 p) (b i : Nat) (c : Array Value) (hp : a.eval p = .pointer (some ⟨b, i, none⟩))
    (hx : exLoad Try.prog 28 (.pointer (some ⟨b, i, none⟩)) w = .ok (.value (.agg c)) w) (hK : K (a.put o.dst (.agg c)) w) : o.wp Try.prog a w K Q := by
  obtain ⟨dst, op, ty, pos, after, guard⟩ := o
  subst ho
  unfold Oper.wp
  rw [rl_key, hp, hx]
  simp only [Oper.upon]
  exact hK
end Go.Proofs.Ytojkcbhmhfjioaa
