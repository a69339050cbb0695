/-
  A region that does not draw, walked in the order of its list, the world known at each step; own work.
  A region that draws, where an operation that reads may wait behind a store that does not touch what it reads: it is taken first, if what it reads holds at every step behind; own work.
-/
import Derived.Test.YtojkcbhmhfjioaaSeq3
import Derived.Great.BuildSlice
set_option linter.unusedSimpArgs false
set_option linter.unusedVariables false
namespace Go.Proofs.Ytojkcbhmhfjioaa
open Go.RowKit
theorem Mm.loc' {S : Nat → Prop} {w0 w : World} {H : List (Nat × Array Value)} {b : Nat} {C : Array Value} (M : Mm S w0 H w) {k : Nat} (hk : H[k]? = some (b, C)) : Mm (fun g => g = b) w [(b, C)] w :=
  ⟨Fr.refl _ _, fun p hp => by rw [List.mem_singleton] at hp; subst hp; exact ⟨.inl rfl, (M.own _ (List.mem_of_getElem? hk)).2⟩, by simp⟩
theorem Mm.back' {S : Nat → Prop} {w0 w w' : World} {H G : List (Nat × Array Value)} {b : Nat} {C C' : Array Value} (M : Mm S w0 H w) {k : Nat} (hk : H[k]? = some (b, C)) (N : Mm (fun g => g = b) w ((b, C') :: G) w') : Mm S w0 (H.set k (b, C')) w' := by
  have M2 := M.set k C' hk
  have hm := List.mem_of_getElem? hk
  obtain ⟨h1, T, hT, hb⟩ := M.own _ hm
  refine ⟨M.fr.trans (N.fr.mono (fun g _ e => by subst e; exact h1)), fun p hp => ?_, M2.nd⟩
  obtain ⟨h2, T2, hT2, hb2⟩ := M2.own p hp
  refine ⟨h2, ?_⟩
  by_cases e : p.1 = b
  · rw [e] at hb2
    rw [heap_setRow_same hb] at hb2
    injection hb2 with hb2
    injection hb2 with e1 e2 _
    obtain ⟨_, T3, hT3, hb3⟩ := N.own (b, C') (by simp)
    exact ⟨T3, hT3, by rw [e, ← e1]; exact hb3⟩
  · rw [heap_setRow_other e] at hb2
    exact ⟨T2, hT2, by rw [N.fr.block p.1 (Array.getElem?_eq_some_iff.1 hb2).1 e]; exact hb2⟩
/-- from here on: what is known stays known, and what was there at w stays but for these rows -/
theorem Mm.rebase {S : Nat → Prop} {w0 w : World} {H : List (Nat × Array Value)} (M : Mm S w0 H w) : ∃ S', Mm S' w H w ∧ (∀ g, S' g → g ∈ H.map (·.1)) ∧ ∀ H' w', Mm S' w H' w' → Mm S w0 H' w' := by
  refine ⟨fun g => g ∈ H.map (·.1), ⟨Fr.refl _ _, fun p hp => ⟨.inl (List.mem_map.2 ⟨p, hp, rfl⟩), (M.own p hp).2⟩, M.nd⟩, fun g h => h, fun H' w' N => ?_⟩
  have key : ∀ g, g ∈ H.map (·.1) → S g ∨ w0.heap.size ≤ g := fun g h => by
    obtain ⟨p, hp, rfl⟩ := List.mem_map.1 h
    exact (M.own p hp).1
  refine ⟨M.fr.trans (N.fr.mono (fun g _ h => key g h)), fun p hp => ⟨?_, (N.own p hp).2⟩, N.nd⟩
  rcases (N.own p hp).1 with h | h
  · exact key _ h
  · exact .inr (Nat.le_trans M.size h)
/-- a row that a call has made -/
theorem Mm.join {S : Nat → Prop} {w0 w w' : World} {H : List (Nat × Array Value)} {g : Nat} {C : Array Value} (M : Mm S w0 H w) (N : Mm no w [(g, C)] w') : Mm S w0 ((g, C) :: H) w' := by
  obtain ⟨h1, T, hT, hb⟩ := N.own (g, C) (by simp)
  have hg : w.heap.size ≤ g := h1.resolve_left (fun h => h)
  exact Mm.new M hg hb hT (M.below N.end_) (M.notin hg)
/-- the operations from k on, in their order -/
def lin : Nat → Nat → Tr
  | _, 0 => .done
  | k, g + 1 => .op k (lin (k + 1) g)
section
variable {P : Program} {Q : Exit → Act → World → Prop}
theorem wpList_lin {ops : Array Oper} : ∀ (g k : Nat) (a : Act) (w : World), k + g = ops.size → wpT P ops Q (lin k g) a w → wpList P ops Q (ops.toList.drop k) a w
  | 0, k, a, w, hk, h => by
    have : ops.toList.drop k = [] := List.drop_eq_nil_of_le (by simp; omega)
    rw [this]
    exact h
  | g + 1, k, a, w, hk, h => by
    have hlt : k < ops.size := by omega
    have ho : ops[k]? = some ops[k] := Array.getElem?_eq_getElem hlt
    have hkl : k < ops.toList.length := by simpa using hlt
    rw [List.drop_eq_getElem_cons hkl]
    have h1 : wpOp P ops Q k (wpT P ops Q (lin (k + 1) g)) a w := h
    unfold wpOp at h1
    rw [ho] at h1
    unfold wpList
    simp only [Array.getElem_toList]
    split
    · rename_i hw
      simp only [hw, if_true] at h1
      exact h1.imp (Oper.wp_mono fun a' w' h' => wpList_lin g (k + 1) a' w' (by omega) h') id
    · rename_i hw
      simp only [hw, if_false] at h1
      exact wpList_lin g (k + 1) _ _ (by omega) h1
theorem wp_region_lin {id : Nat} {l : List Oper} {a : Act} {w : World} (t : Tr) (ht : lin 0 l.length = t) (h : wpT P l.toArray Q t a w) : (Code.region id l.toArray false).wp P Q a w := by
  refine wp_region_lit ?_
  have := wpList_lin (P := P) (Q := Q) (ops := l.toArray) l.length 0 a w (by simp) (by rw [ht]; exact h)
  simpa using this
end
section
variable {P : Program} {ops : Array Oper} {Q : Exit → Act → World → Prop} {i : Nat} {t : Tr} {a : Act} {o : Oper} {S : Nat → Prop} {w0 w : World} {H : List (Nat × Array Value)}
/-- a whole row is read -/
theorem wpT_ld0 {T : TypeId} {p : Operand} {n : Nat} {d : TypeDesc} (dst : Nat) (hu : P.underlying T = some d) (hd : d.isRow = true) (hi : (P.info? T).map (·.size) = some n) (b : Nat) (C : Array Value) (hdst : o.dst = some dst) (ho : ops[i]? = some o) (hop : o.op = .load T p)
    (hp : a.eval p = .pointer (some ⟨b, 0, none⟩)) (hI : w.rowOf b = C) (hC : C.size = n) (hw : Region.wanted o (yielded ops a.tmps) = true)
    (h : wpT P ops Q t (a.put (some dst) (.agg C)) w) : wpT P ops Q (.op i t) a w :=
  wpT_val (w' := w) (v := .agg C) ho hw (by
    obtain ⟨dst, op, ty, pos, after, guard⟩ := o
    subst hop
    rw [x_load, hp, x_load0 w hu hd hi b (by rw [hI]; exact hC), hI]) (by rw [hdst]; exact h)
/-- an operation that yields a value and nothing else -/
theorem wpT_valp {v : Value} (dst : Nat) (hdst : o.dst = some dst) (ho : ops[i]? = some o) (hw : Region.wanted o (yielded ops a.tmps) = true) (hrun : (execOp a.eval o).run P w = .ok (.value v) w) (h : wpT P ops Q t (a.put (some dst) v) w) : wpT P ops Q (.op i t) a w :=
  wpT_val ho hw hrun (by rw [hdst]; exact h)
/-- a new variable -/
theorem wpT_new {T : TypeId} {z : Value} (dst : Nat) (M : Mm S w0 H w) (hz : ((P.info? T).bind (·.zero)) = some z) (hT : T ≠ 5) (hdst : o.dst = some dst) (ho : ops[i]? = some o) (hop : o.op = .alloc T) (hw : Region.wanted o (yielded ops a.tmps) = true)
    (h : ∀ b w', Mm S w0 ((b, z.cells) :: H) w' → wpT P ops Q t (a.put (some dst) (.pointer (some ⟨b, 0, none⟩))) w') : wpT P ops Q (.op i t) a w :=
  wpT_val (w' := w.alloc (.cells z.cells T)) (v := .pointer (some ⟨w.heap.size, 0, none⟩)) ho hw (by
    obtain ⟨dst, op, ty, pos, after, guard⟩ := o
    subst hop
    rw [x_alloc, x_alloc0 w hz]) (by rw [hdst]; exact h _ _ (M.alloc _ T hT))
/-- a call that makes no more than new memory -/
theorem wpT_callv (dst : Nat) (M : Mm S w0 H w) {f : FuncId} {args : Array Value} {v : Value} (hdst : o.dst = some dst) (ho : ops[i]? = some o) (hw : Region.wanted o (yielded ops a.tmps) = true) (hrun : (execOp a.eval o).run P w = .ok (.enter f args) w)
    (hc : Calls P f args w fun e w' => e = .returned v ∧ Below w.heap.size w w')
    (h : ∀ w', Mm S w0 H w' → wpT P ops Q t (a.put (some dst) v) w') : wpT P ops Q (.op i t) a w :=
  wpT_call ho hw hrun hc (fun e w' ⟨he, hb⟩ => ⟨v, he, by rw [hdst]; exact h w' (M.below hb)⟩)
/-- a part of a row is read -/
theorem wpT_ldm {T : TypeId} {p : Operand} {n : Nat} {d : TypeDesc} (dst : Nat) (hu : P.underlying T = some d) (hd : d.isRow = true) (hi : (P.info? T).map (·.size) = some n) (b off : Nat) (C X : Array Value) (hdst : o.dst = some dst) (ho : ops[i]? = some o) (hop : o.op = .load T p)
    (hp : a.eval p = .pointer (some ⟨b, off, none⟩)) (hI : w.rowOf b = C) (hC : off + n ≤ C.size) (hX : C.extract off (off + n) = X) (hw : Region.wanted o (yielded ops a.tmps) = true)
    (h : wpT P ops Q t (a.put (some dst) (.agg X)) w) : wpT P ops Q (.op i t) a w :=
  wpT_val (w' := w) (v := .agg X) ho hw (by
    obtain ⟨dst, op, ty, pos, after, guard⟩ := o
    subst hop
    rw [x_load, hp, x_loadm w hu hd hi b off (by rw [hI]; exact hC), hI, hX]) (by rw [hdst]; exact h)
/-- an operation that yields a value and nothing else, read off the list itself -/
theorem wpT_valL {l : List Oper} {v : Value} (dst : Nat) (hdst : o.dst = some dst) (ho : lget l i = some o) (hw : Region.wanted o (yielded l.toArray a.tmps) = true) (hrun : (execOp a.eval o).run P w = .ok (.value v) w) (h : wpT P l.toArray Q t (a.put (some dst) v) w) : wpT P l.toArray Q (.op i t) a w :=
  wpT_val (ops := l.toArray) (by rw [lget_eq] at ho; simpa using ho) hw hrun (by rw [hdst]; exact h)
/-- a call that changes one row -/
theorem wpT_callm (dst : Nat) (M : Mm S w0 H w) (k : Nat) {b : Nat} {C C' : Array Value} {f : FuncId} {args : Array Value} {v : Value} (hk : H[k]? = some (b, C)) (hdst : o.dst = some dst) (ho : ops[i]? = some o) (hw : Region.wanted o (yielded ops a.tmps) = true) (hrun : (execOp a.eval o).run P w = .ok (.enter f args) w)
    (hc : Calls P f args w fun e w' => e = .returned v ∧ Mm (fun g => g = b) w [(b, C')] w')
    (h : ∀ w', Mm S w0 (H.set k (b, C')) w' → Fr (fun g => g = b) w w' → wpT P ops Q t (a.put (some dst) v) w') : wpT P ops Q (.op i t) a w :=
  wpT_call ho hw hrun hc (fun e w' ⟨he, N⟩ => ⟨v, he, by rw [hdst]; exact h w' (M.back' (k := k) hk N) N.fr⟩)
/-- a slice that is built of parts -/
theorem wpT_bsl {T e : TypeId} {len : Nat} {ps : Array (Nat × Operand)} (dst : Nat) (M : Mm S w0 H w) (c : Array Value) (ie : TypeInfo) (z : Value) (hu : P.underlying T = some (.slice e)) (hie : P.info? e = some ie) (hz : ie.zero = some z)
    (hsmall : ¬ len * ie.size > 2 ^ 24) (hpos : ¬ len * ie.size = 0) (hT : e ≠ 5) (hdst : o.dst = some dst) (ho : ops[i]? = some o) (hop : o.op = .buildSlice T len ps)
    (hf : Instr.fill (fun i => some (i * ie.size, ie.size)) ((Array.range (len * ie.size)).map (z.cells[· % z.cells.size]!)) (ps.map fun (i, x) => (i, a.eval x)).toList = some c) (hw : Region.wanted o (yielded ops a.tmps) = true)
    (h : ∀ b w', Mm S w0 ((b, c) :: H) w' → Below w.heap.size w w' → w.heap.size ≤ b → wpT P ops Q t (a.put (some dst) (.slice (some ⟨b, 0, none⟩) len len)) w') : wpT P ops Q (.op i t) a w :=
  wpT_val (w' := w.alloc (.cells c e)) (v := .slice (some ⟨w.heap.size, 0, none⟩) len len) ho hw (by
    obtain ⟨dst, op, ty, pos, after, guard⟩ := o
    subst hop
    simp only [execOp, Sem.run_bind]
    rw [run_buildSlice w T e len _ c ie z hu hie hz hsmall hpos hf]; rfl) (by rw [hdst]; exact h _ _ (M.alloc _ e hT) ((Below.refl _ _).alloc (Nat.le_refl _) _) (Nat.le_refl _))
end
end Go.Proofs.Ytojkcbhmhfjioaa
set_option linter.unusedSimpArgs false
set_option linter.unusedVariables false
namespace Go.Proofs.Ytojkcbhmhfjioaa
open Go.RowKit
section
variable {P : Program} {ops : Array Oper} {Q : Exit → Act → World → Prop} {md : Region.Mode} {J : World → Prop}
/-- as wpAny, with J at every step -/
def wpAnyJ (P : Program) (md : Region.Mode) (ops : Array Oper) (Q : Exit → Act → World → Prop) (J : World → Prop) : Nat → Array Bool → Act → World → Prop
  | 0, listed, a, w => J w ∧ Region.ready md ops listed = [] ∧ Q .normal a w
  | fuel + 1, listed, a, w =>
    J w ∧ (Region.ready md ops listed = [] → Q .normal a w) ∧
    ∀ i ∈ Region.ready md ops listed, wpOp P ops Q i (wpAnyJ P md ops Q J fuel (listed.setIfInBounds i true)) a w
theorem wpAnyJ.drop : ∀ (f : Nat) (listed : Array Bool) (a : Act) (w : World), wpAnyJ P md ops Q J f listed a w → wpAny P md ops Q f listed a w
  | 0, _, _, _, h => h.2
  | f + 1, _, _, _, h => ⟨h.2.1, fun i hi => wpOp_mono (fun a w h => wpAnyJ.drop f _ a w h) (h.2.2 i hi)⟩
theorem wpAnyJ.at_ {f : Nat} {listed : Array Bool} {a : Act} {w : World} (h : wpAnyJ P md ops Q J f listed a w) : J w := by
  cases f with
  | zero => exact h.1
  | succ f => exact h.1
def YieldsJ (P : Program) (ops : Array Oper) (J : World → Prop) (o : Oper) (v : Value) (a : Act) : Prop :=
  Region.wanted o (yielded ops a.tmps) = true ∧ ∀ w, J w → (execOp a.eval o).run P w = .ok (.value v) w
theorem YieldsJ.wpOp {i : Nat} {o : Oper} {v : Value} {a : Act} (hi : ops[i]? = some o) (hy : YieldsJ P ops J o v a)
    {K : Act → World → Prop} {w : World} (hJ : J w) (h : K (a.put o.dst v) w) : wpOp P ops Q i K a w := by
  unfold Go.wpOp
  simp only [hi]
  obtain ⟨hw, hv⟩ := hy
  simp only [hw, if_true, Oper.wp, hv w hJ, Oper.upon]; exact .inl h
theorem YieldsJ.of_same {o : Oper} {v : Value} {a a' : Act} (hy : YieldsJ P ops J o v a) (he : execOp a'.eval o = execOp a.eval o)
    (hw : Region.wanted o (yielded ops a'.tmps) = Region.wanted o (yielded ops a.tmps)) : YieldsJ P ops J o v a' := by
  unfold YieldsJ at *
  rw [he, hw]
  exact hy
theorem wpOp_putJ {j : Nat} {oi oj : Oper} {v : Value} (hj : ops[j]? = some oj) (hap : oi.apart ops oj = true)
    (hsi : ∀ cs b, oi.op ≠ .select cs b) (hsj : ∀ cs b, oj.op ≠ .select cs b)
    (hQ : ∀ c a w, Q (.panic c) (a.put oi.dst v) w → Q (.panic c) a w) {K : Act → World → Prop} {a : Act} {w : World}
    (hy : YieldsJ P ops J oi v a) (h : wpOp P ops Q j K (a.put oi.dst v) w) :
    wpOp P ops Q j (fun a' w' => YieldsJ P ops J oi v a' ∧ K (a'.put oi.dst v) w') a w := by
  obtain ⟨h1, h2, h3⟩ := Oper.apart_spec hap
  have keep : ∀ (a : Act), YieldsJ P ops J oi v a → ∀ u, YieldsJ P ops J oi v (a.put oj.dst u) := fun a hy u =>
    hy.of_same (execOp_put oi hsi a oj.dst u h3) (wanted_put oi a oj.dst u h3)
  have keepD : ∀ d, YieldsJ P ops J oi v { a with defers := d :: a.defers } := fun d => hy.of_same rfl rfl
  unfold wpOp at *
  simp only [hj] at *
  rw [wanted_put oj a oi.dst v h1] at h
  split
  · rename_i hw
    simp only [hw, if_true] at h
    rcases h with h | ⟨hasks, hlets⟩
    case inr => exact .inr ⟨by unfold Oper.asks at *; rw [execOp_put oj hsj a oi.dst v h1] at hasks; exact hasks, hlets⟩
    refine .inl ?_
    unfold Oper.wp at *
    rw [execOp_put oj hsj a oi.dst v h1] at h
    generalize (execOp a.eval oj).run P w = r at *
    cases r with
    | ok n w' =>
      cases n <;> simp only [Oper.upon] at h ⊢
      case value u => exact ⟨keep a hy u, by rw [← Act.put_comm a v u h2]; exact h⟩
      case skip => exact ⟨keep a hy _, by rw [← Act.put_comm a v undef h2]; exact h⟩
      case defer d =>
        refine ⟨keep _ (keepD d) _, ?_⟩
        rw [← Act.put_comm _ v undef h2, ← Act.put_defers]
        exact h
      case enter f args =>
        refine Calls.mono h fun e w'' he => ?_
        cases e with
        | returned u => exact ⟨keep a hy u, by rw [← Act.put_comm a v u h2]; exact he⟩
        | panicked c => exact hQ _ _ _ he
        | outgrown => exact he
      case row row args => exact Rows.mono h fun u w'' he => ⟨keep a hy u, by rw [← Act.put_comm a v u h2]; exact he⟩
    | halt x w' =>
      cases x <;> simp only [Oper.upon] at h ⊢
      case panic u => exact hQ _ _ _ h
  · rename_i hw
    simp only [hw] at h
    exact ⟨keep a hy _, by rw [← Act.put_comm a v undef h2]; exact h⟩
theorem wpAnyJ_first {i : Nat} {oi : Oper} {v : Value} (hi : ops[i]? = some oi) (hsel : ∀ (j : Nat) (o : Oper) cs b, ops[j]? = some o → o.op ≠ .select cs b)
    (hQ : ∀ c a w, Q (.panic c) (a.put oi.dst v) w → Q (.panic c) a w) :
    ∀ (fuel : Nat) (listed : Array Bool) (a : Act) (w : World),
      (∀ j oj, ops[j]? = some oj → j ≠ i → listed.getD j true = false → (∀ e ∈ oj.after, Region.binds md e = true → e.on ≠ i) → oi.apart ops oj = true) →
      i ∈ Region.ready md ops listed → YieldsJ P ops J oi v a →
      wpAnyJ P md ops Q J fuel (listed.setIfInBounds i true) (a.put oi.dst v) w → wpAnyJ P md ops Q J (fuel + 1) listed a w := by
  intro fuel
  induction fuel with
  | zero =>
    intro listed a w _ hr hy H
    refine ⟨H.1, fun h => (by rw [h] at hr; cases hr), fun j hj => ?_⟩
    by_cases hji : j = i
    · subst hji; exact hy.wpOp hi H.1 H
    · have := ready_mono hj hji
      rw [H.2.1] at this
      cases this
  | succ fuel ih =>
    intro listed a w hfree hr hy H
    refine ⟨H.1, fun h => (by rw [h] at hr; cases hr), fun j hj => ?_⟩
    by_cases hji : j = i
    · subst hji; exact hy.wpOp hi H.1 H
    · have h1 := H.2.2 j (ready_mono hj hji)
      obtain ⟨hjun, oj, hoj, hall⟩ := mem_ready.1 hj
      have hnot : ∀ e ∈ oj.after, Region.binds md e = true → e.on ≠ i := fun e he hb heq => by
        have h1 := hall e he hb
        have h0 := (mem_ready.1 hr).1
        rw [heq] at h1
        rcases Nat.lt_or_ge i listed.size with h' | h'
        · simp [h'] at h0 h1; rw [h0] at h1; cases h1
        · simp [Array.getElem?_eq_none h'] at h1
      have h2 := wpOp_putJ hoj (hfree j oj hoj hji hjun hnot) (fun cs b => hsel i oi cs b hi) (fun cs b => hsel j oj cs b hoj) hQ hy h1
      have hfree' : ∀ k ok, ops[k]? = some ok → k ≠ i → (listed.setIfInBounds j true).getD k true = false →
          (∀ e ∈ ok.after, Region.binds md e = true → e.on ≠ i) → oi.apart ops ok = true := fun k ok hk hki hun hno => by
        refine hfree k ok hk hki ?_ hno
        by_cases hjk : j = k
        · subst hjk; exact hjun
        · rw [getD_set_ne true hjk] at hun; exact hun
      refine wpOp_mono (fun a' w' h3 => ih (listed.setIfInBounds j true) a' w' hfree' (ready_mono hr (Ne.symm hji)) h3.1 ?_) h2
      rw [Array.setIfInBounds_comm _ _ hji]
      exact h3.2
/-- operations that yield the same wherever J holds, taken first -/
def wpYJ (P : Program) (ops : Array Oper) (J : World → Prop) : List Nat → (Act → Prop) → Act → Prop
  | [], K, a => K a
  | i :: r, K, a => match ops[i]? with
    | some o => ∃ v, YieldsJ P ops J o v a ∧ wpYJ P ops J r K (a.put o.dst v)
    | none => False
theorem wpAny_YJ (hs : Region.noSelect ops = true) (hQ : ∀ d v c a w, Q (.panic c) (a.put d v) w → Q (.panic c) a w) {w : World} : ∀ (ps : List Nat) (f : Nat) (listed : Array Bool) (a : Act), chkY md ops ps listed = true →
    wpYJ P ops J ps (fun a' => wpAnyJ P md ops Q J f (setY ps listed) a' w) a → wpAnyJ P md ops Q J (f + ps.length) listed a w
  | [], f, listed, a, _, h => h
  | i :: r, f, listed, a, hc, h => by
    simp only [chkY, Bool.and_eq_true] at hc
    unfold wpYJ at h
    cases ho : ops[i]? with
    | none => rw [ho] at h; exact h.elim
    | some o =>
      rw [ho] at h
      obtain ⟨v, hy, h2⟩ := h
      have := wpAny_YJ hs hQ r f _ _ hc.2 h2
      rw [List.length_cons, ← Nat.add_assoc]
      exact wpAnyJ_first ho (Region.noSelect_spec hs) (fun c a w => hQ _ _ c a w) _ _ _ _ (Region.free_spec ho hc.1.1) (by simpa using hc.1.2) hy this
theorem wpYJ_mono {K K' : Act → Prop} (hK : ∀ a, K a → K' a) : ∀ (ps : List Nat) (a : Act), wpYJ P ops J ps K a → wpYJ P ops J ps K' a
  | [], a, h => hK a h
  | i :: r, a, h => by
    unfold wpYJ at *
    cases ho : ops[i]? with
    | none => rw [ho] at h; exact h.elim
    | some o =>
      rw [ho] at h
      obtain ⟨v, hy, h2⟩ := h
      exact ⟨v, hy, wpYJ_mono hK r _ h2⟩
/-- the tree of what is left, with J at every step -/
def wpTJ (P : Program) (ops : Array Oper) (Q : Exit → Act → World → Prop) (J : World → Prop) : Tr → Act → World → Prop
  | .done, a, w => J w ∧ Q .normal a w
  | .bad, _, _ => False
  | .op i t, a, w => J w ∧ wpOp P ops Q i (wpTJ P ops Q J t) a w
  | .both l r, a, w => wpTJ P ops Q J l a w ∧ wpTJ P ops Q J r a w
theorem wpTJ.at_ : ∀ (t : Tr) {a : Act} {w : World}, wpTJ P ops Q J t a w → J w
  | .done, _, _, h => h.1
  | .bad, _, _, h => h.elim
  | .op _ _, _, _, h => h.1
  | .both l _, _, _, h => wpTJ.at_ l h.1
theorem wpTJ_all (a : Act) (w : World) : ∀ (l : List Tr), wpTJ P ops Q J (Tr.all l) a w → ∀ t ∈ l, wpTJ P ops Q J t a w
  | [], _, t, ht => by cases ht
  | [x], h, t, ht => by rw [List.mem_singleton] at ht; subst ht; exact h
  | x :: y :: r, h, t, ht => by
    have h' : wpTJ P ops Q J x a w ∧ wpTJ P ops Q J (Tr.all (y :: r)) a w := h
    rcases List.mem_cons.1 ht with e | e
    · subst e; exact h'.1
    · exact wpTJ_all a w (y :: r) h'.2 t e
theorem wpAnyJ_tree : ∀ (f : Nat) (listed : Array Bool) (a : Act) (w : World), wpTJ P ops Q J (mkT md ops f listed) a w → wpAnyJ P md ops Q J f listed a w
  | 0, listed, a, w, h => by
    unfold mkT at h
    unfold wpAnyJ
    by_cases e : Region.ready md ops listed = []
    · rw [if_pos e] at h; exact ⟨h.1, e, h.2⟩
    · rw [if_neg e] at h; exact h.elim
  | f + 1, listed, a, w, h => by
    have hJ := wpTJ.at_ _ h
    unfold mkT at h
    unfold wpAnyJ
    refine ⟨hJ, fun e => by rw [e] at h; exact h.2, fun i hi => ?_⟩
    have h2 := wpTJ_all a w _ h (.op i (mkT md ops f (listed.setIfInBounds i true))) (List.mem_map.2 ⟨i, hi, rfl⟩)
    exact wpOp_mono (fun a' w' h' => wpAnyJ_tree f _ a' w' h') h2.2
theorem wp_region_J {id : Nat} {a : Act} {w : World} {l : List Oper} (J : World → Prop) (ps : List Nat) (t : Tr) (hm : P.follows .mixedOrders = true)
    (hc : (Region.noSelect l.toArray && chkY .any l.toArray ps (Array.replicate l.length false) && decide (ps.length ≤ l.length)) = true)
    (ht : mkT .any l.toArray (l.length - ps.length) (setY ps (Array.replicate l.length false)) = t)
    (hQ : ∀ d v c a w, Q (.panic c) (a.put d v) w → Q (.panic c) a w)
    (h : wpYJ P l.toArray J ps (fun a' => wpTJ P l.toArray Q J t a' w.drew) a) : (Code.region id l.toArray true).wp P Q a w := by
  simp only [Bool.and_eq_true, decide_eq_true_eq] at hc
  refine wp_region_any hm ?_
  have h2 := wpAny_YJ (md := .any) (w := w.drew) hc.1.1 hQ ps (l.length - ps.length) (Array.replicate l.length false) a hc.1.2
    (wpYJ_mono (fun a' h' => wpAnyJ_tree _ _ _ _ (by rw [ht]; exact h')) ps a h)
  rw [Nat.sub_add_cancel hc.2] at h2
  exact h2.drop
/-! the steps -/
variable {i : Nat} {t : Tr} {a : Act} {o : Oper} {S : Nat → Prop} {w0 w : World} {H : List (Nat × Array Value)}
theorem wpYJ_op {r : List Nat} {K : Act → Prop} (v : Value) (ho : ops[i]? = some o) (hw : Region.wanted o (yielded ops a.tmps) = true) (hrun : ∀ w, J w → (execOp a.eval o).run P w = .ok (.value v) w) (h : wpYJ P ops J r K (a.put o.dst v)) : wpYJ P ops J (i :: r) K a := by
  unfold wpYJ; rw [ho]; exact ⟨v, ⟨hw, hrun⟩, h⟩
theorem wpYJL_op {l : List Oper} {r : List Nat} {K : Act → Prop} (v : Value) (ho : lget l i = some o) (hw : Region.wanted o (yielded l.toArray a.tmps) = true) (hrun : ∀ w, J w → (execOp a.eval o).run P w = .ok (.value v) w) (h : wpYJ P l.toArray J r K (a.put o.dst v)) : wpYJ P l.toArray J (i :: r) K a :=
  wpYJ_op v (by rw [lget_eq] at ho; simpa using ho) hw hrun h
/-- a whole row is read -/
theorem wpYJ_ld {r : List Nat} {K : Act → Prop} {T : TypeId} {p : Operand} {n : Nat} {d : TypeDesc} (hu : P.underlying T = some d) (hd : d.isRow = true) (hi : (P.info? T).map (·.size) = some n) (b : Nat) (C : Array Value) (ho : ops[i]? = some o) (hop : o.op = .load T p)
    (hp : a.eval p = .pointer (some ⟨b, 0, none⟩)) (hI : ∀ w, J w → w.rowOf b = C) (hC : C.size = n) (hw : Region.wanted o (yielded ops a.tmps) = true)
    (h : wpYJ P ops J r K (a.put o.dst (.agg C))) : wpYJ P ops J (i :: r) K a :=
  wpYJ_op (.agg C) ho hw (fun w hiw => by
    obtain ⟨dst, op, ty, pos, after, guard⟩ := o
    subst hop
    have e := hI w hiw
    rw [x_load, hp, x_load0 w hu hd hi b (by rw [e]; exact hC), e]) h
/-- the same, with the slot named, the operation read off the list itself -/
theorem wpYJd_op {l : List Oper} {r : List Nat} {K : Act → Prop} (dst : Nat) (v : Value) (hdst : o.dst = some dst) (ho : lget l i = some o) (hw : Region.wanted o (yielded l.toArray a.tmps) = true) (hrun : ∀ w, J w → (execOp a.eval o).run P w = .ok (.value v) w) (h : wpYJ P l.toArray J r K (a.put (some dst) v)) : wpYJ P l.toArray J (i :: r) K a :=
  wpYJ_op v (by rw [lget_eq] at ho; simpa using ho) hw hrun (by rw [hdst]; exact h)
theorem wpYJd_ld {l : List Oper} {r : List Nat} {K : Act → Prop} {T : TypeId} {p : Operand} {n : Nat} {d : TypeDesc} (dst : Nat) (hu : P.underlying T = some d) (hd : d.isRow = true) (hi : (P.info? T).map (·.size) = some n) (b : Nat) (C : Array Value) (hdst : o.dst = some dst) (ho : lget l i = some o) (hop : o.op = .load T p)
    (hp : a.eval p = .pointer (some ⟨b, 0, none⟩)) (hI : ∀ w, J w → w.rowOf b = C) (hC : C.size = n) (hw : Region.wanted o (yielded l.toArray a.tmps) = true)
    (h : wpYJ P l.toArray J r K (a.put (some dst) (.agg C))) : wpYJ P l.toArray J (i :: r) K a :=
  wpYJ_ld (ops := l.toArray) hu hd hi b C (by rw [lget_eq] at ho; simpa using ho) hop hp hI hC hw (by rw [hdst]; exact h)
/-- a part of a row is read -/
theorem wpYJd_ldm {l : List Oper} {r : List Nat} {K : Act → Prop} {T : TypeId} {p : Operand} {n : Nat} {d : TypeDesc} (dst : Nat) (hu : P.underlying T = some d) (hd : d.isRow = true) (hi : (P.info? T).map (·.size) = some n) (b off : Nat) (C X : Array Value) (hdst : o.dst = some dst) (ho : lget l i = some o) (hop : o.op = .load T p)
    (hp : a.eval p = .pointer (some ⟨b, off, none⟩)) (hI : ∀ w, J w → w.rowOf b = C) (hC : off + n ≤ C.size) (hX : C.extract off (off + n) = X) (hw : Region.wanted o (yielded l.toArray a.tmps) = true)
    (h : wpYJ P l.toArray J r K (a.put (some dst) (.agg X))) : wpYJ P l.toArray J (i :: r) K a :=
  wpYJd_op dst (.agg X) hdst ho hw (fun w hiw => by
    obtain ⟨dst, op, ty, pos, after, guard⟩ := o
    subst hop
    have e := hI w hiw
    rw [x_load, hp, x_loadm w hu hd hi b off (by rw [e]; exact hC), e, hX]) h
theorem wpTJ_val {w' : World} {v : Value} (hJ : J w) (ho : ops[i]? = some o) (hw : Region.wanted o (yielded ops a.tmps) = true) (hrun : (execOp a.eval o).run P w = .ok (.value v) w') (h : wpTJ P ops Q J t (a.put o.dst v) w') : wpTJ P ops Q J (.op i t) a w := by
  refine ⟨hJ, ?_⟩
  unfold wpOp
  rw [ho]
  simp only [hw, if_true]
  refine .inl ?_
  unfold Oper.wp
  rw [hrun]
  exact h
theorem wpTJ_vald (d : Nat) {v : Value} (hJ : J w) (ho : ops[i]? = some o) (hd : o.dst = some d) (hw : Region.wanted o (yielded ops a.tmps) = true) (hrun : (execOp a.eval o).run P w = .ok (.value v) w) (h : wpTJ P ops Q J t (a.put (some d) v) w) : wpTJ P ops Q J (.op i t) a w :=
  wpTJ_val hJ ho hw hrun (by rw [hd]; exact h)
theorem wpTJ_run {w' : World} (hJ : J w) (ho : ops[i]? = some o) (hw : Region.wanted o (yielded ops a.tmps) = true) (hrun : (execOp a.eval o).run P w = .ok .skip w') (h : wpTJ P ops Q J t (a.put o.dst undef) w') : wpTJ P ops Q J (.op i t) a w := by
  refine ⟨hJ, ?_⟩
  unfold wpOp
  rw [ho]
  simp only [hw, if_true]
  refine .inl ?_
  unfold Oper.wp
  rw [hrun]
  exact h
theorem wpTJ_new {T : TypeId} {z : Value} (hJ : J w) (M : Mm S w0 H w) (hz : ((P.info? T).bind (·.zero)) = some z) (hT : T ≠ 5) (ho : ops[i]? = some o) (hop : o.op = .alloc T) (hw : Region.wanted o (yielded ops a.tmps) = true)
    (h : ∀ b w', Mm S w0 ((b, z.cells) :: H) w' → wpTJ P ops Q J t (a.put o.dst (.pointer (some ⟨b, 0, none⟩))) w') : wpTJ P ops Q J (.op i t) a w :=
  wpTJ_val (w' := w.alloc (.cells z.cells T)) hJ ho hw (by
    obtain ⟨dst, op, ty, pos, after, guard⟩ := o
    subst hop
    rw [x_alloc, x_alloc0 w hz]) (h _ _ (M.alloc _ T hT))
theorem wpTJ_st0 {T : TypeId} {p x : Operand} {n : Nat} {b : Nat} {C : Array Value} (hJ : J w) (M : Mm S w0 H w) (k : Nat) (C' : Array Value) (hi : (P.info? T).map (·.size) = some n) (hk : H[k]? = some (b, C)) (ho : ops[i]? = some o) (hop : o.op = .store T p x) (hd : o.dst = none)
    (hp : a.eval p = .pointer (some ⟨b, 0, none⟩)) (hx : a.eval x = .agg C') (hC : C.size = n) (hC' : C'.size = n) (h1 : ones C' = true) (hw : Region.wanted o (yielded ops a.tmps) = true)
    (h : ∀ w', Mm S w0 (H.set k (b, C')) w' → wpTJ P ops Q J t a w') : wpTJ P ops Q J (.op i t) a w := by
  have hm := List.mem_of_getElem? hk
  refine wpTJ_run (w' := w.setRow b C') hJ ho hw ?_ ?_
  · obtain ⟨dst, op, ty, pos, after, guard⟩ := o
    subst hop
    rw [x_store, hp, hx, x_store0 w hi b C' hC' (by rw [M.row hm]; exact hC) (M.free hm) (ones_all h1)]
  · rw [hd]; exact h _ (M.set k C' hk)
end
end Go.Proofs.Ytojkcbhmhfjioaa
