/-
  A region that draws its order: each operation's outcome is told by what it reads, whatever the order; own work.
  A region that draws its order, with assignments in its tail; numbers of 64 bits; own work.
  A region that draws its order, as in Flow: the tail may wait for an operation through another one; own work.
-/
import Derived.Test.YtojkcbhmhfjioaaStep
import Derived.Laws.Externs
import Derived.Shelf.Spec.BitsCarry
import Derived.Lib.Mul64
import Derived.Laws.Bits64b
import Derived.Shelf.Bits.Mul64
import Derived.LoopN
set_option linter.unusedSimpArgs false
set_option linter.unusedVariables false
namespace Go.Proofs.Ytojkcbhmhfjioaa
open Go.RowKit

/-- new memory, and marks on rows of bytes -/
def Soft (w w' : World) : Prop := w.heap.size ≤ w'.heap.size ∧ ∀ k, k < w.heap.size → w'.heap[k]? = w.heap[k]? ∨ ∃ c fz fz', w.heap[k]? = some (.cells c 5 fz) ∧ w'.heap[k]? = some (.cells c 5 fz')
theorem Soft.of {w w' : World} (h : Below w.heap.size w w') : Soft w w' := ⟨h.size, fun k hk => .inl (h.block k hk)⟩
theorem Soft.row {w w' : World} (h : Soft w w') {k : Nat} (hk : k < w.heap.size) : w'.rowOf k = w.rowOf k := by
  rcases h.2 k hk with e | ⟨c, fz, fz', e1, e2⟩
  · simp [World.rowOf, e]
  · rw [rowOf_eq e1, rowOf_eq e2]
theorem SV.soft {w w' : World} {v : Value} {n : Nat} {xs : List Value} (h : SV w v n xs) (hs : Soft w w') : SV w' v n xs := by
  obtain ⟨a, cap, rfl, h1, h2, h3⟩ := h
  refine ⟨a, cap, rfl, h1, h2, fun hx => ?_⟩
  obtain ⟨b, o, rfl, h4⟩ := h3 hx
  refine ⟨b, o, rfl, fun i hi => ?_⟩
  have h5 := h4 i hi
  rw [List.getElem?_eq_getElem hi, cell_rowOf] at h5
  have hb := row_lt (Array.getElem?_eq_some_iff.1 h5).1
  rw [cell_rowOf, hs.row hb, h5, List.getElem?_eq_getElem hi]
/-- what is said of an outcome, and stays as long as only new memory is made -/
structure Sp where
  p : Value → World → Prop
  st : ∀ v w w', p v w → Soft w w' → p v w'
  fr : Bool
  hf : fr = true → ∀ v w, p v w → ∃ g, v = .pointer (some ⟨g, 0, none⟩) ∧ g < w.heap.size
def Sp.any : Sp := ⟨fun _ _ => True, fun _ _ _ _ _ => trivial, false, fun h => by cases h⟩
def Sp.eq (c : Value) : Sp := ⟨fun v _ => v = c, fun _ _ _ h _ => h, false, fun h => by cases h⟩
def Sp.bs (l : List (BitVec 8)) : Sp := ⟨fun v w => BS w v l, fun _ _ _ h hb => SV.soft h hb, false, fun h => by cases h⟩
def Sp.of (p : Value → World → Prop) (st : ∀ v w w', p v w → Soft w w' → p v w') : Sp := ⟨p, st, false, fun h => by cases h⟩
/-- a variable that is made, with its row -/
def Sp.var (B : Nat) (c : Array Value) (T : TypeId) (hT : T ≠ 5) : Sp := ⟨fun v w => ∃ g, v = .pointer (some ⟨g, 0, none⟩) ∧ B ≤ g ∧ w.heap[g]? = some (.cells c T (0, 0)),
  fun v w w' ⟨g, h1, h2, h3⟩ hb => ⟨g, h1, h2, by
    rcases hb.2 g (Array.getElem?_eq_some_iff.1 h3).1 with e | ⟨c', fz, fz', e1, e2⟩
    · exact e.trans h3
    · rw [h3] at e1; injection e1 with e1; injection e1 with _ e1 _; exact absurd e1 hT⟩, true, fun _ v w ⟨g, h1, _, h3⟩ => ⟨g, h1, (Array.getElem?_eq_some_iff.1 h3).1⟩⟩
/-- a literal's row of bytes -/
def Sp.lit (B : Nat) (l : List (BitVec 8)) : Sp := .of (fun v w => ∃ g fz, v = .slice (some ⟨g, 0, none⟩) l.length l.length ∧ B ≤ g ∧ w.heap[g]? = some (.cells (cs U8 l) 5 fz))
  fun v w w' ⟨g, fz, h1, h2, h3⟩ hb => by
    rcases hb.2 g (Array.getElem?_eq_some_iff.1 h3).1 with e | ⟨c', fz1, fz2, e1, e2⟩
    · exact ⟨g, fz, h1, h2, e.trans h3⟩
    · rw [h3] at e1; injection e1 with e1; injection e1 with e1 _ _
      exact ⟨g, fz2, h1, h2, by rw [e2, ← e1]⟩
def updL (a0 : Act) (f : Nat → Value) : List Nat → Act
  | [] => a0
  | d :: ds => (updL a0 f ds).put (some d) (f d)
section
variable {a0 : Act} {f : Nat → Value}
theorem updL_size : ∀ ds : List Nat, (updL a0 f ds).tmps.size = a0.tmps.size
  | [] => rfl
  | d :: ds => by simp [updL, Act.put, updL_size ds]
theorem updL_defers : ∀ ds : List Nat, (updL a0 f ds).defers = a0.defers
  | [] => rfl
  | d :: ds => by simp [updL, Act.put, updL_defers ds]
theorem updL_get (k : Nat) : ∀ ds : List Nat, (updL a0 f ds).tmps[k]? = if k ∈ ds ∧ k < a0.tmps.size then some (f k) else a0.tmps[k]?
  | [] => by simp [updL]
  | d :: ds => by
    simp only [updL, Act.put, Array.getElem?_setIfInBounds, updL_size]
    rw [updL_get k ds]
    by_cases hd : d = k
    · subst hd
      by_cases hk : d < a0.tmps.size
      · simp [hk]
      · simp [hk]
    · simp [hd, Ne.symm hd]
theorem act_ext {a b : Act} (h1 : ∀ k : Nat, a.tmps[k]? = b.tmps[k]?) (h2 : a.defers = b.defers) : a = b := by
  obtain ⟨t, d⟩ := a; obtain ⟨t', d'⟩ := b
  have : t = t' := Array.ext_getElem? (fun k => h1 k)
  subst this; simp at h2; subst h2; rfl
theorem updL_put {d : Nat} (v : Value) {ds : List Nat} (hd : d ∈ ds) : (updL a0 f ds).put (some d) v = updL a0 (fun k => if k = d then v else f k) ds := by
  refine act_ext (fun k => ?_) ?_
  · simp only [Act.put, Array.getElem?_setIfInBounds, updL_size]
    rw [updL_get, updL_get]
    by_cases h : d = k
    · subst h
      by_cases hk : d < a0.tmps.size
      · simp [hk, hd]
      · simp [hk]
    · simp [h, Ne.symm h]
  · simp [Act.put, updL_defers]
theorem updL_self (a : Act) (ds : List Nat) : a = updL a (fun k => a.tmps.getD k undef) ds := by
  refine act_ext (fun k => ?_) (updL_defers ds).symm
  rw [updL_get]
  by_cases h : k ∈ ds ∧ k < a.tmps.size
  · rw [if_pos h]; simp [Array.getElem?_eq_getElem h.2]
  · rw [if_neg h]
end
/-- what an operand reads -/
def evalU (a0 : Act) (f : Nat → Value) (ds : List Nat) : Operand → Value
  | .tmp k => bif ds.contains k then f k else a0.tmps.getD k undef
  | x => a0.eval x
theorem updL_eval {a0 : Act} {f : Nat → Value} {ds : List Nat} (hsz : ds.all (fun d => decide (d < a0.tmps.size)) = true) : (updL a0 f ds).eval = evalU a0 f ds := by
  funext x
  cases x with
  | tmp k =>
    show (updL a0 f ds).tmps.getD k undef = _
    have h1 : (updL a0 f ds).tmps.getD k undef = ((updL a0 f ds).tmps[k]?).getD undef := by simp
    rw [h1, updL_get]
    unfold evalU
    by_cases hk : k ∈ ds
    · have : k < a0.tmps.size := by
        have := List.all_eq_true.1 hsz k hk
        simpa using this
      simp [hk, this]
    · simp [hk]
  | const v => rfl
  | global g => rfl
  | func g => rfl
/-- an operation's outcome -/
def Gives (P : Program) (ρ : Operand → Value) (o : Oper) (w : World) (R : Value → World → Prop) : Prop :=
  match (execOp ρ o).run P w with
  | .ok (.value v) w' => R v w'
  | .ok (.enter g args) w' => Calls P g args w' fun e w'' => ∃ v, e = .returned v ∧ R v w''
  | _ => False
theorem Gives.wp {P : Program} {o : Oper} {a : Act} {w : World} {R : Value → World → Prop} {K : Act → World → Prop} {Q : Exit → Act → World → Prop} (h : Gives P a.eval o w R) (hK : ∀ v w', R v w' → K (a.put o.dst v) w') : o.wp P a w K Q := by
  unfold Oper.wp
  unfold Gives at h
  revert h
  generalize (execOp a.eval o).run P w = r
  intro h
  cases r with
  | ok n w' =>
    cases n with
    | value v => exact hK _ _ h
    | enter g args => exact Calls.mono h (fun e w'' ⟨v, he, hr⟩ => by subst he; exact hK _ _ hr)
    | _ => exact h.elim
  | halt x w' => exact h.elim
def bo (md : Region.Mode) (o : Oper) : List Nat := (o.after.toList.filter (Region.binds md)).map (·.on)
def depT (Ts : List Sp) (ds : List Nat) (f : Nat → Value) (w : World) : List Nat → Prop
  | [] => True
  | e :: r => (Ts.getD e Sp.any).p (f (ds.getD e 0)) w ∧ depT Ts ds f w r
def grdT (Ts : List Sp) : Option (Nat × Bool) → Prop
  | none => True
  | some (g, b) => ∀ v w, (Ts.getD g Sp.any).p v w → v = .bool b
/-- an operation's step -/
def stepF (P : Program) (md : Region.Mode) (a0 : Act) (ds : List Nat) (Ts : List Sp) (w0 : World) (i : Nat) (o : Oper) : Prop :=
  grdT Ts o.guard ∧ ∀ f w, Below w0.heap.size w0 w → depT Ts ds f w (bo md o) →
    Gives P (evalU a0 f ds) o w fun v w' => Soft w w' ∧ Below w0.heap.size w0 w' ∧ (Ts.getD i Sp.any).p v w' ∧ ((Ts.getD i Sp.any).fr = true → v = .pointer (some ⟨w.heap.size, 0, none⟩))
def stepsF (P : Program) (md : Region.Mode) (a0 : Act) (ds : List Nat) (Ts : List Sp) (w0 : World) : Nat → List Oper → Prop
  | _, [] => True
  | i, o :: r => stepF P md a0 ds Ts w0 i o ∧ stepsF P md a0 ds Ts w0 (i + 1) r
theorem stepsF_at {P : Program} {md : Region.Mode} {a0 : Act} {ds : List Nat} {Ts : List Sp} {w0 : World} : ∀ (l : List Oper) (k i : Nat) (o : Oper), stepsF P md a0 ds Ts w0 k l → l[i]? = some o → stepF P md a0 ds Ts w0 (k + i) o
  | [], _, _, _, _, e => nomatch e
  | x :: r, k, 0, o, h, e => by
    have e' : x = o := Option.some.inj e
    rw [← e']; exact h.1
  | x :: r, k, i + 1, o, h, e => by
    have := stepsF_at r (k + 1) i o h.2 e
    rwa [show k + (i + 1) = k + 1 + i by omega]
theorem depT_of {Ts : List Sp} {ds : List Nat} {f : Nat → Value} {w : World} : ∀ l : List Nat, (∀ e ∈ l, (Ts.getD e Sp.any).p (f (ds.getD e 0)) w) → depT Ts ds f w l
  | [], _ => trivial
  | e :: r, h => ⟨h e (by simp), depT_of r (fun x hx => h x (by simp [hx]))⟩
def allT : List Sp → List Nat → (Nat → Value) → World → Prop
  | T :: Ts, d :: ds, f, w => T.p (f d) w ∧ allT Ts ds f w
  | _, _, _, _ => True
theorem allT_of : ∀ (Ts : List Sp) (ds : List Nat) (f : Nat → Value) (w : World), (∀ i, i < ds.length → (Ts.getD i Sp.any).p (f (ds.getD i 0)) w) → allT Ts ds f w
  | [], ds, f, w, h => by unfold allT; trivial
  | T :: Ts, [], f, w, h => by unfold allT; trivial
  | T :: Ts, d :: ds, f, w, h => by
    unfold allT
    exact ⟨h 0 (by simp), allT_of Ts ds f w (fun i hi => h (i + 1) (by simpa using hi))⟩
/-- the static part: n head operations, which write the slots ds, each behind those that it waits for; the tail waits for all of them -/
def chkF (md : Region.Mode) (ops : Array Oper) (n : Nat) (ds : List Nat) : Bool :=
  decide (ds.length = n) && decide (n ≤ ops.size) && decide ds.Nodup &&
  (List.range n).all (fun i => match ops[i]? with
    | some o => (o.dst == some (ds.getD i 0)) && (bo md o).all (fun e => decide (e < i)) && (match o.guard with | none => true | some (g, _) => (bo md o).contains g)
    | none => false) &&
  (List.range ops.size).all (fun t => decide (t < n) || match ops[t]? with
    | some o => (List.range n).all (fun i => (bo md o).contains i) || (bo md o).any (fun e => decide (n ≤ e))
    | none => false)
def headA (n m : Nat) : Array Bool := ((List.range m).map (fun i => decide (i < n))).toArray
section
variable {P : Program} {ops : Array Oper} {Q : Exit → Act → World → Prop} {md : Region.Mode} {a0 : Act} {ds : List Nat} {Ts : List Sp} {w0 : World} {n : Nat}
def cntF (n : Nat) (listed : Array Bool) : Nat := ((List.range n).filter (fun i => !listed.getD i true)).length
structure InvF (P : Program) (ops : Array Oper) (a0 : Act) (ds : List Nat) (Ts : List Sp) (w0 : World) (n : Nat) (listed : Array Bool) (a : Act) (w : World) : Prop where
  size : listed.size = ops.size
  tail : ∀ t, n ≤ t → t < ops.size → listed.getD t true = false
  ex : ∃ f, a = updL a0 f ds ∧ Below w0.heap.size w0 w ∧ (∀ i, i < n → listed.getD i false = true → (Ts.getD i Sp.any).p (f (ds.getD i 0)) w) ∧
    (∀ i j, i < n → j < n → i ≠ j → listed.getD i false = true → listed.getD j false = true → (Ts.getD i Sp.any).fr = true → (Ts.getD j Sp.any).fr = true → f (ds.getD i 0) ≠ f (ds.getD j 0))
theorem filter_lt {α : Type} (p q : α → Bool) (l : List α) (x : α) (hx : x ∈ l) (hp : p x = true) (hq : q x = false) (h : ∀ y, q y = true → p y = true) : (l.filter q).length < (l.filter p).length := by
  induction l with
  | nil => cases hx
  | cons y r ih =>
    have hle : (r.filter q).length ≤ (r.filter p).length := by
      clear ih hx
      induction r with
      | nil => simp
      | cons z r ih2 =>
        by_cases hz : q z = true
        · rw [List.filter_cons_of_pos hz, List.filter_cons_of_pos (h z hz)]; simpa using ih2
        · rw [List.filter_cons_of_neg hz]
          by_cases hz2 : p z = true
          · rw [List.filter_cons_of_pos hz2]; simp; omega
          · rw [List.filter_cons_of_neg hz2]; exact ih2
    rcases List.mem_cons.1 hx with e | e
    · subst e
      rw [List.filter_cons_of_pos hp, List.filter_cons_of_neg (by simp [hq])]
      simp; omega
    · have := ih e
      by_cases hy : q y = true
      · rw [List.filter_cons_of_pos hy, List.filter_cons_of_pos (h y hy)]; simpa using this
      · rw [List.filter_cons_of_neg hy]
        by_cases hy2 : p y = true
        · rw [List.filter_cons_of_pos hy2]; simp; omega
        · rw [List.filter_cons_of_neg hy2]; exact this
theorem flow_any {g : Nat} (hc : chkF md ops n ds = true) (hsz : ds.all (fun d => decide (d < a0.tmps.size)) = true)
    (hs : stepsF P md a0 ds Ts w0 0 (ops.toList.take n))
    (hk : ∀ f w, Below w0.heap.size w0 w → allT Ts ds f w → (∀ i j, i < n → j < n → i ≠ j → (Ts.getD i Sp.any).fr = true → (Ts.getD j Sp.any).fr = true → f (ds.getD i 0) ≠ f (ds.getD j 0)) → wpAny P md ops Q g (headA n ops.size) (updL a0 f ds) w) :
    ∀ (m : Nat) (listed : Array Bool) (a : Act) (w : World), cntF n listed = m → InvF P ops a0 ds Ts w0 n listed a w → wpAny P md ops Q (m + g) listed a w := by
  simp only [chkF, Bool.and_eq_true, decide_eq_true_eq, List.all_eq_true, List.mem_range] at hc
  obtain ⟨⟨⟨⟨hlen, hn⟩, hnd⟩, hhead⟩, htail⟩ := hc
  have hop : ∀ i, i < n → ∃ o, ops[i]? = some o ∧ o.dst = some (ds.getD i 0) ∧ (∀ e ∈ bo md o, e < i) ∧ (∀ gd b, o.guard = some (gd, b) → gd ∈ bo md o) := by
    intro i hi
    have h := hhead i hi
    cases ho : ops[i]? with
    | none => rw [ho] at h; cases h
    | some o =>
      rw [ho] at h
      simp only [Bool.and_eq_true, beq_iff_eq, List.all_eq_true, decide_eq_true_eq] at h
      refine ⟨o, rfl, h.1.1, h.1.2, fun gd b e => ?_⟩
      have h2 := h.2
      rw [e] at h2
      simpa using h2
  have hdi : ∀ i j, i < n → j < n → i ≠ j → ds.getD i 0 ≠ ds.getD j 0 := by
    intro i j hi hj hij e
    rw [List.getD_eq_getElem?_getD, List.getD_eq_getElem?_getD, List.getElem?_eq_getElem (by omega), List.getElem?_eq_getElem (by omega)] at e
    exact hij ((List.getElem_inj hnd).1 e)
  intro m
  induction m with
  | zero =>
    intro listed a w hm inv
    obtain ⟨f, rfl, hb, hT, hD⟩ := inv.ex
    have hall : ∀ i, i < n → listed.getD i true = true := by
      intro i hi
      cases h : listed.getD i true with
      | true => rfl
      | false =>
        have : i ∈ (List.range n).filter (fun i => !listed.getD i true) := by
          rw [List.mem_filter, List.mem_range]; exact ⟨hi, by rw [h]; rfl⟩
        unfold cntF at hm
        rw [List.length_eq_zero_iff] at hm
        rw [hm] at this; cases this
    have hall' : ∀ i, i < n → listed.getD i false = true := by
      intro i hi
      have h := hall i hi
      have hi' : i < listed.size := by rw [inv.size]; omega
      simpa [hi'] using h
    have hl : listed = headA n ops.size := by
      apply Array.ext
      · rw [inv.size]; simp [headA]
      · intro i h1 h2
        have hr : (headA n ops.size)[i] = decide (i < n) := by simp [headA]
        rw [hr]
        by_cases hi : i < n
        · have := hall i hi; simpa [h1, hi] using this
        · have := inv.tail i (by omega) (by rw [← inv.size]; exact h1); simpa [h1, hi] using this
    rw [hl, Nat.zero_add]
    refine hk f w hb (allT_of Ts ds f w (fun i hi => hT i (by omega) (hall' i (by omega)))) (fun i j hi hj hij h1 h2 => hD i j hi hj hij (hall' i hi) (hall' j hj) h1 h2)
  | succ m ih =>
    intro listed a w hm inv
    obtain ⟨f, rfl, hb, hT, hD⟩ := inv.ex
    rw [show m + 1 + g = (m + g) + 1 by omega]
    have hgd : ∀ i, i < n → listed.getD i true = true → listed.getD i false = true := by
      intro i hi h
      have hi' : i < listed.size := by rw [inv.size]; omega
      simpa [hi'] using h
    -- the least that is not listed is ready
    have hleast : ∃ i, i < n ∧ listed.getD i true = false := by
      apply Classical.byContradiction
      intro h
      have : cntF n listed = 0 := by
        unfold cntF
        rw [List.length_eq_zero_iff, List.filter_eq_nil_iff]
        intro i hi
        have hi := List.mem_range.1 hi
        cases h2 : listed.getD i true with
        | true => simp
        | false => exact absurd ⟨i, hi, h2⟩ h
      omega
    have hready : ∃ i, i ∈ Region.ready md ops listed := by
      obtain ⟨i, hi, hu⟩ := hleast
      induction i using Nat.strongRecOn with
      | _ i ihi =>
        obtain ⟨o, ho, _, hlt, _⟩ := hop i hi
        by_cases hr : ∀ e ∈ bo md o, listed.getD e false = true
        · refine ⟨i, mem_ready.2 ⟨hu, o, ho, fun e he hbd => hr e.on ?_⟩⟩
          unfold bo
          rw [List.mem_map]
          exact ⟨e, by rw [List.mem_filter]; exact ⟨by simpa using he, hbd⟩, rfl⟩
        · obtain ⟨e, he⟩ := Classical.not_forall.1 hr
          obtain ⟨he, hne⟩ := Classical.not_imp.1 he
          have hei := hlt e he
          refine ihi e hei (by omega) ?_
          cases h2 : listed.getD e true with
          | false => rfl
          | true => exact absurd (hgd e (by omega) h2) hne
    refine ⟨fun h0 => (by obtain ⟨i, hi⟩ := hready; rw [h0] at hi; cases hi), fun i hi => ?_⟩
    obtain ⟨hu, o, ho, hall⟩ := mem_ready.1 hi
    have hbo : ∀ e ∈ bo md o, listed.getD e false = true := by
      intro e he
      unfold bo at he
      rw [List.mem_map] at he
      obtain ⟨ed, hed, rfl⟩ := he
      rw [List.mem_filter] at hed
      exact hall ed (by simpa using hed.1) hed.2
    have hin : i < n := by
      apply Classical.byContradiction
      intro hge
      have hlt : i < ops.size := (Array.getElem?_eq_some_iff.1 ho).1
      have h := htail i hlt
      rw [ho] at h
      simp only [Bool.or_eq_true, decide_eq_true_eq, List.all_eq_true, List.mem_range, List.any_eq_true] at h
      rcases h with h | h | h
      · exact hge h
      · obtain ⟨j, hj, hju⟩ := hleast
        have := hbo j (by simpa using h j hj)
        have hj' : j < listed.size := by rw [inv.size]; omega
        simp [hj'] at this hju
        rw [this] at hju; cases hju
      · obtain ⟨e, he, hne⟩ := h
        have h2 := hbo e he
        have he' : e < listed.size := by
          apply Classical.byContradiction
          intro hx
          simp [Array.getElem?_eq_none (show listed.size ≤ e by omega)] at h2
        have h3 := inv.tail e hne (by rw [← inv.size]; exact he')
        simp [he'] at h2 h3
        rw [h2] at h3; cases h3
    obtain ⟨o', ho', hdst, hlt, hg⟩ := hop i hin
    obtain rfl : o' = o := Option.some.inj (ho'.symm.trans ho)
    have hstep := stepsF_at (ops.toList.take n) 0 i o' hs (by rw [List.getElem?_take_of_lt hin]; simpa using ho)
    rw [Nat.zero_add] at hstep
    obtain ⟨hgrd, hgive⟩ := hstep
    have hds : ds.getD i 0 ∈ ds := by rw [List.getD_eq_getElem?_getD, List.getElem?_eq_getElem (by omega)]; exact List.getElem_mem _
    have hw : Region.wanted o' (yielded ops (updL a0 f ds).tmps) = true := by
      unfold Region.wanted
      cases hgu : o'.guard with
      | none => rfl
      | some gb =>
        obtain ⟨gd, b⟩ := gb
        have hin2 := hg gd b hgu
        have hgl := hlt gd hin2
        have hv := hT gd (by omega) (hbo gd hin2)
        rw [hgu] at hgrd
        have hv2 := hgrd _ _ hv
        obtain ⟨og, hog, hdg, _⟩ := hop gd (by omega)
        have hdm : ds.getD gd 0 ∈ ds := by rw [List.getD_eq_getElem?_getD, List.getElem?_eq_getElem (by omega)]; exact List.getElem_mem _
        have hdz : ds.getD gd 0 < a0.tmps.size := by simpa using List.all_eq_true.1 hsz _ hdm
        simp only [yielded, hog, Option.bind_some, hdg]
        rw [updL_get, if_pos ⟨hdm, hdz⟩, hv2]
        simp
    have hgv := hgive f w hb (depT_of _ (fun e he => hT e (by have := hlt e he; omega) (hbo e he)))
    rw [← updL_eval hsz] at hgv
    have hlenL : i < listed.size := by rw [inv.size]; exact (Array.getElem?_eq_some_iff.1 ho).1
    unfold wpOp
    rw [ho]
    simp only [hw, if_true]
    refine .inl (Gives.wp hgv (fun v w' ⟨hbw, hJ, hTv, hfr⟩ => ?_))
    refine ih _ _ _ ?_ ⟨by simp [inv.size], fun t h1 h2 => ?_, ?_⟩
    · have hlt2 : cntF n (listed.setIfInBounds i true) < cntF n listed := by
        refine filter_lt _ _ _ i (List.mem_range.2 hin) (by rw [hu]; rfl) (by simp [hlenL]) (fun y hy => ?_)
        by_cases hyi : i = y
        · subst hyi; simp [hlenL] at hy
        · rw [getD_set_ne true hyi] at hy; exact hy
      have hge2 : cntF n listed ≤ cntF n (listed.setIfInBounds i true) + 1 := by
        unfold cntF
        have key : ∀ (l : List Nat), l.Nodup → (l.filter (fun j => !listed.getD j true)).length ≤ (l.filter (fun j => !(listed.setIfInBounds i true).getD j true)).length + 1 := by
          intro l hl
          induction l with
          | nil => simp
          | cons x r ihr =>
            have hl' := List.nodup_cons.1 hl
            by_cases hx : x = i
            · subst hx
              have heq : r.filter (fun j => !listed.getD j true) = r.filter (fun j => !(listed.setIfInBounds x true).getD j true) := by
                apply List.filter_congr
                intro y hy
                rw [getD_set_ne true (fun e => hl'.1 (by rw [e]; exact hy))]
              have e1 : (fun j => !listed.getD j true) x = true := by simp only [hu]; rfl
              have e2 : (!(listed.setIfInBounds x true).getD x true) = false := by simp [hlenL]
              rw [List.filter_cons, List.filter_cons, e2, heq]
              simp only [hu]
              simp
            · have := ihr hl'.2
              rw [List.filter_cons, List.filter_cons, getD_set_ne true (Ne.symm hx)]
              by_cases hb : (!listed.getD x true) = true
              · rw [if_pos hb, if_pos hb, List.length_cons, List.length_cons]; omega
              · rw [if_neg hb, if_neg hb]; omega
        exact key _ List.nodup_range
      omega
    · rw [getD_set_ne true (by omega)]; exact inv.tail t h1 h2
    · rw [hdst, updL_put v hds]
      refine ⟨_, rfl, hJ, fun j hj hl => ?_, fun j k hj hk2 hjk hl1 hl2 hf1 hf2 => ?_⟩
      · by_cases hji : j = i
        · subst hji; simpa using hTv
        · rw [getD_set_ne false (Ne.symm hji)] at hl
          have hne := hdi j i hj hin hji
          simp only [hne, if_false]
          exact (Ts.getD j Sp.any).st _ _ _ (hT j hj hl) hbw
      · by_cases hji : j = i
        · subst hji
          have hne := hdi k j hk2 hin (Ne.symm hjk)
          simp only [if_true, hne, if_false]
          rw [getD_set_ne false (by omega)] at hl2
          obtain ⟨gk, e1, e2⟩ := (Ts.getD k Sp.any).hf hf2 _ _ (hT k hk2 hl2)
          rw [hfr hf1, e1]
          intro e; injection e with e; injection e with e; injection e with e; omega
        · by_cases hki : k = i
          · subst hki
            have hne := hdi j k hj hin hji
            simp only [if_true, hne, if_false]
            rw [getD_set_ne false (by omega)] at hl1
            obtain ⟨gk, e1, e2⟩ := (Ts.getD j Sp.any).hf hf1 _ _ (hT j hj hl1)
            rw [hfr hf2, e1]
            intro e; injection e with e; injection e with e; injection e with e; omega
          · rw [getD_set_ne false (Ne.symm hji)] at hl1
            rw [getD_set_ne false (Ne.symm hki)] at hl2
            have h1 := hdi j i hj hin hji
            have h2 := hdi k i hk2 hin hki
            simp only [h1, h2, if_false]
            exact hD j k hj hk2 hjk hl1 hl2 hf1 hf2
theorem wp_region_flow {id : Nat} {a : Act} {w : World} {l : List Oper} (n : Nat) (ds : List Nat) (Ts : List Sp) (t : Tr) (hm : P.follows .mixedOrders = true)
    (hc : chkF .any l.toArray n ds = true) (ht : mkT .any l.toArray (l.length - n) (headA n l.length) = t)
    (hsz : ds.all (fun d => decide (d < a.tmps.size)) = true)
    (hs : stepsF P .any a ds Ts w 0 (l.take n))
    (hk : ∀ f w', Below w.heap.size w w' → allT Ts ds f w' → (∀ i j, i < n → j < n → i ≠ j → (Ts.getD i Sp.any).fr = true → (Ts.getD j Sp.any).fr = true → f (ds.getD i 0) ≠ f (ds.getD j 0)) → wpT P l.toArray Q t (updL a f ds) w') :
    (Code.region id l.toArray true).wp P Q a w := by
  refine wp_region_any hm ?_
  have hn : n ≤ l.length := by
    simp only [chkF, Bool.and_eq_true, decide_eq_true_eq] at hc
    simpa using hc.1.1.1.2
  have hcnt : cntF n (Array.replicate l.toArray.size false) = n := by
    unfold cntF
    have : (List.range n).filter (fun i => !(Array.replicate l.toArray.size false).getD i true) = List.range n := by
      rw [List.filter_eq_self]
      intro i hi
      have := List.mem_range.1 hi
      have hi2 : i < l.length := by omega
      simp [hi2]
    rw [this, List.length_range]
  have h := flow_any (P := P) (ops := l.toArray) (Q := Q) (md := .any) (a0 := a) (ds := ds) (Ts := Ts) (w0 := w) (n := n) (g := l.length - n) hc hsz hs
    (fun f w' hb hT hD => wpAny_tree _ _ _ _ (by
      have e : l.toArray.size = l.length := by simp
      rw [e, ht]; exact hk f w' hb hT hD)) n (Array.replicate l.toArray.size false) a w.drew hcnt
    ⟨by simp, fun t h1 h2 => getD_in (by simpa using h2) (getD_replicate_false _ _), ⟨_, updL_self a ds, below_drewN (Below.refl _ _) 1, fun i _ h => (by rw [getD_replicate_false] at h; cases h), fun i j _ _ _ h => (by rw [getD_replicate_false] at h; cases h)⟩⟩
  rw [show n + (l.length - n) = l.toArray.size by simp; omega] at h
  exact h
end
theorem Gives.pure {P : Program} {ρ : Operand → Value} {o : Oper} {w : World} {R : Value → World → Prop} (c : Value) (hrun : (execOp ρ o).run P w = .ok (.value c) w) (h : R c w) : Gives P ρ o w R := by
  unfold Gives; rw [hrun]; exact h
theorem Gives.new {P : Program} {ρ : Operand → Value} {o : Oper} {w w' : World} {R : Value → World → Prop} (c : Value) (hrun : (execOp ρ o).run P w = .ok (.value c) w') (h : R c w') : Gives P ρ o w R := by
  unfold Gives; rw [hrun]; exact h
theorem Gives.call {P : Program} {ρ : Operand → Value} {o : Oper} {w w1 : World} {R : Value → World → Prop} (g : FuncId) (args : Array Value) (hrun : (execOp ρ o).run P w = .ok (.enter g args) w1) (h : Calls P g args w1 fun e w'' => ∃ v, e = .returned v ∧ R v w'') : Gives P ρ o w R := by
  unfold Gives; rw [hrun]; exact h
theorem stepF_mk {P : Program} {md : Region.Mode} {a0 : Act} {ds : List Nat} {Ts : List Sp} {w0 : World} {i : Nat} {o : Oper} (hg : grdT Ts o.guard)
    (h : ∀ (ρ : Operand → Value) f w, (∀ v, ρ (.const v) = v) → (∀ g, ρ (.func g) = .func (.func g) #[] #[]) → (∀ g, ρ (.global g) = .pointer (some ⟨g, 0, none⟩)) → (∀ k, k ∈ ds → ρ (.tmp k) = f k) → (∀ k, k ∉ ds → ρ (.tmp k) = a0.tmps.getD k undef) →
      Below w0.heap.size w0 w → depT Ts ds f w (bo md o) → Gives P ρ o w fun v w' => Soft w w' ∧ Below w0.heap.size w0 w' ∧ (Ts.getD i Sp.any).p v w' ∧ ((Ts.getD i Sp.any).fr = true → v = .pointer (some ⟨w.heap.size, 0, none⟩))) : stepF P md a0 ds Ts w0 i o :=
  ⟨hg, fun f w hb hd => h (evalU a0 f ds) f w (fun _ => rfl) (fun _ => rfl) (fun _ => rfl) (fun k hk => by simp [evalU, hk]) (fun k hk => by simp [evalU, hk]) hb hd⟩
theorem soft_refl (w : World) : Soft w w := .of (Below.refl _ _)
/-- a literal is laid -/
theorem lit_step {ρ : Operand → Value} {o : Oper} {w w0 : World} {l : List (BitVec 8)} (T : TypeId) (hb : Below w0.heap.size w0 w) (c : Array Value) (hc : c = cs U8 l) (n : Nat) (hn : n = l.length)
    (hrun : (execOp ρ o).run Try.prog w = .ok (.value (.slice (some ⟨w.heap.size, 0, none⟩) n n)) (w.alloc (.cells c 5))) :
    Gives Try.prog ρ o w fun v w' => Soft w w' ∧ Below w0.heap.size w0 w' ∧ (Sp.lit w0.heap.size l).p v w' ∧ ((Sp.lit w0.heap.size l).fr = true → v = .pointer (some ⟨w.heap.size, 0, none⟩)) := by
  subst hc; subst hn
  exact Gives.new _ hrun ⟨.of ((Below.refl _ _).alloc (Nat.le_refl _) _), hb.alloc hb.size _, ⟨_, _, rfl, hb.size, heap_new' _⟩, fun h => nomatch h⟩
theorem freeze_heap {w : World} {g : Nat} {c : Array Value} {T : TypeId} {fz : Nat × Nat} (n : Nat) (h : w.heap[g]? = some (.cells c T fz)) :
    (∃ fz', (w.freeze ⟨g, n, none⟩ 1).heap[g]? = some (.cells c T fz')) ∧ (∀ k, k ≠ g → (w.freeze ⟨g, n, none⟩ 1).heap[k]? = w.heap[k]?) ∧ (w.freeze ⟨g, n, none⟩ 1).heap.size = w.heap.size := by
  unfold World.freeze
  rw [if_neg (by decide)]
  refine ⟨?_, fun k hk => ?_, by simp⟩
  · obtain ⟨a, b⟩ := fz
    refine ⟨if a == b then (n, n + 1) else (min a n, max b (n + 1)), ?_⟩
    simp only [Array.getElem?_modify, if_true, h, Option.map_some]
  · simp only [Array.getElem?_modify, if_neg (Ne.symm hk)]
theorem conv_run {w : World} {g : Nat} {c : Array Value} {fz : Nat × Nat} (n m : Nat) (h : w.heap[g]? = some (.cells c 5 fz)) :
    (convert 70 70 (.slice (some ⟨g, 0, none⟩) n m)).run Try.prog w = .ok (.slice (some ⟨g, 0, none⟩) n m) (w.freeze ⟨g, c.size, none⟩ 1) := by
  have hsh : w.shape? g = some (5, c.size) := by simp [World.shape?, h]
  simp [convert, run_underlying Try.underlying70, run_underlying Try.underlying5, markStringish, hsh]
/-- .. and told to be bytes -/
theorem conv_step {ρ : Operand → Value} {o : Oper} {w w0 : World} {l : List (BitVec 8)} {v : Value} (hl : (Sp.lit w0.heap.size l).p v w) (hb : Below w0.heap.size w0 w) (hm : l.length ≤ maxLen) (R : Value → World → Prop)
    (hrun : (execOp ρ o).run Try.prog w = ((convert 70 70 v).run Try.prog w).andThen fun a w' => .ok (.value a) w') (hfr : ∀ u w', Soft w w' → Below w0.heap.size w0 w' → BS w' u l → R u w') :
    Gives Try.prog ρ o w R := by
  obtain ⟨g, fz, rfl, hg, hh⟩ := hl
  rw [conv_run _ _ hh] at hrun
  obtain ⟨⟨fz', e1⟩, e2, e3⟩ := freeze_heap (cs U8 l).size hh
  refine Gives.new _ hrun (hfr _ _ ⟨by omega, fun k hk => ?_⟩ ⟨hb.os, hb.tape, hb.output, by have := hb.size; omega, fun k hk => ?_⟩ ?_)
  · by_cases hk2 : k = g
    · subst hk2; exact .inr ⟨_, _, _, hh, e1⟩
    · exact .inl (e2 k hk2)
  · rw [e2 k (by omega)]; exact hb.block k hk
  · refine ⟨_, l.length, rfl, Nat.le_refl _, hm, fun _ => ⟨g, 0, rfl, fun i hi => ?_⟩⟩
    have hi' : i < l.length := by simpa using hi
    rw [cell_rowOf, rowOf_eq e1]; simp [cs]
theorem idx_arr (T : TypeId) (n : Nat) (hT : Try.prog.underlying T = some (.array n 5)) (w : World) (l : List (BitVec 8)) (i : Nat) (h : i < n) (hl : l.length = n) : (Instr.index T (.agg (cs U8 l)) (.int .i64 i)).run Try.prog w = .ok (U8 (l.getD i 0)) w := by
  have hx : (cs U8 l)[i]? = some (U8 (l.getD i 0)) := by rw [cs_get_lt (by omega), List.getD_eq_getElem?_getD, List.getElem?_eq_getElem (by omega)]; rfl
  have hi : (i : Int) < n := by omega
  simp [Instr.index, asIntOf, run_underlying hT, h, part, isAgg, run_underlying Try.underlying5, hx]
end Go.Proofs.Ytojkcbhmhfjioaa
set_option linter.unusedSimpArgs false
set_option linter.unusedVariables false
namespace Go.Proofs.Ytojkcbhmhfjioaa
open Go.RowKit

theorem wp_region_flow2 {P : Program} {Q : Exit → Act → World → Prop} {id : Nat} {a : Act} {w : World} {l : List Oper} (n : Nat) (ds : List Nat) (Ts : List Sp) (ps : List Nat) (t : Tr) (hm : P.follows .mixedOrders = true)
    (hc : chkF .any l.toArray n ds = true) (hy : (Region.noSelect l.toArray && chkY .any l.toArray ps (headA n l.length) && decide (n + ps.length ≤ l.length)) = true)
    (ht : mkT .any l.toArray (l.length - n - ps.length) (setY ps (headA n l.length)) = t)
    (hQ : ∀ d v c a w, Q (.panic c) (a.put d v) w → Q (.panic c) a w)
    (hsz : ds.all (fun d => decide (d < a.tmps.size)) = true)
    (hs : stepsF P .any a ds Ts w 0 (l.take n))
    (hk : ∀ f w', Below w.heap.size w w' → allT Ts ds f w' → (∀ i j, i < n → j < n → i ≠ j → (Ts.getD i Sp.any).fr = true → (Ts.getD j Sp.any).fr = true → f (ds.getD i 0) ≠ f (ds.getD j 0)) → wpY P l.toArray ps (fun a' => wpT P l.toArray Q t a' w') (updL a f ds)) :
    (Code.region id l.toArray true).wp P Q a w := by
  refine wp_region_any hm ?_
  have hn : n ≤ l.length := by
    simp only [chkF, Bool.and_eq_true, decide_eq_true_eq] at hc
    simpa using hc.1.1.1.2
  simp only [Bool.and_eq_true, decide_eq_true_eq] at hy
  have hcnt : cntF n (Array.replicate l.toArray.size false) = n := by
    unfold cntF
    have : (List.range n).filter (fun i => !(Array.replicate l.toArray.size false).getD i true) = List.range n := by
      rw [List.filter_eq_self]
      intro i hi
      have := List.mem_range.1 hi
      have hi2 : i < l.length := by omega
      simp [hi2]
    rw [this, List.length_range]
  have h := flow_any (P := P) (ops := l.toArray) (Q := Q) (md := .any) (a0 := a) (ds := ds) (Ts := Ts) (w0 := w) (n := n) (g := l.length - n) hc hsz hs
    (fun f w' hb hT hD => by
      have e : l.toArray.size = l.length := by simp
      rw [e]
      have h2 := wpAny_Y (P := P) (ops := l.toArray) (Q := Q) (md := .any) (w := w') hy.1.1 hQ ps (l.length - n - ps.length) (headA n l.length) (updL a f ds) hy.1.2
        (wpY_mono (fun a' h' => wpAny_tree _ _ _ _ (by rw [ht]; exact h')) ps _ (hk f w' hb hT hD))
      rwa [show l.length - n - ps.length + ps.length = l.length - n by omega] at h2) n (Array.replicate l.toArray.size false) a w.drew hcnt
    ⟨by simp, fun t h1 h2 => getD_in (by simpa using h2) (getD_replicate_false _ _), ⟨_, updL_self a ds, below_drewN (Below.refl _ _) 1, fun i _ h => (by rw [getD_replicate_false] at h; cases h), fun i j _ _ _ h => (by rw [getD_replicate_false] at h; cases h)⟩⟩
  rw [show n + (l.length - n) = l.toArray.size by simp; omega] at h
  exact h
/-! numbers of 64 bits, as natural numbers -/
abbrev N64 (n : Nat) : Value := .int .u64 (n : Int)
@[go_sem] theorem ones_n64 (l : List Nat) : ones (cs N64 l) = true := by simp [ones, cs, List.all_eq_true]; intro _ _; rfl
theorem cs_setn {l : List Nat} (i : Nat) (x : Nat) : (cs N64 l).setIfInBounds i (N64 x) = cs N64 (l.set i x) := by simp [cs, List.map_set]
end Go.Proofs.Ytojkcbhmhfjioaa
set_option linter.unusedSimpArgs false
set_option linter.unusedVariables false
namespace Go.Proofs.Ytojkcbhmhfjioaa
open Go.RowKit

/-- e waits for i, through at most k others -/
def reach (md : Region.Mode) (ops : Array Oper) : Nat → Nat → Nat → Bool
  | 0, e, i => e == i
  | k + 1, e, i => e == i || match ops[e]? with
    | some o => (bo md o).any (fun e' => reach md ops k e' i)
    | none => false
/-- the static part: n head operations, which write the slots ds, each behind those that it waits for; the tail waits for all of them -/
def chkG (md : Region.Mode) (ops : Array Oper) (n : Nat) (ds : List Nat) : Bool :=
  decide (ds.length = n) && decide (n ≤ ops.size) && decide ds.Nodup &&
  (List.range n).all (fun i => match ops[i]? with
    | some o => (o.dst == some (ds.getD i 0)) && (bo md o).all (fun e => decide (e < i)) && (match o.guard with | none => true | some (g, _) => (bo md o).contains g)
    | none => false) &&
  (List.range ops.size).all (fun t => decide (t < n) || match ops[t]? with
    | some o => (List.range n).all (fun i => (bo md o).any (fun e => decide (e < n) && reach md ops n e i)) || (bo md o).any (fun e => decide (n ≤ e))
    | none => false)
section
variable {P : Program} {ops : Array Oper} {Q : Exit → Act → World → Prop} {md : Region.Mode} {a0 : Act} {ds : List Nat} {Ts : List Sp} {w0 : World} {n : Nat}
theorem reach_listed {listed : Array Bool} (hlt : ∀ i, i < n → ∀ o, ops[i]? = some o → ∀ e ∈ bo md o, e < n) (hdc : ∀ i, i < n → listed.getD i false = true → ∀ o, ops[i]? = some o → ∀ e ∈ bo md o, listed.getD e false = true) :
    ∀ (k e i : Nat), e < n → listed.getD e false = true → reach md ops k e i = true → listed.getD i false = true
  | 0, e, i, he, hl, h => by simp only [reach, beq_iff_eq] at h; rw [← h]; exact hl
  | k + 1, e, i, he, hl, h => by
    simp only [reach, Bool.or_eq_true, beq_iff_eq] at h
    rcases h with h | h
    · rw [← h]; exact hl
    · cases ho : ops[e]? with
      | none => rw [ho] at h; cases h
      | some o =>
        rw [ho] at h
        obtain ⟨e', he', hr⟩ := List.any_eq_true.1 h
        exact reach_listed hlt hdc k e' i (hlt e he o ho e' he') (hdc e he hl o ho e' he') hr
structure InvG (P : Program) (md : Region.Mode) (ops : Array Oper) (a0 : Act) (ds : List Nat) (Ts : List Sp) (w0 : World) (n : Nat) (listed : Array Bool) (a : Act) (w : World) : Prop where
  size : listed.size = ops.size
  tail : ∀ t, n ≤ t → t < ops.size → listed.getD t true = false
  dc : ∀ i, i < n → listed.getD i false = true → ∀ o, ops[i]? = some o → ∀ e ∈ bo md o, listed.getD e false = true
  ex : ∃ f, a = updL a0 f ds ∧ Below w0.heap.size w0 w ∧ (∀ i, i < n → listed.getD i false = true → (Ts.getD i Sp.any).p (f (ds.getD i 0)) w) ∧
    (∀ i j, i < n → j < n → i ≠ j → listed.getD i false = true → listed.getD j false = true → (Ts.getD i Sp.any).fr = true → (Ts.getD j Sp.any).fr = true → f (ds.getD i 0) ≠ f (ds.getD j 0))
theorem flow_anyG {g : Nat} (hc : chkG md ops n ds = true) (hsz : ds.all (fun d => decide (d < a0.tmps.size)) = true)
    (hs : stepsF P md a0 ds Ts w0 0 (ops.toList.take n))
    (hk : ∀ f w, Below w0.heap.size w0 w → allT Ts ds f w → (∀ i j, i < n → j < n → i ≠ j → (Ts.getD i Sp.any).fr = true → (Ts.getD j Sp.any).fr = true → f (ds.getD i 0) ≠ f (ds.getD j 0)) → wpAny P md ops Q g (headA n ops.size) (updL a0 f ds) w) :
    ∀ (m : Nat) (listed : Array Bool) (a : Act) (w : World), cntF n listed = m → InvG P md ops a0 ds Ts w0 n listed a w → wpAny P md ops Q (m + g) listed a w := by
  simp only [chkG, Bool.and_eq_true, decide_eq_true_eq, List.all_eq_true, List.mem_range] at hc
  obtain ⟨⟨⟨⟨hlen, hn⟩, hnd⟩, hhead⟩, htail⟩ := hc
  have hop : ∀ i, i < n → ∃ o, ops[i]? = some o ∧ o.dst = some (ds.getD i 0) ∧ (∀ e ∈ bo md o, e < i) ∧ (∀ gd b, o.guard = some (gd, b) → gd ∈ bo md o) := by
    intro i hi
    have h := hhead i hi
    cases ho : ops[i]? with
    | none => rw [ho] at h; cases h
    | some o =>
      rw [ho] at h
      simp only [Bool.and_eq_true, beq_iff_eq, List.all_eq_true, decide_eq_true_eq] at h
      refine ⟨o, rfl, h.1.1, h.1.2, fun gd b e => ?_⟩
      have h2 := h.2
      rw [e] at h2
      simpa using h2
  have hdi : ∀ i j, i < n → j < n → i ≠ j → ds.getD i 0 ≠ ds.getD j 0 := by
    intro i j hi hj hij e
    rw [List.getD_eq_getElem?_getD, List.getD_eq_getElem?_getD, List.getElem?_eq_getElem (by omega), List.getElem?_eq_getElem (by omega)] at e
    exact hij ((List.getElem_inj hnd).1 e)
  intro m
  induction m with
  | zero =>
    intro listed a w hm inv
    obtain ⟨f, rfl, hb, hT, hD⟩ := inv.ex
    have hall : ∀ i, i < n → listed.getD i true = true := by
      intro i hi
      cases h : listed.getD i true with
      | true => rfl
      | false =>
        have : i ∈ (List.range n).filter (fun i => !listed.getD i true) := by
          rw [List.mem_filter, List.mem_range]; exact ⟨hi, by rw [h]; rfl⟩
        unfold cntF at hm
        rw [List.length_eq_zero_iff] at hm
        rw [hm] at this; cases this
    have hall' : ∀ i, i < n → listed.getD i false = true := by
      intro i hi
      have h := hall i hi
      have hi' : i < listed.size := by rw [inv.size]; omega
      simpa [hi'] using h
    have hl : listed = headA n ops.size := by
      apply Array.ext
      · rw [inv.size]; simp [headA]
      · intro i h1 h2
        have hr : (headA n ops.size)[i] = decide (i < n) := by simp [headA]
        rw [hr]
        by_cases hi : i < n
        · have := hall i hi; simpa [h1, hi] using this
        · have := inv.tail i (by omega) (by rw [← inv.size]; exact h1); simpa [h1, hi] using this
    rw [hl, Nat.zero_add]
    refine hk f w hb (allT_of Ts ds f w (fun i hi => hT i (by omega) (hall' i (by omega)))) (fun i j hi hj hij h1 h2 => hD i j hi hj hij (hall' i hi) (hall' j hj) h1 h2)
  | succ m ih =>
    intro listed a w hm inv
    obtain ⟨f, rfl, hb, hT, hD⟩ := inv.ex
    rw [show m + 1 + g = (m + g) + 1 by omega]
    have hgd : ∀ i, i < n → listed.getD i true = true → listed.getD i false = true := by
      intro i hi h
      have hi' : i < listed.size := by rw [inv.size]; omega
      simpa [hi'] using h
    -- the least that is not listed is ready
    have hleast : ∃ i, i < n ∧ listed.getD i true = false := by
      apply Classical.byContradiction
      intro h
      have : cntF n listed = 0 := by
        unfold cntF
        rw [List.length_eq_zero_iff, List.filter_eq_nil_iff]
        intro i hi
        have hi := List.mem_range.1 hi
        cases h2 : listed.getD i true with
        | true => simp
        | false => exact absurd ⟨i, hi, h2⟩ h
      omega
    have hready : ∃ i, i ∈ Region.ready md ops listed := by
      obtain ⟨i, hi, hu⟩ := hleast
      induction i using Nat.strongRecOn with
      | _ i ihi =>
        obtain ⟨o, ho, _, hlt, _⟩ := hop i hi
        by_cases hr : ∀ e ∈ bo md o, listed.getD e false = true
        · refine ⟨i, mem_ready.2 ⟨hu, o, ho, fun e he hbd => hr e.on ?_⟩⟩
          unfold bo
          rw [List.mem_map]
          exact ⟨e, by rw [List.mem_filter]; exact ⟨by simpa using he, hbd⟩, rfl⟩
        · obtain ⟨e, he⟩ := Classical.not_forall.1 hr
          obtain ⟨he, hne⟩ := Classical.not_imp.1 he
          have hei := hlt e he
          refine ihi e hei (by omega) ?_
          cases h2 : listed.getD e true with
          | false => rfl
          | true => exact absurd (hgd e (by omega) h2) hne
    refine ⟨fun h0 => (by obtain ⟨i, hi⟩ := hready; rw [h0] at hi; cases hi), fun i hi => ?_⟩
    obtain ⟨hu, o, ho, hall⟩ := mem_ready.1 hi
    have hbo : ∀ e ∈ bo md o, listed.getD e false = true := by
      intro e he
      unfold bo at he
      rw [List.mem_map] at he
      obtain ⟨ed, hed, rfl⟩ := he
      rw [List.mem_filter] at hed
      exact hall ed (by simpa using hed.1) hed.2
    have hin : i < n := by
      apply Classical.byContradiction
      intro hge
      have hlt : i < ops.size := (Array.getElem?_eq_some_iff.1 ho).1
      have h := htail i hlt
      rw [ho] at h
      simp only [Bool.or_eq_true, decide_eq_true_eq, List.all_eq_true, List.mem_range, List.any_eq_true] at h
      rcases h with h | h | h
      · exact hge h
      · obtain ⟨j, hj, hju⟩ := hleast
        have hre := h j hj
        simp only [Bool.and_eq_true, decide_eq_true_eq] at hre
        obtain ⟨e, he, hen, hr⟩ := hre
        have := reach_listed (fun i hi o ho e he => by obtain ⟨o', ho', _, h2, _⟩ := hop i hi; obtain rfl : o' = o := Option.some.inj (ho'.symm.trans ho); exact Nat.lt_trans (h2 e he) hi) inv.dc _ e j hen (hbo e he) hr
        have hj' : j < listed.size := by rw [inv.size]; omega
        simp [hj'] at this hju
        rw [this] at hju; cases hju
      · obtain ⟨e, he, hne⟩ := h
        have h2 := hbo e he
        have he' : e < listed.size := by
          apply Classical.byContradiction
          intro hx
          simp [Array.getElem?_eq_none (show listed.size ≤ e by omega)] at h2
        have h3 := inv.tail e hne (by rw [← inv.size]; exact he')
        simp [he'] at h2 h3
        rw [h2] at h3; cases h3
    obtain ⟨o', ho', hdst, hlt, hg⟩ := hop i hin
    obtain rfl : o' = o := Option.some.inj (ho'.symm.trans ho)
    have hstep := stepsF_at (ops.toList.take n) 0 i o' hs (by rw [List.getElem?_take_of_lt hin]; simpa using ho)
    rw [Nat.zero_add] at hstep
    obtain ⟨hgrd, hgive⟩ := hstep
    have hds : ds.getD i 0 ∈ ds := by rw [List.getD_eq_getElem?_getD, List.getElem?_eq_getElem (by omega)]; exact List.getElem_mem _
    have hw : Region.wanted o' (yielded ops (updL a0 f ds).tmps) = true := by
      unfold Region.wanted
      cases hgu : o'.guard with
      | none => rfl
      | some gb =>
        obtain ⟨gd, b⟩ := gb
        have hin2 := hg gd b hgu
        have hgl := hlt gd hin2
        have hv := hT gd (by omega) (hbo gd hin2)
        rw [hgu] at hgrd
        have hv2 := hgrd _ _ hv
        obtain ⟨og, hog, hdg, _⟩ := hop gd (by omega)
        have hdm : ds.getD gd 0 ∈ ds := by rw [List.getD_eq_getElem?_getD, List.getElem?_eq_getElem (by omega)]; exact List.getElem_mem _
        have hdz : ds.getD gd 0 < a0.tmps.size := by simpa using List.all_eq_true.1 hsz _ hdm
        simp only [yielded, hog, Option.bind_some, hdg]
        rw [updL_get, if_pos ⟨hdm, hdz⟩, hv2]
        simp
    have hgv := hgive f w hb (depT_of _ (fun e he => hT e (by have := hlt e he; omega) (hbo e he)))
    rw [← updL_eval hsz] at hgv
    have hlenL : i < listed.size := by rw [inv.size]; exact (Array.getElem?_eq_some_iff.1 ho).1
    unfold wpOp
    rw [ho]
    simp only [hw, if_true]
    refine .inl (Gives.wp hgv (fun v w' ⟨hbw, hJ, hTv, hfr⟩ => ?_))
    refine ih _ _ _ ?_ ⟨by simp [inv.size], fun t h1 h2 => ?_, fun j hj hl o2 ho2 e he => ?_, ?_⟩
    · have hlt2 : cntF n (listed.setIfInBounds i true) < cntF n listed := by
        refine filter_lt _ _ _ i (List.mem_range.2 hin) (by rw [hu]; rfl) (by simp [hlenL]) (fun y hy => ?_)
        by_cases hyi : i = y
        · subst hyi; simp [hlenL] at hy
        · rw [getD_set_ne true hyi] at hy; exact hy
      have hge2 : cntF n listed ≤ cntF n (listed.setIfInBounds i true) + 1 := by
        unfold cntF
        have key : ∀ (l : List Nat), l.Nodup → (l.filter (fun j => !listed.getD j true)).length ≤ (l.filter (fun j => !(listed.setIfInBounds i true).getD j true)).length + 1 := by
          intro l hl
          induction l with
          | nil => simp
          | cons x r ihr =>
            have hl' := List.nodup_cons.1 hl
            by_cases hx : x = i
            · subst hx
              have heq : r.filter (fun j => !listed.getD j true) = r.filter (fun j => !(listed.setIfInBounds x true).getD j true) := by
                apply List.filter_congr
                intro y hy
                rw [getD_set_ne true (fun e => hl'.1 (by rw [e]; exact hy))]
              have e1 : (fun j => !listed.getD j true) x = true := by simp only [hu]; rfl
              have e2 : (!(listed.setIfInBounds x true).getD x true) = false := by simp [hlenL]
              rw [List.filter_cons, List.filter_cons, e2, heq]
              simp only [hu]
              simp
            · have := ihr hl'.2
              rw [List.filter_cons, List.filter_cons, getD_set_ne true (Ne.symm hx)]
              by_cases hb : (!listed.getD x true) = true
              · rw [if_pos hb, if_pos hb, List.length_cons, List.length_cons]; omega
              · rw [if_neg hb, if_neg hb]; omega
        exact key _ List.nodup_range
      omega
    · rw [getD_set_ne true (by omega)]; exact inv.tail t h1 h2
    · by_cases hei : i = e
      · subst hei; simp [hlenL]
      · rw [getD_set_ne false hei]
        by_cases hji : i = j
        · subst hji
          obtain rfl : o' = o2 := Option.some.inj (ho.symm.trans ho2)
          exact hbo e he
        · rw [getD_set_ne false hji] at hl
          exact inv.dc j hj hl o2 ho2 e he
    · rw [hdst, updL_put v hds]
      refine ⟨_, rfl, hJ, fun j hj hl => ?_, fun j k hj hk2 hjk hl1 hl2 hf1 hf2 => ?_⟩
      · by_cases hji : j = i
        · subst hji; simpa using hTv
        · rw [getD_set_ne false (Ne.symm hji)] at hl
          have hne := hdi j i hj hin hji
          simp only [hne, if_false]
          exact (Ts.getD j Sp.any).st _ _ _ (hT j hj hl) hbw
      · by_cases hji : j = i
        · subst hji
          have hne := hdi k j hk2 hin (Ne.symm hjk)
          simp only [if_true, hne, if_false]
          rw [getD_set_ne false (by omega)] at hl2
          obtain ⟨gk, e1, e2⟩ := (Ts.getD k Sp.any).hf hf2 _ _ (hT k hk2 hl2)
          rw [hfr hf1, e1]
          intro e; injection e with e; injection e with e; injection e with e; omega
        · by_cases hki : k = i
          · subst hki
            have hne := hdi j k hj hin hji
            simp only [if_true, hne, if_false]
            rw [getD_set_ne false (by omega)] at hl1
            obtain ⟨gk, e1, e2⟩ := (Ts.getD j Sp.any).hf hf1 _ _ (hT j hj hl1)
            rw [hfr hf2, e1]
            intro e; injection e with e; injection e with e; injection e with e; omega
          · rw [getD_set_ne false (Ne.symm hji)] at hl1
            rw [getD_set_ne false (Ne.symm hki)] at hl2
            have h1 := hdi j i hj hin hji
            have h2 := hdi k i hk2 hin hki
            simp only [h1, h2, if_false]
            exact hD j k hj hk2 hjk hl1 hl2 hf1 hf2
end
theorem wp_region_flowG {P : Program} {Q : Exit → Act → World → Prop} {id : Nat} {a : Act} {w : World} {l : List Oper} (n : Nat) (ds : List Nat) (Ts : List Sp) (ps : List Nat) (t : Tr) (hm : P.follows .mixedOrders = true)
    (hc : chkG .any l.toArray n ds = true) (hy : (Region.noSelect l.toArray && chkY .any l.toArray ps (headA n l.length) && decide (n + ps.length ≤ l.length)) = true)
    (ht : mkT .any l.toArray (l.length - n - ps.length) (setY ps (headA n l.length)) = t)
    (hQ : ∀ d v c a w, Q (.panic c) (a.put d v) w → Q (.panic c) a w)
    (hsz : ds.all (fun d => decide (d < a.tmps.size)) = true)
    (hs : stepsF P .any a ds Ts w 0 (l.take n))
    (hk : ∀ f w', Below w.heap.size w w' → allT Ts ds f w' → (∀ i j, i < n → j < n → i ≠ j → (Ts.getD i Sp.any).fr = true → (Ts.getD j Sp.any).fr = true → f (ds.getD i 0) ≠ f (ds.getD j 0)) → wpY P l.toArray ps (fun a' => wpT P l.toArray Q t a' w') (updL a f ds)) :
    (Code.region id l.toArray true).wp P Q a w := by
  refine wp_region_any hm ?_
  have hn : n ≤ l.length := by
    simp only [chkG, Bool.and_eq_true, decide_eq_true_eq] at hc
    simpa using hc.1.1.1.2
  simp only [Bool.and_eq_true, decide_eq_true_eq] at hy
  have hcnt : cntF n (Array.replicate l.toArray.size false) = n := by
    unfold cntF
    have : (List.range n).filter (fun i => !(Array.replicate l.toArray.size false).getD i true) = List.range n := by
      rw [List.filter_eq_self]
      intro i hi
      have := List.mem_range.1 hi
      have hi2 : i < l.length := by omega
      simp [hi2]
    rw [this, List.length_range]
  have h := flow_anyG (P := P) (ops := l.toArray) (Q := Q) (md := .any) (a0 := a) (ds := ds) (Ts := Ts) (w0 := w) (n := n) (g := l.length - n) hc hsz hs
    (fun f w' hb hT hD => by
      have e : l.toArray.size = l.length := by simp
      rw [e]
      have h2 := wpAny_Y (P := P) (ops := l.toArray) (Q := Q) (md := .any) (w := w') hy.1.1 hQ ps (l.length - n - ps.length) (headA n l.length) (updL a f ds) hy.1.2
        (wpY_mono (fun a' h' => wpAny_tree _ _ _ _ (by rw [ht]; exact h')) ps _ (hk f w' hb hT hD))
      rwa [show l.length - n - ps.length + ps.length = l.length - n by omega] at h2) n (Array.replicate l.toArray.size false) a w.drew hcnt
    ⟨by simp, fun t h1 h2 => getD_in (by simpa using h2) (getD_replicate_false _ _), fun i _ h => (by rw [getD_replicate_false] at h; cases h), ⟨_, updL_self a ds, below_drewN (Below.refl _ _) 1, fun i _ h => (by rw [getD_replicate_false] at h; cases h), fun i j _ _ _ h => (by rw [getD_replicate_false] at h; cases h)⟩⟩
  rw [show n + (l.length - n) = l.toArray.size by simp; omega] at h
  exact h
end Go.Proofs.Ytojkcbhmhfjioaa
