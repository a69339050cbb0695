/-
  A region that draws its order, walked in the order of its list: what is not a new variable yields one value, or one that later operations all wait for; own work.
  The same as laws of a region; memory as a list of rows that are known; own work.
  Loads and stores of rows, at the steps of such a walk; own work.
-/
import Derived.Test.YtojkcbhmhfjioaaFlow3
import Derived.Test.YtojkcbhmhfjioaaStep
set_option linter.unusedSimpArgs false
set_option linter.unusedVariables false
namespace Go.Proofs.Ytojkcbhmhfjioaa
open Go.RowKit

/-- below B nothing has changed, and above it only new memory and marks on rows of bytes have come -/
def Sf (B : Nat) (w w' : World) : Prop := Below B w w' ∧ Soft w w'
theorem Soft.trans {a b c : World} (h : Soft a b) (k : Soft b c) : Soft a c := by
  refine ⟨Nat.le_trans h.1 k.1, fun i hi => ?_⟩
  rcases h.2 i hi with e | ⟨x, f1, f2, e1, e2⟩
  · rcases k.2 i (Nat.lt_of_lt_of_le hi h.1) with e' | ⟨x, f1, f2, e1, e2⟩
    · exact .inl (e'.trans e)
    · exact .inr ⟨x, f1, f2, by rw [← e, e1], e2⟩
  · rcases k.2 i (Nat.lt_of_lt_of_le hi h.1) with e' | ⟨x', f1', f2', e1', e2'⟩
    · exact .inr ⟨x, f1, f2, e1, by rw [e', e2]⟩
    · rw [e2] at e1'; injection e1' with e1'; injection e1' with h1 _ _
      exact .inr ⟨x, f1, f2', e1, by rw [e2', h1]⟩
theorem Sf.refl (B : Nat) (w : World) : Sf B w w := ⟨Below.refl _ _, .of (Below.refl _ _)⟩
theorem Sf.trans {B : Nat} {a b c : World} (h : Sf B a b) (k : Sf B b c) : Sf B a c := ⟨h.1.trans k.1, h.2.trans k.2⟩
theorem Sf.of {B : Nat} {w w' : World} (h : Below w.heap.size w w') (hB : B ≤ w.heap.size) : Sf B w w' := ⟨h.mono hB, .of h⟩
theorem Sf.drew (B : Nat) (w : World) : Sf B w w.drew := ⟨below_drewN (Below.refl _ _) 1, .of (below_drewN (Below.refl _ _) 1)⟩
theorem Sf.size {B : Nat} {w w' : World} (h : Sf B w w') : w.heap.size ≤ w'.heap.size := h.2.1
theorem Sf.blk {B : Nat} {w w' : World} (h : Sf B w w') {b : Nat} {c : Array Value} {T : TypeId} (hb : w.heap[b]? = some (.cells c T (0, 0))) (hT : T ≠ 5) : w'.heap[b]? = some (.cells c T (0, 0)) := by
  rcases h.2.2 b (Array.getElem?_eq_some_iff.1 hb).1 with e | ⟨x, f1, f2, e1, e2⟩
  · exact e.trans hb
  · rw [hb] at e1; injection e1 with e1; injection e1 with _ e1 _; exact absurd e1 hT
def isNewOp (o : Oper) : Bool := match o.op with
  | .alloc _ | .box _ _ => true
  | _ => false
def nn (ops : Array Oper) (e : Nat) : Bool := match ops[e]? with
  | some o => !isNewOp o
  | none => false
def opT (o : Oper) : List Nat := o.op.operands.toList.filterMap fun | .tmp t => some t | _ => none
def freeW (md : Region.Mode) (ops : Array Oper) (i : Nat) : Bool :=
  match ops[i]? with
  | none => false
  | some oi => (List.range ops.size).all fun j => j == i || (bo md oi).contains j || match ops[j]? with
      | some oj => oj.after.any (fun e => Region.binds md e && e.on == i) || oi.apart ops oj
      | none => true
/-- the static part: n head operations, which write the slots ds, each behind those that it waits for, and looking at no others of them; the tail waits for all of them; all behind one of qs wait for it -/
def chkM (md : Region.Mode) (ops : Array Oper) (n : Nat) (ds qs fs : List Nat) : Bool :=
  decide (ds.length = n) && decide (n ≤ ops.size) && decide ds.Nodup && Region.noSelect ops &&
  (List.range n).all (fun i => match ops[i]? with
    | some o => (o.dst == some (ds.getD i 0)) && (bo md o).all (fun e => decide (e < i)) && (match o.guard with | none => true | some (g, _) => (bo md o).contains g && nn ops g) &&
        (opT o).all (fun t => !ds.contains t || (bo md o).any (fun e => ds.getD e 0 == t && nn ops e))
    | none => false) &&
  (List.range ops.size).all (fun t => decide (t < n) || match ops[t]? with
    | some o => (List.range n).all (fun i => fs.contains i || (bo md o).any (fun e => decide (e < n) && reach md ops n e i)) || (bo md o).any (fun e => decide (n ≤ e))
    | none => false) &&
  fs.all (fun f => decide (f < n) && freeW md ops f) &&
  qs.all (fun i => (List.range n).all (fun j => decide (j ≤ i) || reach md ops n j i))
/-- the new variables' blocks -/
def newsP (N : Nat) (w' : World) (K : Act → Prop) : List Nat → List (Nat × Array Value × TypeId) → Act → Prop
  | _, [], a => K a
  | prev, (d, c, T) :: r, a => ∀ b, N ≤ b → w'.heap[b]? = some (.cells c T (0, 0)) → b ∉ prev → newsP N w' K (b :: prev) r (a.put (some d) (.pointer (some ⟨b, 0, none⟩)))
section
variable (P : Program) (ops : Array Oper) (B N : Nat) (qs fs : List Nat) (K : Act → World → Prop)
inductive SeqA : Nat → List Oper → Act → List (Nat × Array Value × TypeId) → (World → Prop) → Prop
  | nil {i : Nat} {a : Act} {acc : List (Nat × Array Value × TypeId)} {I : World → Prop} (h : ∀ w', I w' → N ≤ w'.heap.size → newsP N w' (fun a' => K a' w') [] acc a) : SeqA i [] a acc I
  | val {i : Nat} {o : Oper} {r : List Oper} {a : Act} {acc : List (Nat × Array Value × TypeId)} {I : World → Prop} (v : Value) (hn : isNewOp o = false) (hw : Region.wanted o (yielded ops a.tmps) = true)
      (hg : ∀ w, I w → N ≤ w.heap.size → Gives P a.eval o w (fun u w' => u = v ∧ Sf B w w')) (h : SeqA (i + 1) r (a.put o.dst v) acc I) (hf : fs.contains i = false) : SeqA i (o :: r) a acc I
  | pur {i : Nat} {o : Oper} {r : List Oper} {a : Act} {acc : List (Nat × Array Value × TypeId)} {I : World → Prop} (v : Value) (hn : isNewOp o = false) (hw : Region.wanted o (yielded ops a.tmps) = true)
      (hg : ∀ w, (execOp a.eval o).run P w = .ok (.value v) w) (h : SeqA (i + 1) r (a.put o.dst v) acc I) : SeqA i (o :: r) a acc I
  | skip {i : Nat} {o : Oper} {r : List Oper} {a : Act} {acc : List (Nat × Array Value × TypeId)} {I : World → Prop} (hn : isNewOp o = false) (hw : Region.wanted o (yielded ops a.tmps) = false)
      (h : SeqA (i + 1) r (a.put o.dst undef) acc I) (hf : fs.contains i = false) : SeqA i (o :: r) a acc I
  | new {i : Nat} {o : Oper} {r : List Oper} {a : Act} {acc : List (Nat × Array Value × TypeId)} {I : World → Prop} (d : Nat) (c : Array Value) (T : TypeId) (hn : isNewOp o = true) (hd : o.dst = some d) (hT : T ≠ 5) (hw : Region.wanted o (yielded ops a.tmps) = true)
      (hg : ∀ w, (execOp a.eval o).run P w = .ok (.value (.pointer (some ⟨w.heap.size, 0, none⟩))) (w.alloc (.cells c T))) (h : SeqA (i + 1) r a ((d, c, T) :: acc) I) (hf : fs.contains i = false) : SeqA i (o :: r) a acc I
  | opq {i : Nat} {o : Oper} {r : List Oper} {a : Act} {acc : List (Nat × Array Value × TypeId)} {I : World → Prop} (X : Value → World → Prop) (hq : i ∈ qs) (hn : isNewOp o = false) (hw : Region.wanted o (yielded ops a.tmps) = true)
      (hst : ∀ v w w', X v w → Sf B w w' → X v w') (hg : ∀ w, I w → N ≤ w.heap.size → Gives P a.eval o w (fun u w' => X u w' ∧ Sf B w w')) (h : ∀ u, SeqA (i + 1) r (a.put o.dst u) acc (fun w => I w ∧ X u w)) (hf : fs.contains i = false) : SeqA i (o :: r) a acc I
end
section
variable {P : Program} {ops : Array Oper} {Q : Exit → Act → World → Prop} {md : Region.Mode} {a0 : Act} {ds qs fs : List Nat} {B N n : Nat} {K : Act → World → Prop}
theorem Gives.congr {ρ ρ' : Operand → Value} {o : Oper} {w : World} {R : Value → World → Prop} (e : execOp ρ o = execOp ρ' o) (h : Gives P ρ o w R) : Gives P ρ' o w R := by
  unfold Gives at *; rw [← e]; exact h
structure SA (ops : Array Oper) (a0 : Act) (ds : List Nat) (i : Nat) (aS : Act) (val : Nat → Value) : Prop where
  dfr : aS.defers = a0.defers
  sz : aS.tmps.size = a0.tmps.size
  at_ : ∀ e, e < i → nn ops e = true → aS.tmps[ds.getD e 0]? = some (val e)
  off : ∀ t, (∀ e, e < i → nn ops e = true → ds.getD e 0 ≠ t) → aS.tmps[t]? = a0.tmps[t]?
structure EA (a0 : Act) (ds : List Nat) (n : Nat) (listed : Array Bool) (a : Act) (val : Nat → Value) : Prop where
  dfr : a.defers = a0.defers
  sz : a.tmps.size = a0.tmps.size
  at_ : ∀ e, e < n → listed.getD e false = true → a.tmps[ds.getD e 0]? = some (val e)
  off : ∀ t, (∀ e, e < n → listed.getD e false = true → ds.getD e 0 ≠ t) → a.tmps[t]? = a0.tmps[t]?
theorem SA.congr {i : Nat} {aS : Act} {val val' : Nat → Value} (h : SA ops a0 ds i aS val) (e : ∀ k, k < i → val k = val' k) : SA ops a0 ds i aS val' :=
  ⟨h.dfr, h.sz, fun k hk hn => by rw [h.at_ k hk hn, e k hk], h.off⟩
def Ent (P : Program) (ops : Array Oper) (B N : Nat) (flt : Bool) (o : Oper) (aj : Act) (I : World → Prop) (v : Value) (ct : Array Value × TypeId) : Prop :=
  (isNewOp o = false ∧ Region.wanted o (yielded ops aj.tmps) = true ∧ ∀ w, (execOp aj.eval o).run P w = .ok (.value v) w) ∨ flt = false ∧ (
  (isNewOp o = false ∧ Region.wanted o (yielded ops aj.tmps) = true ∧ ∀ w, I w → N ≤ w.heap.size → Gives P aj.eval o w (fun u w' => u = v ∧ Sf B w w')) ∨
  (isNewOp o = false ∧ Region.wanted o (yielded ops aj.tmps) = false ∧ v = undef) ∨
  (isNewOp o = true ∧ Region.wanted o (yielded ops aj.tmps) = true ∧ ct.2 ≠ 5 ∧ ∀ w, (execOp aj.eval o).run P w = .ok (.value (.pointer (some ⟨w.heap.size, 0, none⟩))) (w.alloc (.cells ct.1 ct.2))))
def accOf (ops : Array Oper) (ds : List Nat) (ct : Nat → Array Value × TypeId) : Nat → List (Nat × Array Value × TypeId)
  | 0 => []
  | q + 1 => if nn ops q = true then accOf ops ds ct q else (ds.getD q 0, (ct q).1, (ct q).2) :: accOf ops ds ct q
theorem accOf_nn {ct : Nat → Array Value × TypeId} {q : Nat} (h : nn ops q = true) : accOf ops ds ct (q + 1) = accOf ops ds ct q := by
  show (if nn ops q = true then _ else _) = _
  rw [if_pos h]
theorem accOf_new {ct : Nat → Array Value × TypeId} {q : Nat} (h : nn ops q = false) : accOf ops ds ct (q + 1) = (ds.getD q 0, (ct q).1, (ct q).2) :: accOf ops ds ct q := by
  show (if nn ops q = true then _ else _) = _
  rw [if_neg (by rw [h]; decide)]
theorem accOf_congr {ct ct' : Nat → Array Value × TypeId} : ∀ q, (∀ k, k < q → ct k = ct' k) → accOf ops ds ct q = accOf ops ds ct' q
  | 0, _ => rfl
  | q + 1, h => by
    unfold accOf
    rw [accOf_congr q (fun k hk => h k (by omega)), h q (by omega)]
structure StA (P : Program) (ops : Array Oper) (a0 : Act) (ds qs fs : List Nat) (B N n : Nat) (K : Act → World → Prop) (q : Nat) (val : Nat → Value) (ct : Nat → Array Value × TypeId) (I : World → Prop) (aq : Act) (listed : Array Bool) (a : Act) (w : World) (val' : Nat → Value) : Prop where
  qn : q ≤ n
  D : SeqA P ops B N qs fs K q ((ops.toList.take n).drop q) aq (accOf ops ds ct q) I
  sa : SA ops a0 ds q aq val
  st : ∀ w w', I w → Sf B w w' → I w'
  inv : I w
  big : N ≤ w.heap.size
  tab : ∀ j, j < q → listed.getD j false = false → ∃ o aj Ij, ops[j]? = some o ∧ SA ops a0 ds j aj val ∧ (∀ w, I w → Ij w) ∧ Ent P ops B N (fs.contains j) o aj Ij (val j) (ct j)
  un : ∀ j, q ≤ j → j < n → listed.getD j false = false
  ea : EA a0 ds n listed a val'
  agr : ∀ j, j < q → nn ops j = true → listed.getD j false = true → val' j = val j
  blk : ∀ j, j < q → nn ops j = false → listed.getD j false = true → ∃ b, val' j = .pointer (some ⟨b, 0, none⟩) ∧ N ≤ b ∧ w.heap[b]? = some (.cells (ct j).1 (ct j).2 (0, 0)) ∧ (ct j).2 ≠ 5
  dis : ∀ i j, i < q → j < q → nn ops i = false → nn ops j = false → listed.getD i false = true → listed.getD j false = true → i ≠ j → val' i ≠ val' j
section
variable {q : Nat} {val val' : Nat → Value} {ct : Nat → Array Value × TypeId} {I : World → Prop} {aq a : Act} {listed : Array Bool} {w : World}
theorem put_at {a : Act} {d : Nat} {v : Value} (h : d < a.tmps.size) : (a.put (some d) v).tmps[d]? = some v := by simp [Act.put, h]
theorem put_ne {a : Act} {d t : Nat} {v : Value} (h : d ≠ t) : (a.put (some d) v).tmps[t]? = a.tmps[t]? := by simp [Act.put, Array.getElem?_setIfInBounds_ne h]
/-- one operation more is known -/
theorem StA.grow (hdst : ∀ i, i < n → ∀ o, ops[i]? = some o → o.dst = some (ds.getD i 0)) (hdi : ∀ i j, i < n → j < n → i ≠ j → ds.getD i 0 ≠ ds.getD j 0) (hdz : ∀ i, i < n → ds.getD i 0 < a0.tmps.size)
    (S : StA P ops a0 ds qs fs B N n K q val ct I aq listed a w val') (hq : q < n) (o : Oper) (ho : ops[q]? = some o) :
    (∃ val2 ct2 aq2, StA P ops a0 ds qs fs B N n K (q + 1) val2 ct2 I aq2 listed a w val') ∨ (q ∈ qs ∧ fs.contains q = false ∧ ∃ X : Value → World → Prop, isNewOp o = false ∧ Region.wanted o (yielded ops aq.tmps) = true ∧ (∀ v w w', X v w → Sf B w w' → X v w') ∧
      (∀ w, I w → N ≤ w.heap.size → Gives P aq.eval o w (fun u w' => X u w' ∧ Sf B w w')) ∧ ∀ u, SeqA P ops B N qs fs K (q + 1) ((ops.toList.take n).drop (q + 1)) (aq.put o.dst u) (accOf ops ds ct q) (fun w => I w ∧ X u w)) := by
  have hl : (ops.toList.take n).drop q = o :: (ops.toList.take n).drop (q + 1) := by
    have h1 : (ops.toList.take n)[q]? = some o := by rw [List.getElem?_take_of_lt hq]; simpa using ho
    have h2 : q < (ops.toList.take n).length := (List.getElem?_eq_some_iff.1 h1).1
    rw [List.drop_eq_getElem_cons h2]
    congr 1
    exact (List.getElem?_eq_some_iff.1 h1).2
  have D := S.D
  rw [hl] at D
  have hnn : nn ops q = !isNewOp o := by unfold nn; rw [ho]
  have hun := S.un q (Nat.le_refl _) hq
  have hd := hdst q hq o ho
  have hlist : ∀ j, j < q + 1 → listed.getD j false = true → j < q := by
    intro j hj hjl
    by_cases e : j = q
    · subst e; rw [hun] at hjl; cases hjl
    · omega
  have key : ∀ (v : Value) (c2 : Array Value × TypeId) (aq2 : Act), SeqA P ops B N qs fs K (q + 1) ((ops.toList.take n).drop (q + 1)) aq2 (accOf ops ds (fun k => if k = q then c2 else ct k) (q + 1)) I →
      SA ops a0 ds (q + 1) aq2 (fun k => if k = q then v else val k) → Ent P ops B N (fs.contains q) o aq I v c2 →
      ∃ val2 ct2 aq2, StA P ops a0 ds qs fs B N n K (q + 1) val2 ct2 I aq2 listed a w val' := by
    intro v c2 aq2 hD hS hE
    refine ⟨fun k => if k = q then v else val k, fun k => if k = q then c2 else ct k, aq2, ⟨by omega, hD, hS, S.st, S.inv, S.big, ?_, fun j hj hjn => S.un j (by omega) hjn, S.ea, ?_, ?_, ?_⟩⟩
    · intro j hj hjl
      by_cases e : j = q
      · subst e
        refine ⟨o, aq, I, ho, S.sa.congr (fun k hk => by simp [Nat.ne_of_lt hk]), fun _ h => h, by simpa using hE⟩
      · obtain ⟨o', aj, Ij, h1, h2, h3, h4⟩ := S.tab j (by omega) hjl
        refine ⟨o', aj, Ij, h1, h2.congr (fun k hk => by simp [show k ≠ q by omega]), h3, by simpa [e] using h4⟩
    · intro j hj hn hjl
      have := hlist j hj hjl
      simp only [show j ≠ q by omega, if_false]
      exact S.agr j this hn hjl
    · intro j hj hn hjl
      have := hlist j hj hjl
      simp only [show j ≠ q by omega, if_false]
      exact S.blk j this hn hjl
    · intro i j hi hj hni hnj hil hjl hij
      exact S.dis i j (hlist i hi hil) (hlist j hj hjl) hni hnj hil hjl hij
  have hsaP : ∀ v, nn ops q = true → SA ops a0 ds (q + 1) (aq.put o.dst v) (fun k => if k = q then v else val k) := by
    intro v hnq
    rw [hd]
    refine ⟨S.sa.dfr, by simp [Act.put, S.sa.sz], ?_, ?_⟩
    · intro e he hne
      by_cases h : e = q
      · subst h; rw [put_at (by rw [S.sa.sz]; exact hdz e hq)]; simp
      · rw [put_ne (hdi q e hq (by omega) (Ne.symm h)), S.sa.at_ e (by omega) hne]; simp [h]
    · intro t ht
      rw [put_ne (ht q (by omega) hnq)]
      exact S.sa.off t (fun e he hne => ht e (by omega) hne)
  have hacc : ∀ c2, nn ops q = true → accOf ops ds (fun k => if k = q then c2 else ct k) (q + 1) = accOf ops ds ct q := by
    intro c2 hnq
    rw [accOf_nn hnq]
    exact accOf_congr (ct := fun k => if k = q then c2 else ct k) (ct' := ct) q (fun k hk => if_neg (Nat.ne_of_lt hk))
  cases D with
  | pur v hn hw hg h =>
    have hnq : nn ops q = true := by rw [hnn, hn]; rfl
    exact .inl <| key v (ct q) _ (by rw [hacc _ hnq]; exact h) (hsaP v hnq) (.inl ⟨hn, hw, hg⟩)
  | val v hn hw hg h hf =>
    have hnq : nn ops q = true := by rw [hnn, hn]; rfl
    exact .inl <| key v (ct q) _ (by rw [hacc _ hnq]; exact h) (hsaP v hnq) (.inr ⟨hf, .inl ⟨hn, hw, hg⟩⟩)
  | skip hn hw h hf =>
    have hnq : nn ops q = true := by rw [hnn, hn]; rfl
    exact .inl <| key undef (ct q) _ (by rw [hacc _ hnq]; exact h) (hsaP undef hnq) (.inr ⟨hf, .inr (.inl ⟨hn, hw, rfl⟩)⟩)
  | new d c T hn hd' hT hw hg h hf =>
    have hnq : nn ops q = false := by rw [hnn, hn]; rfl
    have hdd : d = ds.getD q 0 := by rw [hd] at hd'; exact (Option.some.inj hd').symm
    subst hdd
    refine .inl <| key undef (c, T) aq ?_ ?_ (.inr ⟨hf, .inr (.inr ⟨hn, hw, hT, hg⟩)⟩)
    · have : accOf ops ds (fun k => if k = q then (c, T) else ct k) (q + 1) = (ds.getD q 0, c, T) :: accOf ops ds ct q := by
        rw [accOf_new hnq]
        simp only [if_true]
        rw [accOf_congr (ct := fun k => if k = q then (c, T) else ct k) (ct' := ct) q (fun k hk => if_neg (Nat.ne_of_lt hk))]
      rw [this]; exact h
    · refine ⟨S.sa.dfr, S.sa.sz, ?_, fun t ht => S.sa.off t (fun e he hne => ht e (by omega) hne)⟩
      intro e he hne
      by_cases h : e = q
      · subst h; rw [hnq] at hne; cases hne
      · rw [S.sa.at_ e (by omega) hne]; simp [h]
  | opq X h1 h2 h3 h4 h5 h6 hf => exact .inr ⟨h1, hf, X, h2, h3, h4, h5, h6⟩
theorem StA.growTo (hops : ∀ i, i < n → ∃ o, ops[i]? = some o) (hdst : ∀ i, i < n → ∀ o, ops[i]? = some o → o.dst = some (ds.getD i 0)) (hdi : ∀ i j, i < n → j < n → i ≠ j → ds.getD i 0 ≠ ds.getD j 0) (hdz : ∀ i, i < n → ds.getD i 0 < a0.tmps.size)
    (i : Nat) (hi : i ≤ n) : ∀ (k q : Nat) (val : Nat → Value) (ct : Nat → Array Value × TypeId) (aq : Act), q + k = i → (∀ j, q ≤ j → j < i → j ∉ qs) → StA P ops a0 ds qs fs B N n K q val ct I aq listed a w val' →
      ∃ val2 ct2 aq2, StA P ops a0 ds qs fs B N n K i val2 ct2 I aq2 listed a w val'
  | 0, q, val, ct, aq, hk, hj, S => by
    have : q = i := by omega
    subst this
    exact ⟨val, ct, aq, S⟩
  | k + 1, q, val, ct, aq, hk, hj, S => by
    obtain ⟨o, ho⟩ := hops q (by omega)
    obtain ⟨v2, c2, a2, S2⟩ | ⟨hx, _⟩ := S.grow hdst hdi hdz (by omega) o ho
    case inr => exact absurd hx (hj q (Nat.le_refl _) (by omega))
    exact StA.growTo hops hdst hdi hdz i hi k (q + 1) v2 c2 a2 (by omega) (fun j h1 h2 => hj j (by omega) h2) S2
end
/-- the new variables are there -/
theorem newsP_inst {w' : World} {KK : Act → Prop} {a : Act} {ct : Nat → Array Value × TypeId} {val' : Nat → Value} (hdz : ∀ i, i < n → ds.getD i 0 < a.tmps.size) (hdi : ∀ i j, i < n → j < n → i ≠ j → ds.getD i 0 ≠ ds.getD j 0)
    (hat : ∀ e, e < n → nn ops e = false → a.tmps[ds.getD e 0]? = some (val' e))
    (hblk : ∀ j, j < n → nn ops j = false → ∃ b, val' j = .pointer (some ⟨b, 0, none⟩) ∧ N ≤ b ∧ w'.heap[b]? = some (.cells (ct j).1 (ct j).2 (0, 0)))
    (hdis : ∀ i j, i < n → j < n → nn ops i = false → nn ops j = false → i ≠ j → val' i ≠ val' j) :
    ∀ (k : Nat) (prev : List Nat) (aX : Act), k ≤ n → newsP N w' KK prev (accOf ops ds ct k) aX → (∀ j, j < k → nn ops j = false → ∀ b ∈ prev, val' j ≠ .pointer (some ⟨b, 0, none⟩)) →
      aX.defers = a.defers → aX.tmps.size = a.tmps.size → (∀ t, (∀ j, j < k → nn ops j = false → ds.getD j 0 ≠ t) → aX.tmps[t]? = a.tmps[t]?) → KK a
  | 0, prev, aX, hk, h, hp, hd, hs, ht => by
    have : aX = a := act_ext (fun t => ht t (fun j hj => by omega)) hd
    subst this
    exact h
  | k + 1, prev, aX, hk, h, hp, hd, hs, ht => by
    by_cases hn : nn ops k = true
    · have e : accOf ops ds ct (k + 1) = accOf ops ds ct k := accOf_nn hn
      rw [e] at h
      refine newsP_inst hdz hdi hat hblk hdis k prev aX (by omega) h (fun j hj => hp j (by omega)) hd hs (fun t h2 => ht t (fun j hj hnj => ?_))
      by_cases e2 : j = k
      · subst e2; rw [hn] at hnj; cases hnj
      · exact h2 j (by omega) hnj
    · have hn' : nn ops k = false := by simpa using hn
      have e : accOf ops ds ct (k + 1) = (ds.getD k 0, (ct k).1, (ct k).2) :: accOf ops ds ct k := accOf_new hn'
      rw [e] at h
      obtain ⟨b, e1, e2, e3⟩ := hblk k (by omega) hn'
      have h2 := h b e2 e3 (fun hb => hp k (by omega) hn' b hb e1)
      refine newsP_inst hdz hdi hat hblk hdis k _ _ (by omega) h2 (fun j hj hnj b' hb' => ?_) hd (by simp [Act.put, hs]) (fun t h3 => ?_)
      · rcases List.mem_cons.1 hb' with e4 | e4
        · subst e4; rw [← e1]; exact hdis j k (by omega) (by omega) hnj hn' (by omega)
        · exact hp j (by omega) hnj b' e4
      · by_cases e4 : ds.getD k 0 = t
        · subst e4
          rw [put_at (by rw [hs]; exact hdz k (by omega)), hat k (by omega) hn', e1]
        · rw [put_ne e4]
          refine ht t (fun j hj hnj => ?_)
          by_cases e5 : j = k
          · subst e5; exact e4
          · exact h3 j (by omega) hnj
theorem opT_mem {o : Oper} {t : Nat} (h : Operand.tmp t ∈ o.op.operands) : t ∈ opT o := by
  unfold opT
  rw [List.mem_filterMap]
  exact ⟨.tmp t, by simpa using h, rfl⟩
theorem reach_up {listed : Array Bool} (hlt : ∀ i, i < n → ∀ o, ops[i]? = some o → ∀ e ∈ bo md o, e < n) (hdc : ∀ i, i < n → listed.getD i false = true → ∀ o, ops[i]? = some o → ∀ e ∈ bo md o, listed.getD e false = true)
    (k i q : Nat) (o : Oper) (hi : i < n) (ho : ops[i]? = some o) (hb : ∀ e ∈ bo md o, listed.getD e false = true) (hne : i ≠ q) (h : reach md ops k i q = true) : listed.getD q false = true := by
  cases k with
  | zero => simp only [reach, beq_iff_eq] at h; exact absurd h hne
  | succ k =>
    simp only [reach, Bool.or_eq_true, beq_iff_eq, ho] at h
    rcases h with h | h
    · exact absurd h hne
    · obtain ⟨e, he, hr⟩ := List.any_eq_true.1 h
      exact reach_listed hlt hdc k e q (hlt i hi o ho e he) (hb e he) hr
theorem free_any {listed : Array Bool} {i : Nat} {o : Oper} (ho : ops[i]? = some o) (hl : ∀ e ∈ bo md o, listed.getD e true = true) (h : freeW md ops i = true) : Region.free md ops listed i = true := by
  unfold freeW at h
  unfold Region.free
  rw [ho] at *
  simp only [List.all_eq_true, List.mem_range] at *
  intro j hj
  have h1 := h j hj
  simp only [Bool.or_eq_true] at *
  rcases h1 with (h1 | h1) | h1
  · exact .inl (.inl h1)
  · exact .inl (.inr (hl j (by simpa using h1)))
  · exact .inr h1
theorem seq_any {g : Nat} (hc : chkM md ops n ds qs fs = true) (hQ : ∀ d v c a w, Q (.panic c) (a.put d v) w → Q (.panic c) a w) (hsz : ds.all (fun d => decide (d < a0.tmps.size)) = true) (hBN : B ≤ N)
    (hk : ∀ a w, K a w → wpAny P md ops Q g (headA n ops.size) a w) :
    ∀ (m : Nat) (listed : Array Bool) (a : Act) (w : World), cntF n listed = m → listed.size = ops.size → (∀ t, n ≤ t → t < ops.size → listed.getD t true = false) →
      (∀ i, i < n → listed.getD i false = true → ∀ o, ops[i]? = some o → ∀ e ∈ bo md o, listed.getD e false = true) →
      (∃ q val ct I aq val', StA P ops a0 ds qs fs B N n K q val ct I aq listed a w val') → wpAny P md ops Q (m + g) listed a w := by
  simp only [chkM, Bool.and_eq_true, decide_eq_true_eq, List.all_eq_true, List.mem_range] at hc
  obtain ⟨⟨⟨⟨⟨⟨⟨hlen, hn⟩, hnd⟩, hns⟩, hhead⟩, htail⟩, hfs⟩, hqs⟩ := hc
  have hop : ∀ i, i < n → ∃ o, ops[i]? = some o ∧ o.dst = some (ds.getD i 0) ∧ (∀ e ∈ bo md o, e < i) ∧ (∀ gd b, o.guard = some (gd, b) → gd ∈ bo md o ∧ nn ops gd = true) ∧ (∀ t ∈ opT o, t ∈ ds → ∃ e ∈ bo md o, ds.getD e 0 = t ∧ nn ops e = true) := by
    intro i hi
    have h := hhead i hi
    cases ho : ops[i]? with
    | none => rw [ho] at h; cases h
    | some o =>
      rw [ho] at h
      simp only [Bool.and_eq_true, beq_iff_eq, List.all_eq_true, decide_eq_true_eq, Bool.or_eq_true, List.any_eq_true] at h
      refine ⟨o, rfl, h.1.1.1, h.1.1.2, fun gd b e => ?_, fun t ht hds => ?_⟩
      · have h2 := h.1.2
        rw [e] at h2
        simp only [Bool.and_eq_true] at h2
        exact ⟨by simpa using h2.1, h2.2⟩
      · rcases h.2 t ht with h2 | h2
        · simp [hds] at h2
        · exact h2
  have hops : ∀ i, i < n → ∃ o, ops[i]? = some o := fun i hi => by obtain ⟨o, ho, _⟩ := hop i hi; exact ⟨o, ho⟩
  have hdst : ∀ i, i < n → ∀ o, ops[i]? = some o → o.dst = some (ds.getD i 0) := by
    intro i hi o ho
    obtain ⟨o', ho', h, _⟩ := hop i hi
    obtain rfl : o' = o := Option.some.inj (ho'.symm.trans ho)
    exact h
  have hltn : ∀ i, i < n → ∀ o, ops[i]? = some o → ∀ e ∈ bo md o, e < n := by
    intro i hi o ho e he
    obtain ⟨o', ho', _, h2, _⟩ := hop i hi
    obtain rfl : o' = o := Option.some.inj (ho'.symm.trans ho)
    exact Nat.lt_trans (h2 e he) hi
  have hdi : ∀ i j, i < n → j < n → i ≠ j → ds.getD i 0 ≠ ds.getD j 0 := by
    intro i j hi hj hij e
    rw [List.getD_eq_getElem?_getD, List.getD_eq_getElem?_getD, List.getElem?_eq_getElem (by omega), List.getElem?_eq_getElem (by omega)] at e
    exact hij ((List.getElem_inj hnd).1 e)
  have hmem : ∀ i, i < n → ds.getD i 0 ∈ ds := by
    intro i hi
    rw [List.getD_eq_getElem?_getD, List.getElem?_eq_getElem (by omega)]; exact List.getElem_mem _
  have hdz : ∀ i, i < n → ds.getD i 0 < a0.tmps.size := by
    intro i hi
    simpa using List.all_eq_true.1 hsz _ (hmem i hi)
  intro m
  induction m with
  | zero =>
    intro listed a w hm hsize htl hdc ⟨q, val, ct, I, aq, val', S⟩
    have hall : ∀ i, i < n → listed.getD i true = true := by
      intro i hi
      cases h : listed.getD i true with
      | true => rfl
      | false =>
        have : i ∈ (List.range n).filter (fun i => !listed.getD i true) := by
          rw [List.mem_filter, List.mem_range]; exact ⟨hi, by rw [h]; rfl⟩
        unfold cntF at hm
        rw [List.length_eq_zero_iff] at hm
        rw [hm] at this; cases this
    have hall' : ∀ i, i < n → listed.getD i false = true := by
      intro i hi
      have h := hall i hi
      have hi' : i < listed.size := by rw [hsize]; omega
      simpa [hi'] using h
    have hl : listed = headA n ops.size := by
      apply Array.ext
      · rw [hsize]; simp [headA]
      · intro i h1 h2
        have hr : (headA n ops.size)[i] = decide (i < n) := by simp [headA]
        rw [hr]
        by_cases hi : i < n
        · have := hall i hi; simpa [h1, hi] using this
        · have := htl i (by omega) (by rw [← hsize]; exact h1); simpa [h1, hi] using this
    have hqn : q = n := by
      apply Classical.byContradiction
      intro hne
      have h1 := S.un q (Nat.le_refl _) (by have := S.qn; omega)
      rw [hall' q (by have := S.qn; omega)] at h1; cases h1
    subst hqn
    have D := S.D
    rw [List.drop_eq_nil_of_le (by simp; omega)] at D
    rw [hl, Nat.zero_add]
    cases D with
    | nil h =>
      have h2 := h w S.inv S.big
      refine hk a w (newsP_inst (n := q) (val' := val') (fun i hi => by rw [S.ea.sz]; exact hdz i hi) hdi (fun e he _ => S.ea.at_ e he (hall' e he)) (fun j hj hn => ?_) (fun i j hi hj h3 h4 h5 => S.dis i j hi hj h3 h4 (hall' i hi) (hall' j hj) h5) q [] aq (Nat.le_refl _) h2 (fun j hj hn b hb => (by cases hb)) (S.sa.dfr.trans S.ea.dfr.symm) (S.sa.sz.trans S.ea.sz.symm) (fun t ht => ?_))
      · obtain ⟨b, h1, h2, h3, _⟩ := S.blk j hj hn (hall' j hj)
        exact ⟨b, h1, h2, h3⟩
      · by_cases hx : ∃ e, e < q ∧ ds.getD e 0 = t
        · obtain ⟨e, he, rfl⟩ := hx
          have hne : nn ops e = true := by
            cases h : nn ops e with
            | true => rfl
            | false => exact absurd rfl (ht e he h)
          rw [S.sa.at_ e he hne, S.ea.at_ e he (hall' e he), S.agr e he hne (hall' e he)]
        · rw [S.sa.off t (fun e he _ h => hx ⟨e, he, h⟩), S.ea.off t (fun e he _ h => hx ⟨e, he, h⟩)]
  | succ m ih =>
    intro listed a w hm hsize htl hdc ⟨q, val, ct, I, aq, val', S⟩
    rw [show m + 1 + g = (m + g) + 1 by omega]
    have hgd : ∀ i, i < n → listed.getD i true = true → listed.getD i false = true := by
      intro i hi h
      have hi' : i < listed.size := by rw [hsize]; omega
      simpa [hi'] using h
    have hgd2 : ∀ i, i < n → listed.getD i true = false → listed.getD i false = false := by
      intro i hi h
      have hi' : i < listed.size := by rw [hsize]; omega
      simpa [hi'] using h
    have hleast : ∃ i, i < n ∧ listed.getD i true = false := by
      apply Classical.byContradiction
      intro h
      have : cntF n listed = 0 := by
        unfold cntF
        rw [List.length_eq_zero_iff, List.filter_eq_nil_iff]
        intro i hi
        have hi := List.mem_range.1 hi
        cases h2 : listed.getD i true with
        | true => simp
        | false => exact absurd ⟨i, hi, h2⟩ h
      omega
    have hready : ∃ i, i < n ∧ i ∈ Region.ready md ops listed := by
      obtain ⟨i, hi, hu⟩ := hleast
      induction i using Nat.strongRecOn with
      | _ i ihi =>
        obtain ⟨o, ho, _, hlt, _⟩ := hop i hi
        by_cases hr : ∀ e ∈ bo md o, listed.getD e false = true
        · refine ⟨i, hi, mem_ready.2 ⟨hu, o, ho, fun e he hbd => hr e.on ?_⟩⟩
          unfold bo
          rw [List.mem_map]
          exact ⟨e, by rw [List.mem_filter]; exact ⟨by simpa using he, hbd⟩, rfl⟩
        · obtain ⟨e, he⟩ := Classical.not_forall.1 hr
          obtain ⟨he, hne⟩ := Classical.not_imp.1 he
          have hei := hlt e he
          refine ihi e hei (by omega) ?_
          cases h2 : listed.getD e true with
          | false => rfl
          | true => exact absurd (hgd e (by omega) h2) hne
    have body : ∀ i, i ∈ Region.ready md ops listed → i < n → wpOp P ops Q i (wpAny P md ops Q (m + g) (listed.setIfInBounds i true)) a w ∧
        (fs.contains i = true → ∃ o v, ops[i]? = some o ∧ Region.wanted o (yielded ops a.tmps) = true ∧ (∀ w, (execOp a.eval o).run P w = .ok (.value v) w) ∧ wpAny P md ops Q (m + g) (listed.setIfInBounds i true) (a.put o.dst v) w) := by
      intro i hi hin
      obtain ⟨hu, o, ho, hall⟩ := mem_ready.1 hi
      have hbo : ∀ e ∈ bo md o, listed.getD e false = true := by
        intro e he
        unfold bo at he
        rw [List.mem_map] at he
        obtain ⟨ed, hed, rfl⟩ := he
        rw [List.mem_filter] at hed
        exact hall ed (by simpa using hed.1) hed.2
      have hui := hgd2 i hin hu
      obtain ⟨o', ho', hdo, hlt, hg, hot⟩ := hop i hin
      obtain rfl : o' = o := Option.some.inj (ho'.symm.trans ho)
      have hlenL : i < listed.size := by rw [hsize]; exact (Array.getElem?_eq_some_iff.1 ho).1
      -- what is listed behind
      have hcnt : cntF n (listed.setIfInBounds i true) = m := by
        have hlt2 : cntF n (listed.setIfInBounds i true) < cntF n listed := by
          refine filter_lt _ _ _ i (List.mem_range.2 hin) (by rw [hu]; rfl) (by simp [hlenL]) (fun y hy => ?_)
          by_cases hyi : i = y
          · subst hyi; simp [hlenL] at hy
          · rw [getD_set_ne true hyi] at hy; exact hy
        have hge2 : cntF n listed ≤ cntF n (listed.setIfInBounds i true) + 1 := by
          unfold cntF
          have key : ∀ (l : List Nat), l.Nodup → (l.filter (fun j => !listed.getD j true)).length ≤ (l.filter (fun j => !(listed.setIfInBounds i true).getD j true)).length + 1 := by
            intro l hl
            induction l with
            | nil => simp
            | cons x r ihr =>
              have hl' := List.nodup_cons.1 hl
              by_cases hx : x = i
              · subst hx
                have heq : r.filter (fun j => !listed.getD j true) = r.filter (fun j => !(listed.setIfInBounds x true).getD j true) := by
                  apply List.filter_congr
                  intro y hy
                  rw [getD_set_ne true (fun e => hl'.1 (by rw [e]; exact hy))]
                have e1 : (fun j => !listed.getD j true) x = true := by simp only [hu]; rfl
                have e2 : (!(listed.setIfInBounds x true).getD x true) = false := by simp [hlenL]
                rw [List.filter_cons, List.filter_cons, e2, heq]
                simp only [hu]
                simp
              · have := ihr hl'.2
                rw [List.filter_cons, List.filter_cons, getD_set_ne true (Ne.symm hx)]
                by_cases hb : (!listed.getD x true) = true
                · rw [if_pos hb, if_pos hb, List.length_cons, List.length_cons]; omega
                · rw [if_neg hb, if_neg hb]; omega
          exact key _ List.nodup_range
        omega
      have hsize2 : (listed.setIfInBounds i true).size = ops.size := by simp [hsize]
      have htl2 : ∀ t, n ≤ t → t < ops.size → (listed.setIfInBounds i true).getD t true = false := fun t h1 h2 => by rw [getD_set_ne true (by omega)]; exact htl t h1 h2
      have hdc2 : ∀ k, k < n → (listed.setIfInBounds i true).getD k false = true → ∀ o, ops[k]? = some o → ∀ e ∈ bo md o, (listed.setIfInBounds i true).getD e false = true := by
        intro j hj hl o2 ho2 e he
        by_cases hei : i = e
        · subst hei; simp [hlenL]
        · rw [getD_set_ne false hei]
          by_cases hji : i = j
          · subst hji
            obtain rfl : o' = o2 := Option.some.inj (ho.symm.trans ho2)
            exact hbo e he
          · rw [getD_set_ne false hji] at hl
            exact hdc j hj hl o2 ho2 e he
      have hset : (listed.setIfInBounds i true).getD i false = true := by simp [hlenL]
      have hkeep : ∀ j, j ≠ i → (listed.setIfInBounds i true).getD j false = listed.getD j false := fun j hj => getD_set_ne false (Ne.symm hj)
      -- the acts agree
      have hagree : ∀ (aj : Act) (val : Nat → Value), SA ops a0 ds i aj val → (∀ j, j < i → nn ops j = true → listed.getD j false = true → val' j = val j) → execOp a.eval o' = execOp aj.eval o' ∧ Region.wanted o' (yielded ops a.tmps) = Region.wanted o' (yielded ops aj.tmps) := by
        intro aj val sj hag
        have hslot : ∀ e, e ∈ bo md o' → nn ops e = true → a.tmps[ds.getD e 0]? = aj.tmps[ds.getD e 0]? := by
          intro e he hne
          rw [S.ea.at_ e (hltn i hin o' ho e he) (hbo e he), sj.at_ e (hlt e he) hne, hag e (hlt e he) hne (hbo e he)]
        refine ⟨execOp_congr o' (Region.noSelect_spec hns i o' · · ho) (fun x hx => ?_), ?_⟩
        · cases x with
          | tmp t =>
            have h1 : a.tmps[t]? = aj.tmps[t]? := by
              by_cases hds : t ∈ ds
              · obtain ⟨e, he, h2, h3⟩ := hot t (opT_mem hx) hds
                rw [← h2]; exact hslot e he h3
              · rw [S.ea.off t (fun e he _ h => hds (by rw [← h]; exact hmem e he)), sj.off t (fun e he _ h => hds (by rw [← h]; exact hmem e (by omega)))]
            show a.tmps.getD t undef = aj.tmps.getD t undef
            have e1 : a.tmps.getD t undef = (a.tmps[t]?).getD undef := by simp
            have e2 : aj.tmps.getD t undef = (aj.tmps[t]?).getD undef := by simp
            rw [e1, e2, h1]
          | const v => rfl
          | global g => rfl
          | func g => rfl
        · unfold Region.wanted
          cases hgu : o'.guard with
          | none => rfl
          | some gb =>
            obtain ⟨gd, b⟩ := gb
            obtain ⟨h1, h2⟩ := hg gd b hgu
            obtain ⟨og, hog, hdg, _⟩ := hop gd (hltn i hin o' ho gd h1)
            simp only [yielded, hog, Option.bind_some, hdg]
            rw [hslot gd h1 h2]
      -- all opaque ones before it are listed
      have hnq : ∀ j, q ≤ j → j < i → j ∉ qs := by
        intro j h1 h2 hj
        have h3 := hqs j hj i hin
        simp only [Bool.or_eq_true, decide_eq_true_eq] at h3
        rcases h3 with h3 | h3
        · omega
        · have := reach_up hltn hdc n i j o' hin ho hbo (by omega) h3
          rw [S.un j h1 (by omega)] at this; cases this
      -- executed: all that is known behind
      have hstep : ∀ (q2 : Nat) (val2 : Nat → Value) (ct2 : Nat → Array Value × TypeId) (I2 : World → Prop) (aq2 : Act) (u : Value) (w2 : World), i < q2 → q2 ≤ n → SeqA P ops B N qs fs K q2 ((ops.toList.take n).drop q2) aq2 (accOf ops ds ct2 q2) I2 → SA ops a0 ds q2 aq2 val2 →
          (∀ w w', I2 w → Sf B w w' → I2 w') → I2 w2 → Sf B w w2 →
          (∀ j, j < q2 → j ≠ i → listed.getD j false = false → ∃ o aj Ij, ops[j]? = some o ∧ SA ops a0 ds j aj val2 ∧ (∀ w, I2 w → Ij w) ∧ Ent P ops B N (fs.contains j) o aj Ij (val2 j) (ct2 j)) →
          (∀ j, q2 ≤ j → j < n → listed.getD j false = false) → (∀ j, j < q2 → nn ops j = true → listed.getD j false = true → val' j = val2 j) → (nn ops i = true → u = val2 i) →
          (∀ j, j < q2 → nn ops j = false → listed.getD j false = true → ∃ b, val' j = .pointer (some ⟨b, 0, none⟩) ∧ N ≤ b ∧ w.heap[b]? = some (.cells (ct2 j).1 (ct2 j).2 (0, 0)) ∧ (ct2 j).2 ≠ 5) →
          (nn ops i = false → u = .pointer (some ⟨w.heap.size, 0, none⟩) ∧ w2.heap[w.heap.size]? = some (.cells (ct2 i).1 (ct2 i).2 (0, 0)) ∧ (ct2 i).2 ≠ 5) →
          (∀ i j, i < q2 → j < q2 → nn ops i = false → nn ops j = false → listed.getD i false = true → listed.getD j false = true → i ≠ j → val' i ≠ val' j) →
          wpAny P md ops Q (m + g) (listed.setIfInBounds i true) (a.put o'.dst u) w2 := by
        intro q2 val2 ct2 I2 aq2 u w2 hiq hqn hD hS hst hI hsf htab hun hagr hui2 hblk hnew hdis
        refine ih _ _ _ hcnt hsize2 htl2 hdc2 ⟨q2, val2, ct2, I2, aq2, fun k => if k = i then u else val' k, ⟨hqn, hD, hS, hst, hI, Nat.le_trans S.big hsf.size, ?_, ?_, ?_, ?_, ?_, ?_⟩⟩
        · intro j hj hjl
          have hji : j ≠ i := fun e => by subst e; rw [hset] at hjl; cases hjl
          rw [hkeep j hji] at hjl
          exact htab j hj hji hjl
        · intro j h1 h2
          rw [hkeep j (by omega)]
          exact hun j h1 h2
        · rw [hdo]
          refine ⟨S.ea.dfr, by simp [Act.put, S.ea.sz], ?_, ?_⟩
          · intro e he hel
            by_cases h : e = i
            · subst h; rw [put_at (by rw [S.ea.sz]; exact hdz e hin)]; simp
            · rw [hkeep e h] at hel
              rw [put_ne (hdi i e hin he (Ne.symm h)), S.ea.at_ e he hel]; simp [h]
          · intro t ht
            rw [put_ne (ht i hin hset)]
            refine S.ea.off t (fun e he hel => ht e he ?_)
            by_cases h : e = i
            · subst h; exact hset
            · rw [hkeep e h]; exact hel
        · intro j hj hnj hjl
          by_cases h : j = i
          · subst h; simpa using hui2 hnj
          · rw [hkeep j h] at hjl
            simp only [h, if_false]
            exact hagr j hj hnj hjl
        · intro j hj hnj hjl
          by_cases h : j = i
          · subst h
            obtain ⟨h1, h2, h3⟩ := hnew hnj
            exact ⟨_, by simpa using h1, S.big, h2, h3⟩
          · rw [hkeep j h] at hjl
            obtain ⟨b, h1, h2, h3, h4⟩ := hblk j hj hnj hjl
            exact ⟨b, by simpa [h] using h1, h2, hsf.blk h3 h4, h4⟩
        · intro x y hx hy hnx hny hxl hyl hxy
          have old : ∀ y, y < q2 → nn ops y = false → listed.getD y false = true → val' y ≠ .pointer (some ⟨w.heap.size, 0, none⟩) := by
            intro y hy hny hyl e
            obtain ⟨b, h1, _, h3, _⟩ := hblk y hy hny hyl
            rw [h1] at e
            injection e with e; injection e with e; injection e with e
            have := (Array.getElem?_eq_some_iff.1 h3).1
            omega
          by_cases h1 : x = i
          · subst h1
            have h2 : y ≠ x := Ne.symm hxy
            rw [hkeep y h2] at hyl
            simp only [if_true, h2, if_false]
            rw [(hnew hnx).1]
            exact Ne.symm (old y hy hny hyl)
          · rw [hkeep x h1] at hxl
            by_cases h2 : y = i
            · subst h2
              simp only [h1, if_true, if_false]
              rw [(hnew hny).1]
              exact old x hx hnx hxl
            · rw [hkeep y h2] at hyl
              simp only [h1, h2, if_false]
              exact hdis x y hx hy hnx hny hxl hyl hxy
      -- an operation that is known
      have hknown : ∀ (q2 : Nat) (val2 : Nat → Value) (ct2 : Nat → Array Value × TypeId) (aq2 : Act), i < q2 → StA P ops a0 ds qs fs B N n K q2 val2 ct2 I aq2 listed a w val' → wpOp P ops Q i (wpAny P md ops Q (m + g) (listed.setIfInBounds i true)) a w ∧
          (fs.contains i = true → ∃ o v, ops[i]? = some o ∧ Region.wanted o (yielded ops a.tmps) = true ∧ (∀ w, (execOp a.eval o).run P w = .ok (.value v) w) ∧ wpAny P md ops Q (m + g) (listed.setIfInBounds i true) (a.put o.dst v) w) := by
        intro q2 val2 ct2 aq2 hiq S2
        obtain ⟨o2, aj, Ij, ho2, hsj, hIj, hE⟩ := S2.tab i hiq hui
        obtain rfl : o' = o2 := Option.some.inj (ho.symm.trans ho2)
        obtain ⟨hex, hwt⟩ := hagree aj val2 hsj (fun j hj h1 h2 => S2.agr j (by omega) h1 h2)
        have hnn : nn ops i = !isNewOp o' := by unfold nn; rw [ho]
        have fin := hstep q2 val2 ct2 I aq2
        rcases hE with ⟨h1, h2, h3⟩ | ⟨hff, hE⟩
        · have hnx : wpAny P md ops Q (m + g) (listed.setIfInBounds i true) (a.put o'.dst (val2 i)) w := by
            refine fin (val2 i) w hiq S2.qn S2.D S2.sa S2.st S2.inv (Sf.refl _ _) (fun j hj _ hjl => S2.tab j hj hjl) S2.un S2.agr (fun _ => rfl) S2.blk (fun e => ?_) S2.dis
            rw [hnn, h1] at e; cases e
          refine ⟨?_, fun _ => ⟨o', val2 i, ho, by rw [hwt]; exact h2, fun w => by rw [hex]; exact h3 w, hnx⟩⟩
          unfold wpOp
          rw [ho]
          simp only [hwt, h2, if_true]
          refine .inl ?_
          unfold Oper.wp
          rw [hex, h3 w]
          exact hnx
        refine ⟨?_, fun e => by rw [hff] at e; cases e⟩
        unfold wpOp
        rw [ho]
        rcases hE with ⟨h1, h2, h3⟩ | ⟨h1, h2, h3⟩ | ⟨h1, h2, h3, h4⟩
        · simp only [hwt, h2, if_true]
          have hgv := (h3 w (hIj w S2.inv) S2.big).congr hex.symm
          refine .inl (Gives.wp hgv (fun v w' ⟨hv, hsf⟩ => ?_))
          refine fin v w' hiq S2.qn S2.D S2.sa S2.st (S2.st _ _ S2.inv hsf) hsf (fun j hj _ hjl => S2.tab j hj hjl) S2.un S2.agr (fun _ => hv) S2.blk (fun e => ?_) S2.dis
          rw [hnn, h1] at e; cases e
        · simp only [hwt, h2, if_false, Bool.false_eq_true]
          refine fin undef w hiq S2.qn S2.D S2.sa S2.st S2.inv (Sf.refl _ _) (fun j hj _ hjl => S2.tab j hj hjl) S2.un S2.agr (fun _ => h3.symm) S2.blk (fun e => ?_) S2.dis
          rw [hnn, h1] at e; cases e
        · simp only [hwt, h2, if_true]
          refine .inl ?_
          unfold Oper.wp
          rw [hex, h4 w]
          have hsf : Sf B w (w.alloc (.cells (ct2 i).1 (ct2 i).2)) := Sf.of ((Below.refl _ _).alloc (Nat.le_refl _) _) (Nat.le_trans hBN S2.big)
          refine fin _ _ hiq S2.qn S2.D S2.sa S2.st (S2.st _ _ S2.inv hsf) hsf (fun j hj _ hjl => S2.tab j hj hjl) S2.un S2.agr (fun e => ?_) S2.blk (fun _ => ⟨rfl, heap_new' _, h3⟩) S2.dis
          rw [hnn, h1] at e; cases e
      by_cases hiq : i < q
      · exact hknown q val ct aq hiq S
      · obtain ⟨val2, ct2, aq2, S2⟩ := StA.growTo hops hdst hdi hdz i (Nat.le_of_lt hin) (i - q) q val ct aq (by omega) hnq S
        rcases S2.grow hdst hdi hdz hin o' ho with ⟨val3, ct3, aq3, S3⟩ | ⟨hiqs, hff, X, h1, h2, h3, h4, h5⟩
        · exact hknown (i + 1) val3 ct3 aq3 (by omega) S3
        · obtain ⟨hex, hwt⟩ := hagree aq2 val2 S2.sa (fun j hj k1 k2 => S2.agr j hj k1 k2)
          have hnnq : nn ops i = true := by unfold nn; rw [ho]; simp [h1]
          refine ⟨?_, fun e => by rw [hff] at e; cases e⟩
          unfold wpOp
          rw [ho]
          simp only [hwt, h2, if_true]
          have hgv := (h4 w S2.inv S2.big).congr hex.symm
          refine .inl (Gives.wp hgv (fun v w' ⟨hv, hsf⟩ => ?_))
          refine hstep (i + 1) (fun k => if k = i then v else val2 k) ct2 (fun w => I w ∧ X v w) (aq2.put o'.dst v) v w' (by omega) (by omega) (by rw [accOf_nn hnnq]; exact h5 v) ?_ (fun w w' h k => ⟨S2.st _ _ h.1 k, h3 _ _ _ h.2 k⟩) ⟨S2.st _ _ S2.inv hsf, hv⟩ hsf ?_ (fun j k1 k2 => S2.un j (by omega) k2) ?_ (fun _ => by simp) ?_ (fun e => by rw [hnnq] at e; cases e) ?_
          · rw [hdo]
            refine ⟨S2.sa.dfr, by simp [Act.put, S2.sa.sz], ?_, ?_⟩
            · intro e he hne
              by_cases h : e = i
              · subst h; rw [put_at (by rw [S2.sa.sz]; exact hdz e hin)]; simp
              · rw [put_ne (hdi i e hin (by omega) (Ne.symm h)), S2.sa.at_ e (by omega) hne]; simp [h]
            · intro t ht
              rw [put_ne (ht i (by omega) hnnq)]
              exact S2.sa.off t (fun e he hne => ht e (by omega) hne)
          · intro j hj hji hjl
            obtain ⟨o2, aj, Ij, k1, k2, k3, k4⟩ := S2.tab j (by omega) hjl
            exact ⟨o2, aj, Ij, k1, k2.congr (fun k hk => by simp [show k ≠ i by omega]), fun w h => k3 w h.1, by simpa [hji] using k4⟩
          · intro j hj hnj hjl
            have hji : j ≠ i := fun e => by subst e; rw [hui] at hjl; cases hjl
            simp only [hji, if_false]
            exact S2.agr j (by omega) hnj hjl
          · intro j hj hnj hjl
            have hji : j ≠ i := fun e => by subst e; rw [hui] at hjl; cases hjl
            exact S2.blk j (by omega) hnj hjl
          · intro x y hx hy k1 k2 k3 k4 k5
            have hxi : x ≠ i := fun e => by subst e; rw [hui] at k3; cases k3
            have hyi : y ≠ i := fun e => by subst e; rw [hui] at k4; cases k4
            exact S2.dis x y (by omega) (by omega) k1 k2 k3 k4 k5
    by_cases hx : ∃ f, fs.contains f = true ∧ f ∈ Region.ready md ops listed
    · obtain ⟨f, hf, hfr⟩ := hx
      have hf2 := hfs f (by simpa using hf)
      obtain ⟨o, v, ho, hwt, hrun, hnx⟩ := (body f hfr hf2.1).2 hf
      have hall := (mem_ready.1 hfr).2
      obtain ⟨o2, ho2, hall⟩ := hall
      obtain rfl : o = o2 := Option.some.inj (ho.symm.trans ho2)
      have hlt2 : ∀ e ∈ bo md o, listed.getD e true = true := by
        intro e he
        have he' := hltn f hf2.1 o ho e he
        unfold bo at he
        rw [List.mem_map] at he
        obtain ⟨ed, hed, rfl⟩ := he
        rw [List.mem_filter] at hed
        have h3 := hall ed (by simpa using hed.1) hed.2
        have : ed.on < listed.size := by rw [hsize]; omega
        simpa [this] using h3
      exact wpAny_take ho hns (free_any ho hlt2 hf2.2) (by simpa using hfr) (fun c a w => hQ _ _ c a w) (.inl ⟨hwt, hrun⟩) hnx
    · refine ⟨fun h0 => (by obtain ⟨i, _, hi⟩ := hready; rw [h0] at hi; cases hi), fun i hi => ?_⟩
      obtain ⟨hu, o, ho, hall⟩ := mem_ready.1 hi
      have hbo : ∀ e ∈ bo md o, listed.getD e false = true := by
        intro e he
        unfold bo at he
        rw [List.mem_map] at he
        obtain ⟨ed, hed, rfl⟩ := he
        rw [List.mem_filter] at hed
        exact hall ed (by simpa using hed.1) hed.2
      refine (body i hi ?_).1
      apply Classical.byContradiction
      intro hge
      have hlt : i < ops.size := (Array.getElem?_eq_some_iff.1 ho).1
      have h := htail i hlt
      rw [ho] at h
      simp only [Bool.or_eq_true, decide_eq_true_eq, List.all_eq_true, List.mem_range, List.any_eq_true] at h
      rcases h with h | h | h
      · exact hge h
      · obtain ⟨j, hj, hjr⟩ := hready
        have hju := (mem_ready.1 hjr).1
        rcases h j hj with hre | hre
        · exact hx ⟨j, hre, hjr⟩
        · simp only [Bool.and_eq_true, decide_eq_true_eq] at hre
          obtain ⟨e, he, hen, hr⟩ := hre
          have := reach_listed hltn hdc _ e j hen (hbo e he) hr
          rw [hgd2 j hj hju] at this; cases this
      · obtain ⟨e, he, hne⟩ := h
        have h2 := hbo e he
        have he' : e < listed.size := by
          apply Classical.byContradiction
          intro hx
          simp [Array.getElem?_eq_none (show listed.size ≤ e by omega)] at h2
        have h3 := htl e hne (by rw [← hsize]; exact he')
        simp [he'] at h2 h3
        rw [h2] at h3; cases h3
end
end Go.Proofs.Ytojkcbhmhfjioaa
set_option linter.unusedSimpArgs false
set_option linter.unusedVariables false
namespace Go.Proofs.Ytojkcbhmhfjioaa
open Go.RowKit

section
variable {P : Program} {Q : Exit → Act → World → Prop}
/-- each order that the edges allow: also that of the list -/
theorem any_list {ops : Array Oper} {md : Region.Mode} (hb : (List.range ops.size).all (fun i => match ops[i]? with | some o => (bo md o).all (fun e => decide (e < i)) | none => false) = true) :
    ∀ (g k : Nat) (a : Act) (w : World), k + g = ops.size → wpAny P md ops Q g (headA k ops.size) a w → wpList P ops Q (ops.toList.drop k) a w
  | 0, k, a, w, hk, h => by
    have : ops.toList.drop k = [] := List.drop_eq_nil_of_le (by simp; omega)
    rw [this]
    exact h.2
  | g + 1, k, a, w, hk, h => by
    have hlt : k < ops.size := by omega
    have ho : ops[k]? = some ops[k] := Array.getElem?_eq_getElem hlt
    have hkl : k < ops.toList.length := by simpa using hlt
    rw [List.drop_eq_getElem_cons hkl]
    have hr : k ∈ Region.ready md ops (headA k ops.size) := by
      refine mem_ready.2 ⟨by simp [headA, hlt], ops[k], ho, fun e he hbd => ?_⟩
      have h1 := List.all_eq_true.1 hb k (List.mem_range.2 hlt)
      rw [ho] at h1
      simp only [List.all_eq_true, decide_eq_true_eq] at h1
      have h2 : e.on < k := h1 e.on (by unfold bo; rw [List.mem_map]; exact ⟨e, by rw [List.mem_filter]; exact ⟨by simpa using he, hbd⟩, rfl⟩)
      have h3 : e.on < ops.size := by omega
      simp [headA, h2, h3]
    have h1 := h.2 k hr
    have he : (headA k ops.size).setIfInBounds k true = headA (k + 1) ops.size := by
      apply Array.ext
      · simp [headA]
      · intro i h2 h3
        simp only [Array.getElem_setIfInBounds, headA]
        by_cases hik : k = i
        · subst hik; simp
        · simp [hik]; omega
    rw [he] at h1
    unfold wpOp at h1
    rw [ho] at h1
    unfold wpList
    simp only [Array.getElem_toList]
    split
    · rename_i hw
      simp only [hw, if_true] at h1
      exact h1.imp (Oper.wp_mono fun a' w' h' => any_list hb g (k + 1) a' w' (by omega) h') id
    · rename_i hw
      simp only [hw, if_false] at h1
      exact any_list hb g (k + 1) _ _ (by omega) h1
theorem seq_all {a : Act} {w w1 : World} {l : List Oper} {B : Nat} {md : Region.Mode} (n : Nat) (ds qs fs ps : List Nat) (t : Tr) (I : World → Prop)
    (hc : (chkM md l.toArray n ds qs fs && Region.noSelect l.toArray && chkY md l.toArray ps (headA n l.length) && decide (n + ps.length ≤ l.length)) = true)
    (ht : mkT md l.toArray (l.length - n - ps.length) (setY ps (headA n l.length)) = t)
    (hQ : ∀ d v c a w, Q (.panic c) (a.put d v) w → Q (.panic c) a w)
    (hsz : ds.all (fun d => decide (d < a.tmps.size)) = true) (hB : B ≤ w.heap.size) (hst : ∀ w1 w2, I w1 → Sf B w1 w2 → I w2) (hI : I w1) (hw1 : w.heap.size ≤ w1.heap.size)
    (h : SeqA P l.toArray B w.heap.size qs fs (fun a' w' => wpY P l.toArray ps (fun a'' => wpT P l.toArray Q t a'' w') a') 0 (l.take n) a [] I) :
    wpAny P md l.toArray Q l.toArray.size (Array.replicate l.toArray.size false) a w1 := by
  simp only [Bool.and_eq_true, decide_eq_true_eq] at hc
  obtain ⟨⟨⟨hcm, hns⟩, hy⟩, hnp⟩ := hc
  have hn : n ≤ l.length := by omega
  have hcnt : cntF n (Array.replicate l.toArray.size false) = n := by
    unfold cntF
    have : (List.range n).filter (fun i => !(Array.replicate l.toArray.size false).getD i true) = List.range n := by
      rw [List.filter_eq_self]
      intro i hi
      have := List.mem_range.1 hi
      have hi2 : i < l.length := by omega
      simp [hi2]
    rw [this, List.length_range]
  have hf : ∀ i, (Array.replicate l.toArray.size false).getD i false = false := fun i => getD_replicate_false _ _
  have hz : ∀ i, i < n → ds.getD i 0 < a.tmps.size := by
    intro i hi
    have hlen : ds.length = n := by
      simp only [chkM, Bool.and_eq_true, decide_eq_true_eq] at hcm
      exact hcm.1.1.1.1.1.1.1
    have := List.all_eq_true.1 hsz (ds.getD i 0) (by rw [List.getD_eq_getElem?_getD, List.getElem?_eq_getElem (by omega)]; exact List.getElem_mem _)
    simpa using this
  have h0 : SeqA P l.toArray B w.heap.size qs fs (fun a' w' => wpY P l.toArray ps (fun a'' => wpT P l.toArray Q t a'' w') a') 0 ((l.toArray.toList.take n).drop 0) a (accOf l.toArray ds (fun _ => (#[], 0)) 0) I := by
    have e : l.toArray.toList = l := by simp
    rw [e, List.drop_zero]; exact h
  have h2 := seq_any (P := P) (Q := Q) (ops := l.toArray) (md := md) (n := n) (ds := ds) (qs := qs) (fs := fs) (a0 := a) (N := w.heap.size) (g := l.length - n) hcm hQ hsz hB
    (K := fun a' w' => wpY P l.toArray ps (fun a'' => wpT P l.toArray Q t a'' w') a')
    (fun a' w' hk => by
      have e : l.toArray.size = l.length := by simp
      rw [e]
      have h3 := wpAny_Y (P := P) (ops := l.toArray) (Q := Q) (md := md) (w := w') hns hQ ps (l.length - n - ps.length) (headA n l.length) a' hy
        (wpY_mono (fun a'' h' => wpAny_tree _ _ _ _ (by rw [ht]; exact h')) ps _ hk)
      rwa [show l.length - n - ps.length + ps.length = l.length - n by omega] at h3)
    n (Array.replicate l.toArray.size false) a w1 hcnt (by simp) (fun t h1 h2 => getD_in (by simpa using h2) (getD_replicate_false _ _)) (fun i _ h => by rw [hf] at h; cases h)
    ⟨0, fun _ => undef, fun _ => (#[], 0), I, a, fun _ => undef, ⟨Nat.zero_le _, h0, ⟨rfl, rfl, fun _ h => absurd h (Nat.not_lt_zero _), fun _ _ => rfl⟩, hst, hI, hw1, fun _ h => absurd h (Nat.not_lt_zero _), fun j _ _ => hf j,
      ⟨rfl, rfl, fun e _ h => (by rw [hf] at h; cases h), fun _ _ => rfl⟩, fun _ h => absurd h (Nat.not_lt_zero _), fun _ h => absurd h (Nat.not_lt_zero _), fun _ _ h => absurd h (Nat.not_lt_zero _)⟩⟩
  rw [show n + (l.length - n) = l.toArray.size by simp; omega] at h2
  exact h2
theorem wp_region_seq {id : Nat} {a : Act} {w : World} {l : List Oper} {B : Nat} (n : Nat) (ds qs fs ps : List Nat) (t : Tr) (I : World → Prop) (hm : P.follows .mixedOrders = true)
    (hc : (chkM .any l.toArray n ds qs fs && Region.noSelect l.toArray && chkY .any l.toArray ps (headA n l.length) && decide (n + ps.length ≤ l.length)) = true)
    (ht : mkT .any l.toArray (l.length - n - ps.length) (setY ps (headA n l.length)) = t)
    (hQ : ∀ d v c a w, Q (.panic c) (a.put d v) w → Q (.panic c) a w)
    (hsz : ds.all (fun d => decide (d < a.tmps.size)) = true) (hB : B ≤ w.heap.size) (hst : ∀ w1 w2, I w1 → Sf B w1 w2 → I w2) (hI : I w)
    (h : SeqA P l.toArray B w.heap.size qs fs (fun a' w' => wpY P l.toArray ps (fun a'' => wpT P l.toArray Q t a'' w') a') 0 (l.take n) a [] I) : (Code.region id l.toArray true).wp P Q a w :=
  wp_region_any hm (seq_all n ds qs fs ps t I hc ht hQ hsz hB hst (hst _ _ hI (Sf.drew B w)) (Nat.le_refl _) h)
theorem wp_region_seqF {id : Nat} {a : Act} {w : World} {l : List Oper} {B : Nat} (n : Nat) (ds qs fs ps : List Nat) (t : Tr) (I : World → Prop)
    (hc : (chkM .any l.toArray n ds qs fs && Region.noSelect l.toArray && chkY .any l.toArray ps (headA n l.length) && decide (n + ps.length ≤ l.length)) = true)
    (ht : mkT .any l.toArray (l.length - n - ps.length) (setY ps (headA n l.length)) = t)
    (hQ : ∀ d v c a w, Q (.panic c) (a.put d v) w → Q (.panic c) a w)
    (hsz : ds.all (fun d => decide (d < a.tmps.size)) = true) (hB : B ≤ w.heap.size) (hst : ∀ w1 w2, I w1 → Sf B w1 w2 → I w2) (hI : I w)
    (hb : (List.range l.toArray.size).all (fun i => match l.toArray[i]? with | some o => (bo .any o).all (fun e => decide (e < i)) | none => false) = true)
    (h : SeqA P l.toArray B w.heap.size qs fs (fun a' w' => wpY P l.toArray ps (fun a'' => wpT P l.toArray Q t a'' w') a') 0 (l.take n) a [] I) : (Code.region id l.toArray false).wp P Q a w := by
  refine wp_region_lit ?_
  have h2 := seq_all n ds qs fs ps t I hc ht hQ hsz hB hst hI (Nat.le_refl _) h
  have h3 := any_list hb l.toArray.size 0 a w (by simp) (by
    have e : headA 0 l.toArray.size = Array.replicate l.toArray.size false := by
      apply Array.ext
      · simp [headA]
      · intro i h1 h2; simp [headA]
    rw [e]; exact h2)
  simpa using h3
end
/-! the steps -/
section
variable {P : Program} {ops : Array Oper} {B N : Nat} {qs fs : List Nat} {K : Act → World → Prop} {i : Nat} {o : Oper} {r : List Oper} {a : Act} {acc : List (Nat × Array Value × TypeId)} {I : World → Prop}
theorem SeqA.pure (v : Value) (hrun : ∀ w, (execOp a.eval o).run P w = .ok (.value v) w) (hn : isNewOp o = false) (hw : Region.wanted o (yielded ops a.tmps) = true) (h : SeqA P ops B N qs fs K (i + 1) r (a.put o.dst v) acc I) : SeqA P ops B N qs fs K i (o :: r) a acc I :=
  .pur v hn hw hrun h
/-- an operation that reads -/
theorem SeqA.read (v : Value) (hrun : ∀ w, I w → (execOp a.eval o).run P w = .ok (.value v) w) (hn : isNewOp o = false) (hw : Region.wanted o (yielded ops a.tmps) = true) (h : SeqA P ops B N qs fs K (i + 1) r (a.put o.dst v) acc I) (hf : fs.contains i = false := by rfl) : SeqA P ops B N qs fs K i (o :: r) a acc I :=
  .val v hn hw (fun w hI _ => by unfold Gives; rw [hrun w hI]; exact ⟨rfl, Sf.refl _ _⟩) h hf
/-- a call that makes no more than new memory -/
theorem SeqA.call (f : FuncId) (args : Array Value) (v : Value) (hrun : ∀ w, (execOp a.eval o).run P w = .ok (.enter f args) w) (hc : ∀ w, I w → N ≤ w.heap.size → Calls P f args w fun e w' => e = .returned v ∧ Below w.heap.size w w') (hB : B ≤ N)
    (hn : isNewOp o = false) (hw : Region.wanted o (yielded ops a.tmps) = true) (h : SeqA P ops B N qs fs K (i + 1) r (a.put o.dst v) acc I) (hf : fs.contains i = false := by rfl) : SeqA P ops B N qs fs K i (o :: r) a acc I :=
  .val v hn hw (fun w hI hN => by
    unfold Gives; rw [hrun w]
    exact (hc w hI hN).mono fun e w' ⟨he, hb⟩ => ⟨v, he, rfl, Sf.of hb (Nat.le_trans hB hN)⟩) h hf
/-- a call of which a value is only known by what is said of it -/
theorem SeqA.callx {α : Type} (f : FuncId) (args : Array Value) (V : α → Value) (X : α → Prop) (hrun : ∀ w, (execOp a.eval o).run P w = .ok (.enter f args) w) (hc : ∀ w, I w → N ≤ w.heap.size → Calls P f args w fun e w' => (∃ x, e = .returned (V x) ∧ X x) ∧ Below w.heap.size w w') (hB : B ≤ N)
    (hq : i ∈ qs) (hn : isNewOp o = false) (hw : Region.wanted o (yielded ops a.tmps) = true)
    (h : ∀ u, SeqA P ops B N qs fs K (i + 1) r (a.put o.dst u) acc (fun w => I w ∧ ∃ x, u = V x ∧ X x)) (hf : fs.contains i = false := by rfl) : SeqA P ops B N qs fs K i (o :: r) a acc I :=
  .opq (fun u _ => ∃ x, u = V x ∧ X x) hq hn hw (fun _ _ _ h _ => h) (fun w hI hN => by
    unfold Gives; rw [hrun w]
    exact (hc w hI hN).mono fun e w' ⟨⟨x, he, hx⟩, hb⟩ => ⟨V x, he, ⟨x, rfl, hx⟩, Sf.of hb (Nat.le_trans hB hN)⟩) h hf
end
/-! memory -/
/-- the rows H are known, and are one's own; but for S, all that was there at w0 is as it was -/
structure Mm (S : Nat → Prop) (w0 : World) (H : List (Nat × Array Value)) (w : World) : Prop where
  fr : Fr S w0 w
  own : ∀ p ∈ H, (S p.1 ∨ w0.heap.size ≤ p.1) ∧ ∃ T, T ≠ 5 ∧ w.heap[p.1]? = some (.cells p.2 T (0, 0))
  nd : (H.map (·.1)).Nodup
def no : Nat → Prop := fun _ => False
section
variable {S : Nat → Prop} {w0 w w' : World} {H : List (Nat × Array Value)} {b : Nat} {c : Array Value}
theorem Mm.start (S : Nat → Prop) (w : World) : Mm S w [] w := ⟨Fr.refl _ _, fun _ h => (by cases h), List.nodup_nil⟩
theorem Mm.sf (h : Mm S w0 H w) (k : Sf w0.heap.size w w') : Mm S w0 H w' :=
  ⟨h.fr.trans (Fr.mono (Fr.of_below' k.1) (fun _ _ hk => .inr hk)), fun p hp => ⟨(h.own p hp).1, by obtain ⟨T, hT, hb⟩ := (h.own p hp).2; exact ⟨T, hT, k.blk hb hT⟩⟩, h.nd⟩
theorem Mm.size (h : Mm S w0 H w) : w0.heap.size ≤ w.heap.size := h.fr.size
theorem Mm.lt (h : Mm S w0 H w) (hm : (b, c) ∈ H) : b < w.heap.size := by
  obtain ⟨T, hT, hb⟩ := (h.own _ hm).2
  exact (Array.getElem?_eq_some_iff.1 hb).1
theorem Mm.row (h : Mm S w0 H w) (hm : (b, c) ∈ H) : w.rowOf b = c := by
  obtain ⟨T, hT, hb⟩ := (h.own _ hm).2
  exact rowOf_eq hb
theorem Mm.free (h : Mm S w0 H w) (hm : (b, c) ∈ H) : w.free b = true := by
  obtain ⟨T, hT, hb⟩ := (h.own _ hm).2
  exact free_eq hb
theorem Mm.new {H0 : List (Nat × Array Value)} (h : Mm S w0 H0 w) {T : TypeId} (hN : w.heap.size ≤ b) (hb : w'.heap[b]? = some (.cells c T (0, 0))) (hT : T ≠ 5) (h' : Mm S w0 H w') (hnb : b ∉ H.map (·.1)) : Mm S w0 ((b, c) :: H) w' :=
  ⟨h'.fr, fun p hp => (by
    rcases List.mem_cons.1 hp with e | e
    · subst e; exact ⟨.inr (Nat.le_trans h.size hN), T, hT, hb⟩
    · exact h'.own p e), by rw [List.map_cons, List.nodup_cons]; exact ⟨hnb, h'.nd⟩⟩
theorem Mm.alloc (h : Mm S w0 H w) (c : Array Value) (T : TypeId) (hT : T ≠ 5) : Mm S w0 ((w.heap.size, c) :: H) (w.alloc (.cells c T)) := by
  refine ⟨h.fr.alloc _, fun p hp => ?_, ?_⟩
  · rcases List.mem_cons.1 hp with e | e
    · subst e; exact ⟨.inr h.size, T, hT, heap_new' _⟩
    · obtain ⟨h1, T', hT', hb⟩ := h.own p e
      exact ⟨h1, T', hT', (Below.heap_alloc w _ _ (Array.getElem?_eq_some_iff.1 hb).1).trans hb⟩
  · rw [List.map_cons, List.nodup_cons]
    refine ⟨fun hm => ?_, h.nd⟩
    obtain ⟨p, hp, e⟩ := List.mem_map.1 hm
    have := h.lt (b := p.1) (c := p.2) hp
    omega
theorem Mm.below (h : Mm S w0 H w) (k : Below w.heap.size w w') : Mm S w0 H w' := h.sf (Sf.of k h.size)
theorem Mm.drewN (h : Mm S w0 H w) (n : Nat) : Mm S w0 H (w.drewN n) := h.below (below_drewN (Below.refl _ _) n)
theorem Mm.set (h : Mm S w0 H w) (k : Nat) (c' : Array Value) (hk : H[k]? = some (b, c)) : Mm S w0 (H.set k (b, c')) (w.setRow b c') := by
  have hm := List.mem_of_getElem? hk
  have hkl : k < H.length := (List.getElem?_eq_some_iff.1 hk).1
  have hmap : (H.set k (b, c')).map (·.1) = H.map (·.1) := by
    rw [List.map_set]
    apply List.ext_getElem?
    intro i
    rw [List.getElem?_set]
    by_cases e : k = i
    · subst e
      have e2 : H[k] = (b, c) := by rw [List.getElem?_eq_getElem hkl] at hk; exact Option.some.inj hk
      simp [hkl, e2]
    · simp [e]
  refine ⟨h.fr.setRow (h.own _ hm).1 _, fun p hp => ?_, by rw [hmap]; exact h.nd⟩
  rw [List.mem_iff_getElem?] at hp
  obtain ⟨i, hi⟩ := hp
  rw [List.getElem?_set] at hi
  by_cases e : k = i
  · subst e
    simp [hkl] at hi
    subst hi
    obtain ⟨h1, T, hT, hb⟩ := h.own _ hm
    exact ⟨h1, T, hT, heap_setRow_same hb⟩
  · rw [if_neg e] at hi
    have hpm := List.mem_of_getElem? hi
    obtain ⟨h1, T, hT, hb⟩ := h.own p hpm
    refine ⟨h1, T, hT, (heap_setRow_other (fun e2 => e ?_)).trans hb⟩
    have n1 : (H.map (·.1))[k]? = some b := by simp [hk]
    have n2 : (H.map (·.1))[i]? = some p.1 := by simp [hi]
    have hil : i < (H.map (·.1)).length := (List.getElem?_eq_some_iff.1 n2).1
    have hkl' : k < (H.map (·.1)).length := by simpa using hkl
    have e3 : (H.map (·.1))[k] = (H.map (·.1))[i] := by
      rw [List.getElem?_eq_getElem hkl'] at n1
      rw [List.getElem?_eq_getElem hil] at n2
      injection n1 with n1; injection n2 with n2
      rw [n1, n2, e2]
    exact (List.getElem_inj h.nd).1 e3
theorem Mm.end_ (h : Mm no w0 H w) : Below w0.heap.size w0 w := h.fr.below _ (Nat.le_refl _) (fun _ _ h => h.elim)
theorem Mm.sub (h : Mm S w0 H w) {H' : List (Nat × Array Value)} (hs : List.Sublist H' H) : Mm S w0 H' w := ⟨h.fr, fun p hp => h.own p (hs.subset hp), List.Nodup.sublist (hs.map _) h.nd⟩
theorem Mm.ne (h : Mm S w0 H w) {x y : Nat × Array Value} {i j : Nat} (hi : H[i]? = some x) (hj : H[j]? = some y) (hij : i ≠ j) : x.1 ≠ y.1 := by
  intro e
  have n1 : (H.map (·.1))[i]? = some x.1 := by simp [hi]
  have n2 : (H.map (·.1))[j]? = some y.1 := by simp [hj]
  have hil := (List.getElem?_eq_some_iff.1 n1).1
  have hjl := (List.getElem?_eq_some_iff.1 n2).1
  rw [List.getElem?_eq_getElem hil] at n1
  rw [List.getElem?_eq_getElem hjl] at n2
  injection n1 with n1; injection n2 with n2
  exact hij ((List.getElem_inj h.nd).1 (by rw [n1, n2, e]))
theorem Mm.notin (h : Mm S w0 H w) (hN : w.heap.size ≤ b) : b ∉ H.map (·.1) := by
  intro hm
  obtain ⟨p, hp, e⟩ := List.mem_map.1 hm
  have := h.lt (b := p.1) (c := p.2) hp
  omega
end
end Go.Proofs.Ytojkcbhmhfjioaa
set_option linter.unusedSimpArgs false
set_option linter.unusedVariables false
namespace Go.Proofs.Ytojkcbhmhfjioaa
open Go.RowKit

section
variable {P : Program} {ops : Array Oper} {B N : Nat} {qs fs : List Nat} {K : Act → World → Prop} {i : Nat} {o : Oper} {r : List Oper} {a : Act} {acc : List (Nat × Array Value × TypeId)} {I : World → Prop}
/-- a whole row is read -/
theorem SeqA.ld0 {T : TypeId} {p : Operand} {n : Nat} {d : TypeDesc} (hu : P.underlying T = some d) (hd : d.isRow = true) (hi : (P.info? T).map (·.size) = some n) (b : Nat) (C : Array Value) (ho : o.op = .load T p)
    (hp : a.eval p = .pointer (some ⟨b, 0, none⟩)) (hI : ∀ w, I w → w.rowOf b = C) (hC : C.size = n) (hw : Region.wanted o (yielded ops a.tmps) = true)
    (h : SeqA P ops B N qs fs K (i + 1) r (a.put o.dst (.agg C)) acc I) (hf : fs.contains i = false := by rfl) : SeqA P ops B N qs fs K i (o :: r) a acc I :=
  .read (.agg C) (fun w hiw => by
    obtain ⟨dst, op, ty, pos, after, guard⟩ := o
    subst ho
    have e := hI w hiw
    rw [x_load, hp, x_load0 w hu hd hi b (by rw [e]; exact hC), e]) (by unfold isNewOp; rw [ho]) hw h hf
/-- a part of a row is read -/
theorem SeqA.ldm {T : TypeId} {p : Operand} {n : Nat} {d : TypeDesc} (hu : P.underlying T = some d) (hd : d.isRow = true) (hi : (P.info? T).map (·.size) = some n) (b off : Nat) (C X : Array Value) (ho : o.op = .load T p)
    (hp : a.eval p = .pointer (some ⟨b, off, none⟩)) (hI : ∀ w, I w → w.rowOf b = C) (hC : off + n ≤ C.size) (hX : C.extract off (off + n) = X) (hw : Region.wanted o (yielded ops a.tmps) = true)
    (h : SeqA P ops B N qs fs K (i + 1) r (a.put o.dst (.agg X)) acc I) (hf : fs.contains i = false := by rfl) : SeqA P ops B N qs fs K i (o :: r) a acc I :=
  .read (.agg X) (fun w hiw => by
    obtain ⟨dst, op, ty, pos, after, guard⟩ := o
    subst ho
    have e := hI w hiw
    rw [x_load, hp, x_loadm w hu hd hi b off (by rw [e]; exact hC), e, hX]) (by unfold isNewOp; rw [ho]) hw h hf
/-- a new variable -/
theorem SeqA.var {T : TypeId} {z : Value} {d : Nat} (hz : ((P.info? T).bind (·.zero)) = some z) (ho : o.op = .alloc T) (hd : o.dst = some d) (hT : T ≠ 5) (hw : Region.wanted o (yielded ops a.tmps) = true)
    (h : SeqA P ops B N qs fs K (i + 1) r a ((d, z.cells, T) :: acc) I) (hf : fs.contains i = false := by rfl) : SeqA P ops B N qs fs K i (o :: r) a acc I :=
  .new d z.cells T (by unfold isNewOp; rw [ho]) hd hT hw (fun w => by
    obtain ⟨dst, op, ty, pos, after, guard⟩ := o
    subst ho
    rw [x_alloc, x_alloc0 w hz]) h hf
end
section
variable {P : Program} {ops : Array Oper} {Q : Exit → Act → World → Prop} {i : Nat} {t : Tr} {a : Act} {o : Oper} {S : Nat → Prop} {w0 w : World} {H : List (Nat × Array Value)}
theorem wpT_run {w' : World} (ho : ops[i]? = some o) (hw : Region.wanted o (yielded ops a.tmps) = true) (hrun : (execOp a.eval o).run P w = .ok .skip w') (h : wpT P ops Q t (a.put o.dst undef) w') : wpT P ops Q (.op i t) a w := by
  show wpOp P ops Q i (wpT P ops Q t) a w
  unfold wpOp
  rw [ho]
  simp only [hw, if_true]
  refine .inl ?_
  unfold Oper.wp
  rw [hrun]
  exact h
theorem wpT_val {w' : World} {v : Value} (ho : ops[i]? = some o) (hw : Region.wanted o (yielded ops a.tmps) = true) (hrun : (execOp a.eval o).run P w = .ok (.value v) w') (h : wpT P ops Q t (a.put o.dst v) w') : wpT P ops Q (.op i t) a w := by
  show wpOp P ops Q i (wpT P ops Q t) a w
  unfold wpOp
  rw [ho]
  simp only [hw, if_true]
  refine .inl ?_
  unfold Oper.wp
  rw [hrun]
  exact h
theorem wpT_call {f : FuncId} {args : Array Value} {R : Ending → World → Prop} (ho : ops[i]? = some o) (hw : Region.wanted o (yielded ops a.tmps) = true) (hrun : (execOp a.eval o).run P w = .ok (.enter f args) w) (hc : Calls P f args w R)
    (h : ∀ e w', R e w' → ∃ v, e = .returned v ∧ wpT P ops Q t (a.put o.dst v) w') : wpT P ops Q (.op i t) a w := by
  show wpOp P ops Q i (wpT P ops Q t) a w
  unfold wpOp
  rw [ho]
  simp only [hw, if_true]
  refine .inl ?_
  have hg : Gives P a.eval o w (fun v w' => wpT P ops Q t (a.put o.dst v) w') := by
    unfold Gives
    rw [hrun]
    exact hc.mono h
  exact Gives.wp hg (fun _ _ h => h)
/-- a whole row is stored -/
theorem wpT_st0 {T : TypeId} {p x : Operand} {n : Nat} {b : Nat} {C : Array Value} (M : Mm S w0 H w) (k : Nat) (C' : Array Value) (hi : (P.info? T).map (·.size) = some n) (hk : H[k]? = some (b, C)) (ho : ops[i]? = some o) (hop : o.op = .store T p x) (hd : o.dst = none)
    (hp : a.eval p = .pointer (some ⟨b, 0, none⟩)) (hx : a.eval x = .agg C') (hC : C.size = n) (hC' : C'.size = n) (h1 : ones C' = true) (hw : Region.wanted o (yielded ops a.tmps) = true)
    (h : ∀ w', Mm S w0 (H.set k (b, C')) w' → wpT P ops Q t a w') : wpT P ops Q (.op i t) a w := by
  have hm := List.mem_of_getElem? hk
  refine wpT_run (w' := w.setRow b C') ho hw ?_ ?_
  · obtain ⟨dst, op, ty, pos, after, guard⟩ := o
    subst hop
    rw [x_store, hp, hx, x_store0 w hi b C' hC' (by rw [M.row hm]; exact hC) (M.free hm) (ones_all h1)]
  · rw [hd]; exact h _ (M.set k C' hk)
/-- a part of a row is stored -/
theorem wpT_stm {T : TypeId} {p x : Operand} {n : Nat} {b off : Nat} {C : Array Value} (M : Mm S w0 H w) (k : Nat) (X C' : Array Value) (hi : (P.info? T).map (·.size) = some n) (hk : H[k]? = some (b, C)) (ho : ops[i]? = some o) (hop : o.op = .store T p x) (hd : o.dst = none)
    (hp : a.eval p = .pointer (some ⟨b, off, none⟩)) (hx : a.eval x = .agg X) (hC : off + n ≤ C.size) (hX : X.size = n) (h1 : ones X = true) (hC' : C.extract 0 off ++ X ++ C.extract (off + X.size) C.size = C') (hw : Region.wanted o (yielded ops a.tmps) = true)
    (h : ∀ w', Mm S w0 (H.set k (b, C')) w' → wpT P ops Q t a w') : wpT P ops Q (.op i t) a w := by
  have hm := List.mem_of_getElem? hk
  refine wpT_run (w' := w.setSeg b off X) ho hw ?_ ?_
  · obtain ⟨dst, op, ty, pos, after, guard⟩ := o
    subst hop
    rw [x_store, hp, hx, x_storem w hi b off X hX (by rw [M.row hm]; exact hC) (M.free hm) (ones_all h1)]
  · have e : w.setSeg b off X = w.setRow b C' := by
      unfold World.setSeg
      rw [M.row hm, hC']
    rw [hd, e]; exact h _ (M.set k C' hk)
/-- a cell is stored -/
theorem wpT_stc {T : TypeId} {p x : Operand} {b off : Nat} {C : Array Value} (M : Mm S w0 H w) (k : Nat) (v : Value) (C' : Array Value) (hi : (P.info? T).map (·.size) = some 1) (hk : H[k]? = some (b, C)) (ho : ops[i]? = some o) (hop : o.op = .store T p x) (hd : o.dst = none)
    (hp : a.eval p = .pointer (some ⟨b, off, none⟩)) (hx : a.eval x = v) (hoff : off < C.size) (hv : ones1 v = true) (hC' : C.setIfInBounds off v = C') (hw : Region.wanted o (yielded ops a.tmps) = true)
    (h : ∀ w', Mm S w0 (H.set k (b, C')) w' → wpT P ops Q t a w') : wpT P ops Q (.op i t) a w := by
  have hm := List.mem_of_getElem? hk
  refine wpT_run (w' := w.setRow b C') ho hw ?_ ?_
  · obtain ⟨dst, op, ty, pos, after, guard⟩ := o
    subst hop
    rw [x_store, hp, hx, x_storec hi w b off v hv (by rw [M.row hm]; exact hoff) (M.free hm), M.row hm, hC']
  · rw [hd]; exact h _ (M.set k C' hk)
end
/-- the new variables of a region -/
theorem news_one {N : Nat} {w' : World} {K : Act → Prop} {prev : List Nat} {d : Nat} {c : Array Value} {T : TypeId} {r : List (Nat × Array Value × TypeId)} {a : Act}
    (h : ∀ b, N ≤ b → w'.heap[b]? = some (.cells c T (0, 0)) → b ∉ prev → newsP N w' K (b :: prev) r (a.put (some d) (.pointer (some ⟨b, 0, none⟩)))) : newsP N w' K prev ((d, c, T) :: r) a := h
/-- .. into the rows that are known -/
theorem Mm.in_ {S : Nat → Prop} {w0 w w' : World} {H H0 : List (Nat × Array Value)} {b : Nat} {c : Array Value} {T : TypeId} {prev : List Nat} (M : Mm S w0 H0 w) (M' : Mm S w0 H w') (hN : w.heap.size ≤ b) (hb : w'.heap[b]? = some (.cells c T (0, 0))) (hT : T ≠ 5) (hp : b ∉ prev)
    (hH : H.map (·.1) = prev ++ H0.map (·.1)) : Mm S w0 ((b, c) :: H) w' :=
  Mm.new M hN hb hT M' (by rw [hH, List.mem_append]; exact fun h => h.elim hp (M.notin hN))
end Go.Proofs.Ytojkcbhmhfjioaa
