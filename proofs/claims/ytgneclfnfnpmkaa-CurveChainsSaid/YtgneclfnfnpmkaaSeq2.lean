/-
  The same as laws of a region; memory as a list of rows that are known; own work.
-/
import Derived.Test.YtgneclfnfnpmkaaSeq
import Derived.Test.YtgneclfnfnpmkaaStep
import Derived.Test.YtgneclfnfnpmkaaRes
set_option linter.unusedSimpArgs false
set_option linter.unusedVariables false
namespace Go.Proofs.Ytgneclfnfnpmkaa
open Go.RowKit

section
variable {P : Program} {Q : Exit → Act → World → Prop}
/-- each order that the edges allow: also that of the list -/
theorem any_list {ops : Array Oper} {md : Region.Mode} (hb : (List.range ops.size).all (fun i => match ops[i]? with | some o => (bo md o).all (fun e => decide (e < i)) | none => false) = true) :
    ∀ (g k : Nat) (a : Act) (w : World), k + g = ops.size → wpAny P md ops Q g (headA k ops.size) a w → wpList P ops Q (ops.toList.drop k) a w
  | 0, k, a, w, hk, h => by
    have : ops.toList.drop k = [] := List.drop_eq_nil_of_le (by simp; omega)
    rw [this]
    exact h.2
  | g + 1, k, a, w, hk, h => by
    have hlt : k < ops.size := by omega
    have ho : ops[k]? = some ops[k] := Array.getElem?_eq_getElem hlt
    have hkl : k < ops.toList.length := by simpa using hlt
    rw [List.drop_eq_getElem_cons hkl]
    have hr : k ∈ Region.ready md ops (headA k ops.size) := by
      refine mem_ready.2 ⟨by simp [headA, hlt], ops[k], ho, fun e he hbd => ?_⟩
      have h1 := List.all_eq_true.1 hb k (List.mem_range.2 hlt)
      rw [ho] at h1
      simp only [List.all_eq_true, decide_eq_true_eq] at h1
      have h2 : e.on < k := h1 e.on (by unfold bo; rw [List.mem_map]; exact ⟨e, by rw [List.mem_filter]; exact ⟨by simpa using he, hbd⟩, rfl⟩)
      have h3 : e.on < ops.size := by omega
      simp [headA, h2, h3]
    have h1 := h.2 k hr
    have he : (headA k ops.size).setIfInBounds k true = headA (k + 1) ops.size := by
      apply Array.ext
      · simp [headA]
      · intro i h2 h3
        simp only [Array.getElem_setIfInBounds, headA]
        by_cases hik : k = i
        · subst hik; simp
        · simp [hik]; omega
    rw [he] at h1
    unfold wpOp at h1
    rw [ho] at h1
    unfold wpList
    simp only [Array.getElem_toList]
    split
    · rename_i hw
      simp only [hw, if_true] at h1
      exact h1.imp (Oper.wp_mono fun a' w' h' => any_list hb g (k + 1) a' w' (by omega) h') id
    · rename_i hw
      simp only [hw, if_false] at h1
      exact any_list hb g (k + 1) _ _ (by omega) h1
theorem seq_all {a : Act} {w w1 : World} {l : List Oper} {B : Nat} {md : Region.Mode} (n : Nat) (ds qs fs ps : List Nat) (t : Tr) (I : World → Prop)
    (hc : (chkM md l.toArray n ds qs fs && Region.noSelect l.toArray && chkY md l.toArray ps (headA n l.length) && decide (n + ps.length ≤ l.length)) = true)
    (ht : mkT md l.toArray (l.length - n - ps.length) (setY ps (headA n l.length)) = t)
    (hQ : ∀ d v c a w, Q (.panic c) (a.put d v) w → Q (.panic c) a w)
    (hsz : ds.all (fun d => decide (d < a.tmps.size)) = true) (hB : B ≤ w.heap.size) (hst : ∀ w1 w2, I w1 → Sf B w1 w2 → I w2) (hI : I w1) (hw1 : w.heap.size ≤ w1.heap.size)
    (h : SeqA P l.toArray B w.heap.size qs fs (fun a' w' => wpY P l.toArray ps (fun a'' => wpT P l.toArray Q t a'' w') a') 0 (l.take n) a [] I) :
    wpAny P md l.toArray Q l.toArray.size (Array.replicate l.toArray.size false) a w1 := by
  simp only [Bool.and_eq_true, decide_eq_true_eq] at hc
  obtain ⟨⟨⟨hcm, hns⟩, hy⟩, hnp⟩ := hc
  have hn : n ≤ l.length := by omega
  have hcnt : cntF n (Array.replicate l.toArray.size false) = n := by
    unfold cntF
    have : (List.range n).filter (fun i => !(Array.replicate l.toArray.size false).getD i true) = List.range n := by
      rw [List.filter_eq_self]
      intro i hi
      have := List.mem_range.1 hi
      have hi2 : i < l.length := by omega
      simp [hi2]
    rw [this, List.length_range]
  have hf : ∀ i, (Array.replicate l.toArray.size false).getD i false = false := fun i => getD_replicate_false _ _
  have hz : ∀ i, i < n → ds.getD i 0 < a.tmps.size := by
    intro i hi
    have hlen : ds.length = n := by
      simp only [chkM, Bool.and_eq_true, decide_eq_true_eq] at hcm
      exact hcm.1.1.1.1.1.1.1
    have := List.all_eq_true.1 hsz (ds.getD i 0) (by rw [List.getD_eq_getElem?_getD, List.getElem?_eq_getElem (by omega)]; exact List.getElem_mem _)
    simpa using this
  have h0 : SeqA P l.toArray B w.heap.size qs fs (fun a' w' => wpY P l.toArray ps (fun a'' => wpT P l.toArray Q t a'' w') a') 0 ((l.toArray.toList.take n).drop 0) a (accOf l.toArray ds (fun _ => (#[], 0)) 0) I := by
    have e : l.toArray.toList = l := by simp
    rw [e, List.drop_zero]; exact h
  have h2 := seq_any (P := P) (Q := Q) (ops := l.toArray) (md := md) (n := n) (ds := ds) (qs := qs) (fs := fs) (a0 := a) (N := w.heap.size) (g := l.length - n) hcm hQ hsz hB
    (K := fun a' w' => wpY P l.toArray ps (fun a'' => wpT P l.toArray Q t a'' w') a')
    (fun a' w' hk => by
      have e : l.toArray.size = l.length := by simp
      rw [e]
      have h3 := wpAny_Y (P := P) (ops := l.toArray) (Q := Q) (md := md) (w := w') hns hQ ps (l.length - n - ps.length) (headA n l.length) a' hy
        (wpY_mono (fun a'' h' => wpAny_tree _ _ _ _ (by rw [ht]; exact h')) ps _ hk)
      rwa [show l.length - n - ps.length + ps.length = l.length - n by omega] at h3)
    n (Array.replicate l.toArray.size false) a w1 hcnt (by simp) (fun t h1 h2 => getD_in (by simpa using h2) (getD_replicate_false _ _)) (fun i _ h => by rw [hf] at h; cases h)
    ⟨0, fun _ => undef, fun _ => (#[], 0), I, a, fun _ => undef, ⟨Nat.zero_le _, h0, ⟨rfl, rfl, fun _ h => absurd h (Nat.not_lt_zero _), fun _ _ => rfl⟩, hst, hI, hw1, fun _ h => absurd h (Nat.not_lt_zero _), fun j _ _ => hf j,
      ⟨rfl, rfl, fun e _ h => (by rw [hf] at h; cases h), fun _ _ => rfl⟩, fun _ h => absurd h (Nat.not_lt_zero _), fun _ h => absurd h (Nat.not_lt_zero _), fun _ _ h => absurd h (Nat.not_lt_zero _)⟩⟩
  rw [show n + (l.length - n) = l.toArray.size by simp; omega] at h2
  exact h2
theorem wp_region_seq {id : Nat} {a : Act} {w : World} {l : List Oper} {B : Nat} (n : Nat) (ds qs fs ps : List Nat) (t : Tr) (I : World → Prop) (hm : P.follows .mixedOrders = true)
    (hc : (chkM .any l.toArray n ds qs fs && Region.noSelect l.toArray && chkY .any l.toArray ps (headA n l.length) && decide (n + ps.length ≤ l.length)) = true)
    (ht : mkT .any l.toArray (l.length - n - ps.length) (setY ps (headA n l.length)) = t)
    (hQ : ∀ d v c a w, Q (.panic c) (a.put d v) w → Q (.panic c) a w)
    (hsz : ds.all (fun d => decide (d < a.tmps.size)) = true) (hB : B ≤ w.heap.size) (hst : ∀ w1 w2, I w1 → Sf B w1 w2 → I w2) (hI : I w)
    (h : SeqA P l.toArray B w.heap.size qs fs (fun a' w' => wpY P l.toArray ps (fun a'' => wpT P l.toArray Q t a'' w') a') 0 (l.take n) a [] I) : (Code.region id l.toArray true).wp P Q a w :=
  wp_region_any hm (seq_all n ds qs fs ps t I hc ht hQ hsz hB hst (hst _ _ hI (Sf.drew B w)) (Nat.le_refl _) h)
theorem wp_region_seqF {id : Nat} {a : Act} {w : World} {l : List Oper} {B : Nat} (n : Nat) (ds qs fs ps : List Nat) (t : Tr) (I : World → Prop)
    (hc : (chkM .any l.toArray n ds qs fs && Region.noSelect l.toArray && chkY .any l.toArray ps (headA n l.length) && decide (n + ps.length ≤ l.length)) = true)
    (ht : mkT .any l.toArray (l.length - n - ps.length) (setY ps (headA n l.length)) = t)
    (hQ : ∀ d v c a w, Q (.panic c) (a.put d v) w → Q (.panic c) a w)
    (hsz : ds.all (fun d => decide (d < a.tmps.size)) = true) (hB : B ≤ w.heap.size) (hst : ∀ w1 w2, I w1 → Sf B w1 w2 → I w2) (hI : I w)
    (hb : (List.range l.toArray.size).all (fun i => match l.toArray[i]? with | some o => (bo .any o).all (fun e => decide (e < i)) | none => false) = true)
    (h : SeqA P l.toArray B w.heap.size qs fs (fun a' w' => wpY P l.toArray ps (fun a'' => wpT P l.toArray Q t a'' w') a') 0 (l.take n) a [] I) : (Code.region id l.toArray false).wp P Q a w := by
  refine wp_region_lit ?_
  have h2 := seq_all n ds qs fs ps t I hc ht hQ hsz hB hst hI (Nat.le_refl _) h
  have h3 := any_list hb l.toArray.size 0 a w (by simp) (by
    have e : headA 0 l.toArray.size = Array.replicate l.toArray.size false := by
      apply Array.ext
      · simp [headA]
      · intro i h1 h2; simp [headA]
    rw [e]; exact h2)
  simpa using h3
end
/-! the steps -/
section
variable {P : Program} {ops : Array Oper} {B N : Nat} {qs fs : List Nat} {K : Act → World → Prop} {i : Nat} {o : Oper} {r : List Oper} {a : Act} {acc : List (Nat × Array Value × TypeId)} {I : World → Prop}
theorem SeqA.pure (v : Value) (hrun : ∀ w, (execOp a.eval o).run P w = .ok (.value v) w) (hn : isNewOp o = false) (hw : Region.wanted o (yielded ops a.tmps) = true) (h : SeqA P ops B N qs fs K (i + 1) r (a.put o.dst v) acc I) : SeqA P ops B N qs fs K i (o :: r) a acc I :=
  .pur v hn hw hrun h
/-- an operation that reads -/
theorem SeqA.read (v : Value) (hrun : ∀ w, I w → (execOp a.eval o).run P w = .ok (.value v) w) (hn : isNewOp o = false) (hw : Region.wanted o (yielded ops a.tmps) = true) (h : SeqA P ops B N qs fs K (i + 1) r (a.put o.dst v) acc I) (hf : fs.contains i = false := by rfl) : SeqA P ops B N qs fs K i (o :: r) a acc I :=
  .val v hn hw (fun w hI _ => by unfold Gives; rw [hrun w hI]; exact ⟨rfl, Sf.refl _ _⟩) h hf
/-- a call that makes no more than new memory -/
theorem SeqA.call (f : FuncId) (args : Array Value) (v : Value) (hrun : ∀ w, (execOp a.eval o).run P w = .ok (.enter f args) w) (hc : ∀ w, I w → N ≤ w.heap.size → Calls P f args w fun e w' => e = .returned v ∧ Below w.heap.size w w') (hB : B ≤ N)
    (hn : isNewOp o = false) (hw : Region.wanted o (yielded ops a.tmps) = true) (h : SeqA P ops B N qs fs K (i + 1) r (a.put o.dst v) acc I) (hf : fs.contains i = false := by rfl) : SeqA P ops B N qs fs K i (o :: r) a acc I :=
  .val v hn hw (fun w hI hN => by
    unfold Gives; rw [hrun w]
    exact (hc w hI hN).mono fun e w' ⟨he, hb⟩ => ⟨v, he, rfl, Sf.of hb (Nat.le_trans hB hN)⟩) h hf
/-- a call of which a value is only known by what is said of it -/
theorem SeqA.callx {α : Type} (f : FuncId) (args : Array Value) (V : α → Value) (X : α → Prop) (hrun : ∀ w, (execOp a.eval o).run P w = .ok (.enter f args) w) (hc : ∀ w, I w → N ≤ w.heap.size → Calls P f args w fun e w' => (∃ x, e = .returned (V x) ∧ X x) ∧ Below w.heap.size w w') (hB : B ≤ N)
    (hq : i ∈ qs) (hn : isNewOp o = false) (hw : Region.wanted o (yielded ops a.tmps) = true)
    (h : ∀ u, SeqA P ops B N qs fs K (i + 1) r (a.put o.dst u) acc (fun w => I w ∧ ∃ x, u = V x ∧ X x)) (hf : fs.contains i = false := by rfl) : SeqA P ops B N qs fs K i (o :: r) a acc I :=
  .opq (fun u _ => ∃ x, u = V x ∧ X x) hq hn hw (fun _ _ _ h _ => h) (fun w hI hN => by
    unfold Gives; rw [hrun w]
    exact (hc w hI hN).mono fun e w' ⟨⟨x, he, hx⟩, hb⟩ => ⟨V x, he, ⟨x, rfl, hx⟩, Sf.of hb (Nat.le_trans hB hN)⟩) h hf
end
/-! memory -/
/-- the rows H are known, and are one's own; but for S, all that was there at w0 is as it was -/
structure Mm (S : Nat → Prop) (w0 : World) (H : List (Nat × Array Value)) (w : World) : Prop where
  fr : Fr S w0 w
  own : ∀ p ∈ H, (S p.1 ∨ w0.heap.size ≤ p.1) ∧ ∃ T, T ≠ 5 ∧ w.heap[p.1]? = some (.cells p.2 T (0, 0))
  nd : (H.map (·.1)).Nodup
def no : Nat → Prop := fun _ => False
section
variable {S : Nat → Prop} {w0 w w' : World} {H : List (Nat × Array Value)} {b : Nat} {c : Array Value}
theorem Mm.start (S : Nat → Prop) (w : World) : Mm S w [] w := ⟨Fr.refl _ _, fun _ h => (by cases h), List.nodup_nil⟩
theorem Mm.sf (h : Mm S w0 H w) (k : Sf w0.heap.size w w') : Mm S w0 H w' :=
  ⟨h.fr.trans (Fr.mono (Fr.of_below' k.1) (fun _ _ hk => .inr hk)), fun p hp => ⟨(h.own p hp).1, by obtain ⟨T, hT, hb⟩ := (h.own p hp).2; exact ⟨T, hT, k.blk hb hT⟩⟩, h.nd⟩
theorem Mm.size (h : Mm S w0 H w) : w0.heap.size ≤ w.heap.size := h.fr.size
theorem Mm.lt (h : Mm S w0 H w) (hm : (b, c) ∈ H) : b < w.heap.size := by
  obtain ⟨T, hT, hb⟩ := (h.own _ hm).2
  exact (Array.getElem?_eq_some_iff.1 hb).1
theorem Mm.row (h : Mm S w0 H w) (hm : (b, c) ∈ H) : w.rowOf b = c := by
  obtain ⟨T, hT, hb⟩ := (h.own _ hm).2
  exact rowOf_eq hb
theorem Mm.free (h : Mm S w0 H w) (hm : (b, c) ∈ H) : w.free b = true := by
  obtain ⟨T, hT, hb⟩ := (h.own _ hm).2
  exact free_eq hb
theorem Mm.new {H0 : List (Nat × Array Value)} (h : Mm S w0 H0 w) {T : TypeId} (hN : w.heap.size ≤ b) (hb : w'.heap[b]? = some (.cells c T (0, 0))) (hT : T ≠ 5) (h' : Mm S w0 H w') (hnb : b ∉ H.map (·.1)) : Mm S w0 ((b, c) :: H) w' :=
  ⟨h'.fr, fun p hp => (by
    rcases List.mem_cons.1 hp with e | e
    · subst e; exact ⟨.inr (Nat.le_trans h.size hN), T, hT, hb⟩
    · exact h'.own p e), by rw [List.map_cons, List.nodup_cons]; exact ⟨hnb, h'.nd⟩⟩
theorem Mm.alloc (h : Mm S w0 H w) (c : Array Value) (T : TypeId) (hT : T ≠ 5) : Mm S w0 ((w.heap.size, c) :: H) (w.alloc (.cells c T)) := by
  refine ⟨h.fr.alloc _, fun p hp => ?_, ?_⟩
  · rcases List.mem_cons.1 hp with e | e
    · subst e; exact ⟨.inr h.size, T, hT, heap_new' _⟩
    · obtain ⟨h1, T', hT', hb⟩ := h.own p e
      exact ⟨h1, T', hT', (Below.heap_alloc w _ _ (Array.getElem?_eq_some_iff.1 hb).1).trans hb⟩
  · rw [List.map_cons, List.nodup_cons]
    refine ⟨fun hm => ?_, h.nd⟩
    obtain ⟨p, hp, e⟩ := List.mem_map.1 hm
    have := h.lt (b := p.1) (c := p.2) hp
    omega
theorem Mm.below (h : Mm S w0 H w) (k : Below w.heap.size w w') : Mm S w0 H w' := h.sf (Sf.of k h.size)
theorem Mm.drewN (h : Mm S w0 H w) (n : Nat) : Mm S w0 H (w.drewN n) := h.below (below_drewN (Below.refl _ _) n)
theorem Mm.set (h : Mm S w0 H w) (k : Nat) (c' : Array Value) (hk : H[k]? = some (b, c)) : Mm S w0 (H.set k (b, c')) (w.setRow b c') := by
  have hm := List.mem_of_getElem? hk
  have hkl : k < H.length := (List.getElem?_eq_some_iff.1 hk).1
  have hmap : (H.set k (b, c')).map (·.1) = H.map (·.1) := by
    rw [List.map_set]
    apply List.ext_getElem?
    intro i
    rw [List.getElem?_set]
    by_cases e : k = i
    · subst e
      have e2 : H[k] = (b, c) := by rw [List.getElem?_eq_getElem hkl] at hk; exact Option.some.inj hk
      simp [hkl, e2]
    · simp [e]
  refine ⟨h.fr.setRow (h.own _ hm).1 _, fun p hp => ?_, by rw [hmap]; exact h.nd⟩
  rw [List.mem_iff_getElem?] at hp
  obtain ⟨i, hi⟩ := hp
  rw [List.getElem?_set] at hi
  by_cases e : k = i
  · subst e
    simp [hkl] at hi
    subst hi
    obtain ⟨h1, T, hT, hb⟩ := h.own _ hm
    exact ⟨h1, T, hT, heap_setRow_same hb⟩
  · rw [if_neg e] at hi
    have hpm := List.mem_of_getElem? hi
    obtain ⟨h1, T, hT, hb⟩ := h.own p hpm
    refine ⟨h1, T, hT, (heap_setRow_other (fun e2 => e ?_)).trans hb⟩
    have n1 : (H.map (·.1))[k]? = some b := by simp [hk]
    have n2 : (H.map (·.1))[i]? = some p.1 := by simp [hi]
    have hil : i < (H.map (·.1)).length := (List.getElem?_eq_some_iff.1 n2).1
    have hkl' : k < (H.map (·.1)).length := by simpa using hkl
    have e3 : (H.map (·.1))[k] = (H.map (·.1))[i] := by
      rw [List.getElem?_eq_getElem hkl'] at n1
      rw [List.getElem?_eq_getElem hil] at n2
      injection n1 with n1; injection n2 with n2
      rw [n1, n2, e2]
    exact (List.getElem_inj h.nd).1 e3
theorem Mm.end_ (h : Mm no w0 H w) : Below w0.heap.size w0 w := h.fr.below _ (Nat.le_refl _) (fun _ _ h => h.elim)
theorem Mm.sub (h : Mm S w0 H w) {H' : List (Nat × Array Value)} (hs : List.Sublist H' H) : Mm S w0 H' w := ⟨h.fr, fun p hp => h.own p (hs.subset hp), List.Nodup.sublist (hs.map _) h.nd⟩
theorem Mm.ne (h : Mm S w0 H w) {x y : Nat × Array Value} {i j : Nat} (hi : H[i]? = some x) (hj : H[j]? = some y) (hij : i ≠ j) : x.1 ≠ y.1 := by
  intro e
  have n1 : (H.map (·.1))[i]? = some x.1 := by simp [hi]
  have n2 : (H.map (·.1))[j]? = some y.1 := by simp [hj]
  have hil := (List.getElem?_eq_some_iff.1 n1).1
  have hjl := (List.getElem?_eq_some_iff.1 n2).1
  rw [List.getElem?_eq_getElem hil] at n1
  rw [List.getElem?_eq_getElem hjl] at n2
  injection n1 with n1; injection n2 with n2
  exact hij ((List.getElem_inj h.nd).1 (by rw [n1, n2, e]))
theorem Mm.notin (h : Mm S w0 H w) (hN : w.heap.size ≤ b) : b ∉ H.map (·.1) := by
  intro hm
  obtain ⟨p, hp, e⟩ := List.mem_map.1 hm
  have := h.lt (b := p.1) (c := p.2) hp
  omega
end
end Go.Proofs.Ytgneclfnfnpmkaa
