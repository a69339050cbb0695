/-
  Slices of ints; own work.
-/
import Derived.Test.YtgclegdgngldoaaDoorFe7
set_option linter.unusedSimpArgs false
set_option linter.unusedVariables false
namespace Go.Proofs.YtgclegdgngldoaaDoor
open Go.RowKit

abbrev I64 (n : Nat) : Value := .int .i64 (n : Int)
/-- a slice of ints -/
def IS (w : World) (v : Value) (l : List (Nat)) : Prop := SV w v l.length (l.map I64)
/-- a slice of ints of the call's own -/
def OI (w : World) (base : Nat) (v : Value) (l : List (Nat)) : Prop := w.ownsRow base 3 1 v l.length (l.map I64)
section
variable {w w' : World} {v : Value} {l : List (Nat)} {base : Nat}
theorem OI.is (h : OI w base v l) : IS w v l := SV.of_own h
theorem OI.alloc (h : OI w base v l) (o : Obj) : OI (w.alloc o) base v l := World.ownsRow.alloc h o
theorem OI.kept {r : Option Nat} (h : OI w base v l) (hg : w.grownBy w' r) (hne : v.ownBlock = none ∨ v.ownBlock ≠ r) : OI w' base v l := World.ownsRow.kept h hg hne
theorem OI.drewN (h : OI w base v l) (k : Nat) : OI (w.drewN k) base v l := World.ownsRow.kept h (gb_drewN (gb_refl w none) k) (by cases hv : v.ownBlock <;> simp)
theorem OI.mono {b' : Nat} (h : OI w base v l) (hb : b' ≤ base) : OI w b' v l := by
  refine ⟨h.1, ?_⟩
  rcases h.2 with h2 | ⟨g, cap, cur, hv, hbg, r⟩
  · exact .inl h2
  · exact .inr ⟨g, cap, cur, hv, by omega, r⟩
theorem oi_below {B : Nat} {w0 : World} (h : Below B w0 w) (hown : OI w B v l) (hB : B ≤ w.heap.size) (hg : w.grownBy w' v.ownBlock) : Below B w0 w' := h.grown hg hB (fun k hk => (hown.lt k hk).1)
theorem oi_below1 {B : Nat} {w0 : World} (o : Obj) (h : Below B w0 w) (hown : OI w B v l) (hB : B ≤ w.heap.size) (hg : (w.alloc o).grownBy w' v.ownBlock) : Below B w0 w' :=
  oi_below (h.alloc hB o) (hown.alloc o) (by simp; omega) hg
theorem OI.nil (w : World) (base : Nat) : OI w base (.slice none 0 0) [] := World.ownsRow_nil w base _ _
/-- a literal slice -/
theorem OI.lit (w : World) (l : List (Nat)) (c : Array Value) (hc : c = cs I64 l) (n : Nat) (hn : n = l.length) (hm : l.length ≤ maxLen) (base : Nat) (hb : base ≤ w.heap.size) :
    OI (w.alloc (.cells c 3)) base (.slice (some ⟨w.heap.size, 0, none⟩) n n) l := by
  subst hc; subst hn
  have := World.ownsRow_lit (base := base) (e := 3) (size := 1) w (cs I64 l) l.length hb hm (by simp)
  simpa [OI, cs] using this
theorem IS.below (h : IS w v l) (hb : Below w.heap.size w w') : IS w' v l := SV.below h hb
theorem IS.open (h : IS w v l) (hl : l ≠ []) : ∃ b o cap, v = .slice (some ⟨b, o, none⟩) l.length cap ∧ l.length ≤ cap ∧ ∀ i, i < l.length → w.cell? ⟨b, o + i, none⟩ = some (I64 (l.getD i 0)) := by
  obtain ⟨a, cap, rfl, h1, h2, h3⟩ := h
  obtain ⟨b, o, rfl, h4⟩ := h3 (by simpa using hl)
  refine ⟨b, o, cap, rfl, h1, fun i hi => ?_⟩
  rw [h4 i (by simpa using hi), List.getElem?_map, List.getD_eq_getElem?_getD, List.getElem?_eq_getElem hi]; rfl
theorem IS.shape' (h : IS w v l) (n : Nat) (hn : l.length = n) : ∃ a cap, v = .slice a n cap ∧ n ≤ cap := by
  subst hn
  obtain ⟨a, cap, rfl, h1, _⟩ := h
  exact ⟨a, cap, rfl, h1⟩
theorem IS.one (w : World) (u : Value) (x : Nat) (hu : u = I64 x) (T : TypeId) : IS (w.alloc (.cells #[u] T)) (.slice (some ⟨w.heap.size, 0, none⟩) 1 1) [x] := by
  subst hu
  refine ⟨_, 1, rfl, Nat.le_refl _, by unfold maxLen; omega, fun _ => ⟨_, _, rfl, fun i hi => ?_⟩⟩
  simp at hi
  subst hi
  rw [cell_rowOf, rowOf_alloc_at _ _ _ rfl]; rfl
end
theorem info_int : (Tryd.prog.info? 3).map (fun i => (i.zero, i.size, i.bytes)) = some (some (.int .i64 0), 1, 8) := by kernel_rfl
theorem wpList_api {w : World} {ops : Array Oper} {rest : List Oper} {o : Oper} {a : Act} {Q : Exit → Act → World → Prop} (hgd : o.guard = none) (s x : Operand)
    (ho : o.op = .call { callee := .builtin .append, args := #[s, x], argTypes := #[133, 133] })
    (base : Nat) (v u : Value) (l m : List (Nat)) (hs : a.eval s = v) (hown : OI w base v l) (hx : a.eval x = u) (hu : IS w u m)
    (hlen : l.length + m.length ≤ 1073741824) (hbase : base ≤ w.heap.size)
    (h : ∀ v' w', OI w' base v' (l ++ m) → w.grownBy w' v.ownBlock → (v' = .slice none 0 0 ↔ v = .slice none 0 0 ∧ m = []) → wpList Tryd.prog ops Q rest (a.put o.dst v') w') : wpList Tryd.prog ops Q (o :: rest) a w := by
  refine wpList_ap hgd s x 133 ho base 3 (.int .i64 0) 1 8 Tryd.underlying133 info_int rfl (by decide) v u l.length m.length (l.map I64) (m.map I64) hs hown hx hu (by simp) (by simp; intro _ _; rfl) (by unfold maxLen; omega) (by omega) hbase ?_
  intro v' w' h1 h2 h3
  refine h v' w' (by unfold OI; simpa using h1) h2 (by rw [h3]; simp)

@[go_sem] theorem ones_i64 (l : List Nat) : ones (cs I64 l) = true := by simp [ones, cs, List.all_eq_true]; intro _ _; rfl
def gI (l : List Nat) (i : Nat) : Nat := l.getD i 0
theorem cell_gI {w : World} {b : Nat} {L : List Nat} {R : Array Value} (h : w.rowOf b = cs I64 L ++ R) {i : Nat} (hi : i < L.length) : w.cell? ⟨b, i, none⟩ = some (I64 (gI L i)) := by
  rw [cell_rowOf, h, Array.getElem?_append_left (by simpa using hi), cs_get_lt hi]
  unfold gI
  rw [List.getD_eq_getElem?_getD, List.getElem?_eq_getElem hi]; rfl
theorem set_gI {L : List Nat} {R : Array Value} {i : Nat} (hi : i < L.length) (x : Nat) : (cs I64 L ++ R).setIfInBounds i (I64 x) = cs I64 (L.set i x) ++ R := by
  rw [← cs_set]
  apply Array.ext_getElem?
  intro j
  simp only [Array.getElem?_setIfInBounds, Array.getElem?_append, Array.size_setIfInBounds, cs_size, Array.size_append]
  by_cases h : i = j
  · subst h; simp [hi]; omega
  · simp [h]
/-- what a call has made, as a row that is known -/
theorem Mm.take {S : Nat → Prop} {w0 w w' : World} {H : List (Nat × Array Value)} {v : Value} {l : List Nat} (M : Mm S w0 H w) (hb : Below w.heap.size w w') (ho : OI w' w.heap.size v l) (hl : l ≠ []) :
    ∃ g cap R, v = .slice (some ⟨g, 0, none⟩) l.length cap ∧ l.length ≤ cap ∧ cap ≤ maxLen ∧ w.heap.size ≤ g ∧ Mm S w0 ((g, cs I64 l ++ R) :: H) w' := by
  rcases ho.2 with ⟨_, h⟩ | ⟨g, cap, cur, rfl, hbg, hg, hn, hm, hs, ht⟩
  · exact absurd (List.length_eq_zero_iff.1 h) hl
  · have e : cur = cs I64 l ++ (cur.toList.drop l.length).toArray := by
      apply Array.ext'
      rw [Nat.mul_one] at ht
      rw [Array.toList_append, show (cs I64 l).toList = l.map I64 by simp [cs], ← ht]
      simp
    refine ⟨g, cap, (cur.toList.drop l.length).toArray, rfl, hn, hm, hbg, ?_⟩
    have M2 := M.below hb
    exact Mm.new (c := cs I64 l ++ (cur.toList.drop l.length).toArray) M hbg (T := 3) (by rw [← e]; exact hg) (by decide) M2 (M.notin hbg)
theorem Mm.is {S : Nat → Prop} {w0 w : World} {H : List (Nat × Array Value)} {g n cap : Nat} {l : List Nat} {R : Array Value} (M : Mm S w0 H w) (hm : (g, cs I64 l ++ R) ∈ H) (hn : n = l.length) (hc : n ≤ cap) (hx : cap ≤ maxLen) : IS w (.slice (some ⟨g, 0, none⟩) n cap) l := by
  subst hn
  refine ⟨_, cap, rfl, hc, hx, fun _ => ⟨g, 0, rfl, fun i hi => ?_⟩⟩
  have hi' : i < l.length := by simpa using hi
  rw [Nat.zero_add, cell_gI (M.row hm) hi', List.getElem?_map, List.getElem?_eq_getElem hi']
  unfold gI
  rw [List.getD_eq_getElem?_getD, List.getElem?_eq_getElem hi']; rfl
end Go.Proofs.YtgclegdgngldoaaDoor
