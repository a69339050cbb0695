/-
  Slices that are read, and slices that a call makes by append; own work.
-/
import Derived.Test.YtojkcbhmhfjioaaMem
import Derived.Laws.AppendOwnNone
set_option linter.unusedSimpArgs false
set_option linter.unusedVariables false
namespace Go.Proofs.Ytojkcbhmhfjioaa
open Go.RowKit

/-- the value v is a slice of n elements, whose cells are xs -/
def SV (w : World) (v : Value) (n : Nat) (xs : List Value) : Prop :=
  ∃ a cap, v = .slice a n cap ∧ n ≤ cap ∧ cap ≤ maxLen ∧ (xs ≠ [] → ∃ b o, a = some ⟨b, o, none⟩ ∧ ∀ i, i < xs.length → w.cell? ⟨b, o + i, none⟩ = xs[i]?)
/-- a slice of bytes -/
def BS (w : World) (v : Value) (l : List (BitVec 8)) : Prop := SV w v l.length (l.map U8)
/-- a slice of bytes of the call's own -/
def OB (w : World) (base : Nat) (v : Value) (l : List (BitVec 8)) : Prop := w.ownsRow base 5 1 v l.length (l.map U8)
section
variable {w w' : World} {v : Value} {n : Nat} {xs : List Value} {l : List (BitVec 8)} {base : Nat}
theorem SV.cell {a : Option Addr} {cap i : Nat} (h : SV w (.slice a n cap) n xs) (hi : i < xs.length) : ∃ b o, a = some ⟨b, o, none⟩ ∧ ∀ i, i < xs.length → w.cell? ⟨b, o + i, none⟩ = xs[i]? := by
  obtain ⟨a', cap', e, h1, h2, h3⟩ := h
  injection e with e1 e2 e3
  subst e1
  exact h3 (by intro e; simp [e] at hi)
theorem SV.lt (h : SV w v n xs) (g : Nat) (hg : v.ownBlock = some g) (hx : xs ≠ []) : g < w.heap.size := by
  obtain ⟨a, cap, rfl, h1, h2, h3⟩ := h
  obtain ⟨b, o, rfl, h4⟩ := h3 hx
  simp [Value.ownBlock] at hg
  subst hg
  have hl : 0 < xs.length := by cases xs with | nil => exact absurd rfl hx | cons => simp
  have := h4 0 hl
  rw [List.getElem?_eq_getElem hl, cell_rowOf] at this
  exact row_lt (Array.getElem?_eq_some_iff.1 this).1
/-- what was read stays, where its block has stayed -/
theorem SV.keep (h : SV w v n xs) (hk : ∀ g, v.ownBlock = some g → g < w.heap.size → w'.heap[g]? = w.heap[g]?) : SV w' v n xs := by
  by_cases hx : xs = []
  · obtain ⟨a, cap, rfl, h1, h2, h3⟩ := h
    exact ⟨a, cap, rfl, h1, h2, fun e => absurd hx e⟩
  · have hlt := h.lt
    obtain ⟨a, cap, rfl, h1, h2, h3⟩ := h
    refine ⟨a, cap, rfl, h1, h2, fun _ => ?_⟩
    obtain ⟨b, o, rfl, h4⟩ := h3 hx
    refine ⟨b, o, rfl, fun i hi => ?_⟩
    rw [← h4 i hi]
    exact World.cell?_of_block (a := ⟨b, o + i, none⟩) (hk b rfl (hlt b rfl hx))
theorem SV.below (h : SV w v n xs) (hb : Below w.heap.size w w') : SV w' v n xs := h.keep fun g _ hg => hb.block g hg
theorem SV.grown {r : Option Nat} (h : SV w v n xs) (hb : w.grownBy w' r) (hr : r = none ∨ v.ownBlock ≠ r) : SV w' v n xs := h.keep fun g hv hg => hb.block g hg (by
  rcases hr with rfl | hr
  · simp
  · rw [← hv]; exact hr)
theorem SV.grown' {r : Option Nat} (h : SV w v n xs) (hb : w.grownBy w' r) (hr : xs = [] ∨ v.ownBlock ≠ r) : SV w' v n xs := by
  rcases hr with rfl | hr
  · obtain ⟨a, cap, rfl, h1, h2, h3⟩ := h
    exact ⟨a, cap, rfl, h1, h2, fun e => absurd rfl e⟩
  · exact h.grown hb (.inr hr)
theorem SV.drewN (h : SV w v n xs) (k : Nat) : SV (w.drewN k) v n xs := h.keep fun _ _ _ => rfl
theorem SV.alloc (h : SV w v n xs) (o : Obj) : SV (w.alloc o) v n xs := h.keep fun g _ hg => Below.heap_alloc w o g hg
theorem SV.len (h : SV w v n xs) : n ≤ maxLen := by obtain ⟨_, _, _, h1, h2, _⟩ := h; omega
theorem SV.of_own {e : TypeId} {size : Nat} (h : w.ownsRow base e size v n xs) : SV w v n xs := by
  rcases h.2 with ⟨rfl, rfl⟩ | ⟨g, cap, cur, rfl, hb, hg, hn, hm, hs, ht⟩
  · refine ⟨none, 0, rfl, Nat.le_refl _, Nat.zero_le _, fun hx => absurd (List.length_eq_zero_iff.1 (by rw [h.1]; simp)) hx⟩
  · refine ⟨some ⟨g, 0, none⟩, cap, rfl, hn, hm, fun _ => ⟨g, 0, rfl, fun i hi => ?_⟩⟩
    have := h.cells (g := g) rfl i xs[i] (List.getElem?_eq_getElem hi)
    rw [Addr.add_mid] at this
    rw [this, List.getElem?_eq_getElem hi]
theorem OB.bs (h : OB w base v l) : BS w v l := SV.of_own h
theorem OB.nil (w : World) (base : Nat) : OB w base (.slice none 0 0) [] := World.ownsRow_nil w base _ _
theorem OB.kept {r : Option Nat} (h : OB w base v l) (hg : w.grownBy w' r) (hne : v.ownBlock = none ∨ v.ownBlock ≠ r) : OB w' base v l := World.ownsRow.kept h hg hne
theorem OB.drewN (h : OB w base v l) (k : Nat) : OB (w.drewN k) base v l := World.ownsRow.kept h (gb_drewN (gb_refl w none) k) (by cases hv : v.ownBlock <;> simp)
theorem OB.alloc (h : OB w base v l) (o : Obj) : OB (w.alloc o) base v l := World.ownsRow.alloc h o
theorem ob_below {B : Nat} {w0 : World} (h : Below B w0 w) (hown : OB w B v l) (hB : B ≤ w.heap.size) (hg : w.grownBy w' v.ownBlock) : Below B w0 w' := h.grown hg hB (fun k hk => (hown.lt k hk).1)
theorem ob_below1 {B : Nat} {w0 : World} (o : Obj) (h : Below B w0 w) (hown : OB w B v l) (hB : B ≤ w.heap.size) (hg : (w.alloc o).grownBy w' v.ownBlock) : Below B w0 w' :=
  ob_below (h.alloc hB o) (hown.alloc o) (by simp; omega) hg
theorem BS.one (w : World) (u : Value) (x : BitVec 8) (hu : u = U8 x) (T : TypeId) : BS (w.alloc (.cells #[u] T)) (.slice (some ⟨w.heap.size, 0, none⟩) 1 1) [x] := by
  subst hu
  refine ⟨_, 1, rfl, Nat.le_refl _, by unfold maxLen; omega, fun _ => ⟨_, _, rfl, fun i hi => ?_⟩⟩
  simp at hi
  subst hi
  rw [cell_rowOf, rowOf_alloc_at _ _ _ rfl]; rfl
theorem OB.mono {b' : Nat} (h : OB w base v l) (hb : b' ≤ base) : OB w b' v l := by
  refine ⟨h.1, ?_⟩
  rcases h.2 with h2 | ⟨g, cap, cur, hv, hbg, r⟩
  · exact .inl h2
  · exact .inr ⟨g, cap, cur, hv, by omega, r⟩
theorem BS.len (h : BS w v l) : l.length ≤ maxLen := SV.len h
/-- a byte slice, opened where it holds something -/
theorem BS.open (h : BS w v l) (hl : l ≠ []) : ∃ b o cap, v = .slice (some ⟨b, o, none⟩) l.length cap ∧ l.length ≤ cap ∧ ∀ i, i < l.length → w.cell? ⟨b, o + i, none⟩ = some (U8 (l.getD i 0)) := by
  obtain ⟨a, cap, rfl, h1, h2, h3⟩ := h
  obtain ⟨b, o, rfl, h4⟩ := h3 (by simpa using hl)
  refine ⟨b, o, cap, rfl, h1, fun i hi => ?_⟩
  rw [h4 i (by simpa using hi), List.getElem?_map, List.getD_eq_getElem?_getD, List.getElem?_eq_getElem hi]; rfl
theorem BS.shape (h : BS w v l) : ∃ a cap, v = .slice a l.length cap ∧ l.length ≤ cap := by
  obtain ⟨a, cap, rfl, h1, _⟩ := h
  exact ⟨a, cap, rfl, h1⟩
end

theorem BS.shape' {w : World} {v : Value} {l : List (BitVec 8)} (h : BS w v l) (n : Nat) (hn : l.length = n) : ∃ a cap, v = .slice a n cap ∧ n ≤ cap := by
  subst hn; exact h.shape
theorem BS.tail {w : World} {b o cap : Nat} {l : List (BitVec 8)} (h : BS w (.slice (some ⟨b, o, none⟩) l.length cap) l) (k : Nat) (hk : k ≤ l.length) (a : Option Addr) (ha : k < l.length → a = some ⟨b, o + k, none⟩) :
    BS w (.slice a (l.length - k) (cap - k)) (l.drop k) := by
  obtain ⟨a', cap', e, h1, h2, h3⟩ := h
  injection e with e1 e2 e3
  subst e1; subst e3
  refine ⟨a, cap - k, by rw [List.length_drop], by rw [List.length_drop]; omega, by omega, fun hne => ?_⟩
  have hlt : k < l.length := by
    apply Classical.byContradiction
    intro hn
    exact hne (by rw [List.drop_eq_nil_of_le (by omega)]; rfl)
  obtain ⟨b', o', e4, h4⟩ := h3 (by intro e5; rw [List.map_eq_nil_iff] at e5; simp [e5] at hlt)
  injection e4 with e4
  injection e4 with e5 e6
  subst e5; subst e6
  refine ⟨b, o + k, ha hlt, fun i hi => ?_⟩
  simp only [List.length_map, List.length_drop] at hi
  have := h4 (k + i) (by simp; omega)
  rw [← Nat.add_assoc] at this
  rw [this]; simp [List.getElem?_drop]
theorem BS.head {w : World} {a : Option Addr} {cap : Nat} {l : List (BitVec 8)} (h : BS w (.slice a l.length cap) l) (k c : Nat) (hk : k ≤ l.length) (hc : k ≤ c) (hm : c ≤ cap) :
    BS w (.slice a k c) (l.take k) := by
  obtain ⟨a', cap', e, h1, h2, h3⟩ := h
  injection e with e1 e2 e3
  subst e1; subst e3
  refine ⟨a, c, by rw [List.length_take, Nat.min_eq_left hk], by rw [List.length_take]; omega, by omega, fun hne => ?_⟩
  obtain ⟨b', o', e4, h4⟩ := h3 (by intro e5; rw [List.map_eq_nil_iff] at e5; simp [e5] at hne)
  refine ⟨b', o', e4, fun i hi => ?_⟩
  simp only [List.length_map, List.length_take] at hi
  rw [h4 i (by simp; omega)]
  simp only [List.getElem?_map]
  rw [List.getElem?_take_of_lt (by omega)]
/-- APPEND, whatever slice is appended -/
theorem wp_ap {P : Program} {w : World} {K : Act → World → Prop} {o : Oper} {a : Act} {Q : Exit → Act → World → Prop} (s x : Operand) (t : TypeId)
    (ho : o.op = .call { callee := .builtin .append, args := #[s, x], argTypes := #[t, t] })
    (base : Nat) (e : TypeId) (z : Value) (size bytes : Nat) (ht : P.underlying t = some (.slice e)) (hi : (P.info? e).map (fun i => (i.zero, i.size, i.bytes)) = some (some z, size, bytes))
    (hzs : z.cells.size = size) (hsz : 0 < size)
    (v u : Value) (n m : Nat) (xs ys : List Value) (hs : a.eval s = v) (hown : w.ownsRow base e size v n xs) (hx : a.eval x = u) (hu : SV w u m ys) (hl : ys.length = m * size) (h1 : ∀ u ∈ ys, u.oneCell' = true)
    (h63 : n + m ≤ maxLen) (hbytes : (n + m) * bytes ≤ 140737488355328) (hbase : base ≤ w.heap.size)
    (h : ∀ v' w', w'.ownsRow base e size v' (n + m) (xs ++ ys) → w.grownBy w' v.ownBlock → (v' = .slice none 0 0 ↔ v = .slice none 0 0 ∧ m = 0) → K (a.put o.dst v') w') : o.wp P a w K Q := by
  obtain ⟨i, hi0, hz0, hz1, hz2⟩ := info_parts hi
  obtain ⟨ad, cap, rfl, h2, h3, h4⟩ := hu
  cases ad with
  | some ad =>
    refine wp_append_own _ s x t ho base e i z size bytes ht hi0 hz0 hz1 hz2 hzs hsz v n xs hs hown ad m cap ys hx hl ?_ h1 h63 hbytes hbase h
    intro j y hj
    have hlt : j < ys.length := (List.getElem?_eq_some_iff.1 hj).1
    obtain ⟨b, o', e1, h5⟩ := h4 (by intro e; rw [e] at hlt; simp at hlt)
    injection e1 with e1
    subst e1
    rw [Addr.add_mid, h5 j hlt, hj]
  | none =>
    have hy : ys = [] := by
      apply Classical.byContradiction
      intro hne
      obtain ⟨b, o', e1, _⟩ := h4 hne
      cases e1
    subst hy
    have hm : m = 0 := by
      rcases Nat.mul_eq_zero.1 (show m * size = 0 from hl.symm) with h | h
      · exact h
      · omega
    subst hm
    have hsame : w.ownsRow base e size v n xs → ∃ w', (Builtin.append_ #[t, t] o.type #[v, .slice none 0 cap]).run P w = .ok v w' ∧ w' = w := fun hown => by
      refine ⟨w, ?_, rfl⟩
      rcases hown.2 with ⟨rfl, rfl⟩ | ⟨g, cap', cur, rfl, _, _, hnc, _⟩
      · simp [Builtin.append_, run_underlying ht, sizeOf, typeInfo, hi0, Builtin.lenOf, Builtin.firstCells]
      · simp [Builtin.append_, run_underlying ht, sizeOf, typeInfo, hi0, Builtin.lenOf, Builtin.firstCells, hnc, storeCells]
    obtain ⟨w', hrun, rfl⟩ := hsame hown
    have h5 := h v w' (by simpa using hown) (gb_refl _ _) (by simp)
    unfold Oper.wp
    simp [execOp, ho, resolve, invoke, builtin, hs, hx, hrun, Result.andThen]
    exact h5
theorem wpList_ap {P : Program} {w : World} {ops : Array Oper} {rest : List Oper} {o : Oper} {a : Act} {Q : Exit → Act → World → Prop} (hgd : o.guard = none) (s x : Operand) (t : TypeId)
    (ho : o.op = .call { callee := .builtin .append, args := #[s, x], argTypes := #[t, t] })
    (base : Nat) (e : TypeId) (z : Value) (size bytes : Nat) (ht : P.underlying t = some (.slice e)) (hi : (P.info? e).map (fun i => (i.zero, i.size, i.bytes)) = some (some z, size, bytes))
    (hzs : z.cells.size = size) (hsz : 0 < size)
    (v u : Value) (n m : Nat) (xs ys : List Value) (hs : a.eval s = v) (hown : w.ownsRow base e size v n xs) (hx : a.eval x = u) (hu : SV w u m ys) (hl : ys.length = m * size) (h1 : ∀ u ∈ ys, u.oneCell' = true)
    (h63 : n + m ≤ maxLen) (hbytes : (n + m) * bytes ≤ 140737488355328) (hbase : base ≤ w.heap.size)
    (h : ∀ v' w', w'.ownsRow base e size v' (n + m) (xs ++ ys) → w.grownBy w' v.ownBlock → (v' = .slice none 0 0 ↔ v = .slice none 0 0 ∧ m = 0) → wpList P ops Q rest (a.put o.dst v') w') : wpList P ops Q (o :: rest) a w :=
  wpList_plain hgd fun K hK => wp_ap s x t ho base e z size bytes ht hi hzs hsz v u n m xs ys hs hown hx hu hl h1 h63 hbytes hbase fun v' w' a1 a2 a3 => hK _ _ (h v' w' a1 a2 a3)
/-- .. at a step of a region that draws its order -/
theorem step_ap {P : Program} {w : World} {ops : Array Oper} {K : Act → World → Prop} {E : Prop} {o : Oper} {a : Act} {Q : Exit → Act → World → Prop} (hgd : o.guard = none) (s x : Operand) (t : TypeId)
    (ho : o.op = .call { callee := .builtin .append, args := #[s, x], argTypes := #[t, t] })
    (base : Nat) (e : TypeId) (z : Value) (size bytes : Nat) (ht : P.underlying t = some (.slice e)) (hi : (P.info? e).map (fun i => (i.zero, i.size, i.bytes)) = some (some z, size, bytes))
    (hzs : z.cells.size = size) (hsz : 0 < size)
    (v u : Value) (n m : Nat) (xs ys : List Value) (hs : a.eval s = v) (hown : w.ownsRow base e size v n xs) (hx : a.eval x = u) (hu : SV w u m ys) (hl : ys.length = m * size) (h1 : ∀ u ∈ ys, u.oneCell' = true)
    (h63 : n + m ≤ maxLen) (hbytes : (n + m) * bytes ≤ 140737488355328) (hbase : base ≤ w.heap.size)
    (h : ∀ v' w', w'.ownsRow base e size v' (n + m) (xs ++ ys) → w.grownBy w' v.ownBlock → (v' = .slice none 0 0 ↔ v = .slice none 0 0 ∧ m = 0) → K (a.put o.dst v') w') : if Region.wanted o (yielded ops a.tmps) = true then o.wp P a w K Q else E := by
  rw [if_pos (by simp [Region.wanted, hgd])]
  exact wp_ap s x t ho base e z size bytes ht hi hzs hsz v u n m xs ys hs hown hx hu hl h1 h63 hbytes hbase h
theorem info_u8 : (Try.prog.info? 5).map (fun i => (i.zero, i.size, i.bytes)) = some (some (.int .u8 0), 1, 1) := by kernel_rfl
/-- .. of bytes -/
theorem wpList_apb {w : World} {ops : Array Oper} {rest : List Oper} {o : Oper} {a : Act} {Q : Exit → Act → World → Prop} (hgd : o.guard = none) (s x : Operand)
    (ho : o.op = .call { callee := .builtin .append, args := #[s, x], argTypes := #[70, 70] })
    (base : Nat) (v u : Value) (l m : List (BitVec 8)) (hs : a.eval s = v) (hown : OB w base v l) (hx : a.eval x = u) (hu : BS w u m)
    (hlen : l.length + m.length ≤ 140737488355328) (hbase : base ≤ w.heap.size)
    (h : ∀ v' w', OB w' base v' (l ++ m) → w.grownBy w' v.ownBlock → (v' = .slice none 0 0 ↔ v = .slice none 0 0 ∧ m = []) → wpList Try.prog ops Q rest (a.put o.dst v') w') : wpList Try.prog ops Q (o :: rest) a w := by
  refine wpList_ap hgd s x 70 ho base 5 (.int .u8 0) 1 1 Try.underlying70 info_u8 rfl (by decide) v u l.length m.length (l.map U8) (m.map U8) hs hown hx hu (by simp) (by simp; intro _ _; rfl) (by unfold maxLen; omega) (by omega) hbase ?_
  intro v' w' h1 h2 h3
  refine h v' w' (by unfold OB; simpa using h1) h2 (by rw [h3]; simp)
theorem step_apb {w : World} {ops : Array Oper} {K : Act → World → Prop} {E : Prop} {o : Oper} {a : Act} {Q : Exit → Act → World → Prop} (hgd : o.guard = none) (s x : Operand)
    (ho : o.op = .call { callee := .builtin .append, args := #[s, x], argTypes := #[70, 70] })
    (base : Nat) (v u : Value) (l m : List (BitVec 8)) (hs : a.eval s = v) (hown : OB w base v l) (hx : a.eval x = u) (hu : BS w u m)
    (hlen : l.length + m.length ≤ 140737488355328) (hbase : base ≤ w.heap.size)
    (h : ∀ v' w', OB w' base v' (l ++ m) → w.grownBy w' v.ownBlock → (v' = .slice none 0 0 ↔ v = .slice none 0 0 ∧ m = []) → K (a.put o.dst v') w') : if Region.wanted o (yielded ops a.tmps) = true then o.wp Try.prog a w K Q else E := by
  refine step_ap hgd s x 70 ho base 5 (.int .u8 0) 1 1 Try.underlying70 info_u8 rfl (by decide) v u l.length m.length (l.map U8) (m.map U8) hs hown hx hu (by simp) (by simp; intro _ _; rfl) (by unfold maxLen; omega) (by omega) hbase ?_
  intro v' w' h1 h2 h3
  refine h v' w' (by unfold OB; simpa using h1) h2 (by rw [h3]; simp)
theorem inf_key : (Try.prog.info? 28).map (·.size) = some 32 := by kernel_rfl
section
variable (ρ : Operand → Value) (dst : Option Tmp) (ty : TypeId) (pos : String) (after : Array Edge) (guard : Option (Nat × Bool)) (w : World)
@[go_sem ↓] theorem rl_key (x : Operand) : (execOp ρ { dst, op := .load 28 x, type := ty, pos, after, guard }).run Try.prog w = exLoad Try.prog 28 (ρ x) w := x_load ..
@[go_sem ↓] theorem rs_key (x y : Operand) : (execOp ρ { dst, op := .store 28 x y, type := ty, pos, after, guard }).run Try.prog w = exStore Try.prog 28 (ρ x) (ρ y) w := x_store ..
@[go_sem ↓] theorem ra_key : (execOp ρ { dst, op := .alloc 28, type := ty, pos, after, guard }).run Try.prog w = .ok (.value (.pointer (some ⟨w.heap.size, 0, none⟩))) (w.alloc (.cells (cs U8 (zs 32)) 28)) :=
  (x_alloc ..).trans (x_alloc0 (v := .agg (cs U8 (zs 32))) _ (by kernel_rfl))
@[go_sem] theorem xl_key (b : Nat) (h : (w.rowOf b).size = 32) : exLoad Try.prog 28 (.pointer (some ⟨b, 0, none⟩)) w = .ok (.value (.agg (w.rowOf b))) w := x_load0 _ Try.underlying28 rfl inf_key b h
@[go_sem] theorem xlm_key (b o : Nat) (ho : 0 < o) (h : o + 32 ≤ (w.rowOf b).size) : exLoad Try.prog 28 (.pointer (some ⟨b, o, none⟩)) w = .ok (.value (.agg ((w.rowOf b).extract o (o + 32)))) w := x_loadm _ Try.underlying28 rfl inf_key b o h
@[go_sem] theorem xs_key (b : Nat) (c : Array Value) (hl : c.size = 32) (h1 : ones c = true) (h : (w.rowOf b).size = 32) (hf : w.free b = true) : exStore Try.prog 28 (.pointer (some ⟨b, 0, none⟩)) (.agg c) w = .ok .skip (w.setRow b c) :=
  x_store0 _ inf_key b c hl h hf (ones_all h1)
@[go_sem] theorem xsm_key (b o : Nat) (ho : 0 < o) (c : Array Value) (hl : c.size = 32) (h1 : ones c = true) (h : o + 32 ≤ (w.rowOf b).size) (hf : w.free b = true) : exStore Try.prog 28 (.pointer (some ⟨b, o, none⟩)) (.agg c) w = .ok .skip (w.setSeg b o c) :=
  x_storem _ inf_key b o c hl h hf (ones_all h1)
end
/-- at a step: a store, and a variable made -/
theorem wps_key {a : Act} {w : World} {K : Act → World → Prop} {Q : Exit → Act → World → Prop} {o : Oper} (p x : Operand) (ho : o.op = .store 28 p x) (b : Nat) (c : Array Value) (hp : a.eval p = .pointer (some ⟨b, 0, none⟩)) (hx : a.eval x = .agg c)
    (hl : c.size = 32) (h1 : ones c = true) (h : (w.rowOf b).size = 32) (hf : w.free b = true) (hK : K (a.put o.dst undef) (w.setRow b c)) : o.wp Try.prog a w K Q := by
  obtain ⟨dst, op, ty, pos, after, guard⟩ := o
  subst ho
  unfold Oper.wp
  rw [rs_key, hp, hx, xs_key _ _ _ hl h1 h hf]
  simp only [Oper.upon]
  exact hK
theorem wpa_key {a : Act} {w : World} {K : Act → World → Prop} {Q : Exit → Act → World → Prop} {o : Oper} (ho : o.op = .alloc 28)
    (hK : K (a.put o.dst (.pointer (some ⟨w.heap.size, 0, none⟩))) (w.alloc (.cells (cs U8 (zs 32)) 28))) : o.wp Try.prog a w K Q := by
  obtain ⟨dst, op, ty, pos, after, guard⟩ := o
  subst ho
  unfold Oper.wp
  rw [ra_key]
  simp only [Oper.upon]
  exact hK

theorem inf_u8 : (Try.prog.info? 5).map (·.size) = some 1 := by kernel_rfl
section
variable (ρ : Operand → Value) (dst : Option Tmp) (ty : TypeId) (pos : String) (after : Array Edge) (guard : Option (Nat × Bool)) (w : World)
@[go_sem ↓] theorem rs_u8 (x y : Operand) : (execOp ρ { dst, op := .store 5 x y, type := ty, pos, after, guard }).run Try.prog w = exStore Try.prog 5 (ρ x) (ρ y) w := x_store ..
@[go_sem] theorem xs_u8 (b o : Nat) (v : Value) (hv : ones1 v = true) (ho : o < (w.rowOf b).size) (hf : w.free b = true) : exStore Try.prog 5 (.pointer (some ⟨b, o, none⟩)) v w = .ok .skip (w.setRow b ((w.rowOf b).setIfInBounds o v)) :=
  x_storec inf_u8 w b o v hv ho hf
end

end Go.Proofs.Ytojkcbhmhfjioaa
