/-
  Walks of reference 03: words and lists; own work.
-/
import Derived.Test.YtbigmnhjnjeeaaaDoorSha4
set_option linter.unusedSimpArgs false
set_option linter.unusedVariables false
namespace Go.Proofs.YtbigmnhjnjeeaaaDoor
open Go.RowKit

/-- a slice of words -/
def WS (w : World) (v : Value) (l : List (BitVec 32)) : Prop := SV w v l.length (l.map U32)
/-- a slice of words of the call's own -/
def OW (w : World) (base : Nat) (v : Value) (l : List (BitVec 32)) : Prop := w.ownsRow base 63 1 v l.length (l.map U32)
section
variable {w w' : World} {v : Value} {l : List (BitVec 32)} {base : Nat}
theorem OW.ws (h : OW w base v l) : WS w v l := SV.of_own h
theorem OW.alloc (h : OW w base v l) (o : Obj) : OW (w.alloc o) base v l := World.ownsRow.alloc h o
theorem OW.kept {r : Option Nat} (h : OW w base v l) (hg : w.grownBy w' r) (hne : v.ownBlock = none ∨ v.ownBlock ≠ r) : OW w' base v l := World.ownsRow.kept h hg hne
theorem OW.drewN (h : OW w base v l) (k : Nat) : OW (w.drewN k) base v l := World.ownsRow.kept h (gb_drewN (gb_refl w none) k) (by cases hv : v.ownBlock <;> simp)
theorem OW.mono {b' : Nat} (h : OW w base v l) (hb : b' ≤ base) : OW w b' v l := by
  refine ⟨h.1, ?_⟩
  rcases h.2 with h2 | ⟨g, cap, cur, hv, hbg, r⟩
  · exact .inl h2
  · exact .inr ⟨g, cap, cur, hv, by omega, r⟩
theorem ow_below {B : Nat} {w0 : World} (h : Below B w0 w) (hown : OW w B v l) (hB : B ≤ w.heap.size) (hg : w.grownBy w' v.ownBlock) : Below B w0 w' := h.grown hg hB (fun k hk => (hown.lt k hk).1)
theorem ow_below1 {B : Nat} {w0 : World} (o : Obj) (h : Below B w0 w) (hown : OW w B v l) (hB : B ≤ w.heap.size) (hg : (w.alloc o).grownBy w' v.ownBlock) : Below B w0 w' :=
  ow_below (h.alloc hB o) (hown.alloc o) (by simp; omega) hg
theorem OW.nil (w : World) (base : Nat) : OW w base (.slice none 0 0) [] := World.ownsRow_nil w base _ _
/-- a literal slice -/
theorem OW.lit (w : World) (l : List (BitVec 32)) (c : Array Value) (hc : c = cs U32 l) (n : Nat) (hn : n = l.length) (hm : l.length ≤ maxLen) (base : Nat) (hb : base ≤ w.heap.size) :
    OW (w.alloc (.cells c 63)) base (.slice (some ⟨w.heap.size, 0, none⟩) n n) l := by
  subst hc; subst hn
  have := World.ownsRow_lit (base := base) (e := 63) (size := 1) w (cs U32 l) l.length hb hm (by simp)
  simpa [OW, cs] using this
theorem OW.litb (w : World) (l : List (BitVec 8)) (c : Array Value) (hc : c = cs U8 l) (n : Nat) (hn : n = l.length) (hm : l.length ≤ maxLen) (base : Nat) (hb : base ≤ w.heap.size) :
    OB (w.alloc (.cells c 5)) base (.slice (some ⟨w.heap.size, 0, none⟩) n n) l := by
  subst hc; subst hn
  have := World.ownsRow_lit (base := base) (e := 5) (size := 1) w (cs U8 l) l.length hb hm (by simp)
  simpa [OB, cs] using this
theorem WS.below (h : WS w v l) (hb : Below w.heap.size w w') : WS w' v l := SV.below h hb
theorem WS.open (h : WS w v l) (hl : l ≠ []) : ∃ b o cap, v = .slice (some ⟨b, o, none⟩) l.length cap ∧ l.length ≤ cap ∧ ∀ i, i < l.length → w.cell? ⟨b, o + i, none⟩ = some (U32 (l.getD i 0)) := by
  obtain ⟨a, cap, rfl, h1, h2, h3⟩ := h
  obtain ⟨b, o, rfl, h4⟩ := h3 (by simpa using hl)
  refine ⟨b, o, cap, rfl, h1, fun i hi => ?_⟩
  rw [h4 i (by simpa using hi), List.getElem?_map, List.getD_eq_getElem?_getD, List.getElem?_eq_getElem hi]; rfl
theorem WS.shape' (h : WS w v l) (n : Nat) (hn : l.length = n) : ∃ a cap, v = .slice a n cap ∧ n ≤ cap := by
  subst hn
  obtain ⟨a, cap, rfl, h1, _⟩ := h
  exact ⟨a, cap, rfl, h1⟩
theorem WS.one (w : World) (u : Value) (x : BitVec 32) (hu : u = U32 x) (T : TypeId) : WS (w.alloc (.cells #[u] T)) (.slice (some ⟨w.heap.size, 0, none⟩) 1 1) [x] := by
  subst hu
  refine ⟨_, 1, rfl, Nat.le_refl _, by unfold maxLen; omega, fun _ => ⟨_, _, rfl, fun i hi => ?_⟩⟩
  simp at hi
  subst hi
  rw [cell_rowOf, rowOf_alloc_at _ _ _ rfl]; rfl
end
theorem info_u32 : (Tryd.prog.info? 63).map (fun i => (i.zero, i.size, i.bytes)) = some (some (.int .u32 0), 1, 4) := by kernel_rfl
theorem wpList_apw {w : World} {ops : Array Oper} {rest : List Oper} {o : Oper} {a : Act} {Q : Exit → Act → World → Prop} (hgd : o.guard = none) (s x : Operand)
    (ho : o.op = .call { callee := .builtin .append, args := #[s, x], argTypes := #[97, 97] })
    (base : Nat) (v u : Value) (l m : List (BitVec 32)) (hs : a.eval s = v) (hown : OW w base v l) (hx : a.eval x = u) (hu : WS w u m)
    (hlen : l.length + m.length ≤ 1073741824) (hbase : base ≤ w.heap.size)
    (h : ∀ v' w', OW w' base v' (l ++ m) → w.grownBy w' v.ownBlock → (v' = .slice none 0 0 ↔ v = .slice none 0 0 ∧ m = []) → wpList Tryd.prog ops Q rest (a.put o.dst v') w') : wpList Tryd.prog ops Q (o :: rest) a w := by
  refine wpList_ap hgd s x 97 ho base 63 (.int .u32 0) 1 4 Tryd.underlying97 info_u32 rfl (by decide) v u l.length m.length (l.map U32) (m.map U32) hs hown hx hu (by simp) (by simp; intro _ _; rfl) (by unfold maxLen; omega) (by omega) hbase ?_
  intro v' w' h1 h2 h3
  refine h v' w' (by unfold OW; simpa using h1) h2 (by rw [h3]; simp)

theorem step_apw {w : World} {ops : Array Oper} {K : Act → World → Prop} {E : Prop} {o : Oper} {a : Act} {Q : Exit → Act → World → Prop} (hgd : o.guard = none) (s x : Operand)
    (ho : o.op = .call { callee := .builtin .append, args := #[s, x], argTypes := #[97, 97] })
    (base : Nat) (v u : Value) (l m : List (BitVec 32)) (hs : a.eval s = v) (hown : OW w base v l) (hx : a.eval x = u) (hu : WS w u m)
    (hlen : l.length + m.length ≤ 1073741824) (hbase : base ≤ w.heap.size)
    (h : ∀ v' w', OW w' base v' (l ++ m) → w.grownBy w' v.ownBlock → (v' = .slice none 0 0 ↔ v = .slice none 0 0 ∧ m = []) → K (a.put o.dst v') w') : if Region.wanted o (yielded ops a.tmps) = true then o.wp Tryd.prog a w K Q else E := by
  refine step_ap hgd s x 97 ho base 63 (.int .u32 0) 1 4 Tryd.underlying97 info_u32 rfl (by decide) v u l.length m.length (l.map U32) (m.map U32) hs hown hx hu (by simp) (by simp; intro _ _; rfl) (by unfold maxLen; omega) (by omega) hbase ?_
  intro v' w' h1 h2 h3
  refine h v' w' (by unfold OW; simpa using h1) h2 (by rw [h3]; simp)

set_option maxHeartbeats 400000 in
theorem turn_any (x : BitVec 32) (k : Int) (w : World) (hk : 0 < k ∧ k < 32) :
    Calls Tryd.prog 78 #[U32 x, .int .i64 k] w fun e w' => e = .returned (U32 (Sh.rr x k.toNat)) ∧ w' = w := by
  obtain ⟨j, rfl⟩ : ∃ j : Nat, k = (j : Int) := ⟨k.toNat, by omega⟩
  have h0 : (0 : Int) ≤ j := by omega
  have h1 : (0 : Int) ≤ 32 - j := by omega
  have h2 : (j : Int) ≤ 32 := by omega
  go_enter Tryd.func78, Tryd.ntmps78
  go_wp2
  go_ret
  refine ⟨?_, rfl⟩
  show Ending.returned (U32 (x >>> j ||| x <<< (32 - j))) = _
  simp [Sh.rr]

set_option maxRecDepth 100000 in
set_option maxHeartbeats 1000000 in
theorem constants_any (w : World) :
    Calls Tryd.prog 77 #[] w fun e w' => ∃ v, e = .returned v ∧ OW w' w.heap.size v Sh.K ∧ Below w.heap.size w w' := by
  go_enter Tryd.func77, Tryd.ntmps77
  go_wp2
  go_ret
  exact ⟨_, rfl, OW.lit w Sh.K _ rfl _ rfl (by unfold maxLen; decide) _ (Nat.le_refl _), (Below.refl _ _).alloc (Nat.le_refl _) _⟩

set_option maxHeartbeats 1000000 in
theorem first_any (w : World) :
    Calls Tryd.prog 68 #[] w fun e w' => ∃ v, e = .returned v ∧ OW w' w.heap.size v Sh.init.list ∧ Below w.heap.size w w' := by
  go_enter Tryd.func68, Tryd.ntmps68
  go_wp2
  go_ret
  exact ⟨_, rfl, OW.lit w Sh.init.list _ rfl _ rfl (by unfold maxLen; decide) _ (Nat.le_refl _), (Below.refl _ _).alloc (Nat.le_refl _) _⟩
end Go.Proofs.YtbigmnhjnjeeaaaDoor
