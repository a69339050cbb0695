/-
  Walks of reference 03: words and lists; own work.
  Walks of reference 03: the schedule; own work.
  Walks of reference 03: the padded list; own work.
  Walks of reference 03: one block; own work.
  Walks of reference 03: the digest; own work.
-/
import Derived.Test.YtgclegdgngldoaaDoorSha4
set_option linter.unusedSimpArgs false
set_option linter.unusedVariables false
namespace Go.Proofs.YtgclegdgngldoaaDoor
open Go.RowKit

/-- a slice of words -/
def WS (w : World) (v : Value) (l : List (BitVec 32)) : Prop := SV w v l.length (l.map U32)
/-- a slice of words of the call's own -/
def OW (w : World) (base : Nat) (v : Value) (l : List (BitVec 32)) : Prop := w.ownsRow base 67 1 v l.length (l.map U32)
section
variable {w w' : World} {v : Value} {l : List (BitVec 32)} {base : Nat}
theorem OW.ws (h : OW w base v l) : WS w v l := SV.of_own h
theorem OW.alloc (h : OW w base v l) (o : Obj) : OW (w.alloc o) base v l := World.ownsRow.alloc h o
theorem OW.kept {r : Option Nat} (h : OW w base v l) (hg : w.grownBy w' r) (hne : v.ownBlock = none ∨ v.ownBlock ≠ r) : OW w' base v l := World.ownsRow.kept h hg hne
theorem OW.drewN (h : OW w base v l) (k : Nat) : OW (w.drewN k) base v l := World.ownsRow.kept h (gb_drewN (gb_refl w none) k) (by cases hv : v.ownBlock <;> simp)
theorem OW.mono {b' : Nat} (h : OW w base v l) (hb : b' ≤ base) : OW w b' v l := by
  refine ⟨h.1, ?_⟩
  rcases h.2 with h2 | ⟨g, cap, cur, hv, hbg, r⟩
  · exact .inl h2
  · exact .inr ⟨g, cap, cur, hv, by omega, r⟩
theorem OW.nil (w : World) (base : Nat) : OW w base (.slice none 0 0) [] := World.ownsRow_nil w base _ _
/-- a literal slice -/
theorem OW.lit (w : World) (l : List (BitVec 32)) (c : Array Value) (hc : c = cs U32 l) (n : Nat) (hn : n = l.length) (hm : l.length ≤ maxLen) (base : Nat) (hb : base ≤ w.heap.size) :
    OW (w.alloc (.cells c 67)) base (.slice (some ⟨w.heap.size, 0, none⟩) n n) l := by
  subst hc; subst hn
  have := World.ownsRow_lit (base := base) (e := 67) (size := 1) w (cs U32 l) l.length hb hm (by simp)
  simpa [OW, cs] using this
theorem WS.below (h : WS w v l) (hb : Below w.heap.size w w') : WS w' v l := SV.below h hb
theorem WS.open (h : WS w v l) (hl : l ≠ []) : ∃ b o cap, v = .slice (some ⟨b, o, none⟩) l.length cap ∧ l.length ≤ cap ∧ ∀ i, i < l.length → w.cell? ⟨b, o + i, none⟩ = some (U32 (l.getD i 0)) := by
  obtain ⟨a, cap, rfl, h1, h2, h3⟩ := h
  obtain ⟨b, o, rfl, h4⟩ := h3 (by simpa using hl)
  refine ⟨b, o, cap, rfl, h1, fun i hi => ?_⟩
  rw [h4 i (by simpa using hi), List.getElem?_map, List.getD_eq_getElem?_getD, List.getElem?_eq_getElem hi]; rfl
theorem WS.shape' (h : WS w v l) (n : Nat) (hn : l.length = n) : ∃ a cap, v = .slice a n cap ∧ n ≤ cap := by
  subst hn
  obtain ⟨a, cap, rfl, h1, _⟩ := h
  exact ⟨a, cap, rfl, h1⟩
theorem WS.one (w : World) (u : Value) (x : BitVec 32) (hu : u = U32 x) (T : TypeId) : WS (w.alloc (.cells #[u] T)) (.slice (some ⟨w.heap.size, 0, none⟩) 1 1) [x] := by
  subst hu
  refine ⟨_, 1, rfl, Nat.le_refl _, by unfold maxLen; omega, fun _ => ⟨_, _, rfl, fun i hi => ?_⟩⟩
  simp at hi
  subst hi
  rw [cell_rowOf, rowOf_alloc_at _ _ _ rfl]; rfl
end
end Go.Proofs.YtgclegdgngldoaaDoor
set_option linter.unusedSimpArgs false
set_option linter.unusedVariables false
namespace Go.Proofs.YtgclegdgngldoaaDoor
open Go.RowKit

end Go.Proofs.YtgclegdgngldoaaDoor
set_option linter.unusedSimpArgs false
set_option linter.unusedVariables false
namespace Go.Proofs.YtgclegdgngldoaaDoor
open Go.RowKit

end Go.Proofs.YtgclegdgngldoaaDoor
set_option linter.unusedSimpArgs false
set_option linter.unusedVariables false
namespace Go.Proofs.YtgclegdgngldoaaDoor
open Go.RowKit

theorem OW.set {w : World} {base g n cap : Nat} {l : List (BitVec 32)} (h : OW w base (.slice (some ⟨g, 0, none⟩) n cap) l) (hn : l.length = n) (i : Nat) (hi : i < n) (x : BitVec 32) :
    w.free g = true ∧ i < (w.rowOf g).size ∧ OW (w.setRow g ((w.rowOf g).setIfInBounds i (U32 x))) base (.slice (some ⟨g, 0, none⟩) n cap) (l.set i x) := by
  subst hn
  rcases h.2 with ⟨h1, h2⟩ | ⟨g', cap', cur, hv, hb, hg, hc, hm, hs, ht⟩
  · cases h1
  · cases hv
    have hr : w.rowOf g = cur := by simp [World.rowOf, hg]
    refine ⟨by simp [World.free, hg], by rw [hr, hs]; omega, by simp [h.1], .inr ⟨g, cap, cur.setIfInBounds i (U32 x), by simp, hb, ?_, by simpa using hc, hm, by simp [hs], ?_⟩⟩
    · rw [hr]; exact heap_setRow_same hg
    · rw [Array.toList_setIfInBounds, List.map_set, ← ht]
      simp only [List.length_set]
      rw [List.take_set]
end Go.Proofs.YtgclegdgngldoaaDoor
set_option linter.unusedSimpArgs false
set_option linter.unusedVariables false
namespace Go.Proofs.YtgclegdgngldoaaDoor
open Go.RowKit

def outB (s : Sh.S8) (i : Nat) : List (BitVec 8) := s.bytes.take i ++ zs (32 - i)
attribute [local irreducible] outB
end Go.Proofs.YtgclegdgngldoaaDoor
