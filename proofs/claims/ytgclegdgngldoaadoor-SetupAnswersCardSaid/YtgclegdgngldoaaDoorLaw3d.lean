/-
  Law 03: ShaOwn; own work.
-/
import Derived.Test.YtgclegdgngldoaaDoorLaw3c
import Derived.Test.YtgclegdgngldoaaDoorApp
import Derived.Deep.RegionHeldLaw
set_option linter.unusedSimpArgs false
set_option linter.unusedVariables false
namespace Go.Proofs.YtgclegdgngldoaaDoor
open Go.RowKit

theorem zero_lit : (#[.int .u8 0, .int .u8 0, .int .u8 0, .int .u8 0, .int .u8 0, .int .u8 0, .int .u8 0, .int .u8 0, .int .u8 0, .int .u8 0, .int .u8 0, .int .u8 0, .int .u8 0, .int .u8 0, .int .u8 0, .int .u8 0, .int .u8 0, .int .u8 0, .int .u8 0, .int .u8 0, .int .u8 0, .int .u8 0, .int .u8 0, .int .u8 0, .int .u8 0, .int .u8 0, .int .u8 0, .int .u8 0, .int .u8 0, .int .u8 0, .int .u8 0, .int .u8 0] : Array Value) = cs U8 (zs 32) := rfl
@[go_sem] theorem eqin_zero (w : World) (a : List (BitVec 8)) (ha : a.length = 32) : (Op.equalIn 10000 23 (.agg (cs U8 a)) (.agg #[.int .u8 0, .int .u8 0, .int .u8 0, .int .u8 0, .int .u8 0, .int .u8 0, .int .u8 0, .int .u8 0, .int .u8 0, .int .u8 0, .int .u8 0, .int .u8 0, .int .u8 0, .int .u8 0, .int .u8 0, .int .u8 0, .int .u8 0, .int .u8 0, .int .u8 0, .int .u8 0, .int .u8 0, .int .u8 0, .int .u8 0, .int .u8 0, .int .u8 0, .int .u8 0, .int .u8 0, .int .u8 0, .int .u8 0, .int .u8 0, .int .u8 0, .int .u8 0])).run Tryd.prog w = .ok (a == zs 32) w := by
  rw [zero_lit]; exact eqin_key w a (zs 32) ha (by simp [zs])
theorem OB.shape2 {w : World} {base : Nat} {v : Value} {l : List (BitVec 8)} (h : OB w base v l) (n : Nat) (hn : l.length = n) (h0 : 0 < n) : ∃ g cap, v = .slice (some ⟨g, 0, none⟩) n cap ∧ base ≤ g ∧ n ≤ cap := by
  subst hn
  rcases h.2 with ⟨h1, h2⟩ | ⟨g, cap, cur, hv, hb, hg, hc, r⟩
  · rw [h2] at h0; omega
  · exact ⟨g, cap, hv, hb, hc⟩
theorem OB.set {w : World} {base g n cap : Nat} {l : List (BitVec 8)} (h : OB w base (.slice (some ⟨g, 0, none⟩) n cap) l) (hn : l.length = n) (i : Nat) (hi : i < n) (x : BitVec 8) :
    w.free g = true ∧ i < (w.rowOf g).size ∧ OB (w.setRow g ((w.rowOf g).setIfInBounds i (U8 x))) base (.slice (some ⟨g, 0, none⟩) n cap) (l.set i x) := by
  subst hn
  rcases h.2 with ⟨h1, h2⟩ | ⟨g', cap', cur, hv, hb, hg, hc, hm, hs, ht⟩
  · cases h1
  · cases hv
    have hr : w.rowOf g = cur := by simp [World.rowOf, hg]
    refine ⟨by simp [World.free, hg], by rw [hr, hs]; omega, by simp [h.1], .inr ⟨g, cap, cur.setIfInBounds i (U8 x), by simp, hb, ?_, by simpa using hc, hm, by simp [hs], ?_⟩⟩
    · rw [hr]; exact heap_setRow_same hg
    · rw [Array.toList_setIfInBounds, List.map_set, ← ht]
      simp only [List.length_set]
      rw [List.take_set]
/-! a hash that no call made -/
/-- nil, or a hash whose first cell is false -/
def Bad (w : World) (p : Option Addr) : Prop := p = none ∨ ∃ b, p = some ⟨b, 0, none⟩ ∧ w.cell? ⟨b, 0, none⟩ = some (.bool false)
theorem good_bad {w : World} {p : Option Addr} (h : Bad w p) :
    Calls Tryd.prog 104 #[.pointer p] w fun e w' => e = .returned (.bool false) ∧ w = w' := by
  rcases h with rfl | ⟨b, rfl, hc⟩
  · exact good_nil w
  · exact good_no w b hc
set_option maxHeartbeats 400000 in
theorem write_bad {w : World} {p : Option Addr} (v : Value) (h : Bad w p) :
    Calls Tryd.prog 87 #[.pointer p, v] w fun e w' => e = .returned (.int .i64 1) ∧ w = w' := by
  have HB := hid h
  go_enter Tryd.func87, Tryd.ntmps87
  go_wp2_with (go_at_call 104; refine (good_bad HB.out).mono ?_; rintro e w' ⟨rfl, rfl⟩)
  go_ret
  exact ⟨rfl, rfl⟩
theorem Bad.below {w w' : World} {p : Option Addr} {B : Nat} (h : Bad w p) (hb : Below B w w') (hp : ∀ b, p = some ⟨b, 0, none⟩ → b < B) : Bad w' p := by
  rcases h with rfl | ⟨b, rfl, hc⟩
  · exact .inl rfl
  · exact .inr ⟨b, rfl, (hb.cell (p := ⟨b, 0, none⟩) (hp b rfl)).trans hc⟩
theorem Bad.lt {w : World} {p : Option Addr} (h : Bad w p) (b : Nat) (hp : p = some ⟨b, 0, none⟩) : b < w.heap.size := by
  rcases h with rfl | ⟨b', rfl, hc⟩
  · cases hp
  · injection hp with hp; injection hp with hp; subst hp; exact block_lt_of_cell hc
set_option maxHeartbeats 1000000 in
theorem sum_bad {w : World} {p : Option Addr} (h : Bad w p) :
    Calls Tryd.prog 89 #[.pointer p] w fun e w' => e = .returned (.agg (cs U8 (zs 32))) ∧ Below w.heap.size w w' := by
  have hb2 : Bad ((w.alloc (.cells (cs U8 (zs 32)) 23)).alloc (.cells (cs U8 (zs 32)) 23)) p :=
    h.below (B := w.heap.size) (((Below.refl _ _).alloc (Nat.le_refl _) _).alloc (by simp) _) (fun b e => h.lt b e)
  have HB := hid hb2
  clear hb2
  go_enter Tryd.func89, Tryd.ntmps89
  go_wp2_with (go_at_call 104; refine (good_bad HB.out).mono ?_; rintro e w' ⟨rfl, rfl⟩)
  refine bodyPost_ret (res_row (b := w.heap.size) rfl Tryd.underlying23 rfl inf_key _ _ rfl ?_) rfl ?_
  · simp [go_sem, zs]
  · refine ⟨by simp [go_sem], ((Below.refl _ _).alloc (Nat.le_refl _) _).alloc (by simp) _⟩
end Go.Proofs.YtgclegdgngldoaaDoor
