/-
  Law 03: the package is alive; own work.
-/
import Derived.Test.YtgclegdgngldoaaDoorRefe
import Derived.Test.YtgclegdgngldoaaDoorHash
import Derived.Lib.QuietBelow
import Derived.Lib.SlBytesConst
set_option linter.unusedSimpArgs false
set_option linter.unusedVariables false
namespace Go.Proofs.YtgclegdgngldoaaDoor
open Go.RowKit

theorem sum_abc : Sh.sum [97, 98, 99] = (Sh.compress Sh.init (Sh.finish [97, 98, 99] 3)).bytes := by
  unfold Sh.sum Sh.digest
  have h : (Sh.finish [97, 98, 99] 3).length = 64 := by rw [Sh.finish_len]; rfl
  rw [show ([97, 98, 99] : List Sh.B).length = 3 from rfl, Sh.absorb_ge (by omega), List.take_of_length_le (by omega), List.drop_eq_nil_of_le (by omega), absorb_done]
set_option maxRecDepth 100000 in
theorem sum_abc_0 : (Sh.sum [97, 98, 99]).getD 0 0 = 186 := by
  rw [sum_abc]; kernel_rfl
set_option maxRecDepth 100000 in
theorem sum_abc_31 : (Sh.sum [97, 98, 99]).getD 31 0 = 173 := by
  rw [sum_abc]; kernel_rfl

theorem BS.litf (w : World) (l : List (BitVec 8)) (c : Array Value) (hc : c = cs U8 l) (n : Nat) (hn : n = l.length) (hm : l.length ≤ maxLen) (T : TypeId) (fz : Nat × Nat) : BS (w.alloc (.cells c T fz)) (.slice (some ⟨w.heap.size, 0, none⟩) n n) l := by
  subst hc; subst hn
  refine ⟨_, l.length, rfl, Nat.le_refl _, hm, fun _ => ⟨w.heap.size, 0, rfl, fun i hi => ?_⟩⟩
  have hr : (w.alloc (.cells (cs U8 l) T fz)).rowOf w.heap.size = cs U8 l := rowOf_eq (T := T) (fz := fz) (by show (w.heap.push _)[w.heap.size]? = _; simp)
  rw [cell_rowOf, hr]; simp [cs]
@[go_sem] theorem conv_lit (w : World) (C : Array Value) (n c : Nat) :
    (convert 89 89 (.slice (some ⟨w.heap.size, 0, none⟩) n c)).run Tryd.prog (w.alloc (.cells C 5)) = .ok (.slice (some ⟨w.heap.size, 0, none⟩) n c) (w.alloc (.cells C 5 (C.size, C.size + 1))) :=
  Go.Lib.run_convert_bytes_const w _ _ C n c Tryd.underlying89 Tryd.underlying5
theorem sumD {w : World} {b : Nat} {l D : List (BitVec 8)} {rv : Value} (hD : D = Sh.sum l) (hK : KT w) (hb0 : 0 < b) (h : HS w b l rv) (hn : l.length ≤ 1073741824) :
    Calls Tryd.prog 89 #[.pointer (some ⟨b, 0, none⟩)] w fun e w' => e = .returned (.agg (cs U8 D)) ∧ Below w.heap.size w w' := by
  rw [hD]; exact sumS hK hb0 h hn
/-- a literal, written -/
theorem writeLit {w : World} {b : Nat} {l : List (BitVec 8)} {rv : Value} (m : List (BitVec 8)) (c : Array Value) (n : Nat) (fz : Nat × Nat) (hK : KT w) (hb0 : 0 < b) (h : HS w b l rv) (hc : c = cs U8 m) (hm : n = m.length) (hn : l.length + m.length ≤ 1073741824) :
    Calls Tryd.prog 87 #[.pointer (some ⟨b, 0, none⟩), .slice (some ⟨w.heap.size, 0, none⟩) n n] (w.alloc (.cells c 5 fz)) fun e w' => e = .returned (.int .i64 0) ∧ ∃ rv', HS w' b (l ++ m) rv' ∧ KT w' ∧
      Fr (fun k => k = b ∨ some k = rv.ownBlock) w w' ∧ (∀ g, rv'.ownBlock = some g → w.heap.size ≤ g) := by
  have hb := h.lt
  have ha : Below w.heap.size w (w.alloc (.cells c 5 fz)) := (Below.refl _ _).alloc (Nat.le_refl _) _
  refine (writeS (.slice (some ⟨w.heap.size, 0, none⟩) n n) m (hK.below ha (by omega)) hb0 (h.below ha) (BS.litf w m c hc n hm (by unfold maxLen; omega) _ _) (.inr (by intro e; injection e with e; dsimp only at e; omega)) hn).mono ?_
  rintro e w' ⟨rfl, rv', h1, h2, h3⟩
  have hf : Fr (fun k => k = b ∨ some k = rv.ownBlock) w w' := (Fr.of_below ha).trans (h2.mono fun k _ hk => .inl hk)
  refine ⟨rfl, rv', h1, hK.fr (by omega) hf (fun hk => ?_), hf, fun g hg => by have := h3 g hg; have := ha.size; omega⟩
  rcases hk with hk | hk
  · omega
  · have := h.rvge _ hk.symm; omega
/-- what stands below the hash stands -/
theorem hs_below {w w' : World} {b B : Nat} {l : List (BitVec 8)} {rv : Value} (h : HS w b l rv) (hf : Fr (fun k => k = b ∨ some k = rv.ownBlock) w w') (hB : B ≤ b) : Below B w w' :=
  hf.below B (by have := h.lt; omega) (fun k _ hk => by
    rcases hk with hk | hk
    · omega
    · have := h.rvge _ hk.symm; omega)
end Go.Proofs.YtgclegdgngldoaaDoor
