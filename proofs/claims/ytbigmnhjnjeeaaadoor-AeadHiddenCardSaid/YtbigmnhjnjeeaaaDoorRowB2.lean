/-
  An argument that is an array of two slices of bytes; own work.
-/
import Derived.Test.YtbigmnhjnjeeaaaDoorRowK2
set_option linter.unusedSimpArgs false
set_option linter.unusedVariables false
namespace Go.Proofs.YtbigmnhjnjeeaaaDoor
open Go.ChangeShapes Go.WideShapes Go.ChangeAt Go.RowKit
set_option maxRecDepth 100000 in
theorem b2_okWide {W : World} {r : Reach} {b0 : Nat} {v : Value} (h : Value.okWide Tryd.prog W r b0 37 v) : ∃ xs : Array Value, v = .agg xs ∧ xs.size = 2 := by
  simp only [Value.okWide, Tryd.underlying37] at h
  obtain ⟨cs, h1, h2, _⟩ := h
  exact ⟨cs, h1, by rw [h2]; kernel_rfl⟩
set_option maxRecDepth 100000 in
theorem bs_of_cells {H : Type} {enc : TypeId × Value → H} {W : World} {m : Nat} {x : Value} {y : DataW H × List MemPlace} (hf : DataW.trod enc Tryd.prog W 0 (fun _ => true) true m 24 [x] = some y) : ∃ l : List (BitVec 8), BS W x l := by
  obtain ⟨d, p⟩ := y
  rcases open_ints Tryd.underlying24 Tryd.underlying5 (by kernel_rfl) hf with ⟨hcs, _⟩ | ⟨a, l, c, zs, hcs, _, hl, hm, hz, _, hcell, hwz⟩
  · simp at hcs
    subst hcs
    exact ⟨_, (bs_of_ints (W := W) (zs := []) (.inl ⟨rfl, rfl, rfl, rfl⟩)).choose_spec.2⟩
  · simp at hcs
    subst hcs
    exact ⟨_, (bs_of_ints (W := W) (zs := zs) (.inr ⟨_, rfl, hl, hm, by simpa using hz, hcell, hwz⟩)).choose_spec.2⟩
set_option maxRecDepth 100000 in
theorem b2_of_trod {H : Type} {enc : TypeId × Value → H} {W : World} {xs : Array Value} (hn : xs.size = 2) {d : DataW H} {p : List MemPlace}
    (h : DataW.Trod enc Tryd.prog W 0 (fun _ => true) true 37 (.agg xs) d p) : ∃ (u v : Value) (l m : List (BitVec 8)), xs = #[u, v] ∧ BS W u l ∧ BS W v m := by
  obtain ⟨fuel, hf⟩ := h
  cases fuel with
  | zero => simp [DataW.trod] at hf
  | succ m =>
    rw [DataW.trod_step] at hf
    unfold DataW.trodStep at hf
    have c1 : Tryd.prog.cellsOf 24 = 1 := by kernel_rfl
    have c2 : Tryd.prog.cellsOf 37 = 2 := by kernel_rfl
    obtain ⟨u, v, rfl⟩ : ∃ u v, xs = #[u, v] := by
      obtain ⟨l⟩ := xs
      match l, hn with
      | [u, v], _ => exact ⟨u, v, rfl⟩
    simp only [Tryd.underlying37, Value.cells] at hf
    rw [if_pos (by rw [c2]; rfl)] at hf
    simp only [Option.map_eq_some_iff] at hf
    obtain ⟨ys, hy, -⟩ := hf
    have hr : List.range 2 = [0, 1] := rfl
    rw [hr, List.mapM_cons] at hy
    simp only [bind, Option.bind_eq_some_iff, pure, Option.some.injEq] at hy
    obtain ⟨y0, h0, ys', h1, -⟩ := hy
    rw [List.mapM_cons] at h1
    simp only [bind, Option.bind_eq_some_iff, pure, Option.some.injEq] at h1
    obtain ⟨y1, h1, -⟩ := h1
    rw [c1] at h0 h1
    obtain ⟨l, hl⟩ := bs_of_cells (x := u) h0
    obtain ⟨l2, hl2⟩ := bs_of_cells (x := v) h1
    exact ⟨u, v, l, l2, rfl, hl, hl2⟩
end Go.Proofs.YtbigmnhjnjeeaaaDoor
