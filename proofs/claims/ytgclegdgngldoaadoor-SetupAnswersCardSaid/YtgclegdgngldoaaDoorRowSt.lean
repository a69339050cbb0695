/-
  An argument that is a struct of three keys and a bool; own work.
-/
import Derived.Test.YtgclegdgngldoaaDoorRowK2
import Derived.Test.YtgclegdgngldoaaDoorSu1
import Derived.Lib.SmallJoins
set_option linter.unusedSimpArgs false
set_option linter.unusedVariables false
namespace Go.Proofs.YtgclegdgngldoaaDoor
open Go.ChangeShapes Go.WideShapes Go.ChangeAt Go.RowKit
set_option maxRecDepth 100000 in
theorem rk_okWide {W : World} {r : Reach} {b0 : Nat} {v : Value} (h : Value.okWide Tryd.prog W r b0 25 v) : ∃ xs : Array Value, v = .agg xs ∧ xs.size = 97 := by
  obtain ⟨cs, h1, h2⟩ := okWide_struct Tryd.underlying25 h
  exact ⟨cs, h1, by rw [h2]; kernel_rfl⟩
theorem key_of_cells {H : Type} {enc : TypeId × Value → H} {W : World} {m : Nat} {l : List Value} {y : DataW H × List MemPlace} (hl : l.length = 32) (hf : DataW.trod enc Tryd.prog W 0 (fun _ => true) true m 23 l = some y) :
    ∃ k : List (BitVec 8), l.toArray = cs U8 k ∧ k.length = 32 := by
  obtain ⟨d, p⟩ := y
  exact arr_of_trod (xs := l.toArray) Tryd.underlying23 (by kernel_rfl) (by simpa using hl) ⟨m, by simpa [Value.cells] using hf⟩
set_option maxRecDepth 100000 in
theorem rk_of_trod {H : Type} {enc : TypeId × Value → H} {W : World} {xs : Array Value} (hn : xs.size = 97) {d : DataW H} {p : List MemPlace}
    (h : DataW.Trod enc Tryd.prog W 0 (fun _ => true) true 25 (.agg xs) d p) : ∃ (L P O : List (BitVec 8)) (b : Bool), xs = BR L P O b ∧ L.length = 32 ∧ P.length = 32 ∧ O.length = 32 := by
  obtain ⟨fuel, hf⟩ := h
  obtain ⟨y0, y1, y2, y3, n, -, hl, h0, h1, h2, h3⟩ := Go.Joins.trod_struct4 Tryd.underlying25 hf
  have c32 : Tryd.prog.cellsOf 23 = 32 := by kernel_rfl
  have c1 : Tryd.prog.cellsOf 4 = 1 := by kernel_rfl
  simp only [Value.cells] at h0 h1 h2 h3
  simp only [c32, c1] at h0 h1 h2 h3
  have hs : xs.toList.length = 97 := by simpa using hn
  obtain ⟨L, e0, l0⟩ := key_of_cells (by simp; omega) h0
  obtain ⟨P, e1, l1⟩ := key_of_cells (by simp; omega) h1
  obtain ⟨O, e2, l2⟩ := key_of_cells (by simp; omega) h2
  obtain ⟨b, e3, -⟩ := DataW.trod_bool Tryd.underlying4 h3
  refine ⟨L, P, O, b, ?_, l0, l1, l2⟩
  have f0 := congrArg Array.toList e0
  have f1 := congrArg Array.toList e1
  have f2 := congrArg Array.toList e2
  simp only [List.toList_toArray] at f0 f1 f2
  apply Array.ext'
  have s1 : xs.toList = (xs.toList.drop 0).take 32 ++ ((xs.toList.drop 32).take 32 ++ ((xs.toList.drop 64).take 32 ++ (xs.toList.drop 96).take 1)) := by
    have a1 : xs.toList = xs.toList.take 32 ++ xs.toList.drop 32 := (List.take_append_drop ..).symm
    have a2 : xs.toList.drop 32 = (xs.toList.drop 32).take 32 ++ xs.toList.drop 64 := by
      have := (List.take_append_drop 32 (xs.toList.drop 32)).symm; rw [List.drop_drop] at this; simpa using this
    have a3 : xs.toList.drop 64 = (xs.toList.drop 64).take 32 ++ xs.toList.drop 96 := by
      have := (List.take_append_drop 32 (xs.toList.drop 64)).symm; rw [List.drop_drop] at this; simpa using this
    have a4 : (xs.toList.drop 96).take 1 = xs.toList.drop 96 := List.take_of_length_le (by simp; omega)
    rw [a4, ← a3, ← a2]; exact a1
  rw [s1, f0, f1, f2, e3]
  simp [BR, cs_append]
end Go.Proofs.YtgclegdgngldoaaDoor
