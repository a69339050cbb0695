/-
  Arguments of law 14 that came in: two numbers, acts; own work.
-/
import Derived.Test.YtgclegdgngldoaaDoorTrd
import Derived.ChangeSame
import Derived.Test.YtgclegdgngldoaaDoorL14d
set_option linter.unusedSimpArgs false
set_option linter.unusedVariables false
namespace Go.Proofs.YtgclegdgngldoaaDoor
open Go.ChangeShapes Go.WideShapes Go.ChangeAt Go.RowKit
set_option maxRecDepth 100000
set_option maxRecDepth 100000 in
theorem acts_of_trod {H : Type} {enc : TypeId × Value → H} {W : World} {a : Option Addr} {len cap : Nat} {d : DataW H} {p : List MemPlace} (h : DataW.Trod enc Tryd.prog W 0 (fun _ => true) true 43 (.slice a len cap) d p) :
    ∃ L : List (Int × Int), L.length = len ∧ SV W (.slice a len cap) len (fl eA L) ∧ ∀ x ∈ L, 0 ≤ x.1 ∧ x.1 < 256 := by
  refine sv_of_trod eA 2 eA_len (by decide) Tryd.underlying43 (by kernel_rfl) (fun x => 0 ≤ x.1 ∧ x.1 < 256) (fun m cs y hl hf => ?_) h
  obtain ⟨y0, y1, n, -, -, h0, h1⟩ := trod_struct2 Tryd.underlying52 hf
  match cs, hl with
  | [c0, c1], _ =>
    have k1 : Tryd.prog.cellsOf 5 = 1 := by kernel_rfl
    have k2 : Tryd.prog.cellsOf 3 = 1 := by kernel_rfl
    simp only [k1, k2] at h0 h1
    obtain ⟨q, e0, _, w0⟩ := DataW.trod_int Tryd.underlying5 h0
    obtain ⟨e, e1, _, w1⟩ := DataW.trod_int Tryd.underlying3 h1
    have hb : 0 ≤ q ∧ q ≤ 255 := by simpa [Lit.wf, IntKind.min, IntKind.max, IntKind.signed, IntKind.bits] using w0
    simp at e0 e1
    exact ⟨(q, e), by rw [e0, e1]; rfl, by simp only; omega⟩
end Go.Proofs.YtgclegdgngldoaaDoor
