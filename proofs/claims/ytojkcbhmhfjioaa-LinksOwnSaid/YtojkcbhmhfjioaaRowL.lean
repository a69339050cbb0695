/-
  Arguments of law 26 that came in: acts; own work.
-/
import Derived.Test.YtojkcbhmhfjioaaTrdP
import Derived.ChangeSame
import Derived.Test.YtojkcbhmhfjioaaLk7
set_option linter.unusedSimpArgs false
set_option linter.unusedVariables false
namespace Go.Proofs.Ytojkcbhmhfjioaa
open Go.ChangeShapes Go.WideShapes Go.ChangeAt Go.RowKit Go.Joins
set_option maxRecDepth 100000
theorem u8_lit {q : Int} (h : 0 ≤ q ∧ q ≤ 255) : ∃ x : BitVec 8, (Value.int .u8 q) = U8 x := by
  refine ⟨BitVec.ofInt 8 q, ?_⟩
  have e : ((BitVec.ofInt 8 q).toNat : Int) = q := by rw [BitVec.toNat_ofInt]; omega
  unfold U8
  rw [e]
theorem split6 {α : Type} (cs : List α) (h : cs.length = 6) : cs = (cs.drop 0).take 1 ++ ((cs.drop 1).take 1 ++ ((cs.drop 2).take 1 ++ ((cs.drop 3).take 1 ++ ((cs.drop 4).take 1 ++ (cs.drop 5).take 1)))) := by
  match cs, h with
  | [a, b, c, d, e, f], _ => rfl
theorem trod_struct6 {H : Type} {enc : TypeId × Value → H} {P : Program} {w : World} {base : Nat} {spare : Nat → Bool} {held : Bool} {t : TypeId} {f0 f1 f2 f3 f4 f5 : Field} {fuel : Nat} {cs : List Value} {x : DataW H × List MemPlace} (ht : P.underlying t = some (.struct #[f0, f1, f2, f3, f4, f5])) (h : DataW.trod enc P w base spare held fuel t cs = some x) :
    ∃ y0 y1 y2 y3 y4 y5 n, DataW.trod enc P w base spare held n f0.type ((cs.drop f0.offset).take (P.cellsOf f0.type)) = some y0 ∧ DataW.trod enc P w base spare held n f1.type ((cs.drop f1.offset).take (P.cellsOf f1.type)) = some y1 ∧ DataW.trod enc P w base spare held n f2.type ((cs.drop f2.offset).take (P.cellsOf f2.type)) = some y2 ∧ DataW.trod enc P w base spare held n f3.type ((cs.drop f3.offset).take (P.cellsOf f3.type)) = some y3 ∧ DataW.trod enc P w base spare held n f4.type ((cs.drop f4.offset).take (P.cellsOf f4.type)) = some y4 ∧ DataW.trod enc P w base spare held n f5.type ((cs.drop f5.offset).take (P.cellsOf f5.type)) = some y5 := by
  obtain ⟨xs, n, _, rfl, hl, hlen, hf⟩ := DataW.trod_struct ht h
  match xs, hlen with
  | [y0, y1, y2, y3, y4, y5], _ => exact ⟨y0, y1, y2, y3, y4, y5, n, by simpa using hf 0 f0 rfl, by simpa using hf 1 f1 rfl, by simpa using hf 2 f2 rfl, by simpa using hf 3 f3 rfl, by simpa using hf 4 f4 rfl, by simpa using hf 5 f5 rfl⟩
theorem a6_of_cells {H : Type} {enc : TypeId × Value → H} {W : World} {m : Nat} {cs : List Value} {y : DataW H × List MemPlace} (hl : cs.length = 6) (hf : DataW.trod enc Try.prog W 0 (fun _ => true) true m 69 cs = some y) : ∃ x : A6, cs = (AC6 x).toList ∧ (0 ≤ x.q ∧ x.q < 256) := by
    obtain ⟨y0, y1, y2, y3, y4, y5, n, h0, h1, h2, h3, h4, h5⟩ := trod_struct6 Try.underlying69 hf
    have k1 : Try.prog.cellsOf 5 = 1 := by kernel_rfl
    have k2 : Try.prog.cellsOf 3 = 1 := by kernel_rfl
    simp only [k1, k2] at h0 h1 h2 h3 h4 h5
    obtain ⟨q, e0, _, w0⟩ := DataW.trod_int Try.underlying5 h0
    obtain ⟨b, e1, _, w1⟩ := DataW.trod_int Try.underlying5 h1
    obtain ⟨at_, e2, _, w2⟩ := DataW.trod_int Try.underlying3 h2
    obtain ⟨too, e3, _, w3⟩ := DataW.trod_int Try.underlying3 h3
    obtain ⟨byt, e4, _, w4⟩ := DataW.trod_int Try.underlying3 h4
    obtain ⟨size, e5, _, w5⟩ := DataW.trod_int Try.underlying3 h5
    have hq : 0 ≤ q ∧ q ≤ 255 := by simpa [Lit.wf, IntKind.min, IntKind.max, IntKind.signed, IntKind.bits] using w0
    have hb : 0 ≤ b ∧ b ≤ 255 := by simpa [Lit.wf, IntKind.min, IntKind.max, IntKind.signed, IntKind.bits] using w1
    obtain ⟨bb, hbb⟩ := u8_lit hb
    refine ⟨⟨q, bb, at_, too, byt, size⟩, ?_, by simp only; omega⟩
    have e6 := split6 cs hl
    rw [e0, e1, e2, e3, e4, e5, hbb] at e6
    rw [e6]; rfl
theorem a6s_of_trod {H : Type} {enc : TypeId × Value → H} {W : World} {a : Option Addr} {len cap : Nat} {d : DataW H} {p : List MemPlace} (h : DataW.Trod enc Try.prog W 0 (fun _ => true) true 62 (.slice a len cap) d p) :
    ∃ L : List A6, L.length = len ∧ SV W (.slice a len cap) len (fl (fun x => (AC6 x).toList) L) ∧ ∀ x ∈ L, 0 ≤ x.q ∧ x.q < 256 :=
  letI : Inhabited A6 := ⟨A6.zero⟩
  sv_of_trod (fun x => (AC6 x).toList) 6 (fun x => by simp) (by decide) Try.underlying62 (by kernel_rfl) (fun x => 0 ≤ x.q ∧ x.q < 256) (fun m cs y hl hf => a6_of_cells hl hf) h
theorem a6_okWide {W : World} {r : Reach} {b0 : Nat} {v : Value} (h : Value.okWide Try.prog W r b0 69 v) : ∃ xs : Array Value, v = .agg xs ∧ xs.size = 6 := by
  simp only [Value.okWide, Try.underlying69] at h
  obtain ⟨cs, h1, h2, _⟩ := h
  exact ⟨cs, h1, by rw [h2]; kernel_rfl⟩
theorem a6_of_trod {H : Type} {enc : TypeId × Value → H} {W : World} {xs : Array Value} (hn : xs.size = 6) {d : DataW H} {p : List MemPlace} (h : DataW.Trod enc Try.prog W 0 (fun _ => true) true 69 (.agg xs) d p) :
    ∃ x : A6, xs = AC6 x ∧ (0 ≤ x.q ∧ x.q < 256) := by
  obtain ⟨fuel, hf⟩ := h
  obtain ⟨x, hx, ok⟩ := a6_of_cells (cs := xs.toList) (by simpa using hn) (by simpa [Value.cells] using hf)
  exact ⟨x, Array.toList_inj.1 hx, ok⟩
end Go.Proofs.Ytojkcbhmhfjioaa
