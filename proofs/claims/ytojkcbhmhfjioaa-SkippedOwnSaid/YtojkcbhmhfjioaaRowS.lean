/-
  Arguments of law 18 that came in: acts; own work.
-/
import Derived.Test.YtojkcbhmhfjioaaTrdP
import Derived.ChangeSame
import Derived.Test.YtojkcbhmhfjioaaSk10
set_option linter.unusedSimpArgs false
set_option linter.unusedVariables false
namespace Go.Proofs.Ytojkcbhmhfjioaa
open Go.ChangeShapes Go.WideShapes Go.ChangeAt Go.RowKit Go.Joins
set_option maxRecDepth 100000
theorem key_of_trod {H : Type} {enc : TypeId × Value → H} {W : World} {m : Nat} {cs : List Value} {y : DataW H × List MemPlace} (hl : cs.length = 32) (hf : DataW.trod enc Try.prog W 0 (fun _ => true) true m 28 cs = some y) : ∃ k : Ky, cs = eK k := by
  obtain ⟨l, h1, h2⟩ := arr_of_trod (n := 32) (xs := cs.toArray) Try.underlying28 (by kernel_rfl) (by simpa using hl) ⟨m, by simpa [Value.cells] using hf⟩
  exact ⟨⟨l, h2⟩, by have := congrArg Array.toList h1; simpa [eK] using this⟩
theorem ksv_of_trod {H : Type} {enc : TypeId × Value → H} {W : World} {m : Nat} {cs : List Value} {y : DataW H × List MemPlace} (hf : DataW.trod enc Try.prog W 0 (fun _ => true) true m 29 cs = some y) : ∃ (v : Value) (ks : List Ky), cs = [v] ∧ SV W v ks.length (fl eK ks) := by
  have key : ∀ (a : Option Addr) (l c : Nat), cs = [.slice a l c] → ∃ (v : Value) (ks : List Ky), cs = [v] ∧ SV W v ks.length (fl eK ks) := fun a l c hcs => by
    obtain ⟨L, h1, h2, _⟩ := sv_of_trod (W := W) (enc := enc) eK 32 eK_len (by decide) (T := 28) (TS := 29) Try.underlying29 (by kernel_rfl) (fun _ => True) (fun m cs y hl hf => by
      obtain ⟨k, hk⟩ := key_of_trod hl hf
      exact ⟨k, hk, trivial⟩) (a := a) (len := l) (cap := c) (d := y.1) (p := y.2) ⟨m, by rw [hcs] at hf; simpa [Value.cells] using hf⟩
    exact ⟨_, L, hcs, by rw [h1]; exact h2⟩
  rcases Go.Deep.open_slice Try.underlying29 hf with ⟨hcs, _⟩ | ⟨x, l, c, m, n, D, Pl, hcs, _⟩
  · exact key _ _ _ hcs
  · exact key _ _ _ hcs
theorem split35 {α : Type} (cs : List α) (h : cs.length = 35) : cs = (cs.drop 0).take 1 ++ ((cs.drop 1).take 32 ++ ((cs.drop 33).take 1 ++ (cs.drop 34).take 1)) := by
  have e4 : (cs.drop 34).take 1 = cs.drop 34 := List.take_of_length_le (by simp [h])
  have e3 : (cs.drop 33).take 1 ++ cs.drop 34 = cs.drop 33 := by
    have := List.take_append_drop 1 (cs.drop 33); rwa [List.drop_drop] at this
  have e2 : (cs.drop 1).take 32 ++ cs.drop 33 = cs.drop 1 := by
    have := List.take_append_drop 32 (cs.drop 1); rwa [List.drop_drop] at this
  rw [e4, e3, e2, List.drop_zero]
  exact (List.take_append_drop 1 cs).symm
theorem act_of_cells {H : Type} {enc : TypeId × Value → H} {W : World} {m : Nat} {cs : List Value} {y : DataW H × List MemPlace} (hl : cs.length = 35) (hf : DataW.trod enc Try.prog W 0 (fun _ => true) true m 31 cs = some y) : ∃ x : Sk.Ac, cs = eC x ∧ OkA W x := by
  obtain ⟨y0, y1, y2, y3, n, -, -, h0, h1, h2, h3⟩ := trod_struct4 Try.underlying31 hf
  have k1 : Try.prog.cellsOf 5 = 1 := by kernel_rfl
  have k2 : Try.prog.cellsOf 3 = 1 := by kernel_rfl
  have k3 : Try.prog.cellsOf 28 = 32 := by kernel_rfl
  have k4 : Try.prog.cellsOf 29 = 1 := by kernel_rfl
  simp only [k1, k2, k3, k4] at h0 h1 h2 h3
  obtain ⟨q, e0, _, w0⟩ := DataW.trod_int Try.underlying5 h0
  obtain ⟨p, e1⟩ := key_of_trod (by simp [hl]) h1
  obtain ⟨e, e2, _, w2⟩ := DataW.trod_int Try.underlying3 h2
  obtain ⟨v, ks, e3, hs⟩ := ksv_of_trod h3
  have hq : 0 ≤ q ∧ q ≤ 255 := by simpa [Lit.wf, IntKind.min, IntKind.max, IntKind.signed, IntKind.bits] using w0
  have he : -9223372036854775808 ≤ e ∧ e ≤ 9223372036854775807 := by simpa [Lit.wf, IntKind.min, IntKind.max, IntKind.signed, IntKind.bits] using w2
  refine ⟨⟨q, p, e, v, ks⟩, ?_, hq.1, by simp only; omega, he.1, he.2, hs⟩
  have e4 := split35 cs hl
  rw [e0, e1, e2, e3] at e4
  rw [e4]
  simp [eC, ACS, eK]
theorem acs_of_trod {H : Type} {enc : TypeId × Value → H} {W : World} {a : Option Addr} {len cap : Nat} {d : DataW H} {p : List MemPlace} (h : DataW.Trod enc Try.prog W 0 (fun _ => true) true 22 (.slice a len cap) d p) :
    ∃ L : List Sk.Ac, L.length = len ∧ SV W (.slice a len cap) len (fl eC L) ∧ ∀ x ∈ L, OkA W x :=
  sv_of_trod eC 35 eC_len (by decide) Try.underlying22 (by kernel_rfl) (OkA W) (fun m cs y hl hf => act_of_cells hl hf) h
theorem act_okWide {W : World} {r : Reach} {b0 : Nat} {v : Value} (h : Value.okWide Try.prog W r b0 31 v) : ∃ xs : Array Value, v = .agg xs ∧ xs.size = 35 := by
  simp only [Value.okWide, Try.underlying31] at h
  obtain ⟨cs, h1, h2, _⟩ := h
  exact ⟨cs, h1, by rw [h2]; kernel_rfl⟩
theorem act_of_trod {H : Type} {enc : TypeId × Value → H} {W : World} {xs : Array Value} (hn : xs.size = 35) {d : DataW H} {p : List MemPlace} (h : DataW.Trod enc Try.prog W 0 (fun _ => true) true 31 (.agg xs) d p) :
    ∃ x : Sk.Ac, xs = ACS x.q x.p x.n x.v ∧ OkA W x := by
  obtain ⟨fuel, hf⟩ := h
  obtain ⟨x, hx, ok⟩ := act_of_cells (cs := xs.toList) (by simpa using hn) (by simpa [Value.cells] using hf)
  exact ⟨x, Array.toList_inj.1 hx, ok⟩
end Go.Proofs.Ytojkcbhmhfjioaa
