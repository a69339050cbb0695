/-
  Arguments of law 14 that came in: two numbers, acts; own work.
-/
import Derived.Test.YtgclegdgngldoaaDoorTrd
import Derived.ChangeSame
import Derived.Test.YtgclegdgngldoaaDoorL14d
set_option linter.unusedSimpArgs false
set_option linter.unusedVariables false
namespace Go.Proofs.YtgclegdgngldoaaDoor
open Go.ChangeShapes Go.WideShapes Go.ChangeAt Go.RowKit
set_option maxRecDepth 100000
theorem a32_okWide {W : World} {r : Reach} {b0 : Nat} {v : Value} (h : Value.okWide Tryd.prog W r b0 68 v) : ∃ xs : Array Value, v = .agg xs ∧ xs.size = 2 := by
  simp only [Value.okWide, Tryd.underlying68] at h
  obtain ⟨cs, h1, h2, _⟩ := h
  exact ⟨cs, h1, by rw [h2]; kernel_rfl⟩
theorem u32_of_cells {H : Type} {enc : TypeId × Value → H} {W : World} {m : Nat} {u : Value} {y : DataW H × List MemPlace} (hf : DataW.trod enc Tryd.prog W 0 (fun _ => true) true m 67 [u] = some y) : ∃ x : Nat, u = .int .u32 x ∧ x < 4294967296 := by
  obtain ⟨n, e, _, hw⟩ := DataW.trod_int Tryd.underlying67 hf
  injection e with e
  have hb : 0 ≤ n ∧ n ≤ 4294967295 := by simpa [Lit.wf, IntKind.min, IntKind.max, IntKind.signed, IntKind.bits] using hw
  exact ⟨n.toNat, by rw [e]; congr 1; omega, by omega⟩
set_option maxRecDepth 100000 in
theorem a32_of_trod {H : Type} {enc : TypeId × Value → H} {W : World} {xs : Array Value} (hn : xs.size = 2) {d : DataW H} {p : List MemPlace}
    (h : DataW.Trod enc Tryd.prog W 0 (fun _ => true) true 68 (.agg xs) d p) : ∃ x y : Nat, xs = A2 x y ∧ x < 4294967296 ∧ y < 4294967296 := by
  obtain ⟨fuel, hf⟩ := h
  cases fuel with
  | zero => simp [DataW.trod] at hf
  | succ m =>
    rw [DataW.trod_step] at hf
    unfold DataW.trodStep at hf
    have c1 : Tryd.prog.cellsOf 67 = 1 := by kernel_rfl
    have c2 : Tryd.prog.cellsOf 68 = 2 := by kernel_rfl
    obtain ⟨u, v, rfl⟩ : ∃ u v, xs = #[u, v] := by
      obtain ⟨l⟩ := xs
      match l, hn with
      | [u, v], _ => exact ⟨u, v, rfl⟩
    simp only [Tryd.underlying68, Value.cells] at hf
    rw [if_pos (by rw [c2]; rfl)] at hf
    simp only [Option.map_eq_some_iff] at hf
    obtain ⟨ys, hy, -⟩ := hf
    have hr : List.range 2 = [0, 1] := rfl
    rw [hr, List.mapM_cons] at hy
    simp only [bind, Option.bind_eq_some_iff, pure, Option.some.injEq] at hy
    obtain ⟨y0, h0, ys', h1, -⟩ := hy
    rw [List.mapM_cons] at h1
    simp only [bind, Option.bind_eq_some_iff, pure, Option.some.injEq] at h1
    obtain ⟨y1, h1, -⟩ := h1
    rw [c1] at h0 h1
    obtain ⟨x, hx, hx2⟩ := u32_of_cells (u := u) h0
    obtain ⟨y, hy, hy2⟩ := u32_of_cells (u := v) h1
    exact ⟨x, y, by rw [hx, hy]; rfl, hx2, hy2⟩
set_option maxRecDepth 100000 in
theorem acts_of_trod {H : Type} {enc : TypeId × Value → H} {W : World} {a : Option Addr} {len cap : Nat} {d : DataW H} {p : List MemPlace} (h : DataW.Trod enc Tryd.prog W 0 (fun _ => true) true 43 (.slice a len cap) d p) :
    ∃ L : List (Int × Int), L.length = len ∧ SV W (.slice a len cap) len (fl eA L) ∧ ∀ x ∈ L, 0 ≤ x.1 ∧ x.1 < 256 := by
  refine sv_of_trod eA 2 eA_len (by decide) Tryd.underlying43 (by kernel_rfl) (fun x => 0 ≤ x.1 ∧ x.1 < 256) (fun m cs y hl hf => ?_) h
  obtain ⟨y0, y1, n, -, -, h0, h1⟩ := trod_struct2 Tryd.underlying52 hf
  match cs, hl with
  | [c0, c1], _ =>
    have k1 : Tryd.prog.cellsOf 5 = 1 := by kernel_rfl
    have k2 : Tryd.prog.cellsOf 3 = 1 := by kernel_rfl
    simp only [k1, k2] at h0 h1
    obtain ⟨q, e0, _, w0⟩ := DataW.trod_int Tryd.underlying5 h0
    obtain ⟨e, e1, _, w1⟩ := DataW.trod_int Tryd.underlying3 h1
    have hb : 0 ≤ q ∧ q ≤ 255 := by simpa [Lit.wf, IntKind.min, IntKind.max, IntKind.signed, IntKind.bits] using w0
    simp at e0 e1
    exact ⟨(q, e), by rw [e0, e1]; rfl, by simp only; omega⟩
theorem EpochOverlap_v (w : World) (k : List (BitVec 8)) (x y : Nat) (m : Int) (hT : KT w ∧ 0 < w.heap.size) (hk : k.length = 32) (hx : x < 4294967296) (hy : y < 4294967296) (hm : 0 ≤ m ∧ m ≤ 65535) :
    Calls Tryd.prog 9 #[.agg (cs U8 k), .agg (A2 x y), .int .u16 m] w fun e w' => e = .returned (.bool true) ∧ Below w.heap.size w w' := by
  obtain ⟨n, rfl⟩ : ∃ n : Nat, m = n := ⟨m.toNat, by omega⟩
  exact EpochOverlap_w w k x y n hT hk hx hy (by omega)
end Go.Proofs.YtgclegdgngldoaaDoor
