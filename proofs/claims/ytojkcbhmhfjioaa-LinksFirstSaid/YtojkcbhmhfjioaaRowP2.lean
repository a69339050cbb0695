/-
  Keys and strings that came in; own work.
-/
import Derived.Test.YtojkcbhmhfjioaaRowP
import Derived.ChangeMaps5
import Derived.WideKeyArr2
set_option linter.unusedSimpArgs false
set_option linter.unusedVariables false
set_option maxRecDepth 100000
namespace Go.Proofs.Ytojkcbhmhfjioaa
open Go.ChangeShapes Go.WideShapes Go.ChangeAt Go.RowKit

theorem arr_okWide {W : World} {r : Reach} {b0 : Nat} {T : TypeId} {n : Nat} (hu : Try.prog.underlying T = some (.array n 5)) (hc : Try.prog.cellsOf T = n) {v : Value} (h : Value.okWide Try.prog W r b0 T v) : ∃ xs : Array Value, v = .agg xs ∧ xs.size = n := by
  simp only [Value.okWide, hu] at h
  obtain ⟨cs, h1, h2, _⟩ := h
  exact ⟨cs, h1, by rw [h2, hc]⟩
theorem arr_of_trod {H : Type} {enc : TypeId × Value → H} {W : World} {T : TypeId} {n : Nat} (hu : Try.prog.underlying T = some (.array n 5)) (hc : Try.prog.cellsOf T = n) {xs : Array Value} (hn : xs.size = n) {d : DataW H} {p : List MemPlace}
    (h : DataW.Trod enc Try.prog W 0 (fun _ => true) true T (.agg xs) d p) : ∃ l : List (BitVec 8), xs = cs U8 l ∧ l.length = n := by
  obtain ⟨fuel, hf⟩ := h
  cases fuel with
  | zero => simp [DataW.trod] at hf
  | succ m =>
    rw [DataW.trod_step] at hf
    unfold DataW.trodStep at hf
    simp only [hu, Value.cells] at hf
    have c1 : Try.prog.cellsOf 5 = 1 := by kernel_rfl
    rw [if_pos (by rw [hc]; simpa using hn)] at hf
    simp only [Option.map_eq_some_iff] at hf
    obtain ⟨ys, hy, -⟩ := hf
    have key : ∀ (L : List Nat) (ys : List (DataW H × List MemPlace)), L.mapM (fun i => DataW.trod enc Try.prog W 0 (fun _ => true) true m 5 ((xs.toList.drop (i * Try.prog.cellsOf 5)).take (Try.prog.cellsOf 5))) = some ys →
        ∀ i ∈ L, ∃ x : BitVec 8, (xs.toList.drop i).take 1 = [U8 x] := by
      intro L
      induction L with
      | nil => intro _ _ i hi; cases hi
      | cons a L ih =>
        intro ys hm i hi
        rw [List.mapM_cons] at hm
        simp only [bind, Option.bind_eq_some_iff, pure, Option.some.injEq] at hm
        obtain ⟨y, h1, ys', h2, -⟩ := hm
        rcases List.mem_cons.1 hi with e | e
        · subst e
          obtain ⟨a, ea, -, wa⟩ := DataW.trod_int Try.underlying5 h1
          rw [c1, Nat.mul_one] at ea
          have hb : 0 ≤ a ∧ a ≤ 255 := by simpa [Lit.wf, IntKind.min, IntKind.max, IntKind.signed, IntKind.bits] using wa
          refine ⟨BitVec.ofInt 8 a, ea.trans ?_⟩
          have e : ((BitVec.ofInt 8 a).toNat : Int) = a := by rw [BitVec.toNat_ofInt]; omega
          unfold U8
          rw [e]
        · exact ih ys' h2 i e
    have hall : ∀ i, i < n → ∃ x : BitVec 8, xs[i]? = some (U8 x) := by
      intro i hi
      obtain ⟨x, hx⟩ := key _ _ hy i (by simpa using hi)
      refine ⟨x, ?_⟩
      have : ((xs.toList.drop i).take 1)[0]? = some (U8 x) := by rw [hx]; rfl
      rw [List.getElem?_take_of_lt (by omega), List.getElem?_drop] at this
      simpa using this
    have hex : ∃ l : List (BitVec 8), l.length = n ∧ ∀ i, i < n → xs[i]? = some (U8 (l.getD i 0)) := by
      obtain ⟨f, hf⟩ : ∃ f : Nat → BitVec 8, ∀ i, i < n → xs[i]? = some (U8 (f i)) :=
        ⟨fun i => Classical.epsilon (fun x => xs[i]? = some (U8 x)), fun i hi => Classical.epsilon_spec (hall i hi)⟩
      refine ⟨(List.range n).map f, by simp, fun i hi => ?_⟩
      have e : ((List.range n).map f).getD i 0 = f i := by
        rw [List.getD_eq_getElem?_getD, List.getElem?_map, List.getElem?_range hi]; rfl
      rw [e]; exact hf i hi
    obtain ⟨l, h1, h2⟩ := hex
    refine ⟨l, ?_, h1⟩
    apply Array.ext
    · simp [hn, h1]
    · intro i i1 i2
      have h3 := h2 i (by omega)
      have h4 := cs_get_lt (f := U8) (l := l) (i := i) (by simpa using i2)
      rw [(Array.getElem?_eq_some_iff.1 h4).2, (Array.getElem?_eq_some_iff.1 h3).2, List.getD_eq_getElem?_getD, List.getElem?_eq_getElem (by simpa using i2)]
      rfl
end Go.Proofs.Ytojkcbhmhfjioaa
