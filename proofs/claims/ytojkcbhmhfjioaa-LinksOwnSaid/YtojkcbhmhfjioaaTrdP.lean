/-
  A slice of structs that came in; own work.
-/
import Derived.Test.YtojkcbhmhfjioaaRowP2
import Derived.Test.YtojkcbhmhfjioaaGs
import Derived.Lib.SmallJoins
set_option linter.unusedSimpArgs false
set_option linter.unusedVariables false
namespace Go.Proofs.Ytojkcbhmhfjioaa
open Go.ChangeShapes Go.WideShapes Go.ChangeAt Go.RowKit
theorem sv_of_trod {α : Type} [Inhabited α] (encL : α → List Value) (k : Nat) (hk : ∀ x, (encL x).length = k) (k0 : 0 < k) {T TS : TypeId} (hu : Try.prog.underlying TS = some (.slice T)) (hce : Try.prog.cellsOf T = k) (Ok : α → Prop)
    {H : Type} {enc : TypeId × Value → H} {W : World} (helt : ∀ (m : Nat) (cs : List Value) (y : DataW H × List MemPlace), cs.length = k → DataW.trod enc Try.prog W 0 (fun _ => true) true m T cs = some y → ∃ x, cs = encL x ∧ Ok x)
    {a : Option Addr} {len cap : Nat} {d : DataW H} {p : List MemPlace} (h : DataW.Trod enc Try.prog W 0 (fun _ => true) true TS (.slice a len cap) d p) :
    ∃ L : List α, L.length = len ∧ SV W (.slice a len cap) len (fl encL L) ∧ ∀ x ∈ L, Ok x := by
  obtain ⟨fuel, hf⟩ := h
  rcases Go.Deep.open_slice hu hf with ⟨hcs, _⟩ | ⟨x, l, c, m, n, D, Pl, hcs, _, hl, hm, hmm, _, hrow⟩
  · simp [Value.cells] at hcs
    obtain ⟨rfl, rfl, rfl⟩ := hcs
    exact ⟨[], rfl, ⟨none, 0, rfl, Nat.le_refl _, Nat.zero_le _, fun h => absurd rfl h⟩, fun x h => by cases h⟩
  · simp [Value.cells] at hcs
    obtain ⟨rfl, rfl, rfl⟩ := hcs
    simp only [hce, if_true] at hrow hmm
    subst hmm
    obtain ⟨b, off, spot⟩ := x
    have cell : ∀ i, i < len → ∃ x : α, Ok x ∧ ∀ j, j < k → W.cell? (((⟨b, off, spot⟩ : Addr).add (i * k)).add j) = (encL x)[j]? := fun i hi => by
      obtain ⟨cs', h1, h2⟩ := hrow i (by omega)
      obtain ⟨e0, e1, e2⟩ := World.cells?_some h1
      obtain ⟨x, hx, hok⟩ := helt n cs' _ (by simpa using e1) h2
      refine ⟨x, hok, fun j hj => ?_⟩
      rw [← hx]; exact e2 j hj
    by_cases h0 : len = 0
    · subst h0
      exact ⟨[], rfl, ⟨_, _, rfl, hl, hm, fun h => absurd rfl h⟩, fun x h => by cases h⟩
    · obtain ⟨x0, _, hk0⟩ := cell 0 (by omega)
      have hspot : spot = none := by
        have h5 := hk0 0 k0
        rw [List.getElem?_eq_getElem (by rw [hk]; exact k0)] at h5
        simpa [Addr.add] using World.cell?_spot h5
      subst hspot
      have each : ∀ i, ∃ x : α, i < len → (Ok x ∧ ∀ j, j < k → W.cell? ⟨b, off + i * k + j, none⟩ = (encL x)[j]?) := fun i => by
        by_cases hi : i < len
        · obtain ⟨x, h1, h2⟩ := cell i hi
          refine ⟨x, fun _ => ⟨h1, fun j hj => ?_⟩⟩
          have := h2 j hj
          rwa [Addr.add_mid, Addr.add_mid] at this
        · exact ⟨default, fun h => absurd h hi⟩
      obtain ⟨F, hF⟩ := Classical.axiomOfChoice each
      have hL : ((List.range len).map F).length = len := by simp
      have hg : ∀ i, i < len → ((List.range len).map F)[i]? = some (F i) := fun i hi => by rw [List.getElem?_map, List.getElem?_range hi]; rfl
      refine ⟨(List.range len).map F, hL, ⟨_, _, rfl, hl, hm, fun _ => ⟨b, off, rfl, fun q hq => ?_⟩⟩, fun x hx => ?_⟩
      · rw [fl_len hk, hL] at hq
        have hq1 : q / k < len := (Nat.div_lt_iff_lt_mul k0).2 hq
        have hq2 : q % k < k := Nat.mod_lt _ k0
        have e : q = q / k * k + q % k := by rw [Nat.mul_comm]; exact (Nat.div_add_mod q k).symm
        have h6 := (hF (q / k) hq1).2 (q % k) hq2
        have h7 := fl_get hk (hg (q / k) hq1) hq2
        rw [← e] at h7
        have e3 : off + q / k * k + q % k = off + q := by rw [Nat.add_assoc, ← e]
        rw [e3] at h6
        rw [h6]; exact h7.symm
      · obtain ⟨i, hi, rfl⟩ := List.mem_map.1 hx
        exact (hF i (List.mem_range.1 hi)).1
end Go.Proofs.Ytojkcbhmhfjioaa
