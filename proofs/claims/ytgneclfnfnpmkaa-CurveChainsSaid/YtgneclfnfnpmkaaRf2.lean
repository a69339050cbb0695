/-
  Walks of reference 01: what is over goes up; own work.
-/
import Derived.Test.YtgneclfnfnpmkaaRf1
set_option linter.unusedSimpArgs false
set_option linter.unusedVariables false
namespace Go.Proofs.Ytgneclfnfnpmkaa
open Go.RowKit Fp

theorem IS.cellD {w : World} {a : Option Addr} {n cap : Nat} {l : List Nat} (h : IS w (.slice a n cap) l) (hn : n = l.length) (i : Nat) (hi : i < l.length) : ∃ b o, a = some ⟨b, o, none⟩ ∧ b < w.heap.size ∧ ∀ i, i < l.length → w.cell? ⟨b, o + i, none⟩ = some (I64 (gI l i)) := by
  have hne : l ≠ [] := by intro e; rw [e] at hi; simp at hi
  have h2 := h.open hne
  obtain ⟨b, o, cap', e, _, hc⟩ := h2
  injection e with e1 e2 e3
  refine ⟨b, o, e1, ?_, hc⟩
  have := hc i hi
  rw [cell_rowOf] at this
  exact row_lt (Array.getElem?_eq_some_iff.1 this).1
theorem spC_succ (l : List Nat) (i : Nat) : spC l (i + 1) = (l.getD i 0 + spC l i) / 256 := rfl
theorem spC_zero (l : List Nat) : spC l 0 = 0 := rfl
attribute [local irreducible] spC spL
set_option maxRecDepth 100000 in
set_option maxHeartbeats 2000000 in
theorem rspread_any (w : World) (v : Value) (l : List Nat) (hv : IS w v l) (hb : ∀ x ∈ l, x ≤ 288230376151711744) (hlen : l.length ≤ 1000) :
    Calls Try.prog 58 #[v] w fun e w' => ∃ u, e = .returned u ∧ OI w' w.heap.size u (spr l) ∧ Below w.heap.size w w' := by
  obtain ⟨n, hn⟩ : ∃ n, n = l.length := ⟨_, rfl⟩
  obtain ⟨av, cv, rfl, hcv⟩ := hv.shape' n hn.symm
  have hnl : n ≤ 1000 := by omega
  have HC : Hid (∀ i, i < l.length → ∃ b o, av = some ⟨b, o, none⟩ ∧ b < w.heap.size ∧ ∀ i, i < l.length → w.cell? ⟨b, o + i, none⟩ = some (I64 (gI l i))) := hid fun i hi => IS.cellD hv hn i hi
  have HB := hid hb; have HN := hid hn
  have HCC := hid (spC_le hb)
  clear hv hb hlen hn
  go_enter Try.func58, Try.ntmps58
  go_wp2_with fail
  go_loopw [3, 4, 5] (fun u c t wr => ∃ i : Nat, i ≤ n ∧ t = .int .i64 i ∧ c = I64 (spC l i) ∧ OI wr w.heap.size u (spL l i) ∧ Below w.heap.size w wr) (fun _ _ t _ => n - (intOf t).toNat)
  case atStart => exact ⟨0, by omega, rfl, by rw [spC_zero]; rfl, by rw [spL_zero]; exact OI.nil _ _, Below.refl _ _⟩
  case round =>
    obtain ⟨i, hi, rfl, rfl, hov, hbw⟩ := hrel
    have hz := hbw.size
    have hcl := HCC.out i
    obtain ⟨c, hc⟩ : ∃ c, c = spC l i := ⟨_, rfl⟩
    rw [← hc] at hcl ⊢
    by_cases hlt : i < n
    · obtain ⟨b, o, rfl, hbs, hcell⟩ := HC.out i (by rw [← HN.out]; exact hlt)
      have c0 : wr.cell? ⟨b, o + i, none⟩ = some (I64 (gI l i)) := (hbw.cell (p := ⟨b, o + i, none⟩) hbs).trans (hcell i (by rw [← HN.out]; exact hlt))
      obtain ⟨x, hx⟩ : ∃ x, x = gI l i := ⟨_, rfl⟩
      rw [← hx] at c0
      have hxl : x ≤ 288230376151711744 := by rw [hx]; exact getD_le HB.out i
      obtain ⟨s, hs⟩ : ∃ s, s = x + c := ⟨_, rfl⟩
      have q0 : IntKind.i64.wrap ((x : Int) + (c : Int)) = (s : Int) := by rw [IntKind.wrap_i64]; omega
      have q1 : (0 : Int) ≤ s := by omega
      have q2 : (s : Int) ≤ 1000000000000000000 := by omega
      have hlen : Hid ((spL l i).length + 1 ≤ 1073741824) := hid (by rw [spL_len]; omega)
      have HS := hid hs; have HX := hid hx; have HCN := hid hc
      clear hcell hs hx hc hcl hxl
      go_wp2_with (refine wpList_api rfl (.tmp 19) (.tmp 22) rfl w.heap.size _ _ (spL l i) [s % 256] rfl (OI.alloc hov _) rfl (IS.one _ _ _ rfl _) hlen.out (by simp; omega) ?_; rintro v3 w4 hown3 hg3 -; have HB4 := oi_below1 _ hbw hov hz hg3)
      go_roundw
      case rel => exact ⟨i + 1, by omega, by go_num, by
          have e : spC l (i + 1) = s / 256 := by rw [spC_succ, HS.out, HX.out, HCN.out]; rfl
          rw [e]; go_num, by
          rw [spL_succ]
          have e : (l.getD i 0 + spC l i) % 256 = s % 256 := by rw [HS.out, HX.out, HCN.out]; rfl
          rw [e]; exact hown3, HB4⟩
      case measure => simp [intOf]; omega
    · have : i = n := by omega
      subst this
      have hlen : Hid ((spL l i).length + 1 ≤ 1073741824) := hid (by rw [spL_len]; omega)
      have HCN := hid hc
      clear hc hcl
      go_wp2_with (refine wpList_api rfl (.tmp 26) (.tmp 28) rfl w.heap.size _ _ (spL l i) [c] rfl (OI.alloc hov _) rfl (IS.one _ _ _ rfl _) hlen.out (by simp; omega) ?_; rintro v3 w4 hown3 hg3 -; have HB4 := oi_below1 _ hbw hov hz hg3)
      go_ret
      refine ⟨_, rfl, ?_, HB4⟩
      unfold spr
      rw [← HN.out, ← HCN.out]; exact hown3
end Go.Proofs.Ytgneclfnfnpmkaa
