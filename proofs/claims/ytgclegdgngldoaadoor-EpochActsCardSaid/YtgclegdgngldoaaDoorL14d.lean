/-
  Law 14: Clock, acts; own work.
-/
import Derived.Test.YtgclegdgngldoaaDoorL14c
set_option linter.unusedSimpArgs false
set_option linter.unusedVariables false
namespace Go.Proofs.YtgclegdgngldoaaDoor
open Go.RowKit Fp
set_option maxRecDepth 100000 in
set_option maxHeartbeats 2000000 in
theorem clock_c (w : World) (n : Int) : Calls Tryd.prog 23 #[.int .i64 n] w fun e w' => e = .returned (.bool (decide (0 ≤ n ∧ n ≤ 1099511627776))) ∧ Below w.heap.size w w' := by
  by_cases h0 : 0 ≤ n
  · by_cases h1 : n ≤ 1099511627776
    · rw [decide_eq_true (show 0 ≤ n ∧ n ≤ 1099511627776 from ⟨h0, h1⟩)]
      have M0 := Mm.start no w
      go_enter Tryd.func23, Tryd.ntmps23
      go_upto_region 1 with fail
      refine wp_region_lin (.op 0 (.op 1 (.op 2 (.op 3 (.op 4 (.op 5 (.op 6 .done))))))) (by rfl) ?_
      refine wpT_valp 3 (v := .int .i64 n) rfl rfl rfl (by go_simp) ?_
      refine wpT_valp 4 (v := .bool true) rfl rfl rfl (by go_simp) ?_
      refine wpT_valp 5 (v := .bool true) rfl rfl rfl (by go_simp) ?_
      refine wpT_valp 6 (v := .int .i64 n) rfl rfl (by simp [Region.wanted, yielded, Act.put]) (by go_simp) ?_
      try simp only [Act.put, List.setIfInBounds_toArray, List.set_cons_succ, List.set_cons_zero]
      refine wpT_valp 7 (v := .bool true) rfl rfl (by simp [Region.wanted, yielded, Act.put]) (by go_simp) ?_
      refine wpT_valp 8 (v := .bool true) rfl rfl rfl (by go_simp) ?_
      refine wpT_valp 2 (v := .bool true) rfl rfl rfl (by go_simp) ?_
      dsimp only [wpT]
      try simp only [Act.put, List.setIfInBounds_toArray, List.set_cons_succ, List.set_cons_zero]
      go_wp2_with fail
      go_ret
      exact ⟨rfl, M0.end_⟩
    · rw [decide_eq_false (show ¬ (0 ≤ n ∧ n ≤ 1099511627776) from fun h => h1 h.2)]
      have M0 := Mm.start no w
      go_enter Tryd.func23, Tryd.ntmps23
      go_upto_region 1 with fail
      refine wp_region_lin (.op 0 (.op 1 (.op 2 (.op 3 (.op 4 (.op 5 (.op 6 .done))))))) (by rfl) ?_
      refine wpT_valp 3 (v := .int .i64 n) rfl rfl rfl (by go_simp) ?_
      refine wpT_valp 4 (v := .bool true) rfl rfl rfl (by go_simp) ?_
      refine wpT_valp 5 (v := .bool true) rfl rfl rfl (by go_simp) ?_
      refine wpT_valp 6 (v := .int .i64 n) rfl rfl (by simp [Region.wanted, yielded, Act.put]) (by go_simp) ?_
      try simp only [Act.put, List.setIfInBounds_toArray, List.set_cons_succ, List.set_cons_zero]
      refine wpT_valp 7 (v := .bool false) rfl rfl (by simp [Region.wanted, yielded, Act.put]) (by go_simp) ?_
      refine wpT_valp 8 (v := .bool false) rfl rfl rfl (by go_simp) ?_
      refine wpT_valp 2 (v := .bool false) rfl rfl rfl (by go_simp) ?_
      dsimp only [wpT]
      try simp only [Act.put, List.setIfInBounds_toArray, List.set_cons_succ, List.set_cons_zero]
      go_wp2_with fail
      go_ret
      exact ⟨rfl, M0.end_⟩
  · rw [decide_eq_false (show ¬ (0 ≤ n ∧ n ≤ 1099511627776) from fun h => h0 h.1)]
    have M0 := Mm.start no w
    go_enter Tryd.func23, Tryd.ntmps23
    go_upto_region 1 with fail
    refine wp_region_lin (.op 0 (.op 1 (.op 2 (.op 3 (.op 4 (.op 5 (.op 6 .done))))))) (by rfl) ?_
    refine wpT_valp 3 (v := .int .i64 n) rfl rfl rfl (by go_simp) ?_
    refine wpT_valp 4 (v := .bool false) rfl rfl rfl (by go_simp) ?_
    refine wpT_valp 5 (v := .bool false) rfl rfl rfl (by go_simp) ?_
    refine wpT_unx 6 rfl rfl (by simp [Region.wanted, yielded, Act.put]) ?_
    try simp only [Act.put, List.setIfInBounds_toArray, List.set_cons_succ, List.set_cons_zero]
    refine wpT_unx 7 rfl rfl (by simp [Region.wanted, yielded, Act.put]) ?_
    refine wpT_valp 8 (v := .bool false) rfl rfl rfl (by go_simp) ?_
    refine wpT_valp 2 (v := .bool false) rfl rfl rfl (by go_simp) ?_
    dsimp only [wpT]
    try simp only [Act.put, List.setIfInBounds_toArray, List.set_cons_succ, List.set_cons_zero]
    go_wp2_with fail
    go_ret
    exact ⟨rfl, M0.end_⟩
theorem clock_b (w : World) (n : Int) {r : Bool} (hr : decide (0 ≤ n ∧ n ≤ 1099511627776) = r) : Calls Tryd.prog 23 #[.int .i64 n] w fun e w' => e = .returned (.bool r) ∧ Below w.heap.size w w' := by
  rw [← hr]; exact clock_c w n
def eA (p : Int × Int) : List Value := (ACT p.1 p.2).toList
theorem eA_len (p : Int × Int) : (eA p).length = 2 := by simp [eA]
set_option maxRecDepth 100000 in
theorem Ep.Good.fins {L : List Ep.Sl} {t : Nat} (h : Ep.Good L t) : ∀ s ∈ L, t < Ep.fin s.made := by
  intro s hs
  rcases h.two with ⟨a, rfl, h1, h2⟩ | ⟨a, b, rfl, h1, h2, h3, h4⟩
  · simp only [List.mem_cons, List.not_mem_nil, or_false] at hs; subst hs; exact h2
  · simp only [List.mem_cons, List.not_mem_nil, or_false] at hs
    rcases hs with rfl | rfl
    · have e1 : Ep.fin b.made = (b.made / 1024 + 1) * 1024 + 512 := rfl
      have e2 : Ep.fin s.made = (s.made / 1024 + 1) * 1024 + 512 := rfl
      rw [e1] at h4; rw [e2]
      omega
    · exact h4
theorem Ep.Good.snd {L : List Ep.Sl} {t : Nat} (h : Ep.Good L t) (h2 : L.length = 2) : ∃ a b, L[0]? = some a ∧ L[1]? = some b ∧ b.gen + 1 = a.gen := by
  rcases h.two with ⟨a, rfl, _⟩ | ⟨a, b, rfl, h1, h2, _⟩
  · simp at h2
  · exact ⟨a, b, rfl, rfl, h2⟩
end Go.Proofs.YtgclegdgngldoaaDoor
