/-
  Package skipped: Delete; own work.
-/
import Derived.Test.YtojkcbhmhfjioaaSk3
import Derived.Test.YtojkcbhmhfjioaaDel
import Derived.Deep.Cut
import Derived.Deep.CutBlock
set_option linter.unusedSimpArgs false
set_option linter.unusedVariables false
namespace Go.Proofs.Ytojkcbhmhfjioaa
open Go.RowKit
attribute [local irreducible] ENR STR
set_option maxRecDepth 100000 in
set_option maxHeartbeats 2000000 in
theorem sdel_c (w : World) (base : Nat) (v : Value) (L : List Sk.En) (i : Nat) (hO : Ow w base 65 v L.length (fl eE L)) (hi : i < L.length) (h9 : L.length ≤ 100000) :
    Calls Try.prog 40 #[v, .int .i64 i, .int .i64 ((i + 1 : Nat) : Int)] w fun e w' => ∃ v', e = .returned v' ∧ Ow w' base 65 v' (L.length - 1) (fl eE (L.eraseIdx i)) ∧ Fr (fun g => obk v = some g) w w' ∧ obk v' = obk v := by
  obtain ⟨n, hn⟩ : ∃ n, L.length = n := ⟨_, rfl⟩
  rw [hn] at hO hi h9
  rcases id hO.2 with ⟨a, rfl, h00⟩ | ⟨g, cap, cur, T, rfl, h1, hT, h2, h3, h4, h5, h6, h7⟩
  · omega
  obtain ⟨c1, hc1⟩ : ∃ c, c = cap + 1 := ⟨_, rfl⟩
  obtain ⟨i1, hi1⟩ : ∃ j, j = i + 1 := ⟨_, rfl⟩
  obtain ⟨m, hm⟩ : ∃ j, j = n - i1 := ⟨_, rfl⟩
  obtain ⟨c2, hc2⟩ : ∃ j, j = c1 - i1 := ⟨_, rfl⟩
  obtain ⟨c3, hc3⟩ : ∃ j, j = c1 - (i + m) := ⟨_, rfl⟩
  have hob : obk (.slice (some ⟨g, 0, none⟩) n (cap + 1)) = some g := rfl
  rw [hob, ← hi1, hn, ← hc1]
  have M0 := Mm.lend hT h2
  obtain ⟨AD, hAD⟩ : ∃ A : Addr, A = if c1 = i1 then ⟨g, 0, none⟩ else ⟨g, i1 * 65, none⟩ := ⟨_, rfl⟩
  have HAD := hid (show m = 0 ∨ AD = ⟨g, i1 * 65, none⟩ by
    by_cases e : c1 = i1
    · left; omega
    · right; rw [hAD, if_neg e])
  have HAE := hid (show (if c1 = i1 then some (⟨g, 0, none⟩ : Addr) else some ⟨g, i1 * 65, none⟩) = some AD by rw [hAD]; split <;> rfl)
  have hnin : ¬ n = i := by omega
  have hiin : ¬ (i : Int) = (i1 : Int) := by omega
  have hi1n : (i1 : Int) ≤ (n : Int) := by omega
  have hi1c : (i1 : Int) ≤ (c1 : Int) := by omega
  have hii1 : (i : Int) ≤ (i1 : Int) := by omega
  have hic : (i : Int) ≤ (c1 : Int) := by omega
  have hin : (i : Int) ≤ (n : Int) := by omega
  have hnc : (n : Int) ≤ (c1 : Int) := by omega
  have hi00 : (0 : Int) ≤ (i : Int) := by omega
  have hicn : ¬ c1 = i := by omega
  have hmx : c1 ≤ 9223372036854775807 := by unfold maxLen at h4; omega
  have HSZ := hid (show cur.size = c1 * 65 by rw [h5, hc1])
  have HON := hid h7
  have HM := hid hm.symm
  have HC2 := hid hc2.symm
  have HC1 := hid (show n - (i + m) = 1 ∧ c1 - (i + m) = c3 ∧ ¬ c1 = i + m ∧ (0 : Int) ≤ (i : Int) + (m : Int) ∧ ((i : Int) + (m : Int)).toNat = i + m by omega)
  have hcp : 0 < c1 := by omega
  have HOB := hid (show obk (.slice (some ⟨g, 0, none⟩) (i + m) c1) = some g by rw [hc1]; rfl)
  have HFIN : Hid (∀ (cu2 cu3 : Array Value) (w' : World), cu2 = (cur.toList.take (i * 65) ++ ((cur.toList.drop (i1 * 65)).take (m * 65)) ++ cur.toList.drop (i * 65 + m * 65)).toArray → cu3 = (cu2.toList.take ((i + m) * 65) ++ (Builtin.zeroCells (Value.agg (ENR EZ)).cells 1).toList ++ cu2.toList.drop ((i + m) * 65 + 1 * 65)).toArray → Mm (fun x => x = g) w [(g, cu3)] w' →
      Ow w' base 65 (.slice (some ⟨g, 0, none⟩) (i + m) c1) (n - 1) (fl eE (L.eraseIdx i))) := by
    refine hid fun cu2 cu3 w' e2 e3 M => ?_
    obtain ⟨d1, d2, d3⟩ := cut_fin eE_len hn hi hi1 hm (show n ≤ c1 by omega) HSZ.out h6 h7 (Builtin.zeroCells (Value.agg (ENR EZ)).cells 1).toList (by simp [size_zeroCells, Value.cells]) (zero_one one_ENR (by simp) _) e2 e3
    have e4 : i + m = n - 1 := by omega
    rw [e4] at d2
    rw [e4, hc1]
    rw [hc1] at d1
    exact M.ow (by simp) h1 (by omega) h4 d1 d2 d3
  have him : (i : Int) + (m : Int) ≤ (n : Int) := by omega
  have him2 : (i : Int) + (m : Int) ≤ (c1 : Int) := by omega
  have hij : i ≤ i1 := by omega
  have hjm : i1 + m ≤ c1 := by omega
  have hcub : i * 65 + m * 65 + 1 * 65 ≤ c1 * 65 := by omega
  have hcua : i1 * 65 + m * 65 ≤ c1 * 65 := by omega
  clear hAD h2 h5 h6 h7 hO hc1 hi1 hm hc2 hc3 h1 h3 h4 hob
  go_enter Try.func40, Try.ntmps40
  go_upto_region 1 with fail
  refine wp_region_lin (.op 0 (.op 1 (.op 2 (.op 3 (.op 4 (.op 5 .done)))))) (by rfl) ?_
  refine wpT_valp 8 (v := .slice (some ⟨g, 0, none⟩) n c1) rfl rfl rfl (by go_simp) ?_
  refine wpT_valp 9 (v := .int .i64 i) rfl rfl rfl (by go_simp) ?_
  refine wpT_valp 10 (v := .int .i64 i1) rfl rfl rfl (by go_simp) ?_
  refine wpT_valp 11 (v := .slice (some ⟨g, 0, none⟩) n c1) rfl rfl rfl (by go_simp) ?_
  try simp only [Act.put, List.setIfInBounds_toArray, List.set_cons_succ, List.set_cons_zero]
  refine wpT_valp 12 (v := .int .i64 n) rfl rfl rfl (by go_simp) ?_
  refine wpT_valp 13 (v := .slice (some ⟨g, i * 65, none⟩) (i1 - i) (n - i)) rfl rfl rfl (by go_simp) ?_
  first | dsimp only [wpT] | refine wpT_fin ?_
  try simp only [Act.put, List.setIfInBounds_toArray, List.set_cons_succ, List.set_cons_zero]
  go_upto_region 2 with fail
  refine wp_region_lin (.op 0 (.op 1 (.op 2 .done))) (by rfl) ?_
  refine wpT_valp 14 (v := .int .i64 i) rfl rfl rfl (by go_simp) ?_
  refine wpT_valp 15 (v := .int .i64 i1) rfl rfl rfl (by go_simp) ?_
  refine wpT_valp 16 (v := .bool false) rfl rfl rfl (by go_simp) ?_
  first | dsimp only [wpT] | refine wpT_fin ?_
  try simp only [Act.put, List.setIfInBounds_toArray, List.set_cons_succ, List.set_cons_zero]
  go_upto_region 4 with fail
  refine wp_region_lin (.op 0 (.op 1 (.op 2 .done))) (by rfl) ?_
  refine wpT_valp 18 (v := .slice (some ⟨g, 0, none⟩) n c1) rfl rfl rfl (by go_simp) ?_
  refine wpT_valp 19 (v := .int .i64 n) rfl rfl rfl (by go_simp) ?_
  refine wpT_valp 7 (v := .int .i64 n) rfl rfl rfl (by go_simp) ?_
  first | dsimp only [wpT] | refine wpT_fin ?_
  try simp only [Act.put, List.setIfInBounds_toArray, List.set_cons_succ, List.set_cons_zero]
  go_upto_region 5 with fail
  refine wp_region_Z (fun v => True) 7 (.yld [0, 1, 2, 3, 4, 5] (.op 6 (.rest (.op 7 .done)))) (by kernel_rfl) (by kernel_rfl) (by kernel_rfl) (fun d _ _ _ _ h => by cases d <;> exact h) ?_
  have M1 := M0.drewN 1
  change wpZ _ _ _ _ _ _ (w.drewN 1)
  obtain ⟨w2, hw2⟩ : ∃ w2, w2 = w.drewN 1 := ⟨_, rfl⟩
  rw [← hw2] at M1 ⊢
  clear hw2
  refine wpZ_yld ?_
  refine wpYJd_op 20 (.slice (some ⟨g, 0, none⟩) n c1) rfl rfl rfl (fun w1 h => by go_simp) ?_
  refine wpYJd_op 21 (.int .i64 i) rfl rfl rfl (fun w1 h => by go_simp) ?_
  refine wpYJd_op 22 (.slice (some ⟨g, 0, none⟩) i c1) rfl rfl rfl (fun w1 h => by go_simp) ?_
  refine wpYJd_op 23 (.slice (some ⟨g, 0, none⟩) n c1) rfl rfl rfl (fun w1 h => by go_simp) ?_
  refine wpYJd_op 24 (.int .i64 i1) rfl rfl rfl (fun w1 h => by go_simp) ?_
  try simp only [Act.put, List.setIfInBounds_toArray, List.set_cons_succ, List.set_cons_zero]
  refine wpYJd_op 25 (.slice (some AD) m c2) rfl rfl rfl (fun w1 h => by have h := HAE.out; have h2 := HM.out; have h3 := HC2.out; go_simp) ?_
  show wpZ _ _ _ _ _ _ _
  try simp only [Act.put, List.setIfInBounds_toArray, List.set_cons_succ, List.set_cons_zero]
  refine wpZ_of (by trivial) ?_
  refine wpT_gcut (m := m) (j := i1) (i0 := i) (c := c2) (ad := AD) 26 M1 elt_en 0 rfl rfl rfl rfl rfl (by go_simp) (by go_simp) hcp HSZ.out HON.out hjm hij HAD.out (fun wc MC => ?_)
  dsimp only [List.set] at MC
  obtain ⟨cu2, hcu2⟩ : ∃ c, c = (cur.toList.take (i * 65) ++ ((cur.toList.drop (i1 * 65)).take (m * 65)) ++ cur.toList.drop (i * 65 + m * 65)).toArray := ⟨_, rfl⟩
  rw [← hcu2] at MC
  have HCU := hid hcu2
  clear hcu2
  refine wpZ_to ?_
  try simp only [Act.put, List.setIfInBounds_toArray, List.set_cons_succ, List.set_cons_zero]
  refine wpZ_rest (by trivial) ?_
  refine wpT_valp 0 (v := .slice (some ⟨g, 0, none⟩) (i + m) c1) rfl rfl rfl (by go_simp) ?_
  first | dsimp only [wpT] | refine wpT_fin ?_
  try simp only [Act.put, List.setIfInBounds_toArray, List.set_cons_succ, List.set_cons_zero]
  go_upto_region 6 with fail
  have HFIT := hid (show (i + m) * 65 + 1 * 65 ≤ cu2.size by have h := HCU.out; have h2 := HSZ.out; rw [h]; simp; omega)
  refine wp_region_lin (.op 0 (.op 1 (.op 2 (.op 3 (.op 4 (.op 5 .done)))))) (by rfl) ?_
  refine wpT_valp 27 (v := .slice (some ⟨g, 0, none⟩) (i + m) c1) rfl rfl rfl (by go_simp) ?_
  refine wpT_valp 28 (v := .slice (some ⟨g, 0, none⟩) (i + m) c1) rfl rfl rfl (by go_simp) ?_
  refine wpT_valp 29 (v := .int .i64 (i + m)) rfl rfl rfl (by go_simp) ?_
  refine wpT_valp 30 (v := .int .i64 n) rfl rfl rfl (by go_simp) ?_
  try simp only [Act.put, List.setIfInBounds_toArray, List.set_cons_succ, List.set_cons_zero]
  refine wpT_valp 31 (v := .slice (some ⟨g, (i + m) * 65, none⟩) 1 c3) rfl rfl rfl (by have h := HC1.out; go_simp) ?_
  refine wpT_gclear (g := g) (off := (i + m) * 65) (m := 1) (c := c3) MC elt_en 0 rfl rfl rfl rfl rfl (by go_simp) HFIT.out (by omega) (fun wd MD => ?_)
  dsimp only [List.set] at MD
  obtain ⟨cu3, hcu3⟩ : ∃ c, c = (cu2.toList.take ((i + m) * 65) ++ (Builtin.zeroCells (Value.agg (ENR EZ)).cells 1).toList ++ cu2.toList.drop ((i + m) * 65 + 1 * 65)).toArray := ⟨_, rfl⟩
  rw [← hcu3] at MD
  have HC3 := hid hcu3
  clear hcu3
  first | dsimp only [wpT] | refine wpT_fin ?_
  try simp only [Act.put, List.setIfInBounds_toArray, List.set_cons_succ, List.set_cons_zero]
  go_upto_region 7 with fail
  refine wp_region_lin (.op 0 (.op 1 .done)) (by rfl) ?_
  refine wpT_valp 32 (v := .slice (some ⟨g, 0, none⟩) (i + m) c1) rfl rfl rfl (by go_simp) ?_
  refine wpT_valp 6 (v := .slice (some ⟨g, 0, none⟩) (i + m) c1) rfl rfl rfl (by go_simp) ?_
  first | dsimp only [wpT] | refine wpT_fin ?_
  try simp only [Act.put, List.setIfInBounds_toArray, List.set_cons_succ, List.set_cons_zero]
  go_wp2_with fail
  go_ret
  exact ⟨_, rfl, HFIN.out _ _ _ HCU.out HC3.out MD, MD.fr.mono (fun x _ h => by rw [h]), HOB.out⟩
end Go.Proofs.Ytojkcbhmhfjioaa
