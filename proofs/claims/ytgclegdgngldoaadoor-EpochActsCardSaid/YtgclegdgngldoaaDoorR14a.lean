/-
  The reference of law 14: End, later, New, Restart; own work.
-/
import Derived.Test.YtgclegdgngldoaaDoorL14d
import Derived.Test.YtgclegdgngldoaaDoorXtra
set_option linter.unusedSimpArgs false
set_option linter.unusedVariables false
namespace Go.Proofs.YtgclegdgngldoaaDoor
open Go.RowKit Fp
set_option maxRecDepth 100000 in
set_option maxHeartbeats 2000000 in
theorem end_c (w : World) (m : Nat) (hm : m ≤ 1099511627776) : Calls Tryd.prog 44 #[.int .i64 m] w fun e w' => e = .returned (.int .i64 (Ep.fin m)) ∧ Below w.heap.size w w' := by
  obtain ⟨q, hq⟩ : ∃ q, q = m / 1024 := ⟨_, rfl⟩
  obtain ⟨q2, hq2⟩ : ∃ q2, q2 = q + 1 := ⟨_, rfl⟩
  obtain ⟨q3, hq3⟩ : ∃ q3, q3 = q2 * 1024 := ⟨_, rfl⟩
  have e : Ep.fin m = q3 + 512 := by rw [hq3, hq2, hq]; rfl
  have hqb : q ≤ 1099511627776 := by omega
  have HQ1 := hid (show (m : Int).tdiv 1024 = (q : Int) by rw [Int.tdiv_eq_ediv_of_nonneg (by omega)]; omega)
  have HQ2 := hid (show IntKind.i64.wrap ((q : Int) + 1) = (q2 : Int) by rw [i64w _ (by omega) (by omega)]; omega)
  have HQ3 := hid (show IntKind.i64.wrap ((q2 : Int) * 1024) = (q3 : Int) by rw [i64w _ (by omega) (by omega)]; omega)
  have HQ4 := hid (show IntKind.i64.wrap ((q3 : Int) + 512) = ((Ep.fin m : Nat) : Int) by rw [i64w _ (by omega) (by omega), e]; omega)
  have HQ0 := hid (show IntKind.i64.wrap (q : Int) = (q : Int) from i64w _ (by omega) (by omega))
  clear e hq hq2 hq3 hqb
  have M0 := Mm.start no w
  go_enter Tryd.func44, Tryd.ntmps44
  go_upto_region 1 with fail
  refine wp_region_lin (.op 0 (.op 1 (.op 2 (.op 3 (.op 4 (.op 5 .done)))))) (by rfl) ?_
  refine wpT_valp 3 (v := .int .i64 m) rfl rfl rfl (by go_simp) ?_
  refine wpT_valp 4 (v := .int .i64 q) rfl rfl rfl (by have h := HQ1.out; have h2 := HQ0.out; go_simp) ?_
  refine wpT_valp 5 (v := .int .i64 q2) rfl rfl rfl (by have h := HQ2.out; go_simp) ?_
  refine wpT_valp 6 (v := .int .i64 q3) rfl rfl rfl (by have h := HQ3.out; go_simp) ?_
  try simp only [Act.put, List.setIfInBounds_toArray, List.set_cons_succ, List.set_cons_zero]
  refine wpT_valp 7 (v := .int .i64 (Ep.fin m)) rfl rfl rfl (by have h := HQ4.out; go_simp) ?_
  refine wpT_valp 2 (v := .int .i64 (Ep.fin m)) rfl rfl rfl (by go_simp) ?_
  dsimp only [wpT]
  try simp only [Act.put, List.setIfInBounds_toArray, List.set_cons_succ, List.set_cons_zero]
  go_wp2_with fail
  go_ret
  exact ⟨rfl, M0.end_⟩
attribute [local irreducible] ROR RSL
set_option maxRecDepth 100000 in
set_option maxHeartbeats 2000000 in
theorem rlater_c (w : World) (k : L8) (v : Value) (t now : Int) {q : Bool} (hk : k.length = 32) (hq : decide (t ≤ now ∧ 0 ≤ now ∧ now ≤ 1099511627776) = q) : Calls Tryd.prog 41 #[.agg (ROR k v t), .int .i64 now] w fun e w' => e = .returned (.bool q) ∧ Below w.heap.size w w' := by
  subst hq
  by_cases h0 : t ≤ now
  · obtain ⟨r, hr⟩ : ∃ r, decide (0 ≤ now ∧ now ≤ 1099511627776) = r := ⟨_, rfl⟩
    have HCK := hid hr
    have er : decide (t ≤ now ∧ 0 ≤ now ∧ now ≤ 1099511627776) = r := by rw [← hr]; simp [h0]
    rw [er]
    clear hr er
    have M0 := Mm.start no w
    go_enter Tryd.func41, Tryd.ntmps41
    have M2 := (M0.alloc (ROR k v t) 49 (by decide))
    try simp only [World.size_alloc] at M2
    go_upto_region 1 with fail
    obtain ⟨w1, hw1⟩ : ∃ w1, w1 = (w.alloc (.cells (ROR k v t) 49)) := ⟨_, rfl⟩
    rw [← hw1] at M2 ⊢
    clear hw1
    refine wp_region_lin (.op 0 (.op 1 (.op 2 (.op 3 (.op 4 (.op 5 (.op 6 (.op 7 (.op 8 .done))))))))) (by rfl) ?_
    refine wpT_valp 5 (v := .int .i64 now) rfl rfl rfl (by go_simp) ?_
    refine wpT_valp 6 (v := .pointer (some ⟨w.heap.size, 33, none⟩)) rfl rfl rfl (by go_simp) ?_
    refine wpT_valp 7 (v := .int .i64 t) rfl rfl rfl (by have c0 := (ror_c33 hk) (M2.row (b := w.heap.size) (c := ROR k v t) (by simp)); go_simp) ?_
    refine wpT_valp 8 (v := .bool true) rfl rfl rfl (by go_simp) ?_
    try simp only [Act.put, List.setIfInBounds_toArray, List.set_cons_succ, List.set_cons_zero]
    refine wpT_valp 9 (v := .bool true) rfl rfl rfl (by go_simp) ?_
    refine wpT_valp 10 (v := .int .i64 now) rfl rfl (by simp [Region.wanted, yielded, Act.put]) (by go_simp) ?_
    refine wpT_callv 11 M2 (v := .bool r) rfl rfl (by simp [Region.wanted, yielded, Act.put]) (by go_simp) (clock_b w1 _ HCK.out) (fun w3 M4 => ?_)
    refine wpT_valp 12 (v := .bool r) rfl rfl rfl (by go_simp) ?_
    refine wpT_valp 4 (v := .bool r) rfl rfl rfl (by go_simp) ?_
    dsimp only [wpT]
    try simp only [Act.put, List.setIfInBounds_toArray, List.set_cons_succ, List.set_cons_zero]
    go_wp2_with fail
    go_ret
    exact ⟨rfl, M4.end_⟩
  · have er : decide (t ≤ now ∧ 0 ≤ now ∧ now ≤ 1099511627776) = false := decide_eq_false fun h => h0 h.1
    rw [er]
    clear er
    have M0 := Mm.start no w
    go_enter Tryd.func41, Tryd.ntmps41
    have M2 := (M0.alloc (ROR k v t) 49 (by decide))
    try simp only [World.size_alloc] at M2
    go_upto_region 1 with fail
    obtain ⟨w1, hw1⟩ : ∃ w1, w1 = (w.alloc (.cells (ROR k v t) 49)) := ⟨_, rfl⟩
    rw [← hw1] at M2 ⊢
    clear hw1
    refine wp_region_lin (.op 0 (.op 1 (.op 2 (.op 3 (.op 4 (.op 5 (.op 6 (.op 7 (.op 8 .done))))))))) (by rfl) ?_
    refine wpT_valp 5 (v := .int .i64 now) rfl rfl rfl (by go_simp) ?_
    refine wpT_valp 6 (v := .pointer (some ⟨w.heap.size, 33, none⟩)) rfl rfl rfl (by go_simp) ?_
    refine wpT_valp 7 (v := .int .i64 t) rfl rfl rfl (by have c0 := (ror_c33 hk) (M2.row (b := w.heap.size) (c := ROR k v t) (by simp)); go_simp) ?_
    refine wpT_valp 8 (v := .bool false) rfl rfl rfl (by go_simp) ?_
    try simp only [Act.put, List.setIfInBounds_toArray, List.set_cons_succ, List.set_cons_zero]
    refine wpT_valp 9 (v := .bool false) rfl rfl rfl (by go_simp) ?_
    refine wpT_unx 10 rfl rfl (by simp [Region.wanted, yielded, Act.put]) ?_
    refine wpT_unx 11 rfl rfl (by simp [Region.wanted, yielded, Act.put]) ?_
    refine wpT_valp 12 (v := .bool false) rfl rfl rfl (by go_simp) ?_
    refine wpT_valp 4 (v := .bool false) rfl rfl rfl (by go_simp) ?_
    dsimp only [wpT]
    try simp only [Act.put, List.setIfInBounds_toArray, List.set_cons_succ, List.set_cons_zero]
    go_wp2_with fail
    go_ret
    exact ⟨rfl, M2.end_⟩
theorem xb_rsl1 (w : World) (s : Ep.Sl) (h0 : s.gen = 0) : exBuild Tryd.prog 61 #[(1, .int .i64 s.made)] w = .ok (.value (.agg (RSL s))) w := by
  unfold exBuild
  rw [run_build w 61 _ (RSL s) ?_]
  · rfl
  rw [bp_rsl, show (((Tryd.prog.info? 61).bind (·.zero)).getD undef).cells = #[.int .i64 0] ++ #[.int .i64 0] ++ #[] by kernel_rfl]
  show Instr.fill _ _ [(1, Value.int .i64 s.made)] = _
  rw [fill_one _ 1 _ #[.int .i64 0] _ _ _ (by simp [Value.cells]) (by simp [Value.cells])]
  simp only [Instr.fill, RSL, Value.cells, h0]
  refine congrArg some ?_
  apply Array.toList_inj.1
  simp
theorem rw_one2 {B gx : Nat} (s : Ep.Sl) (h : B ≤ gx) : Rw B 2 (.slice (some ⟨gx, 0, none⟩) 1 1) 1 (fl e2 [s]) gx 1 (RSL s) :=
  ⟨rfl, by decide, h, by simp, Nat.le_refl _, by unfold maxLen; decide, by rw [fl_one, List.take_of_length_le (by simp)]; rfl, one_RSL⟩
set_option maxRecDepth 100000 in
set_option maxHeartbeats 4000000 in
theorem rnew_c (w : World) (k : L8) (s1 : Ep.Sl) (hk : k.length = 32) (hg0 : s1.gen = 0) :
    Calls Tryd.prog 24 #[.agg (cs U8 k), .int .i64 s1.made] w fun e w' => ∃ v, e = .returned (.agg (ROR k v s1.made)) ∧ Ow w' w.heap.size 2 v 1 (fl e2 [s1]) ∧ Below w.heap.size w w' := by
  have M0 := Mm.start no w
  go_enter Tryd.func24, Tryd.ntmps24
  have M2 := ((M0.alloc (cs U8 k) 23 (by decide)).alloc (ROR (zs 32) (.slice none 0 0) 0) 49 (by decide))
  try simp only [World.size_alloc] at M2
  go_upto_region 1 with fail
  obtain ⟨w1, hw1⟩ : ∃ w1, w1 = ((w.alloc (.cells (cs U8 k) 23)).alloc (.cells (ROR (zs 32) (.slice none 0 0) 0) 49)) := ⟨_, rfl⟩
  rw [← hw1] at M2 ⊢
  clear hw1
  refine wp_region_lin (.op 0 (.op 1 (.op 2 (.op 3 (.op 4 (.op 5 (.op 6 .done))))))) (by rfl) ?_
  refine wpT_ld0 5 Tryd.underlying23 rfl inf_key (w.heap.size) (cs U8 k) rfl rfl rfl (by go_simp) (M2.row (b := w.heap.size) (c := cs U8 k) (by simp)) (by simp [hk, ROR_size, RSL_size, zs_len]) rfl ?_
  refine wpT_valp 6 (v := .int .i64 s1.made) rfl rfl rfl (by go_simp) ?_
  refine wpT_valL 7 (v := .agg (RSL s1)) rfl rfl rfl (by have q := xb_rsl1 w1 s1 hg0; go_simp) ?_
  refine wpT_one 8 _ M2 elt_rsl (by decide) (RSL s1) RSL_size rfl rfl rfl (by go_simp) rfl (fun gx wgx Mgx => ?_)
  try simp only [Act.put, List.setIfInBounds_toArray, List.set_cons_succ, List.set_cons_zero]
  refine wpT_valp 9 (v := .int .i64 s1.made) rfl rfl rfl (by go_simp) ?_
  refine wpT_valL 10 (v := .agg (ROR k (.slice (some ⟨gx, 0, none⟩) 1 1) s1.made)) rfl rfl rfl (by have q := xb_rrt3 wgx k (some ⟨gx, 0, none⟩) 1 1 s1.made hk; go_simp) ?_
  refine wpT_st0 Mgx 1 (ROR k (.slice (some ⟨gx, 0, none⟩) 1 1) s1.made) inf_rrt rfl rfl rfl rfl (by go_simp) (by go_simp) (by simp [hk, ROR_size, RSL_size, zs_len]) (by simp [hk, ROR_size, RSL_size, zs_len]) (by simp [go_sem]) rfl (fun w3 M4 => ?_)
  dsimp only [List.set] at M4
  dsimp only [wpT]
  try simp only [Act.put, List.setIfInBounds_toArray, List.set_cons_succ, List.set_cons_zero]
  go_wp2_with fail
  have r5 := M4.row (b := w.heap.size + 1) (c := ROR k (.slice (some ⟨gx, 0, none⟩) 1 1) s1.made) (by simp)
  refine bodyPost_ret (res_row (b := w.heap.size + 1) rfl Tryd.underlying49 rfl inf_rrt _ _ rfl (by rw [r5]; simp [hk, ROR_size, RSL_size, zs_len])) rfl ?_
  rw [r5]
  exact ⟨_, rfl, (rw_one2 s1 ((M4.own (gx, RSL s1) (by simp)).1.resolve_left (fun h => h))).ow M4 (by simp), M4.end_⟩
set_option maxRecDepth 100000 in
set_option maxHeartbeats 4000000 in
theorem rrestart_old (w : World) (k : L8) (g n c1 : Nat) (t now : Int) (hk : k.length = 32) (hno : ¬ (t ≤ now ∧ 0 ≤ now ∧ now ≤ 1099511627776)) :
    Calls Tryd.prog 25 #[.agg (ROR k (.slice (some ⟨g, 0, none⟩) n c1) t), .int .i64 now] w fun e w' => e = .returned (.tuple #[.agg (ROR k (.slice (some ⟨g, 0, none⟩) n c1) t), .int .i64 2]) ∧ Below w.heap.size w w' := by
  have HLT := hid (decide_eq_false hno)
  clear hno
  have M0 := Mm.start no w
  go_enter Tryd.func25, Tryd.ntmps25
  have M2 := ((M0.alloc (ROR k (.slice (some ⟨g, 0, none⟩) n c1) t) 49 (by decide)).alloc (ROR (zs 32) (.slice none 0 0) 0) 49 (by decide))
  try simp only [World.size_alloc] at M2
  go_upto_region 1 with fail
  obtain ⟨w1, hw1⟩ : ∃ w1, w1 = ((w.alloc (.cells (ROR k (.slice (some ⟨g, 0, none⟩) n c1) t) 49)).alloc (.cells (ROR (zs 32) (.slice none 0 0) 0) 49)) := ⟨_, rfl⟩
  rw [← hw1] at M2 ⊢
  clear hw1
  refine wp_region_lin (.op 0 (.op 1 (.op 2 (.op 3 .done)))) (by rfl) ?_
  refine wpT_ld0 6 Tryd.underlying49 rfl inf_rrt (w.heap.size) (ROR k (.slice (some ⟨g, 0, none⟩) n c1) t) rfl rfl rfl (by go_simp) (M2.row (b := w.heap.size) (c := ROR k (.slice (some ⟨g, 0, none⟩) n c1) t) (by simp)) (by simp [hk, ROR_size, RSL_size, zs_len]) rfl ?_
  refine wpT_valp 7 (v := .int .i64 now) rfl rfl rfl (by go_simp) ?_
  refine wpT_callv 8 M2 (v := .bool false) rfl rfl rfl (by go_simp) (rlater_c w1 k (.slice (some ⟨g, 0, none⟩) n c1) _ _ hk HLT.out) (fun w3 M4 => ?_)
  refine wpT_valp 9 (v := .bool true) rfl rfl rfl (by go_simp) ?_
  dsimp only [wpT]
  try simp only [Act.put, List.setIfInBounds_toArray, List.set_cons_succ, List.set_cons_zero]
  go_upto_region 2 with fail
  refine wp_region_lin (.op 0 (.op 1 (.op 2 .done))) (by rfl) ?_
  refine wpT_ld0 10 Tryd.underlying49 rfl inf_rrt (w.heap.size) (ROR k (.slice (some ⟨g, 0, none⟩) n c1) t) rfl rfl rfl (by go_simp) (M4.row (b := w.heap.size) (c := ROR k (.slice (some ⟨g, 0, none⟩) n c1) t) (by simp)) (by simp [hk, ROR_size, RSL_size, zs_len]) rfl ?_
  refine wpT_st0 M4 0 (ROR k (.slice (some ⟨g, 0, none⟩) n c1) t) inf_rrt rfl rfl rfl rfl (by go_simp) (by go_simp) (by simp [hk, ROR_size, RSL_size, zs_len]) (by simp [hk, ROR_size, RSL_size, zs_len]) (by simp [go_sem]) rfl (fun w5 M6 => ?_)
  dsimp only [List.set] at M6
  refine wpT_valp 5 (v := .int .i64 2) rfl rfl rfl (by go_simp) ?_
  dsimp only [wpT]
  try simp only [Act.put, List.setIfInBounds_toArray, List.set_cons_succ, List.set_cons_zero]
  go_wp2_with fail
  have r7 := M6.row (b := w.heap.size + 1) (c := ROR k (.slice (some ⟨g, 0, none⟩) n c1) t) (by simp)
  refine bodyPost_ret (res_two rfl (rv_row Tryd.underlying49 rfl inf_rrt (w.heap.size + 1) rfl (by rw [r7]; simp [hk, ROR_size, RSL_size, zs_len])) (rv_tmp _ _ rfl)) rfl ?_
  rw [r7]
  exact ⟨rfl, M6.end_⟩
set_option maxRecDepth 100000 in
set_option maxHeartbeats 4000000 in
theorem rrestart_c (w : World) (k : L8) (g n c1 : Nat) (L : List Ep.Sl) (t : Nat) (hV : SV w (.slice (some ⟨g, 0, none⟩) n c1) n (fl e2 L)) (a : Ep.Sl) (hL : L[0]? = some a) (hn0 : 0 < n) (s1 : Ep.Sl) (hs1 : s1.gen = a.gen + 1) (hg : a.gen ≤ 1000000) (hk : k.length = 32) (ht : t ≤ s1.made) (hm : s1.made ≤ 1099511627776) :
    Calls Tryd.prog 25 #[.agg (ROR k (.slice (some ⟨g, 0, none⟩) n c1) t), .int .i64 s1.made] w fun e w' => ∃ v, e = .returned (.tuple #[.agg (ROR k v s1.made), .int .i64 0]) ∧ Ow w' w.heap.size 2 v 1 (fl e2 [s1]) ∧ Below w.heap.size w w' := by
  have HLT := hid (show decide ((t : Int) ≤ (s1.made : Int) ∧ (0 : Int) ≤ (s1.made : Int) ∧ (s1.made : Int) ≤ 1099511627776) = true from decide_eq_true ⟨by omega, by omega, by omega⟩)
  have HG1 := hid (show IntKind.i64.wrap ((a.gen : Int) + 1) = (s1.gen : Int) by rw [i64w _ (by omega) (by omega)]; omega)
  have HC0 : Hid (∀ w', Below w.heap.size w w' → w'.cell? ⟨g, 0, none⟩ = some (.int .i64 a.gen)) := hid fun w' h => by
    have := sv_cell e2_len (SV.below hV h) hL (j := 0) (by decide)
    simp only [Nat.zero_mul, Nat.add_zero, Nat.zero_add] at this
    rw [this]; simp [e2, RSL]
  have hn1 : (0 : Int) < (n : Int) := by omega
  have hn2 : ¬ n = 0 := by omega
  clear hV hL hs1 ht
  have M0 := Mm.start no w
  go_enter Tryd.func25, Tryd.ntmps25
  have M2 := ((M0.alloc (ROR k (.slice (some ⟨g, 0, none⟩) n c1) t) 49 (by decide)).alloc (ROR (zs 32) (.slice none 0 0) 0) 49 (by decide))
  try simp only [World.size_alloc] at M2
  go_upto_region 1 with fail
  obtain ⟨w1, hw1⟩ : ∃ w1, w1 = ((w.alloc (.cells (ROR k (.slice (some ⟨g, 0, none⟩) n c1) t) 49)).alloc (.cells (ROR (zs 32) (.slice none 0 0) 0) 49)) := ⟨_, rfl⟩
  rw [← hw1] at M2 ⊢
  clear hw1
  refine wp_region_lin (.op 0 (.op 1 (.op 2 (.op 3 .done)))) (by rfl) ?_
  refine wpT_ld0 6 Tryd.underlying49 rfl inf_rrt (w.heap.size) (ROR k (.slice (some ⟨g, 0, none⟩) n c1) t) rfl rfl rfl (by go_simp) (M2.row (b := w.heap.size) (c := ROR k (.slice (some ⟨g, 0, none⟩) n c1) t) (by simp)) (by simp [hk, ROR_size, RSL_size, zs_len]) rfl ?_
  refine wpT_valp 7 (v := .int .i64 s1.made) rfl rfl rfl (by go_simp) ?_
  refine wpT_callv 8 M2 (v := .bool true) rfl rfl rfl (by go_simp) (rlater_c w1 k (.slice (some ⟨g, 0, none⟩) n c1) _ _ hk HLT.out) (fun w3 M4 => ?_)
  refine wpT_valp 9 (v := .bool false) rfl rfl rfl (by go_simp) ?_
  dsimp only [wpT]
  try simp only [Act.put, List.setIfInBounds_toArray, List.set_cons_succ, List.set_cons_zero]
  go_upto_region 3 with fail
  refine wp_region_lin (.op 0 (.op 1 (.op 2 (.op 3 (.op 4 (.op 5 (.op 6 (.op 7 (.op 8 (.op 9 (.op 10 .done))))))))))) (by rfl) ?_
  refine wpT_valp 11 (v := .pointer (some ⟨w.heap.size, 32, none⟩)) rfl rfl rfl (by go_simp) ?_
  refine wpT_valp 12 (v := .slice (some ⟨g, 0, none⟩) n c1) rfl rfl rfl (by have c0 := (ror_c32 hk) (M4.row (b := w.heap.size) (c := ROR k (.slice (some ⟨g, 0, none⟩) n c1) t) (by simp)); go_simp) ?_
  refine wpT_valp 13 (v := .pointer (some ⟨g, 0, none⟩)) rfl rfl rfl (by go_simp) ?_
  refine wpT_valp 14 (v := .pointer (some ⟨g, 0, none⟩)) rfl rfl rfl (by go_simp) ?_
  try simp only [Act.put, List.setIfInBounds_toArray, List.set_cons_succ, List.set_cons_zero]
  refine wpT_valp 15 (v := .int .i64 a.gen) rfl rfl rfl (by have c0 := HC0.out _ M4.end_; go_simp) ?_
  refine wpT_valp 16 (v := .int .i64 s1.gen) rfl rfl rfl (by have h := HG1.out; go_simp) ?_
  refine wpT_valp 17 (v := .int .i64 s1.made) rfl rfl rfl (by go_simp) ?_
  refine wpT_valL 18 (v := .agg (RSL s1)) rfl rfl rfl (by have q := xb_rsl2 w3 s1; go_simp) ?_
  refine wpT_one 19 _ M4 elt_rsl (by decide) (RSL s1) RSL_size rfl rfl rfl (by go_simp) rfl (fun gx wgx Mgx => ?_)
  try simp only [Act.put, List.setIfInBounds_toArray, List.set_cons_succ, List.set_cons_zero]
  refine wpT_valp 20 (v := .pointer (some ⟨w.heap.size, 32, none⟩)) rfl rfl rfl (by go_simp) ?_
  refine wpT_stc Mgx 2 (.slice (some ⟨gx, 0, none⟩) 1 1) (ROR k (.slice (some ⟨gx, 0, none⟩) 1 1) t) inf_slr rfl rfl rfl rfl (by go_simp) (by go_simp) (by simp [hk, ROR_size, RSL_size, zs_len]) (by simp [go_sem]) (ror_s32 hk _) rfl (fun w5 M6 => ?_)
  dsimp only [List.set] at M6
  dsimp only [wpT]
  try simp only [Act.put, List.setIfInBounds_toArray, List.set_cons_succ, List.set_cons_zero]
  go_upto_region 4 with fail
  refine wp_region_lin (.op 0 (.op 1 (.op 2 .done))) (by rfl) ?_
  refine wpT_valp 21 (v := .int .i64 s1.made) rfl rfl rfl (by go_simp) ?_
  refine wpT_valp 22 (v := .pointer (some ⟨w.heap.size, 33, none⟩)) rfl rfl rfl (by go_simp) ?_
  refine wpT_stc M6 2 (.int .i64 s1.made) (ROR k (.slice (some ⟨gx, 0, none⟩) 1 1) s1.made) inf_int rfl rfl rfl rfl (by go_simp) (by go_simp) (by simp [hk, ROR_size, RSL_size, zs_len]) (by simp [go_sem]) (ror_s33 hk _) rfl (fun w7 M8 => ?_)
  dsimp only [List.set] at M8
  dsimp only [wpT]
  try simp only [Act.put, List.setIfInBounds_toArray, List.set_cons_succ, List.set_cons_zero]
  go_upto_region 5 with fail
  refine wp_region_lin (.op 0 (.op 1 (.op 2 .done))) (by rfl) ?_
  refine wpT_ld0 23 Tryd.underlying49 rfl inf_rrt (w.heap.size) (ROR k (.slice (some ⟨gx, 0, none⟩) 1 1) s1.made) rfl rfl rfl (by go_simp) (M8.row (b := w.heap.size) (c := ROR k (.slice (some ⟨gx, 0, none⟩) 1 1) s1.made) (by simp)) (by simp [hk, ROR_size, RSL_size, zs_len]) rfl ?_
  refine wpT_st0 M8 1 (ROR k (.slice (some ⟨gx, 0, none⟩) 1 1) s1.made) inf_rrt rfl rfl rfl rfl (by go_simp) (by go_simp) (by simp [hk, ROR_size, RSL_size, zs_len]) (by simp [hk, ROR_size, RSL_size, zs_len]) (by simp [go_sem]) rfl (fun w9 M10 => ?_)
  dsimp only [List.set] at M10
  refine wpT_valp 5 (v := .int .i64 0) rfl rfl rfl (by go_simp) ?_
  dsimp only [wpT]
  try simp only [Act.put, List.setIfInBounds_toArray, List.set_cons_succ, List.set_cons_zero]
  go_wp2_with fail
  have r11 := M10.row (b := w.heap.size + 1) (c := ROR k (.slice (some ⟨gx, 0, none⟩) 1 1) s1.made) (by simp)
  refine bodyPost_ret (res_two rfl (rv_row Tryd.underlying49 rfl inf_rrt (w.heap.size + 1) rfl (by rw [r11]; simp [hk, ROR_size, RSL_size, zs_len])) (rv_tmp _ _ rfl)) rfl ?_
  rw [r11]
  exact ⟨_, rfl, (rw_one2 s1 ((M10.own (gx, RSL s1) (by simp)).1.resolve_left (fun h => h))).ow M10 (by simp), M10.end_⟩
end Go.Proofs.YtgclegdgngldoaaDoor
