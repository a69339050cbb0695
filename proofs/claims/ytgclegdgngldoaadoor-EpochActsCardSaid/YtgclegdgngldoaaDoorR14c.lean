/-
  The reference of law 14: Tick; own work.
-/
import Derived.Test.YtgclegdgngldoaaDoorR14a
import Derived.Test.YtgclegdgngldoaaDoorXtra
set_option linter.unusedSimpArgs false
set_option linter.unusedVariables false
namespace Go.Proofs.YtgclegdgngldoaaDoor
open Go.RowKit Fp
theorem end_y (w : World) {m f : Nat} (hm : m ≤ 1099511627776) (hf : Ep.fin m = f) : Calls Tryd.prog 44 #[.int .i64 m] w fun e w' => e = .returned (.int .i64 f) ∧ Below w.heap.size w w' := by
  rw [← hf]; exact end_c w m hm
theorem grow_le (L : List Ep.Sl) (now : Nat) : (Ep.grow L now).length ≤ L.length + 1 := by
  cases L with
  | nil => simp [Ep.grow]
  | cons b r => simp only [Ep.grow]; split <;> simp
theorem e2_0 (s : Ep.Sl) : (e2 s)[0]? = some (.int .i64 s.gen) := by simp [e2, RSL]
theorem e2_1 (s : Ep.Sl) : (e2 s)[1]? = some (.int .i64 s.made) := by simp [e2, RSL]
theorem cell_at {w : World} {g i : Nat} {cur : Array Value} {x : Value} (h : w.rowOf g = cur) (hc : cur[i]? = some x) : w.cell? ⟨g, i, none⟩ = some x := by rw [cell_rowOf, h, hc]
attribute [local irreducible] ROR RSL
set_option maxRecDepth 100000 in
set_option maxHeartbeats 4000000 in
theorem rtick_old (w : World) (k : L8) (g n c1 : Nat) (t now : Int) (hk : k.length = 32) (hno : ¬ (t ≤ now ∧ 0 ≤ now ∧ now ≤ 1099511627776)) :
    Calls Tryd.prog 27 #[.agg (ROR k (.slice (some ⟨g, 0, none⟩) n c1) t), .int .i64 now] w fun e w' => e = .returned (.tuple #[.agg (ROR k (.slice (some ⟨g, 0, none⟩) n c1) t), .int .i64 0]) ∧ Below w.heap.size w w' := by
  have HLT := hid (decide_eq_false hno)
  clear hno
  have M0 := Mm.start no w
  go_enter Tryd.func27, Tryd.ntmps27
  have M2 := ((M0.alloc (ROR k (.slice (some ⟨g, 0, none⟩) n c1) t) 49 (by decide)).alloc (ROR (zs 32) (.slice none 0 0) 0) 49 (by decide))
  try simp only [World.size_alloc] at M2
  go_upto_region 1 with fail
  obtain ⟨w1, hw1⟩ : ∃ w1, w1 = ((w.alloc (.cells (ROR k (.slice (some ⟨g, 0, none⟩) n c1) t) 49)).alloc (.cells (ROR (zs 32) (.slice none 0 0) 0) 49)) := ⟨_, rfl⟩
  rw [← hw1] at M2 ⊢
  clear hw1
  refine wp_region_lin (.op 0 (.op 1 (.op 2 (.op 3 .done)))) (by rfl) ?_
  refine wpT_ld0 8 Tryd.underlying49 rfl inf_rrt (w.heap.size) (ROR k (.slice (some ⟨g, 0, none⟩) n c1) t) rfl rfl rfl (by go_simp) (M2.row (b := w.heap.size) (c := ROR k (.slice (some ⟨g, 0, none⟩) n c1) t) (by simp)) (by simp [hk, ROR_size, RSL_size, zs_len]) rfl ?_
  refine wpT_valp 9 (v := .int .i64 now) rfl rfl rfl (by go_simp) ?_
  refine wpT_callv 10 M2 (v := .bool false) rfl rfl rfl (by go_simp) (rlater_c w1 k (.slice (some ⟨g, 0, none⟩) n c1) _ _ hk HLT.out) (fun w3 M4 => ?_)
  refine wpT_valp 11 (v := .bool true) rfl rfl rfl (by go_simp) ?_
  dsimp only [wpT]
  try simp only [Act.put, List.setIfInBounds_toArray, List.set_cons_succ, List.set_cons_zero]
  go_upto_region 2 with fail
  refine wp_region_lin (.op 0 (.op 1 (.op 2 .done))) (by rfl) ?_
  refine wpT_ld0 12 Tryd.underlying49 rfl inf_rrt (w.heap.size) (ROR k (.slice (some ⟨g, 0, none⟩) n c1) t) rfl rfl rfl (by go_simp) (M4.row (b := w.heap.size) (c := ROR k (.slice (some ⟨g, 0, none⟩) n c1) t) (by simp)) (by simp [hk, ROR_size, RSL_size, zs_len]) rfl ?_
  refine wpT_st0 M4 0 (ROR k (.slice (some ⟨g, 0, none⟩) n c1) t) inf_rrt rfl rfl rfl rfl (by go_simp) (by go_simp) (by simp [hk, ROR_size, RSL_size, zs_len]) (by simp [hk, ROR_size, RSL_size, zs_len]) (by simp [go_sem]) rfl (fun w5 M6 => ?_)
  dsimp only [List.set] at M6
  refine wpT_valp 5 (v := .int .i64 0) rfl rfl rfl (by go_simp) ?_
  dsimp only [wpT]
  try simp only [Act.put, List.setIfInBounds_toArray, List.set_cons_succ, List.set_cons_zero]
  go_wp2_with fail
  have r7 := M6.row (b := w.heap.size + 1) (c := ROR k (.slice (some ⟨g, 0, none⟩) n c1) t) (by simp)
  refine bodyPost_ret (res_two rfl (rv_row Tryd.underlying49 rfl inf_rrt (w.heap.size + 1) rfl (by rw [r7]; simp [hk, ROR_size, RSL_size, zs_len])) (rv_tmp _ _ rfl)) rfl ?_
  rw [r7]
  exact ⟨rfl, M6.end_⟩
set_option maxRecDepth 100000 in
set_option maxHeartbeats 8000000 in
theorem rtick_c (w : World) (k : L8) (g n c1 : Nat) (L : List Ep.Sl) (t : Nat) (hV : SV w (.slice (some ⟨g, 0, none⟩) n c1) n (fl e2 L)) (hn : L.length = n) (a : Ep.Sl) (hL : L[0]? = some a) (h9 : n ≤ 800) (now : Nat) (hg : a.gen ≤ 1000000) (hmd : ∀ s ∈ L, s.made ≤ 1099511627776) (hk : k.length = 32) (ht : t ≤ now) (hm : now ≤ 1099511627776)
    {L' : List Ep.Sl} {n3 : Nat} (hL' : Ep.tick L now = L') (hn' : L'.length = n3) (hn3 : 0 < n3) (sl : Ep.Sl) (hsl : L'[n3 - 1]? = some sl) :
    Calls Tryd.prog 27 #[.agg (ROR k (.slice (some ⟨g, 0, none⟩) n c1) t), .int .i64 now] w fun e w' => ∃ v, e = .returned (.tuple #[.agg (ROR k v now), .int .i64 sl.gen]) ∧ Ow w' w.heap.size 2 v n3 (fl e2 L') ∧ Below w.heap.size w w' := by
  obtain ⟨s1, hs1g, hs1m⟩ : ∃ s : Ep.Sl, s.gen = a.gen + 1 ∧ s.made = now := ⟨⟨a.gen + 1, now⟩, rfl, rfl⟩
  subst hs1m
  have hs1 : (⟨a.gen + 1, s1.made⟩ : Ep.Sl) = s1 := by rw [← hs1g]
  have HLT := hid (show decide ((t : Int) ≤ (s1.made : Int) ∧ (0 : Int) ≤ (s1.made : Int) ∧ (s1.made : Int) ≤ 1099511627776) = true from decide_eq_true ⟨by omega, by omega, by omega⟩)
  have HG1 := hid (show IntKind.i64.wrap ((a.gen : Int) + 1) = (s1.gen : Int) by rw [i64w _ (by omega) (by omega)]; omega)
  have HC0 : Hid (∀ w', Below w.heap.size w w' → w'.cell? ⟨g, 0, none⟩ = some (.int .i64 a.gen)) := hid fun w' h => by
    have := sv_cell e2_len (SV.below hV h) hL (j := 0) (by decide)
    simp only [Nat.zero_mul, Nat.add_zero, Nat.zero_add] at this
    rw [this]; simp [e2, RSL]
  have HC1 : Hid (∀ w', Below w.heap.size w w' → w'.cell? ⟨g, 1, none⟩ = some (.int .i64 a.made)) := hid fun w' h => by
    have := sv_cell e2_len (SV.below hV h) hL (j := 1) (by decide)
    simp only [Nat.zero_mul, Nat.add_zero, Nat.zero_add] at this
    rw [this]; simp [e2, RSL]
  have hn0 : 0 < n := by have := (List.getElem?_eq_some_iff.1 hL).1; omega
  have hn1 : (0 : Int) < (n : Int) := by omega
  have hn2 : ¬ n = 0 := by omega
  have ham := hmd a (List.mem_of_getElem? hL)
  obtain ⟨q1, hq1⟩ : ∃ q, q = s1.made / 1024 := ⟨_, rfl⟩
  obtain ⟨q2, hq2⟩ : ∃ q, q = a.made / 1024 := ⟨_, rfl⟩
  have HQ1 := hid (show IntKind.i64.wrap ((s1.made : Int) / 1024) = (q1 : Int) by rw [i64w _ (by omega) (by omega)]; omega)
  have HQ2 := hid (show IntKind.i64.wrap ((a.made : Int) / 1024) = (q2 : Int) by rw [i64w _ (by omega) (by omega)]; omega)
  obtain ⟨m3, hm3⟩ : ∃ m, m = n3 - 1 := ⟨_, rfl⟩
  have hn3b : n3 ≤ 900 := by
    rw [← hn', ← hL', Ep.tick]
    refine Nat.le_trans (List.length_filter_le _ _) ?_
    have := grow_le L s1.made
    omega
  have HM3 := hid (show IntKind.i64.wrap ((n3 : Int) - 1) = (m3 : Int) by rw [i64w _ (by omega) (by omega)]; omega)
  rw [← hm3] at hsl
  have HSL := hid hsl
  have HT3 := hid hn'
  have HN := hid hn
  have HV := hid hV
  have HMD := hid hmd
  have hlv1 : Ep.live s1.made s1 = true := by unfold Ep.live Ep.fin; simp only [decide_eq_true_eq]; omega
  have hm3l : m3 < n3 := by omega
  by_cases hgr : a.made / 1024 < s1.made / 1024
  · obtain ⟨A, hA⟩ : ∃ A, A = [s1] := ⟨_, rfl⟩
    have HA := hid hA
    have HTI : Hid (A ++ L.filter (Ep.live s1.made) = L') := hid (by
      rw [← hL', hA]
      cases L with
      | nil => simp at hL
      | cons b r =>
        simp at hL; subst hL
        simp [Ep.tick, Ep.grow, hgr, hs1, hlv1])
    have HAL : Hid (A.length ≤ 1) := hid (by rw [hA]; simp)
    have hqq : (q2 : Int) < (q1 : Int) := by omega
    clear hV hL hs1 hs1g ht hgr hA hq1 hq2 hL' hn' hsl hn hmd hm3 hlv1
    have M0 := Mm.start no w
    go_enter Tryd.func27, Tryd.ntmps27
    have M2 := ((M0.alloc (ROR k (.slice (some ⟨g, 0, none⟩) n c1) t) 49 (by decide)).alloc (ROR (zs 32) (.slice none 0 0) 0) 49 (by decide))
    try simp only [World.size_alloc] at M2
    go_upto_region 1 with fail
    obtain ⟨w1, hw1⟩ : ∃ w1, w1 = ((w.alloc (.cells (ROR k (.slice (some ⟨g, 0, none⟩) n c1) t) 49)).alloc (.cells (ROR (zs 32) (.slice none 0 0) 0) 49)) := ⟨_, rfl⟩
    rw [← hw1] at M2 ⊢
    clear hw1
    refine wp_region_lin (.op 0 (.op 1 (.op 2 (.op 3 .done)))) (by rfl) ?_
    refine wpT_ld0 8 Tryd.underlying49 rfl inf_rrt (w.heap.size) (ROR k (.slice (some ⟨g, 0, none⟩) n c1) t) rfl rfl rfl (by go_simp) (M2.row (b := w.heap.size) (c := ROR k (.slice (some ⟨g, 0, none⟩) n c1) t) (by simp)) (by simp [hk, ROR_size, RSL_size, zs_len]) rfl ?_
    refine wpT_valp 9 (v := .int .i64 s1.made) rfl rfl rfl (by go_simp) ?_
    refine wpT_callv 10 M2 (v := .bool true) rfl rfl rfl (by go_simp) (rlater_c w1 k (.slice (some ⟨g, 0, none⟩) n c1) _ _ hk HLT.out) (fun w3 M4 => ?_)
    refine wpT_valp 11 (v := .bool false) rfl rfl rfl (by go_simp) ?_
    dsimp only [wpT]
    try simp only [Act.put, List.setIfInBounds_toArray, List.set_cons_succ, List.set_cons_zero]
    go_upto_region 3 with fail
    refine wp_region_lin (.op 0 (.op 1 (.op 2 .done))) (by rfl) ?_
    refine wpT_valp 13 (v := .int .i64 s1.made) rfl rfl rfl (by go_simp) ?_
    refine wpT_valp 14 (v := .pointer (some ⟨w.heap.size, 33, none⟩)) rfl rfl rfl (by go_simp) ?_
    refine wpT_stc M4 1 (.int .i64 s1.made) (ROR k (.slice (some ⟨g, 0, none⟩) n c1) s1.made) inf_int rfl rfl rfl rfl (by go_simp) (by go_simp) (by simp [hk, ROR_size, RSL_size, zs_len]) (by simp [go_sem]) (ror_s33 hk _) rfl (fun w5 M6 => ?_)
    dsimp only [List.set] at M6
    dsimp only [wpT]
    try simp only [Act.put, List.setIfInBounds_toArray, List.set_cons_succ, List.set_cons_zero]
    go_upto_region 4 with fail
    refine wp_region_lin (.op 0 .done) (by rfl) ?_
    refine wpT_valp 6 (v := .slice none 0 0) rfl rfl rfl (by go_simp) ?_
    dsimp only [wpT]
    try simp only [Act.put, List.setIfInBounds_toArray, List.set_cons_succ, List.set_cons_zero]
    go_upto_region 5 with fail
    refine wp_region_lin (.op 0 (.op 1 (.op 2 (.op 3 (.op 4 (.op 5 (.op 6 (.op 7 (.op 8 .done))))))))) (by rfl) ?_
    refine wpT_valp 15 (v := .int .i64 s1.made) rfl rfl rfl (by go_simp) ?_
    refine wpT_valp 16 (v := .int .i64 q1) rfl rfl rfl (by have h := HQ1.out; go_simp) ?_
    refine wpT_valp 17 (v := .pointer (some ⟨w.heap.size, 32, none⟩)) rfl rfl rfl (by go_simp) ?_
    refine wpT_valp 18 (v := .slice (some ⟨g, 0, none⟩) n c1) rfl rfl rfl (by have c0 := (ror_c32 hk) (M6.row (b := w.heap.size) (c := ROR k (.slice (some ⟨g, 0, none⟩) n c1) s1.made) (by simp)); go_simp) ?_
    try simp only [Act.put, List.setIfInBounds_toArray, List.set_cons_succ, List.set_cons_zero]
    refine wpT_valp 19 (v := .pointer (some ⟨g, 0, none⟩)) rfl rfl rfl (by go_simp) ?_
    refine wpT_valp 20 (v := .pointer (some ⟨g, 1, none⟩)) rfl rfl rfl (by go_simp) ?_
    refine wpT_valp 21 (v := .int .i64 a.made) rfl rfl rfl (by have c0 := HC1.out _ M6.end_; go_simp) ?_
    refine wpT_valp 22 (v := .int .i64 q2) rfl rfl rfl (by have h := HQ2.out; go_simp) ?_
    refine wpT_valp 23 (v := .bool true) rfl rfl rfl (by go_simp) ?_
    dsimp only [wpT]
    try simp only [Act.put, List.setIfInBounds_toArray, List.set_cons_succ, List.set_cons_zero]
    go_upto_region 6 with fail
    refine wp_region_lin (.op 0 (.op 1 (.op 2 (.op 3 (.op 4 (.op 5 (.op 6 (.op 7 (.op 8 (.op 9 (.op 10 (.op 11 .done)))))))))))) (by rfl) ?_
    refine wpT_valp 24 (v := .slice none 0 0) rfl rfl rfl (by go_simp) ?_
    refine wpT_valp 25 (v := .pointer (some ⟨w.heap.size, 32, none⟩)) rfl rfl rfl (by go_simp) ?_
    refine wpT_valp 26 (v := .slice (some ⟨g, 0, none⟩) n c1) rfl rfl rfl (by have c0 := (ror_c32 hk) (M6.row (b := w.heap.size) (c := ROR k (.slice (some ⟨g, 0, none⟩) n c1) s1.made) (by simp)); go_simp) ?_
    refine wpT_valp 27 (v := .pointer (some ⟨g, 0, none⟩)) rfl rfl rfl (by go_simp) ?_
    try simp only [Act.put, List.setIfInBounds_toArray, List.set_cons_succ, List.set_cons_zero]
    refine wpT_valp 28 (v := .pointer (some ⟨g, 0, none⟩)) rfl rfl rfl (by go_simp) ?_
    refine wpT_valp 29 (v := .int .i64 a.gen) rfl rfl rfl (by have c0 := HC0.out _ M6.end_; go_simp) ?_
    refine wpT_valp 30 (v := .int .i64 s1.gen) rfl rfl rfl (by have h := HG1.out; go_simp) ?_
    refine wpT_valp 31 (v := .int .i64 s1.made) rfl rfl rfl (by go_simp) ?_
    refine wpT_valL 32 (v := .agg (RSL s1)) rfl rfl rfl (by have q := xb_rsl2 w5 s1; go_simp) ?_
    try simp only [Act.put, List.setIfInBounds_toArray, List.set_cons_succ, List.set_cons_zero]
    refine wpT_one 33 _ M6 elt_rsl (by decide) (RSL s1) RSL_size rfl rfl rfl (by go_simp) rfl (fun gx wgx Mgx => ?_)
    have MZ := Mgx
    have hzb := Mgx.lt (b := w.heap.size + 1) (c := ROR (zs 32) (.slice none 0 0) 0) (by simp)
    have hOx := Ow.nil wgx (w.heap.size + 2) 2 none
    refine wpT_gapp 34 _ _ (MZ.sub (H' := [(w.heap.size + 1, ROR (zs 32) (.slice none 0 0) 0), (w.heap.size, ROR k (.slice (some ⟨g, 0, none⟩) n c1) s1.made)]) (by simp)) elt_rsl (.slice none 0 0) (.slice (some ⟨gx, 0, none⟩) 1 1) 0 1 ([]) (e2 s1) rfl rfl rfl rfl (by go_simp) hOx (by go_simp) (sv_row (Mgx.row (b := gx) (c := RSL s1) (by simp)) (by unfold maxLen; decide)) (e2_len s1) one_RSL (by omega) (by omega) (fun x hx => ⟨.inr (by have h1 := (hOx.at_ x hx).1; omega), fun p hp e => by
      have h1 := (hOx.at_ x hx).1
      simp only [List.mem_cons, List.not_mem_nil, or_false] at hp
      rcases hp with rfl | rfl <;> (dsimp only at e; omega)⟩) (fun u0 wO0 O0 MO0 _ _ => ?_)
    refine wpT_valp 6 (v := u0) rfl rfl rfl (by go_simp) ?_
    dsimp only [wpT]
    try simp only [Act.put, List.setIfInBounds_toArray, List.set_cons_succ, List.set_cons_zero]
    go_upto_region 7 with fail
    refine wp_region_lin (.op 0 .done) (by rfl) ?_
    refine wpT_valp 7 (v := .int .i64 0) rfl rfl rfl (by go_simp) ?_
    dsimp only [wpT]
    try simp only [Act.put, List.setIfInBounds_toArray, List.set_cons_succ, List.set_cons_zero]
    go_wp2_with fail
    obtain ⟨u6, w6, hu6, hw6, OI, MI⟩ : ∃ (u : Value) (w6 : World), u = u0 ∧ w6 = wO0 ∧ Ow w6 (w.heap.size + 2) 2 u A.length (fl e2 A) ∧ Mm no w [(w.heap.size + 1, ROR (zs 32) (.slice none 0 0) 0), (w.heap.size, ROR k (.slice (some ⟨g, 0, none⟩) n c1) s1.made)] w6 := ⟨_, _, rfl, rfl, by rw [HA.out]; exact (by rw [fl_one]; exact O0), MO0⟩
    rw [← hu6, ← hw6]
    clear hu6 hw6
    go_loopw [6, 7] (fun u6 x wr => ∃ (i m : Nat), i ≤ n ∧ x = .int .i64 i ∧ (A ++ (L.take i).filter (Ep.live s1.made)).length = m ∧ Ow wr (w.heap.size + 2) 2 u6 m (fl e2 (A ++ (L.take i).filter (Ep.live s1.made))) ∧ Mm no w [(w.heap.size + 1, ROR (zs 32) (.slice none 0 0) 0), (w.heap.size, ROR k (.slice (some ⟨g, 0, none⟩) n c1) s1.made)] wr) (fun _ x _ => n - (intOf x).toNat)
    case atStart => exact ⟨0, A.length, by omega, rfl, by simp, by simpa using OI, MI⟩
    case round =>
      clear MI OI
      obtain ⟨i, m, hi, rfl, hm, OU, M⟩ := hrel
      by_cases hin : i < n
      · have hlt : (i : Int) < (n : Int) := by omega
        have hi0 : (0 : Int) ≤ (i : Int) := by omega
        obtain ⟨s, hs⟩ : ∃ s, L[i]? = some s := ⟨_, List.getElem?_eq_getElem (by have := HN.out; omega)⟩
        have HCM : Hid (∀ w', Below w.heap.size w w' → w'.cell? ⟨g, i * 2 + 1, none⟩ = some (.int .i64 s.made)) := hid fun w' h => by
          have := sv_cell e2_len (SV.below HV.out h) hs (j := 1) (by decide)
          rw [Nat.zero_add] at this
          rw [this]; simp [e2, RSL]
        have HEL : Hid (∀ w', Below w.heap.size w w' → exLoad Tryd.prog 61 (.pointer (some ⟨g, i * 2, none⟩)) w' = .ok (.value (.agg (RSL s))) w') := hid fun w' h => by
          have := sv_load e2_len Tryd.underlying61 rfl inf_rsl (by decide) (SV.below HV.out h) hs (RSL s) rfl
          rw [Nat.zero_add] at this; exact this
        have HSM := hid (HMD.out s (List.mem_of_getElem? hs))
        obtain ⟨fs, hfs⟩ : ∃ f, Ep.fin s.made = f := ⟨_, rfl⟩
        have HFS := hid hfs
        have hmb : m ≤ 900 := by
          have h1 := HAL.out
          have h2 := List.length_filter_le (Ep.live s1.made) (L.take i)
          rw [List.length_append] at hm
          rw [List.length_take] at h2
          have := HN.out
          omega
        have HTK : Hid (∀ b, Ep.live s1.made s = b → A ++ (L.take (i + 1)).filter (Ep.live s1.made) = A ++ (L.take i).filter (Ep.live s1.made) ++ (if b then [s] else [])) := hid fun b hb => by
          rw [ki_take hs, List.filter_append, ← List.append_assoc, List.filter_cons, hb, List.filter_nil]
        have HMM := hid hm
        obtain ⟨S1, MR, hS1, hT1⟩ := M.rebase
        have M := MR
        have HOM : Hid (∀ H' w', Mm S1 wr H' w' → Ow w' (w.heap.size + 2) 2 u6 m (fl e2 (A ++ (L.take i).filter (Ep.live s1.made)))) := hid fun H' w' N => OU.fr N.fr (fun x hx h => by
          have h1 := hS1 x h
          have h2 := (OU.at_ x hx).1
          simp only [List.map_cons, List.map_nil, List.mem_cons, List.not_mem_nil, or_false] at h1
          rcases h1 with h1 | h1 <;> omega)
        clear hs hm hfs MR hS1 OU
        by_cases hlv : s1.made < fs
        · have HLV := hid (HTK.out true (by unfold Ep.live; rw [HFS.out]; exact decide_eq_true hlv))
          have hlz : (s1.made : Int) < (fs : Int) := by omega
          clear hlv
          go_upto_region 8 with fail
          refine wp_region_lin (.op 0 (.op 1 (.op 2 (.op 3 (.op 4 .done))))) (by rfl) ?_
          refine wpT_valp 35 (v := .int .i64 i) rfl rfl rfl (by go_simp) ?_
          refine wpT_valp 36 (v := .pointer (some ⟨w.heap.size, 32, none⟩)) rfl rfl rfl (by go_simp) ?_
          refine wpT_valp 37 (v := .slice (some ⟨g, 0, none⟩) n c1) rfl rfl rfl (by have c0 := (ror_c32 hk) (M.row (b := w.heap.size) (c := ROR k (.slice (some ⟨g, 0, none⟩) n c1) s1.made) (by simp)); go_simp) ?_
          refine wpT_valp 38 (v := .int .i64 n) rfl rfl rfl (by go_simp) ?_
          try simp only [Act.put, List.setIfInBounds_toArray, List.set_cons_succ, List.set_cons_zero]
          refine wpT_valp 39 (v := .bool true) rfl rfl rfl (by go_simp) ?_
          dsimp only [wpT]
          try simp only [Act.put, List.setIfInBounds_toArray, List.set_cons_succ, List.set_cons_zero]
          go_upto_region 10 with fail
          refine wp_region_lin (.op 0 (.op 1 (.op 2 (.op 3 (.op 4 (.op 5 (.op 6 (.op 7 (.op 8 .done))))))))) (by rfl) ?_
          refine wpT_valp 42 (v := .int .i64 s1.made) rfl rfl rfl (by go_simp) ?_
          refine wpT_valp 43 (v := .pointer (some ⟨w.heap.size, 32, none⟩)) rfl rfl rfl (by go_simp) ?_
          refine wpT_valp 44 (v := .slice (some ⟨g, 0, none⟩) n c1) rfl rfl rfl (by have c0 := (ror_c32 hk) (M.row (b := w.heap.size) (c := ROR k (.slice (some ⟨g, 0, none⟩) n c1) s1.made) (by simp)); go_simp) ?_
          refine wpT_valp 45 (v := .int .i64 i) rfl rfl rfl (by go_simp) ?_
          try simp only [Act.put, List.setIfInBounds_toArray, List.set_cons_succ, List.set_cons_zero]
          refine wpT_valp 46 (v := .pointer (some ⟨g, i * 2, none⟩)) rfl rfl rfl (by go_simp) ?_
          refine wpT_valp 47 (v := .pointer (some ⟨g, i * 2 + 1, none⟩)) rfl rfl rfl (by go_simp) ?_
          refine wpT_valp 48 (v := .int .i64 s.made) rfl rfl rfl (by have c0 := HCM.out _ (hT1 _ _ M).end_; go_simp) ?_
          refine wpT_callv 49 M (v := .int .i64 fs) rfl rfl rfl (by go_simp) (end_y wr HSM.out HFS.out) (fun w1 M2 => ?_)
          refine wpT_valp 50 (v := .bool true) rfl rfl rfl (by go_simp) ?_
          dsimp only [wpT]
          try simp only [Act.put, List.setIfInBounds_toArray, List.set_cons_succ, List.set_cons_zero]
          go_upto_region 11 with fail
          refine wp_region_lin (.op 0 (.op 1 (.op 2 (.op 3 (.op 4 (.op 5 (.op 6 (.op 7 (.op 8 .done))))))))) (by rfl) ?_
          refine wpT_valp 51 (v := u6) rfl rfl rfl (by go_simp) ?_
          refine wpT_valp 52 (v := .pointer (some ⟨w.heap.size, 32, none⟩)) rfl rfl rfl (by go_simp) ?_
          refine wpT_valp 53 (v := .slice (some ⟨g, 0, none⟩) n c1) rfl rfl rfl (by have c0 := (ror_c32 hk) (M2.row (b := w.heap.size) (c := ROR k (.slice (some ⟨g, 0, none⟩) n c1) s1.made) (by simp)); go_simp) ?_
          refine wpT_valp 54 (v := .int .i64 i) rfl rfl rfl (by go_simp) ?_
          try simp only [Act.put, List.setIfInBounds_toArray, List.set_cons_succ, List.set_cons_zero]
          refine wpT_valp 55 (v := .pointer (some ⟨g, i * 2, none⟩)) rfl rfl rfl (by go_simp) ?_
          refine wpT_ldy 56 (.pointer (some ⟨g, i * 2, none⟩)) (.agg (RSL s)) rfl rfl rfl (by go_simp) (HEL.out _ (hT1 _ _ M2).end_) rfl ?_
          refine wpT_one 57 _ M2 elt_rsl (by decide) (RSL s) RSL_size rfl rfl rfl (by go_simp) rfl (fun gx wgx Mgx => ?_)
          have MZ := hT1 _ _ Mgx
          have hzb := Mgx.lt (b := w.heap.size + 1) (c := ROR (zs 32) (.slice none 0 0) 0) (by simp)
          have hOx := HOM.out _ _ Mgx
          refine wpT_gapp 58 _ _ (MZ.sub (H' := [(w.heap.size + 1, ROR (zs 32) (.slice none 0 0) 0), (w.heap.size, ROR k (.slice (some ⟨g, 0, none⟩) n c1) s1.made)]) (by simp)) elt_rsl (u6) (.slice (some ⟨gx, 0, none⟩) 1 1) m 1 (fl e2 (A ++ (L.take i).filter (Ep.live s1.made))) (e2 s) rfl rfl rfl rfl (by go_simp) hOx (by go_simp) (sv_row (Mgx.row (b := gx) (c := RSL s) (by simp)) (by unfold maxLen; decide)) (e2_len s) one_RSL (by omega) (by omega) (fun x hx => ⟨.inr (by have h1 := (hOx.at_ x hx).1; omega), fun p hp e => by
            have h1 := (hOx.at_ x hx).1
            simp only [List.mem_cons, List.not_mem_nil, or_false] at hp
            rcases hp with rfl | rfl <;> (dsimp only at e; omega)⟩) (fun uy wOy Oy MOy _ _ => ?_)
          refine wpT_valp 6 (v := uy) rfl rfl rfl (by go_simp) ?_
          dsimp only [wpT]
          try simp only [Act.put, List.setIfInBounds_toArray, List.set_cons_succ, List.set_cons_zero]
          go_wp2_with fail
          go_roundw
          case rel => exact ⟨i + 1, m + 1, by omega, by simp, by rw [HLV.out, List.length_append, HMM.out]; rfl, by rw [HLV.out, if_pos rfl, fl_append, fl_one]; exact Oy, MOy⟩
          case measure => simp only [intOf]; omega
        · have HLV := hid (HTK.out false (by unfold Ep.live; rw [HFS.out]; exact decide_eq_false hlv))
          have hlz : ¬ (s1.made : Int) < (fs : Int) := by omega
          clear hlv
          go_upto_region 8 with fail
          refine wp_region_lin (.op 0 (.op 1 (.op 2 (.op 3 (.op 4 .done))))) (by rfl) ?_
          refine wpT_valp 35 (v := .int .i64 i) rfl rfl rfl (by go_simp) ?_
          refine wpT_valp 36 (v := .pointer (some ⟨w.heap.size, 32, none⟩)) rfl rfl rfl (by go_simp) ?_
          refine wpT_valp 37 (v := .slice (some ⟨g, 0, none⟩) n c1) rfl rfl rfl (by have c0 := (ror_c32 hk) (M.row (b := w.heap.size) (c := ROR k (.slice (some ⟨g, 0, none⟩) n c1) s1.made) (by simp)); go_simp) ?_
          refine wpT_valp 38 (v := .int .i64 n) rfl rfl rfl (by go_simp) ?_
          try simp only [Act.put, List.setIfInBounds_toArray, List.set_cons_succ, List.set_cons_zero]
          refine wpT_valp 39 (v := .bool true) rfl rfl rfl (by go_simp) ?_
          dsimp only [wpT]
          try simp only [Act.put, List.setIfInBounds_toArray, List.set_cons_succ, List.set_cons_zero]
          go_upto_region 10 with fail
          refine wp_region_lin (.op 0 (.op 1 (.op 2 (.op 3 (.op 4 (.op 5 (.op 6 (.op 7 (.op 8 .done))))))))) (by rfl) ?_
          refine wpT_valp 42 (v := .int .i64 s1.made) rfl rfl rfl (by go_simp) ?_
          refine wpT_valp 43 (v := .pointer (some ⟨w.heap.size, 32, none⟩)) rfl rfl rfl (by go_simp) ?_
          refine wpT_valp 44 (v := .slice (some ⟨g, 0, none⟩) n c1) rfl rfl rfl (by have c0 := (ror_c32 hk) (M.row (b := w.heap.size) (c := ROR k (.slice (some ⟨g, 0, none⟩) n c1) s1.made) (by simp)); go_simp) ?_
          refine wpT_valp 45 (v := .int .i64 i) rfl rfl rfl (by go_simp) ?_
          try simp only [Act.put, List.setIfInBounds_toArray, List.set_cons_succ, List.set_cons_zero]
          refine wpT_valp 46 (v := .pointer (some ⟨g, i * 2, none⟩)) rfl rfl rfl (by go_simp) ?_
          refine wpT_valp 47 (v := .pointer (some ⟨g, i * 2 + 1, none⟩)) rfl rfl rfl (by go_simp) ?_
          refine wpT_valp 48 (v := .int .i64 s.made) rfl rfl rfl (by have c0 := HCM.out _ (hT1 _ _ M).end_; go_simp) ?_
          refine wpT_callv 49 M (v := .int .i64 fs) rfl rfl rfl (by go_simp) (end_y wr HSM.out HFS.out) (fun w1 M2 => ?_)
          refine wpT_valp 50 (v := .bool false) rfl rfl rfl (by go_simp) ?_
          dsimp only [wpT]
          try simp only [Act.put, List.setIfInBounds_toArray, List.set_cons_succ, List.set_cons_zero]
          go_wp2_with fail
          go_roundw
          case rel => exact ⟨i + 1, m, by omega, by simp, by rw [HLV.out, if_neg (by decide), List.append_nil, HMM.out], by rw [HLV.out, if_neg (by decide), List.append_nil]; exact HOM.out _ _ M2, hT1 _ _ M2⟩
          case measure => simp only [intOf]; omega
      · obtain rfl : n = i := by omega
        rw [List.take_of_length_le (by have := HN.out; omega), HTI.out] at OU hm
        rw [← hm, HT3.out] at OU
        clear hm
        obtain ⟨g3, c3, cur3, R3, M3⟩ := M.reown OU hn3 (fun x hx => ⟨.inr (by have := (OU.at_ x hx).1; omega), fun p hp e => by
          have h1 := (OU.at_ x hx).1
          simp only [List.mem_cons, List.not_mem_nil, or_false] at hp
          rcases hp with rfl | rfl <;> (dsimp only at e; omega)⟩)
        obtain rfl := R3.v
        clear OU M
        go_upto_region 8 with fail
        refine wp_region_lin (.op 0 (.op 1 (.op 2 (.op 3 (.op 4 .done))))) (by rfl) ?_
        refine wpT_valp 35 (v := .int .i64 n) rfl rfl rfl (by go_simp) ?_
        refine wpT_valp 36 (v := .pointer (some ⟨w.heap.size, 32, none⟩)) rfl rfl rfl (by go_simp) ?_
        refine wpT_valp 37 (v := .slice (some ⟨g, 0, none⟩) n c1) rfl rfl rfl (by have c0 := (ror_c32 hk) (M3.row (b := w.heap.size) (c := ROR k (.slice (some ⟨g, 0, none⟩) n c1) s1.made) (by simp)); go_simp) ?_
        refine wpT_valp 38 (v := .int .i64 n) rfl rfl rfl (by go_simp) ?_
        try simp only [Act.put, List.setIfInBounds_toArray, List.set_cons_succ, List.set_cons_zero]
        refine wpT_valp 39 (v := .bool false) rfl rfl rfl (by go_simp) ?_
        dsimp only [wpT]
        try simp only [Act.put, List.setIfInBounds_toArray, List.set_cons_succ, List.set_cons_zero]
        go_upto_region 12 with fail
        refine wp_region_lin (.op 0 (.op 1 (.op 2 .done))) (by rfl) ?_
        refine wpT_valp 59 (v := .slice (some ⟨g3, 0, none⟩) n3 c3) rfl rfl rfl (by go_simp) ?_
        refine wpT_valp 60 (v := .pointer (some ⟨w.heap.size, 32, none⟩)) rfl rfl rfl (by go_simp) ?_
        refine wpT_stc M3 2 (.slice (some ⟨g3, 0, none⟩) n3 c3) (ROR k (.slice (some ⟨g3, 0, none⟩) n3 c3) s1.made) inf_slr rfl rfl rfl rfl (by go_simp) (by go_simp) (by simp [hk, ROR_size, RSL_size, zs_len]) (by simp [go_sem]) (ror_s32 hk _) rfl (fun w1 M2 => ?_)
        dsimp only [List.set] at M2
        dsimp only [wpT]
        try simp only [Act.put, List.setIfInBounds_toArray, List.set_cons_succ, List.set_cons_zero]
        go_upto_region 13 with fail
        have hcl := R3.mx
        unfold maxLen at hcl
        have hsl : cur3[m3 * 2]? = some (.int .i64 sl.gen) := (grow_cell e2_len HT3.out R3.tk HSL.out 0 (by decide)).trans (e2_0 sl)
        have hm30 : (0 : Int) ≤ (m3 : Int) := by omega
        have hm3n : (m3 : Int) < (n3 : Int) := by omega
        clear hcl
        refine wp_region_Z (fun v => v.rowOf (w.heap.size) = ROR k (.slice (some ⟨g3, 0, none⟩) n3 c3) s1.made ∧ v.cell? ⟨g3, m3 * 2, none⟩ = some (.int .i64 sl.gen)) 9 (.yld [0, 1, 2, 3, 4, 5, 6, 7] (.op 8 (.rest (.op 9 .done)))) (by kernel_rfl) (by kernel_rfl) (by kernel_rfl) (fun d _ _ _ _ h => by cases d <;> exact h) ?_
        have M3 := M2.drewN 1
        change wpZ _ _ _ _ _ _ (w1.drewN 1)
        obtain ⟨w4, hw4⟩ : ∃ w4, w4 = w1.drewN 1 := ⟨_, rfl⟩
        rw [← hw4] at M3 ⊢
        clear hw4
        refine wpZ_yld ?_
        refine wpYJd_ld 61 Tryd.underlying49 rfl inf_rrt (w.heap.size) (ROR k (.slice (some ⟨g3, 0, none⟩) n3 c3) s1.made) rfl rfl rfl (by go_simp) (fun _ h => h.1) (by simp [hk, ROR_size, RSL_size, zs_len]) rfl ?_
        refine wpYJd_op 62 (.slice (some ⟨g3, 0, none⟩) n3 c3) rfl rfl rfl (fun w1 h => by go_simp) ?_
        refine wpYJd_op 63 (.slice (some ⟨g3, 0, none⟩) n3 c3) rfl rfl rfl (fun w1 h => by go_simp) ?_
        refine wpYJd_op 64 (.int .i64 n3) rfl rfl rfl (fun w1 h => by go_simp) ?_
        refine wpYJd_op 65 (.int .i64 m3) rfl rfl rfl (fun w1 h => by have h := HM3.out; go_simp) ?_
        try simp only [Act.put, List.setIfInBounds_toArray, List.set_cons_succ, List.set_cons_zero]
        refine wpYJd_op 66 (.pointer (some ⟨g3, m3 * 2, none⟩)) rfl rfl rfl (fun w1 h => by go_simp) ?_
        refine wpYJd_op 67 (.pointer (some ⟨g3, m3 * 2 + 0, none⟩)) rfl rfl rfl (fun w1 h => by go_simp) ?_
        refine wpYJd_op 68 (.int .i64 sl.gen) rfl rfl rfl (fun w1 h => by have c0 := h.2; go_simp) ?_
        show wpZ _ _ _ _ _ _ _
        try simp only [Act.put, List.setIfInBounds_toArray, List.set_cons_succ, List.set_cons_zero]
        refine wpZ_of (⟨M3.row (b := w.heap.size) (c := ROR k (.slice (some ⟨g3, 0, none⟩) n3 c3) s1.made) (by simp), (cell_at (M3.row (b := g3) (c := cur3) (by simp)) hsl)⟩) ?_
        refine wpT_st0 M3 1 (ROR k (.slice (some ⟨g3, 0, none⟩) n3 c3) s1.made) inf_rrt rfl rfl rfl rfl (by go_simp) (by go_simp) (by simp [hk, ROR_size, RSL_size, zs_len]) (by simp [hk, ROR_size, RSL_size, zs_len]) (by simp [go_sem]) rfl (fun w5 M6 => ?_)
        dsimp only [List.set] at M6
        refine wpZ_to ?_
        try simp only [Act.put, List.setIfInBounds_toArray, List.set_cons_succ, List.set_cons_zero]
        refine wpZ_rest (⟨M6.row (b := w.heap.size) (c := ROR k (.slice (some ⟨g3, 0, none⟩) n3 c3) s1.made) (by simp), (cell_at (M6.row (b := g3) (c := cur3) (by simp)) hsl)⟩) ?_
        refine wpT_valp 5 (v := .int .i64 sl.gen) rfl rfl rfl (by go_simp) ?_
        dsimp only [wpT]
        try simp only [Act.put, List.setIfInBounds_toArray, List.set_cons_succ, List.set_cons_zero]
        go_wp2_with fail
        have r7 := M6.row (b := w.heap.size + 1) (c := ROR k (.slice (some ⟨g3, 0, none⟩) n3 c3) s1.made) (by simp)
        refine bodyPost_ret (res_two rfl (rv_row Tryd.underlying49 rfl inf_rrt (w.heap.size + 1) rfl (by rw [r7]; simp [hk, ROR_size, RSL_size, zs_len])) (rv_tmp _ _ rfl)) rfl ?_
        rw [r7]
        exact ⟨_, rfl, (R3.ow M6 (by simp)).mono (fun x hx => by rw [R3.ob] at hx; injection hx with hx; have := R3.b; omega), M6.end_⟩
  · obtain ⟨A, hA⟩ : ∃ A : List Ep.Sl, A = [] := ⟨_, rfl⟩
    have HA := hid hA
    have HTI : Hid (A ++ L.filter (Ep.live s1.made) = L') := hid (by
      rw [← hL', hA]
      cases L with
      | nil => simp at hL
      | cons b r =>
        simp at hL; subst hL
        simp [Ep.tick, Ep.grow, hgr])
    have HAL : Hid (A.length ≤ 1) := hid (by rw [hA]; simp)
    have hqq : ¬ (q2 : Int) < (q1 : Int) := by omega
    clear hV hL hs1 hs1g ht hgr hA hq1 hq2 hL' hn' hsl hn hmd hm3 hlv1
    have M0 := Mm.start no w
    go_enter Tryd.func27, Tryd.ntmps27
    have M2 := ((M0.alloc (ROR k (.slice (some ⟨g, 0, none⟩) n c1) t) 49 (by decide)).alloc (ROR (zs 32) (.slice none 0 0) 0) 49 (by decide))
    try simp only [World.size_alloc] at M2
    go_upto_region 1 with fail
    obtain ⟨w1, hw1⟩ : ∃ w1, w1 = ((w.alloc (.cells (ROR k (.slice (some ⟨g, 0, none⟩) n c1) t) 49)).alloc (.cells (ROR (zs 32) (.slice none 0 0) 0) 49)) := ⟨_, rfl⟩
    rw [← hw1] at M2 ⊢
    clear hw1
    refine wp_region_lin (.op 0 (.op 1 (.op 2 (.op 3 .done)))) (by rfl) ?_
    refine wpT_ld0 8 Tryd.underlying49 rfl inf_rrt (w.heap.size) (ROR k (.slice (some ⟨g, 0, none⟩) n c1) t) rfl rfl rfl (by go_simp) (M2.row (b := w.heap.size) (c := ROR k (.slice (some ⟨g, 0, none⟩) n c1) t) (by simp)) (by simp [hk, ROR_size, RSL_size, zs_len]) rfl ?_
    refine wpT_valp 9 (v := .int .i64 s1.made) rfl rfl rfl (by go_simp) ?_
    refine wpT_callv 10 M2 (v := .bool true) rfl rfl rfl (by go_simp) (rlater_c w1 k (.slice (some ⟨g, 0, none⟩) n c1) _ _ hk HLT.out) (fun w3 M4 => ?_)
    refine wpT_valp 11 (v := .bool false) rfl rfl rfl (by go_simp) ?_
    dsimp only [wpT]
    try simp only [Act.put, List.setIfInBounds_toArray, List.set_cons_succ, List.set_cons_zero]
    go_upto_region 3 with fail
    refine wp_region_lin (.op 0 (.op 1 (.op 2 .done))) (by rfl) ?_
    refine wpT_valp 13 (v := .int .i64 s1.made) rfl rfl rfl (by go_simp) ?_
    refine wpT_valp 14 (v := .pointer (some ⟨w.heap.size, 33, none⟩)) rfl rfl rfl (by go_simp) ?_
    refine wpT_stc M4 1 (.int .i64 s1.made) (ROR k (.slice (some ⟨g, 0, none⟩) n c1) s1.made) inf_int rfl rfl rfl rfl (by go_simp) (by go_simp) (by simp [hk, ROR_size, RSL_size, zs_len]) (by simp [go_sem]) (ror_s33 hk _) rfl (fun w5 M6 => ?_)
    dsimp only [List.set] at M6
    dsimp only [wpT]
    try simp only [Act.put, List.setIfInBounds_toArray, List.set_cons_succ, List.set_cons_zero]
    go_upto_region 4 with fail
    refine wp_region_lin (.op 0 .done) (by rfl) ?_
    refine wpT_valp 6 (v := .slice none 0 0) rfl rfl rfl (by go_simp) ?_
    dsimp only [wpT]
    try simp only [Act.put, List.setIfInBounds_toArray, List.set_cons_succ, List.set_cons_zero]
    go_upto_region 5 with fail
    refine wp_region_lin (.op 0 (.op 1 (.op 2 (.op 3 (.op 4 (.op 5 (.op 6 (.op 7 (.op 8 .done))))))))) (by rfl) ?_
    refine wpT_valp 15 (v := .int .i64 s1.made) rfl rfl rfl (by go_simp) ?_
    refine wpT_valp 16 (v := .int .i64 q1) rfl rfl rfl (by have h := HQ1.out; go_simp) ?_
    refine wpT_valp 17 (v := .pointer (some ⟨w.heap.size, 32, none⟩)) rfl rfl rfl (by go_simp) ?_
    refine wpT_valp 18 (v := .slice (some ⟨g, 0, none⟩) n c1) rfl rfl rfl (by have c0 := (ror_c32 hk) (M6.row (b := w.heap.size) (c := ROR k (.slice (some ⟨g, 0, none⟩) n c1) s1.made) (by simp)); go_simp) ?_
    try simp only [Act.put, List.setIfInBounds_toArray, List.set_cons_succ, List.set_cons_zero]
    refine wpT_valp 19 (v := .pointer (some ⟨g, 0, none⟩)) rfl rfl rfl (by go_simp) ?_
    refine wpT_valp 20 (v := .pointer (some ⟨g, 1, none⟩)) rfl rfl rfl (by go_simp) ?_
    refine wpT_valp 21 (v := .int .i64 a.made) rfl rfl rfl (by have c0 := HC1.out _ M6.end_; go_simp) ?_
    refine wpT_valp 22 (v := .int .i64 q2) rfl rfl rfl (by have h := HQ2.out; go_simp) ?_
    refine wpT_valp 23 (v := .bool false) rfl rfl rfl (by go_simp) ?_
    dsimp only [wpT]
    try simp only [Act.put, List.setIfInBounds_toArray, List.set_cons_succ, List.set_cons_zero]
    go_upto_region 7 with fail
    refine wp_region_lin (.op 0 .done) (by rfl) ?_
    refine wpT_valp 7 (v := .int .i64 0) rfl rfl rfl (by go_simp) ?_
    dsimp only [wpT]
    try simp only [Act.put, List.setIfInBounds_toArray, List.set_cons_succ, List.set_cons_zero]
    go_wp2_with fail
    obtain ⟨u6, w6, hu6, hw6, OI, MI⟩ : ∃ (u : Value) (w6 : World), u = (.slice none 0 0) ∧ w6 = w5 ∧ Ow w6 (w.heap.size + 2) 2 u A.length (fl e2 A) ∧ Mm no w [(w.heap.size + 1, ROR (zs 32) (.slice none 0 0) 0), (w.heap.size, ROR k (.slice (some ⟨g, 0, none⟩) n c1) s1.made)] w6 := ⟨_, _, rfl, rfl, by rw [HA.out]; exact (Ow.nil _ _ _ _), M6⟩
    rw [← hu6, ← hw6]
    clear hu6 hw6
    go_loopw [6, 7] (fun u6 x wr => ∃ (i m : Nat), i ≤ n ∧ x = .int .i64 i ∧ (A ++ (L.take i).filter (Ep.live s1.made)).length = m ∧ Ow wr (w.heap.size + 2) 2 u6 m (fl e2 (A ++ (L.take i).filter (Ep.live s1.made))) ∧ Mm no w [(w.heap.size + 1, ROR (zs 32) (.slice none 0 0) 0), (w.heap.size, ROR k (.slice (some ⟨g, 0, none⟩) n c1) s1.made)] wr) (fun _ x _ => n - (intOf x).toNat)
    case atStart => exact ⟨0, A.length, by omega, rfl, by simp, by simpa using OI, MI⟩
    case round =>
      clear MI OI
      obtain ⟨i, m, hi, rfl, hm, OU, M⟩ := hrel
      by_cases hin : i < n
      · have hlt : (i : Int) < (n : Int) := by omega
        have hi0 : (0 : Int) ≤ (i : Int) := by omega
        obtain ⟨s, hs⟩ : ∃ s, L[i]? = some s := ⟨_, List.getElem?_eq_getElem (by have := HN.out; omega)⟩
        have HCM : Hid (∀ w', Below w.heap.size w w' → w'.cell? ⟨g, i * 2 + 1, none⟩ = some (.int .i64 s.made)) := hid fun w' h => by
          have := sv_cell e2_len (SV.below HV.out h) hs (j := 1) (by decide)
          rw [Nat.zero_add] at this
          rw [this]; simp [e2, RSL]
        have HEL : Hid (∀ w', Below w.heap.size w w' → exLoad Tryd.prog 61 (.pointer (some ⟨g, i * 2, none⟩)) w' = .ok (.value (.agg (RSL s))) w') := hid fun w' h => by
          have := sv_load e2_len Tryd.underlying61 rfl inf_rsl (by decide) (SV.below HV.out h) hs (RSL s) rfl
          rw [Nat.zero_add] at this; exact this
        have HSM := hid (HMD.out s (List.mem_of_getElem? hs))
        obtain ⟨fs, hfs⟩ : ∃ f, Ep.fin s.made = f := ⟨_, rfl⟩
        have HFS := hid hfs
        have hmb : m ≤ 900 := by
          have h1 := HAL.out
          have h2 := List.length_filter_le (Ep.live s1.made) (L.take i)
          rw [List.length_append] at hm
          rw [List.length_take] at h2
          have := HN.out
          omega
        have HTK : Hid (∀ b, Ep.live s1.made s = b → A ++ (L.take (i + 1)).filter (Ep.live s1.made) = A ++ (L.take i).filter (Ep.live s1.made) ++ (if b then [s] else [])) := hid fun b hb => by
          rw [ki_take hs, List.filter_append, ← List.append_assoc, List.filter_cons, hb, List.filter_nil]
        have HMM := hid hm
        obtain ⟨S1, MR, hS1, hT1⟩ := M.rebase
        have M := MR
        have HOM : Hid (∀ H' w', Mm S1 wr H' w' → Ow w' (w.heap.size + 2) 2 u6 m (fl e2 (A ++ (L.take i).filter (Ep.live s1.made)))) := hid fun H' w' N => OU.fr N.fr (fun x hx h => by
          have h1 := hS1 x h
          have h2 := (OU.at_ x hx).1
          simp only [List.map_cons, List.map_nil, List.mem_cons, List.not_mem_nil, or_false] at h1
          rcases h1 with h1 | h1 <;> omega)
        clear hs hm hfs MR hS1 OU
        by_cases hlv : s1.made < fs
        · have HLV := hid (HTK.out true (by unfold Ep.live; rw [HFS.out]; exact decide_eq_true hlv))
          have hlz : (s1.made : Int) < (fs : Int) := by omega
          clear hlv
          go_upto_region 8 with fail
          refine wp_region_lin (.op 0 (.op 1 (.op 2 (.op 3 (.op 4 .done))))) (by rfl) ?_
          refine wpT_valp 35 (v := .int .i64 i) rfl rfl rfl (by go_simp) ?_
          refine wpT_valp 36 (v := .pointer (some ⟨w.heap.size, 32, none⟩)) rfl rfl rfl (by go_simp) ?_
          refine wpT_valp 37 (v := .slice (some ⟨g, 0, none⟩) n c1) rfl rfl rfl (by have c0 := (ror_c32 hk) (M.row (b := w.heap.size) (c := ROR k (.slice (some ⟨g, 0, none⟩) n c1) s1.made) (by simp)); go_simp) ?_
          refine wpT_valp 38 (v := .int .i64 n) rfl rfl rfl (by go_simp) ?_
          try simp only [Act.put, List.setIfInBounds_toArray, List.set_cons_succ, List.set_cons_zero]
          refine wpT_valp 39 (v := .bool true) rfl rfl rfl (by go_simp) ?_
          dsimp only [wpT]
          try simp only [Act.put, List.setIfInBounds_toArray, List.set_cons_succ, List.set_cons_zero]
          go_upto_region 10 with fail
          refine wp_region_lin (.op 0 (.op 1 (.op 2 (.op 3 (.op 4 (.op 5 (.op 6 (.op 7 (.op 8 .done))))))))) (by rfl) ?_
          refine wpT_valp 42 (v := .int .i64 s1.made) rfl rfl rfl (by go_simp) ?_
          refine wpT_valp 43 (v := .pointer (some ⟨w.heap.size, 32, none⟩)) rfl rfl rfl (by go_simp) ?_
          refine wpT_valp 44 (v := .slice (some ⟨g, 0, none⟩) n c1) rfl rfl rfl (by have c0 := (ror_c32 hk) (M.row (b := w.heap.size) (c := ROR k (.slice (some ⟨g, 0, none⟩) n c1) s1.made) (by simp)); go_simp) ?_
          refine wpT_valp 45 (v := .int .i64 i) rfl rfl rfl (by go_simp) ?_
          try simp only [Act.put, List.setIfInBounds_toArray, List.set_cons_succ, List.set_cons_zero]
          refine wpT_valp 46 (v := .pointer (some ⟨g, i * 2, none⟩)) rfl rfl rfl (by go_simp) ?_
          refine wpT_valp 47 (v := .pointer (some ⟨g, i * 2 + 1, none⟩)) rfl rfl rfl (by go_simp) ?_
          refine wpT_valp 48 (v := .int .i64 s.made) rfl rfl rfl (by have c0 := HCM.out _ (hT1 _ _ M).end_; go_simp) ?_
          refine wpT_callv 49 M (v := .int .i64 fs) rfl rfl rfl (by go_simp) (end_y wr HSM.out HFS.out) (fun w1 M2 => ?_)
          refine wpT_valp 50 (v := .bool true) rfl rfl rfl (by go_simp) ?_
          dsimp only [wpT]
          try simp only [Act.put, List.setIfInBounds_toArray, List.set_cons_succ, List.set_cons_zero]
          go_upto_region 11 with fail
          refine wp_region_lin (.op 0 (.op 1 (.op 2 (.op 3 (.op 4 (.op 5 (.op 6 (.op 7 (.op 8 .done))))))))) (by rfl) ?_
          refine wpT_valp 51 (v := u6) rfl rfl rfl (by go_simp) ?_
          refine wpT_valp 52 (v := .pointer (some ⟨w.heap.size, 32, none⟩)) rfl rfl rfl (by go_simp) ?_
          refine wpT_valp 53 (v := .slice (some ⟨g, 0, none⟩) n c1) rfl rfl rfl (by have c0 := (ror_c32 hk) (M2.row (b := w.heap.size) (c := ROR k (.slice (some ⟨g, 0, none⟩) n c1) s1.made) (by simp)); go_simp) ?_
          refine wpT_valp 54 (v := .int .i64 i) rfl rfl rfl (by go_simp) ?_
          try simp only [Act.put, List.setIfInBounds_toArray, List.set_cons_succ, List.set_cons_zero]
          refine wpT_valp 55 (v := .pointer (some ⟨g, i * 2, none⟩)) rfl rfl rfl (by go_simp) ?_
          refine wpT_ldy 56 (.pointer (some ⟨g, i * 2, none⟩)) (.agg (RSL s)) rfl rfl rfl (by go_simp) (HEL.out _ (hT1 _ _ M2).end_) rfl ?_
          refine wpT_one 57 _ M2 elt_rsl (by decide) (RSL s) RSL_size rfl rfl rfl (by go_simp) rfl (fun gx wgx Mgx => ?_)
          have MZ := hT1 _ _ Mgx
          have hzb := Mgx.lt (b := w.heap.size + 1) (c := ROR (zs 32) (.slice none 0 0) 0) (by simp)
          have hOx := HOM.out _ _ Mgx
          refine wpT_gapp 58 _ _ (MZ.sub (H' := [(w.heap.size + 1, ROR (zs 32) (.slice none 0 0) 0), (w.heap.size, ROR k (.slice (some ⟨g, 0, none⟩) n c1) s1.made)]) (by simp)) elt_rsl (u6) (.slice (some ⟨gx, 0, none⟩) 1 1) m 1 (fl e2 (A ++ (L.take i).filter (Ep.live s1.made))) (e2 s) rfl rfl rfl rfl (by go_simp) hOx (by go_simp) (sv_row (Mgx.row (b := gx) (c := RSL s) (by simp)) (by unfold maxLen; decide)) (e2_len s) one_RSL (by omega) (by omega) (fun x hx => ⟨.inr (by have h1 := (hOx.at_ x hx).1; omega), fun p hp e => by
            have h1 := (hOx.at_ x hx).1
            simp only [List.mem_cons, List.not_mem_nil, or_false] at hp
            rcases hp with rfl | rfl <;> (dsimp only at e; omega)⟩) (fun uy wOy Oy MOy _ _ => ?_)
          refine wpT_valp 6 (v := uy) rfl rfl rfl (by go_simp) ?_
          dsimp only [wpT]
          try simp only [Act.put, List.setIfInBounds_toArray, List.set_cons_succ, List.set_cons_zero]
          go_wp2_with fail
          go_roundw
          case rel => exact ⟨i + 1, m + 1, by omega, by simp, by rw [HLV.out, List.length_append, HMM.out]; rfl, by rw [HLV.out, if_pos rfl, fl_append, fl_one]; exact Oy, MOy⟩
          case measure => simp only [intOf]; omega
        · have HLV := hid (HTK.out false (by unfold Ep.live; rw [HFS.out]; exact decide_eq_false hlv))
          have hlz : ¬ (s1.made : Int) < (fs : Int) := by omega
          clear hlv
          go_upto_region 8 with fail
          refine wp_region_lin (.op 0 (.op 1 (.op 2 (.op 3 (.op 4 .done))))) (by rfl) ?_
          refine wpT_valp 35 (v := .int .i64 i) rfl rfl rfl (by go_simp) ?_
          refine wpT_valp 36 (v := .pointer (some ⟨w.heap.size, 32, none⟩)) rfl rfl rfl (by go_simp) ?_
          refine wpT_valp 37 (v := .slice (some ⟨g, 0, none⟩) n c1) rfl rfl rfl (by have c0 := (ror_c32 hk) (M.row (b := w.heap.size) (c := ROR k (.slice (some ⟨g, 0, none⟩) n c1) s1.made) (by simp)); go_simp) ?_
          refine wpT_valp 38 (v := .int .i64 n) rfl rfl rfl (by go_simp) ?_
          try simp only [Act.put, List.setIfInBounds_toArray, List.set_cons_succ, List.set_cons_zero]
          refine wpT_valp 39 (v := .bool true) rfl rfl rfl (by go_simp) ?_
          dsimp only [wpT]
          try simp only [Act.put, List.setIfInBounds_toArray, List.set_cons_succ, List.set_cons_zero]
          go_upto_region 10 with fail
          refine wp_region_lin (.op 0 (.op 1 (.op 2 (.op 3 (.op 4 (.op 5 (.op 6 (.op 7 (.op 8 .done))))))))) (by rfl) ?_
          refine wpT_valp 42 (v := .int .i64 s1.made) rfl rfl rfl (by go_simp) ?_
          refine wpT_valp 43 (v := .pointer (some ⟨w.heap.size, 32, none⟩)) rfl rfl rfl (by go_simp) ?_
          refine wpT_valp 44 (v := .slice (some ⟨g, 0, none⟩) n c1) rfl rfl rfl (by have c0 := (ror_c32 hk) (M.row (b := w.heap.size) (c := ROR k (.slice (some ⟨g, 0, none⟩) n c1) s1.made) (by simp)); go_simp) ?_
          refine wpT_valp 45 (v := .int .i64 i) rfl rfl rfl (by go_simp) ?_
          try simp only [Act.put, List.setIfInBounds_toArray, List.set_cons_succ, List.set_cons_zero]
          refine wpT_valp 46 (v := .pointer (some ⟨g, i * 2, none⟩)) rfl rfl rfl (by go_simp) ?_
          refine wpT_valp 47 (v := .pointer (some ⟨g, i * 2 + 1, none⟩)) rfl rfl rfl (by go_simp) ?_
          refine wpT_valp 48 (v := .int .i64 s.made) rfl rfl rfl (by have c0 := HCM.out _ (hT1 _ _ M).end_; go_simp) ?_
          refine wpT_callv 49 M (v := .int .i64 fs) rfl rfl rfl (by go_simp) (end_y wr HSM.out HFS.out) (fun w1 M2 => ?_)
          refine wpT_valp 50 (v := .bool false) rfl rfl rfl (by go_simp) ?_
          dsimp only [wpT]
          try simp only [Act.put, List.setIfInBounds_toArray, List.set_cons_succ, List.set_cons_zero]
          go_wp2_with fail
          go_roundw
          case rel => exact ⟨i + 1, m, by omega, by simp, by rw [HLV.out, if_neg (by decide), List.append_nil, HMM.out], by rw [HLV.out, if_neg (by decide), List.append_nil]; exact HOM.out _ _ M2, hT1 _ _ M2⟩
          case measure => simp only [intOf]; omega
      · obtain rfl : n = i := by omega
        rw [List.take_of_length_le (by have := HN.out; omega), HTI.out] at OU hm
        rw [← hm, HT3.out] at OU
        clear hm
        obtain ⟨g3, c3, cur3, R3, M3⟩ := M.reown OU hn3 (fun x hx => ⟨.inr (by have := (OU.at_ x hx).1; omega), fun p hp e => by
          have h1 := (OU.at_ x hx).1
          simp only [List.mem_cons, List.not_mem_nil, or_false] at hp
          rcases hp with rfl | rfl <;> (dsimp only at e; omega)⟩)
        obtain rfl := R3.v
        clear OU M
        go_upto_region 8 with fail
        refine wp_region_lin (.op 0 (.op 1 (.op 2 (.op 3 (.op 4 .done))))) (by rfl) ?_
        refine wpT_valp 35 (v := .int .i64 n) rfl rfl rfl (by go_simp) ?_
        refine wpT_valp 36 (v := .pointer (some ⟨w.heap.size, 32, none⟩)) rfl rfl rfl (by go_simp) ?_
        refine wpT_valp 37 (v := .slice (some ⟨g, 0, none⟩) n c1) rfl rfl rfl (by have c0 := (ror_c32 hk) (M3.row (b := w.heap.size) (c := ROR k (.slice (some ⟨g, 0, none⟩) n c1) s1.made) (by simp)); go_simp) ?_
        refine wpT_valp 38 (v := .int .i64 n) rfl rfl rfl (by go_simp) ?_
        try simp only [Act.put, List.setIfInBounds_toArray, List.set_cons_succ, List.set_cons_zero]
        refine wpT_valp 39 (v := .bool false) rfl rfl rfl (by go_simp) ?_
        dsimp only [wpT]
        try simp only [Act.put, List.setIfInBounds_toArray, List.set_cons_succ, List.set_cons_zero]
        go_upto_region 12 with fail
        refine wp_region_lin (.op 0 (.op 1 (.op 2 .done))) (by rfl) ?_
        refine wpT_valp 59 (v := .slice (some ⟨g3, 0, none⟩) n3 c3) rfl rfl rfl (by go_simp) ?_
        refine wpT_valp 60 (v := .pointer (some ⟨w.heap.size, 32, none⟩)) rfl rfl rfl (by go_simp) ?_
        refine wpT_stc M3 2 (.slice (some ⟨g3, 0, none⟩) n3 c3) (ROR k (.slice (some ⟨g3, 0, none⟩) n3 c3) s1.made) inf_slr rfl rfl rfl rfl (by go_simp) (by go_simp) (by simp [hk, ROR_size, RSL_size, zs_len]) (by simp [go_sem]) (ror_s32 hk _) rfl (fun w1 M2 => ?_)
        dsimp only [List.set] at M2
        dsimp only [wpT]
        try simp only [Act.put, List.setIfInBounds_toArray, List.set_cons_succ, List.set_cons_zero]
        go_upto_region 13 with fail
        have hcl := R3.mx
        unfold maxLen at hcl
        have hsl : cur3[m3 * 2]? = some (.int .i64 sl.gen) := (grow_cell e2_len HT3.out R3.tk HSL.out 0 (by decide)).trans (e2_0 sl)
        have hm30 : (0 : Int) ≤ (m3 : Int) := by omega
        have hm3n : (m3 : Int) < (n3 : Int) := by omega
        clear hcl
        refine wp_region_Z (fun v => v.rowOf (w.heap.size) = ROR k (.slice (some ⟨g3, 0, none⟩) n3 c3) s1.made ∧ v.cell? ⟨g3, m3 * 2, none⟩ = some (.int .i64 sl.gen)) 9 (.yld [0, 1, 2, 3, 4, 5, 6, 7] (.op 8 (.rest (.op 9 .done)))) (by kernel_rfl) (by kernel_rfl) (by kernel_rfl) (fun d _ _ _ _ h => by cases d <;> exact h) ?_
        have M3 := M2.drewN 1
        change wpZ _ _ _ _ _ _ (w1.drewN 1)
        obtain ⟨w4, hw4⟩ : ∃ w4, w4 = w1.drewN 1 := ⟨_, rfl⟩
        rw [← hw4] at M3 ⊢
        clear hw4
        refine wpZ_yld ?_
        refine wpYJd_ld 61 Tryd.underlying49 rfl inf_rrt (w.heap.size) (ROR k (.slice (some ⟨g3, 0, none⟩) n3 c3) s1.made) rfl rfl rfl (by go_simp) (fun _ h => h.1) (by simp [hk, ROR_size, RSL_size, zs_len]) rfl ?_
        refine wpYJd_op 62 (.slice (some ⟨g3, 0, none⟩) n3 c3) rfl rfl rfl (fun w1 h => by go_simp) ?_
        refine wpYJd_op 63 (.slice (some ⟨g3, 0, none⟩) n3 c3) rfl rfl rfl (fun w1 h => by go_simp) ?_
        refine wpYJd_op 64 (.int .i64 n3) rfl rfl rfl (fun w1 h => by go_simp) ?_
        refine wpYJd_op 65 (.int .i64 m3) rfl rfl rfl (fun w1 h => by have h := HM3.out; go_simp) ?_
        try simp only [Act.put, List.setIfInBounds_toArray, List.set_cons_succ, List.set_cons_zero]
        refine wpYJd_op 66 (.pointer (some ⟨g3, m3 * 2, none⟩)) rfl rfl rfl (fun w1 h => by go_simp) ?_
        refine wpYJd_op 67 (.pointer (some ⟨g3, m3 * 2 + 0, none⟩)) rfl rfl rfl (fun w1 h => by go_simp) ?_
        refine wpYJd_op 68 (.int .i64 sl.gen) rfl rfl rfl (fun w1 h => by have c0 := h.2; go_simp) ?_
        show wpZ _ _ _ _ _ _ _
        try simp only [Act.put, List.setIfInBounds_toArray, List.set_cons_succ, List.set_cons_zero]
        refine wpZ_of (⟨M3.row (b := w.heap.size) (c := ROR k (.slice (some ⟨g3, 0, none⟩) n3 c3) s1.made) (by simp), (cell_at (M3.row (b := g3) (c := cur3) (by simp)) hsl)⟩) ?_
        refine wpT_st0 M3 1 (ROR k (.slice (some ⟨g3, 0, none⟩) n3 c3) s1.made) inf_rrt rfl rfl rfl rfl (by go_simp) (by go_simp) (by simp [hk, ROR_size, RSL_size, zs_len]) (by simp [hk, ROR_size, RSL_size, zs_len]) (by simp [go_sem]) rfl (fun w5 M6 => ?_)
        dsimp only [List.set] at M6
        refine wpZ_to ?_
        try simp only [Act.put, List.setIfInBounds_toArray, List.set_cons_succ, List.set_cons_zero]
        refine wpZ_rest (⟨M6.row (b := w.heap.size) (c := ROR k (.slice (some ⟨g3, 0, none⟩) n3 c3) s1.made) (by simp), (cell_at (M6.row (b := g3) (c := cur3) (by simp)) hsl)⟩) ?_
        refine wpT_valp 5 (v := .int .i64 sl.gen) rfl rfl rfl (by go_simp) ?_
        dsimp only [wpT]
        try simp only [Act.put, List.setIfInBounds_toArray, List.set_cons_succ, List.set_cons_zero]
        go_wp2_with fail
        have r7 := M6.row (b := w.heap.size + 1) (c := ROR k (.slice (some ⟨g3, 0, none⟩) n3 c3) s1.made) (by simp)
        refine bodyPost_ret (res_two rfl (rv_row Tryd.underlying49 rfl inf_rrt (w.heap.size + 1) rfl (by rw [r7]; simp [hk, ROR_size, RSL_size, zs_len])) (rv_tmp _ _ rfl)) rfl ?_
        rw [r7]
        exact ⟨_, rfl, (R3.ow M6 (by simp)).mono (fun x hx => by rw [R3.ob] at hx; injection hx with hx; have := R3.b; omega), M6.end_⟩
end Go.Proofs.YtgclegdgngldoaaDoor
