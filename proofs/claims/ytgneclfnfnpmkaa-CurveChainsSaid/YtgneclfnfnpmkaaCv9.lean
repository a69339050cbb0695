/-
  Walks of reference 02: Shared, Public, Chain; own work.
-/
import Derived.Test.YtgneclfnfnpmkaaCv8
import Derived.Test.YtgneclfnfnpmkaaKs2
set_option linter.unusedSimpArgs false
set_option linter.unusedVariables false
namespace Go.Proofs.Ytgneclfnfnpmkaa
open Go.RowKit Fp
theorem rtimes_c (w : World) (a b : List (BitVec 8)) (ha : a.length = 32) (hb : b.length = 32) (x : F) (hx : Fk b = x) :
    Calls Try.prog 53 #[.agg (cs U8 a), .agg (cs U8 b)] w fun e w' => e = .returned (.agg (cs U8 (K (gv (leN a) x)))) ∧ Below w.heap.size w w' := by
  subst hx; exact rtimes_any w a b ha hb
theorem rzero_v (w : World) (a : List (BitVec 8)) (ha : a.length = 32) (x : F) (hx : Fk a = x) (b : Bool) (h : decide (x = 0) = b) :
    Calls Try.prog 21 #[.agg (cs U8 a)] w fun e w' => e = .returned (.bool b) ∧ Below w.heap.size w w' := by
  have := rzero_c w a ha x hx; rwa [h] at this
theorem Fk_set9 : Fk ((zs 32).set 0 9#8) = 9 := by decide +kernel
set_option maxRecDepth 100000 in
set_option maxHeartbeats 2000000 in
theorem rpublic_c (w : World) (a : List (BitVec 8)) (ha : a.length = 32) :
    Calls Try.prog 37 #[.agg (cs U8 a)] w fun e w' => e = .returned (.agg (cs U8 (K (gv (leN (clampB a)) 9)))) ∧ Below w.heap.size w w' := by
  have H9 := hid Fk_set9
  have M0 := Mm.start no w
  go_enter Try.func37, Try.ntmps37
  have M2 := (((M0.alloc (cs U8 a) 23 (by decide)).alloc (cs U8 (zs 32)) 23 (by decide)).alloc (cs U8 (zs 32)) 23 (by decide))
  try simp only [World.size_alloc] at M2
  go_upto_region 2 with fail
  obtain ⟨w1, hw1⟩ : ∃ w1, w1 = (((w.alloc (.cells (cs U8 a) 23)).alloc (.cells (cs U8 (zs 32)) 23)).alloc (.cells (cs U8 (zs 32)) 23)) := ⟨_, rfl⟩
  rw [← hw1] at M2 ⊢
  clear hw1
  refine wp_region_seqF 1 [4] [] [] [] (.op 1 .done) (Mm no w _) (by kernel_rfl) (by kernel_rfl) (fun d _ _ _ _ h => by cases d <;> exact h) (by rfl) M2.size (fun _ _ h k => h.sf k) M2 (by kernel_rfl) ?_
  simp only [List.take_succ_cons, List.take_zero]
  refine SeqA.pure (.pointer (some ⟨w.heap.size + 1 + 1, 0, none⟩)) (fun w' => by go_simp) rfl rfl ?_
  refine SeqA.nil (fun w3 M4 hz => ?_)
  show wpT _ _ _ _ _ _
  simp only [Act.put, List.setIfInBounds_toArray, List.set_cons_succ, List.set_cons_zero]
  refine wpT_stc M4 0 (.int .u8 9) (cs U8 ((zs 32).set 0 9#8)) inf_u8 rfl rfl rfl rfl (by go_simp) (by go_simp) (by have := (by decide : 0 < (zs 32 : List (BitVec 8)).length); first | (simp; done) | (simpa using this) | (simp; omega)) (by simp [go_sem]) (cs_set 0 (9#8)) rfl (fun w5 M6 => ?_)
  dsimp only [List.set] at M6
  dsimp only [wpT]
  go_upto_region 3 with fail
  refine wp_region_seq 4 [5, 6, 7, 8] [] [] [] (.op 4 .done) (Mm no w _) (by kernel_rfl) (by kernel_rfl) (by kernel_rfl) (fun d _ _ _ _ h => by cases d <;> exact h) (by rfl) M6.size (fun _ _ h k => h.sf k) M6 ?_
  simp only [List.take_succ_cons, List.take_zero]
  refine SeqA.ld0 Try.underlying23 rfl inf_key (w.heap.size) (cs U8 a) rfl (by go_simp) (fun _ M => M.row (by simp)) (by simp [ha]) rfl ?_
  refine SeqA.call _ _ _ (fun w' => by go_simp) (fun w' hI _ => rclamp_any w' a (by simp [ha])) M6.size rfl rfl ?_
  refine SeqA.ld0 Try.underlying23 rfl inf_key (w.heap.size + 1 + 1) (cs U8 ((zs 32).set 0 9#8)) rfl (by go_simp) (fun _ M => M.row (by simp)) (by simp [ha]) rfl ?_
  refine SeqA.call _ _ _ (fun w' => by go_simp) (fun w' hI _ => rtimes_c w' (clampB a) ((zs 32).set 0 9#8) (by simp [ha]) (by simp) 9 H9.out) M6.size rfl rfl ?_
  refine SeqA.nil (fun w7 M8 hz => ?_)
  show wpT _ _ _ _ _ _
  simp only [Act.put, List.setIfInBounds_toArray, List.set_cons_succ, List.set_cons_zero]
  refine wpT_st0 M8 1 (cs U8 (K (gv (leN (clampB a)) 9))) inf_key rfl rfl rfl rfl (by go_simp) (by go_simp) (by simp [ha]) (by simp [ha]) (by simp [go_sem]) rfl (fun w9 M10 => ?_)
  dsimp only [List.set] at M10
  dsimp only [wpT]
  go_wp2_with fail
  have r11 := M10.row (b := w.heap.size + 1) (c := cs U8 (K (gv (leN (clampB a)) 9))) (by simp)
  refine bodyPost_ret (res_row (b := w.heap.size + 1) rfl Try.underlying23 rfl inf_key _ _ rfl (by rw [r11]; simp [ha])) rfl ?_
  rw [r11]
  exact ⟨rfl, M10.end_⟩
set_option maxRecDepth 100000 in
set_option maxHeartbeats 2000000 in
theorem rshared_c (w : World) (a b : List (BitVec 8)) (ha : a.length = 32) (hb : b.length = 32) :
    Calls Try.prog 33 #[.agg (cs U8 a), .agg (cs U8 b)] w fun e w' => e = .returned (.tuple #[.agg (cs U8 (K (shv a b))), .int .i64 (ec (shv a b))]) ∧ Below w.heap.size w w' := by
  by_cases h0 : gv (leN (clampB a)) (Fk (maskB b)) = 0
  · have HE := hid (decide_eq_true h0)
    have HV := hid (show Ending.returned (.tuple #[.agg (cs U8 (zs 32)), .int .i64 7]) = Ending.returned (.tuple #[.agg (cs U8 (K (shv a b))), .int .i64 (ec (shv a b))]) by unfold shv; rw [h0, K_zero]; rfl)
    clear h0
    have M0 := Mm.start no w
    go_enter Try.func33, Try.ntmps33
    have M2 := (((M0.alloc (cs U8 a) 23 (by decide)).alloc (cs U8 b) 23 (by decide)).alloc (cs U8 (zs 32)) 23 (by decide))
    try simp only [World.size_alloc] at M2
    go_upto_region 1 with fail
    obtain ⟨w1, hw1⟩ : ∃ w1, w1 = (((w.alloc (.cells (cs U8 a) 23)).alloc (.cells (cs U8 b) 23)).alloc (.cells (cs U8 (zs 32)) 23)) := ⟨_, rfl⟩
    rw [← hw1] at M2 ⊢
    clear hw1
    refine wp_region_seq 6 [7, 8, 9, 10, 11, 6] [] [] [] (.op 6 .done) (Mm no w _) (by kernel_rfl) (by kernel_rfl) (by kernel_rfl) (fun d _ _ _ _ h => by cases d <;> exact h) (by rfl) M2.size (fun _ _ h k => h.sf k) M2 ?_
    simp only [List.take_succ_cons, List.take_zero]
    refine SeqA.ld0 Try.underlying23 rfl inf_key (w.heap.size) (cs U8 a) rfl (by go_simp) (fun _ M => M.row (by simp)) (by simp [ha, hb]) rfl ?_
    refine SeqA.call _ _ _ (fun w' => by go_simp) (fun w' hI _ => rclamp_any w' a (by simp [ha, hb])) M2.size rfl rfl ?_
    refine SeqA.ld0 Try.underlying23 rfl inf_key (w.heap.size + 1) (cs U8 b) rfl (by go_simp) (fun _ M => M.row (by simp)) (by simp [ha, hb]) rfl ?_
    refine SeqA.call _ _ _ (fun w' => by go_simp) (fun w' hI _ => rpoint_any w' b (by simp [ha, hb])) M2.size rfl rfl ?_
    refine SeqA.call _ _ _ (fun w' => by go_simp) (fun w' hI _ => rtimes_c w' (clampB a) (K (Fk (maskB b))) (by simp [ha, hb]) (by simp [ha, hb]) (Fk (maskB b)) (Fk_K _)) M2.size rfl rfl ?_
    simp only [Act.put, List.setIfInBounds_toArray, List.set_cons_succ, List.set_cons_zero]
    refine SeqA.var (z := .agg (cs U8 (zs 32))) (by kernel_rfl) rfl rfl (by decide) rfl ?_
    refine SeqA.nil (fun w3 M4 hz => ?_)
    refine news_one (fun b5 hb1 hb2 hb3 => ?_)
    have M6 := M2.in_ (c := cs U8 (zs 32)) M4 hb1 hb2 (by decide) hb3 rfl
    show wpT _ _ _ _ _ _
    simp only [Act.put, List.setIfInBounds_toArray, List.set_cons_succ, List.set_cons_zero]
    refine wpT_st0 M6 0 (cs U8 (K (gv (leN (clampB a)) (Fk (maskB b))))) inf_key rfl rfl rfl rfl (by go_simp) (by go_simp) (by simp [ha, hb]) (by simp [ha, hb]) (by simp [go_sem]) rfl (fun w7 M8 => ?_)
    dsimp only [List.set] at M8
    dsimp only [wpT]
    go_upto_region 2 with fail
    refine wp_region_seqF 2 [12, 13] [] [] [] (.done) (Mm no w _) (by kernel_rfl) (by kernel_rfl) (fun d _ _ _ _ h => by cases d <;> exact h) (by rfl) M8.size (fun _ _ h k => h.sf k) M8 (by kernel_rfl) ?_
    simp only [List.take_succ_cons, List.take_zero]
    refine SeqA.ld0 Try.underlying23 rfl inf_key (b5) (cs U8 (K (gv (leN (clampB a)) (Fk (maskB b))))) rfl (by go_simp) (fun _ M => M.row (by simp)) (by simp [ha, hb]) rfl ?_
    refine SeqA.call _ _ _ (fun w' => by go_simp) (fun w' hI _ => rzero_v w' (K (gv (leN (clampB a)) (Fk (maskB b)))) (by simp) (gv (leN (clampB a)) (Fk (maskB b))) (Fk_K _) true HE.out) M8.size rfl rfl ?_
    refine SeqA.nil (fun w9 M10 hz => ?_)
    show wpT _ _ _ _ _ _
    simp only [Act.put, List.setIfInBounds_toArray, List.set_cons_succ, List.set_cons_zero]
    dsimp only [wpT]
    go_upto_region 3 with fail
    refine wp_region_seqF 1 [14] [] [] [] (.op 1 (.op 2 .done)) (Mm no w _) (by kernel_rfl) (by kernel_rfl) (fun d _ _ _ _ h => by cases d <;> exact h) (by rfl) M10.size (fun _ _ h k => h.sf k) M10 (by kernel_rfl) ?_
    simp only [List.take_succ_cons, List.take_zero]
    refine SeqA.pure (.agg (cs U8 (zs 32))) (fun w' => by go_simp) rfl rfl ?_
    refine SeqA.nil (fun w11 M12 hz => ?_)
    show wpT _ _ _ _ _ _
    simp only [Act.put, List.setIfInBounds_toArray, List.set_cons_succ, List.set_cons_zero]
    refine wpT_st0 M12 1 (cs U8 (zs 32)) inf_key rfl rfl rfl rfl (by go_simp) (by go_simp) (by simp [ha, hb]) (by simp [ha, hb]) (by simp [go_sem]) rfl (fun w13 M14 => ?_)
    dsimp only [List.set] at M14
    refine wpT_vald 5 (v := .int .i64 7) rfl rfl rfl rfl ?_
    dsimp only [wpT]
    simp only [Act.put, List.setIfInBounds_toArray, List.set_cons_succ, List.set_cons_zero]
    go_wp2_with fail
    have r15 := M14.row (b := w.heap.size + 1 + 1) (c := cs U8 (zs 32)) (by simp)
    refine bodyPost_ret (res_two rfl (rv_row Try.underlying23 rfl inf_key (w.heap.size + 1 + 1) rfl (by rw [r15]; simp [ha, hb])) (rv_tmp _ _ rfl)) rfl ?_
    rw [r15]
    exact ⟨HV.out, M14.end_⟩
  · have HE := hid (decide_eq_false h0)
    have HV := hid (show Ending.returned (.tuple #[.agg (cs U8 (K (gv (leN (clampB a)) (Fk (maskB b))))), .int .i64 0]) = Ending.returned (.tuple #[.agg (cs U8 (K (shv a b))), .int .i64 (ec (shv a b))]) by unfold shv ec; rw [if_neg h0])
    clear h0
    have M0 := Mm.start no w
    go_enter Try.func33, Try.ntmps33
    have M2 := (((M0.alloc (cs U8 a) 23 (by decide)).alloc (cs U8 b) 23 (by decide)).alloc (cs U8 (zs 32)) 23 (by decide))
    try simp only [World.size_alloc] at M2
    go_upto_region 1 with fail
    obtain ⟨w1, hw1⟩ : ∃ w1, w1 = (((w.alloc (.cells (cs U8 a) 23)).alloc (.cells (cs U8 b) 23)).alloc (.cells (cs U8 (zs 32)) 23)) := ⟨_, rfl⟩
    rw [← hw1] at M2 ⊢
    clear hw1
    refine wp_region_seq 6 [7, 8, 9, 10, 11, 6] [] [] [] (.op 6 .done) (Mm no w _) (by kernel_rfl) (by kernel_rfl) (by kernel_rfl) (fun d _ _ _ _ h => by cases d <;> exact h) (by rfl) M2.size (fun _ _ h k => h.sf k) M2 ?_
    simp only [List.take_succ_cons, List.take_zero]
    refine SeqA.ld0 Try.underlying23 rfl inf_key (w.heap.size) (cs U8 a) rfl (by go_simp) (fun _ M => M.row (by simp)) (by simp [ha, hb]) rfl ?_
    refine SeqA.call _ _ _ (fun w' => by go_simp) (fun w' hI _ => rclamp_any w' a (by simp [ha, hb])) M2.size rfl rfl ?_
    refine SeqA.ld0 Try.underlying23 rfl inf_key (w.heap.size + 1) (cs U8 b) rfl (by go_simp) (fun _ M => M.row (by simp)) (by simp [ha, hb]) rfl ?_
    refine SeqA.call _ _ _ (fun w' => by go_simp) (fun w' hI _ => rpoint_any w' b (by simp [ha, hb])) M2.size rfl rfl ?_
    refine SeqA.call _ _ _ (fun w' => by go_simp) (fun w' hI _ => rtimes_c w' (clampB a) (K (Fk (maskB b))) (by simp [ha, hb]) (by simp [ha, hb]) (Fk (maskB b)) (Fk_K _)) M2.size rfl rfl ?_
    simp only [Act.put, List.setIfInBounds_toArray, List.set_cons_succ, List.set_cons_zero]
    refine SeqA.var (z := .agg (cs U8 (zs 32))) (by kernel_rfl) rfl rfl (by decide) rfl ?_
    refine SeqA.nil (fun w3 M4 hz => ?_)
    refine news_one (fun b5 hb1 hb2 hb3 => ?_)
    have M6 := M2.in_ (c := cs U8 (zs 32)) M4 hb1 hb2 (by decide) hb3 rfl
    show wpT _ _ _ _ _ _
    simp only [Act.put, List.setIfInBounds_toArray, List.set_cons_succ, List.set_cons_zero]
    refine wpT_st0 M6 0 (cs U8 (K (gv (leN (clampB a)) (Fk (maskB b))))) inf_key rfl rfl rfl rfl (by go_simp) (by go_simp) (by simp [ha, hb]) (by simp [ha, hb]) (by simp [go_sem]) rfl (fun w7 M8 => ?_)
    dsimp only [List.set] at M8
    dsimp only [wpT]
    go_upto_region 2 with fail
    refine wp_region_seqF 2 [12, 13] [] [] [] (.done) (Mm no w _) (by kernel_rfl) (by kernel_rfl) (fun d _ _ _ _ h => by cases d <;> exact h) (by rfl) M8.size (fun _ _ h k => h.sf k) M8 (by kernel_rfl) ?_
    simp only [List.take_succ_cons, List.take_zero]
    refine SeqA.ld0 Try.underlying23 rfl inf_key (b5) (cs U8 (K (gv (leN (clampB a)) (Fk (maskB b))))) rfl (by go_simp) (fun _ M => M.row (by simp)) (by simp [ha, hb]) rfl ?_
    refine SeqA.call _ _ _ (fun w' => by go_simp) (fun w' hI _ => rzero_v w' (K (gv (leN (clampB a)) (Fk (maskB b)))) (by simp) (gv (leN (clampB a)) (Fk (maskB b))) (Fk_K _) false HE.out) M8.size rfl rfl ?_
    refine SeqA.nil (fun w9 M10 hz => ?_)
    show wpT _ _ _ _ _ _
    simp only [Act.put, List.setIfInBounds_toArray, List.set_cons_succ, List.set_cons_zero]
    dsimp only [wpT]
    go_upto_region 4 with fail
    refine wp_region_seqF 1 [15] [] [] [] (.op 1 (.op 2 .done)) (Mm no w _) (by kernel_rfl) (by kernel_rfl) (fun d _ _ _ _ h => by cases d <;> exact h) (by rfl) M10.size (fun _ _ h k => h.sf k) M10 (by kernel_rfl) ?_
    simp only [List.take_succ_cons, List.take_zero]
    refine SeqA.ld0 Try.underlying23 rfl inf_key (b5) (cs U8 (K (gv (leN (clampB a)) (Fk (maskB b))))) rfl (by go_simp) (fun _ M => M.row (by simp)) (by simp [ha, hb]) rfl ?_
    refine SeqA.nil (fun w11 M12 hz => ?_)
    show wpT _ _ _ _ _ _
    simp only [Act.put, List.setIfInBounds_toArray, List.set_cons_succ, List.set_cons_zero]
    refine wpT_st0 M12 1 (cs U8 (K (gv (leN (clampB a)) (Fk (maskB b))))) inf_key rfl rfl rfl rfl (by go_simp) (by go_simp) (by simp [ha, hb]) (by simp [ha, hb]) (by simp [go_sem]) rfl (fun w13 M14 => ?_)
    dsimp only [List.set] at M14
    refine wpT_vald 5 (v := .int .i64 0) rfl rfl rfl rfl ?_
    dsimp only [wpT]
    simp only [Act.put, List.setIfInBounds_toArray, List.set_cons_succ, List.set_cons_zero]
    go_wp2_with fail
    have r15 := M14.row (b := w.heap.size + 1 + 1) (c := cs U8 (K (gv (leN (clampB a)) (Fk (maskB b))))) (by simp)
    refine bodyPost_ret (res_two rfl (rv_row Try.underlying23 rfl inf_key (w.heap.size + 1 + 1) rfl (by rw [r15]; simp [ha, hb])) (rv_tmp _ _ rfl)) rfl ?_
    rw [r15]
    exact ⟨HV.out, M14.end_⟩
theorem rshared_k0 (w : World) (k : List (BitVec 8)) (x : F) (hk : k.length = 32) (h : gv (leN (clampB k)) x = 0) :
    Calls Try.prog 33 #[.agg (cs U8 k), .agg (cs U8 (K x))] w fun e w' => e = .returned (.tuple #[.agg (cs U8 (zs 32)), .int .i64 7]) ∧ Below w.heap.size w w' := by
  have h1 := rshared_c w k (K x) hk (by simp)
  rw [shv_K, h, K_zero] at h1; exact h1
theorem rshared_k1 (w : World) (k : List (BitVec 8)) (x y : F) (hk : k.length = 32) (hy : gv (leN (clampB k)) x = y) (h : ¬ y = 0) :
    Calls Try.prog 33 #[.agg (cs U8 k), .agg (cs U8 (K x))] w fun e w' => e = .returned (.tuple #[.agg (cs U8 (K y)), .int .i64 0]) ∧ Below w.heap.size w w' := by
  have h1 := rshared_c w k (K x) hk (by simp)
  rw [shv_K, hy, show ec y = 0 from if_neg h] at h1; exact h1
attribute [local irreducible] chV chF gv
set_option maxRecDepth 100000 in
set_option maxHeartbeats 4000000 in
theorem rchain_c (w : World) (u : List (BitVec 8)) (v : Value) (L : List (List (BitVec 8))) (hu : u.length = 32) (hv : KS w v L) :
    Calls Try.prog 39 #[.agg (cs U8 u), v] w fun e w' => e = .returned (.tuple #[.agg (cs U8 (K (chF u L).1)), .int .i64 (chF u L).2]) ∧ Below w.heap.size w w' := by
  have hv' := hv
  obtain ⟨A, cap, rfl, -, -, -, -⟩ := hv'
  by_cases hbig : 8 < L.length
  · have hL : (8 : Int) < (L.length : Int) := by omega
    have HV := hid (show Ending.returned (.tuple #[.agg (cs U8 (zs 32)), .int .i64 3]) = Ending.returned (.tuple #[.agg (cs U8 (K (chF u L).1)), .int .i64 (chF u L).2]) by unfold chF; rw [if_pos hbig, ← K_zero])
    clear hbig
    have M0 := Mm.start no w
    go_enter Try.func39, Try.ntmps39
    have M2 := ((M0.alloc (cs U8 u) 23 (by decide)).alloc (cs U8 (zs 32)) 23 (by decide))
    try simp only [World.size_alloc] at M2
    go_upto_region 2 with fail
    obtain ⟨w1, hw1⟩ : ∃ w1, w1 = ((w.alloc (.cells (cs U8 u) 23)).alloc (.cells (cs U8 (zs 32)) 23)) := ⟨_, rfl⟩
    rw [← hw1] at M2 ⊢
    clear hw1
    refine wp_region_seqF 1 [13] [] [] [] (.op 1 (.op 2 .done)) (Mm no w _) (by kernel_rfl) (by kernel_rfl) (fun d _ _ _ _ h => by cases d <;> exact h) (by rfl) M2.size (fun _ _ h k => h.sf k) M2 (by kernel_rfl) ?_
    simp only [List.take_succ_cons, List.take_zero]
    refine SeqA.pure (.agg (cs U8 (zs 32))) (fun w' => by go_simp) rfl rfl ?_
    refine SeqA.nil (fun w3 M4 hz => ?_)
    show wpT _ _ _ _ _ _
    simp only [Act.put, List.setIfInBounds_toArray, List.set_cons_succ, List.set_cons_zero]
    refine wpT_st0 M4 0 (cs U8 (zs 32)) inf_key rfl rfl rfl rfl (by go_simp) (by go_simp) (by simp [hu]) (by simp [hu]) (by simp [go_sem]) rfl (fun w5 M6 => ?_)
    dsimp only [List.set] at M6
    refine wpT_vald 5 (v := .int .i64 3) rfl rfl rfl rfl ?_
    dsimp only [wpT]
    simp only [Act.put, List.setIfInBounds_toArray, List.set_cons_succ, List.set_cons_zero]
    go_wp2_with fail
    have r7 := M6.row (b := w.heap.size + 1) (c := cs U8 (zs 32)) (by simp)
    refine bodyPost_ret (res_two rfl (rv_row Try.underlying23 rfl inf_key (w.heap.size + 1) rfl (by rw [r7]; simp [hu])) (rv_tmp _ _ rfl)) rfl ?_
    rw [r7]
    exact ⟨HV.out, M6.end_⟩
  · have hL : ¬ (8 : Int) < (L.length : Int) := by omega
    by_cases hx0 : Fk (maskB u) = 0
    · have HE := hid (decide_eq_true hx0)
      have HV := hid (show Ending.returned (.tuple #[.agg (cs U8 (zs 32)), .int .i64 7]) = Ending.returned (.tuple #[.agg (cs U8 (K (chF u L).1)), .int .i64 (chF u L).2]) by unfold chF; rw [if_neg hbig, if_pos hx0, ← K_zero])
      clear hx0 hbig
      have M0 := Mm.start no w
      go_enter Try.func39, Try.ntmps39
      have M2 := ((M0.alloc (cs U8 u) 23 (by decide)).alloc (cs U8 (zs 32)) 23 (by decide))
      try simp only [World.size_alloc] at M2
      go_upto_region 3 with fail
      obtain ⟨w1, hw1⟩ : ∃ w1, w1 = ((w.alloc (.cells (cs U8 u) 23)).alloc (.cells (cs U8 (zs 32)) 23)) := ⟨_, rfl⟩
      rw [← hw1] at M2 ⊢
      clear hw1
      refine wp_region_seqF 3 [14, 15, 6] [] [] [] (.op 3 .done) (Mm no w _) (by kernel_rfl) (by kernel_rfl) (fun d _ _ _ _ h => by cases d <;> exact h) (by rfl) M2.size (fun _ _ h k => h.sf k) M2 (by kernel_rfl) ?_
      simp only [List.take_succ_cons, List.take_zero]
      refine SeqA.ld0 Try.underlying23 rfl inf_key (w.heap.size) (cs U8 u) rfl (by go_simp) (fun _ M => M.row (by simp)) (by simp [hu]) rfl ?_
      refine SeqA.call _ _ _ (fun w' => by go_simp) (fun w' hI _ => rpoint_any w' u (by simp [hu])) M2.size rfl rfl ?_
      refine SeqA.var (z := .agg (cs U8 (zs 32))) (by kernel_rfl) rfl rfl (by decide) rfl ?_
      refine SeqA.nil (fun w3 M4 hz => ?_)
      refine news_one (fun b5 hb1 hb2 hb3 => ?_)
      have M6 := M2.in_ (c := cs U8 (zs 32)) M4 hb1 hb2 (by decide) hb3 rfl
      show wpT _ _ _ _ _ _
      simp only [Act.put, List.setIfInBounds_toArray, List.set_cons_succ, List.set_cons_zero]
      refine wpT_st0 M6 0 (cs U8 (K (Fk (maskB u)))) inf_key rfl rfl rfl rfl (by go_simp) (by go_simp) (by simp [hu]) (by simp [hu]) (by simp [go_sem]) rfl (fun w7 M8 => ?_)
      dsimp only [List.set] at M8
      dsimp only [wpT]
      go_upto_region 4 with fail
      refine wp_region_seqF 2 [16, 17] [] [] [] (.done) (Mm no w _) (by kernel_rfl) (by kernel_rfl) (fun d _ _ _ _ h => by cases d <;> exact h) (by rfl) M8.size (fun _ _ h k => h.sf k) M8 (by kernel_rfl) ?_
      simp only [List.take_succ_cons, List.take_zero]
      refine SeqA.ld0 Try.underlying23 rfl inf_key (b5) (cs U8 (K (Fk (maskB u)))) rfl (by go_simp) (fun _ M => M.row (by simp)) (by simp [hu]) rfl ?_
      refine SeqA.call _ _ _ (fun w' => by go_simp) (fun w' hI _ => rzero_v w' (K (Fk (maskB u))) (by simp) (Fk (maskB u)) (Fk_K _) true HE.out) M8.size rfl rfl ?_
      refine SeqA.nil (fun w9 M10 hz => ?_)
      show wpT _ _ _ _ _ _
      simp only [Act.put, List.setIfInBounds_toArray, List.set_cons_succ, List.set_cons_zero]
      dsimp only [wpT]
      go_upto_region 5 with fail
      refine wp_region_seqF 1 [18] [] [] [] (.op 1 (.op 2 .done)) (Mm no w _) (by kernel_rfl) (by kernel_rfl) (fun d _ _ _ _ h => by cases d <;> exact h) (by rfl) M10.size (fun _ _ h k => h.sf k) M10 (by kernel_rfl) ?_
      simp only [List.take_succ_cons, List.take_zero]
      refine SeqA.pure (.agg (cs U8 (zs 32))) (fun w' => by go_simp) rfl rfl ?_
      refine SeqA.nil (fun w11 M12 hz => ?_)
      show wpT _ _ _ _ _ _
      simp only [Act.put, List.setIfInBounds_toArray, List.set_cons_succ, List.set_cons_zero]
      refine wpT_st0 M12 1 (cs U8 (zs 32)) inf_key rfl rfl rfl rfl (by go_simp) (by go_simp) (by simp [hu]) (by simp [hu]) (by simp [go_sem]) rfl (fun w13 M14 => ?_)
      dsimp only [List.set] at M14
      refine wpT_vald 5 (v := .int .i64 7) rfl rfl rfl rfl ?_
      dsimp only [wpT]
      simp only [Act.put, List.setIfInBounds_toArray, List.set_cons_succ, List.set_cons_zero]
      go_wp2_with fail
      have r15 := M14.row (b := w.heap.size + 1) (c := cs U8 (zs 32)) (by simp)
      refine bodyPost_ret (res_two rfl (rv_row Try.underlying23 rfl inf_key (w.heap.size + 1) rfl (by rw [r15]; simp [hu])) (rv_tmp _ _ rfl)) rfl ?_
      rw [r15]
      exact ⟨HV.out, M14.end_⟩
    · have HE := hid (decide_eq_false hx0)
      have HF := hid (show chF u L = chV (Fk (maskB u)) L by unfold chF; rw [if_neg hbig, if_neg hx0])
      have HS := hid hv
      have HX := hid hx0
      clear hv hx0
      have M0 := Mm.start no w
      go_enter Try.func39, Try.ntmps39
      have M2 := ((M0.alloc (cs U8 u) 23 (by decide)).alloc (cs U8 (zs 32)) 23 (by decide))
      try simp only [World.size_alloc] at M2
      go_upto_region 3 with fail
      obtain ⟨w1, hw1⟩ : ∃ w1, w1 = ((w.alloc (.cells (cs U8 u) 23)).alloc (.cells (cs U8 (zs 32)) 23)) := ⟨_, rfl⟩
      rw [← hw1] at M2 ⊢
      clear hw1
      refine wp_region_seqF 3 [14, 15, 6] [] [] [] (.op 3 .done) (Mm no w _) (by kernel_rfl) (by kernel_rfl) (fun d _ _ _ _ h => by cases d <;> exact h) (by rfl) M2.size (fun _ _ h k => h.sf k) M2 (by kernel_rfl) ?_
      simp only [List.take_succ_cons, List.take_zero]
      refine SeqA.ld0 Try.underlying23 rfl inf_key (w.heap.size) (cs U8 u) rfl (by go_simp) (fun _ M => M.row (by simp)) (by simp [hu]) rfl ?_
      refine SeqA.call _ _ _ (fun w' => by go_simp) (fun w' hI _ => rpoint_any w' u (by simp [hu])) M2.size rfl rfl ?_
      refine SeqA.var (z := .agg (cs U8 (zs 32))) (by kernel_rfl) rfl rfl (by decide) rfl ?_
      refine SeqA.nil (fun w3 M4 hz => ?_)
      refine news_one (fun b5 hb1 hb2 hb3 => ?_)
      have M6 := M2.in_ (c := cs U8 (zs 32)) M4 hb1 hb2 (by decide) hb3 rfl
      show wpT _ _ _ _ _ _
      simp only [Act.put, List.setIfInBounds_toArray, List.set_cons_succ, List.set_cons_zero]
      refine wpT_st0 M6 0 (cs U8 (K (Fk (maskB u)))) inf_key rfl rfl rfl rfl (by go_simp) (by go_simp) (by simp [hu]) (by simp [hu]) (by simp [go_sem]) rfl (fun w7 M8 => ?_)
      dsimp only [List.set] at M8
      dsimp only [wpT]
      go_upto_region 4 with fail
      refine wp_region_seqF 2 [16, 17] [] [] [] (.done) (Mm no w _) (by kernel_rfl) (by kernel_rfl) (fun d _ _ _ _ h => by cases d <;> exact h) (by rfl) M8.size (fun _ _ h k => h.sf k) M8 (by kernel_rfl) ?_
      simp only [List.take_succ_cons, List.take_zero]
      refine SeqA.ld0 Try.underlying23 rfl inf_key (b5) (cs U8 (K (Fk (maskB u)))) rfl (by go_simp) (fun _ M => M.row (by simp)) (by simp [hu]) rfl ?_
      refine SeqA.call _ _ _ (fun w' => by go_simp) (fun w' hI _ => rzero_v w' (K (Fk (maskB u))) (by simp) (Fk (maskB u)) (Fk_K _) false HE.out) M8.size rfl rfl ?_
      refine SeqA.nil (fun w9 M10 hz => ?_)
      show wpT _ _ _ _ _ _
      simp only [Act.put, List.setIfInBounds_toArray, List.set_cons_succ, List.set_cons_zero]
      dsimp only [wpT]
      go_wp2_with fail
      go_loopw [7] (fun t wr => ∃ (i : Nat) (x : F), i ≤ L.length ∧ t = .int .i64 i ∧ chV (Fk (maskB u)) L = chV x (L.drop i) ∧ Mm no w [(b5, cs U8 (K x)), (w.heap.size + 1, cs U8 (zs 32)), (w.heap.size, cs U8 u)] wr) (fun t _ => L.length - (intOf t).toNat)
      case atStart => exact ⟨0, _, Nat.zero_le _, rfl, rfl, M10⟩
      case round =>
        clear M10
        obtain ⟨i, x, hi, rfl, hch, M⟩ := hrel
        have HCh := hid hch
        clear hch
        by_cases hlt : i < L.length
        · obtain ⟨kb, ko, rfl, hkc⟩ := HS.out.key (by omega)
          obtain ⟨k, hk0⟩ : ∃ k, k = L.getD i [] := ⟨_, rfl⟩
          have HC := hkc i hlt
          rw [← hk0] at HC
          have hk : k.length = 32 := HC.1
          have hlt2 : (i : Int) < (L.length : Int) := by omega
          have hi0 : (0 : Int) ≤ (i : Int) := by omega
          have HD := hid (chV_drop (x := x) hlt)
          rw [← hk0] at HD
          have HC := fun {w'} (h : Below w.heap.size w w') => HC.below h
          clear hkc hk0
          go_upto_region 9 with fail
          by_cases h0 : gv (leN (clampB k)) x = 0
          · have HV := hid (show Ending.returned (.tuple #[.agg (cs U8 (zs 32)), .int .i64 7]) = Ending.returned (.tuple #[.agg (cs U8 (K (chF u L).1)), .int .i64 (chF u L).2]) by rw [HF.out, HCh.out, HD.out, if_pos h0, ← K_zero])
            refine wp_region_seq 10 [26, 27, 28, 29, 30, 31, 25, 32, 33, 8] [] [8] [] (.op 10 (.op 11 .done)) (Mm no w _) (by kernel_rfl) (by kernel_rfl) (by kernel_rfl) (fun d _ _ _ _ h => by cases d <;> exact h) (by rfl) M.size (fun _ _ h k => h.sf k) M ?_
            simp only [List.take_succ_cons, List.take_zero]
            refine SeqA.pure (.slice (some ⟨kb, ko, none⟩) L.length cap) (fun w' => by go_simp) rfl rfl ?_
            refine SeqA.pure (.int .i64 i) (fun w' => by go_simp) rfl rfl ?_
            refine SeqA.pure (.pointer (some ⟨kb, ko + i * 32, none⟩)) (fun w' => by go_simp) rfl rfl ?_
            refine SeqA.ldk kb (ko + i * 32) k rfl (by go_simp) (fun w' M => HC M.end_) rfl ?_
            refine SeqA.ld0 Try.underlying23 rfl inf_key (b5) (cs U8 (K x)) rfl (by go_simp) (fun _ M => M.row (by simp)) (by simp [hu, hk]) rfl ?_
            simp only [Act.put, List.setIfInBounds_toArray, List.set_cons_succ, List.set_cons_zero]
            refine SeqA.call _ _ _ (fun w' => by go_simp) (fun w' hI _ => rshared_k0 w' k x hk h0) M.size rfl rfl ?_
            refine SeqA.pure (.tuple #[.agg (cs U8 (zs 32)), .int .i64 7]) (fun w' => by go_simp) rfl rfl ?_
            refine SeqA.pure (.agg (cs U8 (zs 32))) (fun w' => by go_simp) rfl rfl ?_
            refine SeqA.pure (.int .i64 7) (fun w' => by go_simp) rfl rfl ?_
            refine SeqA.var (z := .agg (cs U8 (zs 32))) (by kernel_rfl) rfl rfl (by decide) rfl ?_
            refine SeqA.nil (fun w1 M2 hz => ?_)
            refine news_one (fun b3 hb1 hb2 hb3 => ?_)
            have M4 := M.in_ (c := cs U8 (zs 32)) M2 hb1 hb2 (by decide) hb3 rfl
            show wpT _ _ _ _ _ _
            simp only [Act.put, List.setIfInBounds_toArray, List.set_cons_succ, List.set_cons_zero]
            refine wpT_st0 M4 0 (cs U8 (zs 32)) inf_key rfl rfl rfl rfl (by go_simp) (by go_simp) (by simp [hu, hk]) (by simp [hu, hk]) (by simp [go_sem]) rfl (fun w5 M6 => ?_)
            dsimp only [List.set] at M6
            refine wpT_vald 9 (v := .int .i64 7) rfl rfl rfl rfl ?_
            dsimp only [wpT]
            simp only [Act.put, List.setIfInBounds_toArray, List.set_cons_succ, List.set_cons_zero]
            go_upto_region 10 with fail
            refine wp_region_seqF 2 [34, 35] [] [] [] (.done) (Mm no w _) (by kernel_rfl) (by kernel_rfl) (fun d _ _ _ _ h => by cases d <;> exact h) (by rfl) M6.size (fun _ _ h k => h.sf k) M6 (by kernel_rfl) ?_
            simp only [List.take_succ_cons, List.take_zero]
            refine SeqA.pure (.int .i64 7) (fun w' => by go_simp) rfl rfl ?_
            refine SeqA.pure (.bool true) (fun w' => by go_simp) rfl rfl ?_
            refine SeqA.nil (fun w7 M8 hz => ?_)
            show wpT _ _ _ _ _ _
            simp only [Act.put, List.setIfInBounds_toArray, List.set_cons_succ, List.set_cons_zero]
            dsimp only [wpT]
            go_upto_region 11 with fail
            refine wp_region_seqF 2 [36, 37] [] [1] [] (.op 2 (.op 3 .done)) (Mm no w _) (by kernel_rfl) (by kernel_rfl) (fun d _ _ _ _ h => by cases d <;> exact h) (by rfl) M8.size (fun _ _ h k => h.sf k) M8 (by kernel_rfl) ?_
            simp only [List.take_succ_cons, List.take_zero]
            refine SeqA.pure (.agg (cs U8 (zs 32))) (fun w' => by go_simp) rfl rfl ?_
            refine SeqA.pure (.int .i64 7) (fun w' => by go_simp) rfl rfl ?_
            refine SeqA.nil (fun w9 M10 hz => ?_)
            show wpT _ _ _ _ _ _
            simp only [Act.put, List.setIfInBounds_toArray, List.set_cons_succ, List.set_cons_zero]
            refine wpT_st0 M10 2 (cs U8 (zs 32)) inf_key rfl rfl rfl rfl (by go_simp) (by go_simp) (by simp [hu, hk]) (by simp [hu, hk]) (by simp [go_sem]) rfl (fun w11 M12 => ?_)
            dsimp only [List.set] at M12
            refine wpT_vald 5 (v := .int .i64 7) rfl rfl rfl rfl ?_
            dsimp only [wpT]
            simp only [Act.put, List.setIfInBounds_toArray, List.set_cons_succ, List.set_cons_zero]
            go_wp2_with fail
            have r13 := M12.row (b := w.heap.size + 1) (c := cs U8 (zs 32)) (by simp)
            refine bodyPost_ret (res_two rfl (rv_row Try.underlying23 rfl inf_key (w.heap.size + 1) rfl (by rw [r13]; simp [hu, hk])) (rv_tmp _ _ rfl)) rfl ?_
            rw [r13]
            exact ⟨HV.out, M12.end_⟩
          · obtain ⟨y, hy⟩ : ∃ y, gv (leN (clampB k)) x = y := ⟨_, rfl⟩
            have HD2 := hid (show chV x (L.drop i) = chV y (L.drop (i + 1)) by rw [HD.out, if_neg h0, hy])
            rw [hy] at h0
            refine wp_region_seq 10 [26, 27, 28, 29, 30, 31, 25, 32, 33, 8] [] [8] [] (.op 10 (.op 11 .done)) (Mm no w _) (by kernel_rfl) (by kernel_rfl) (by kernel_rfl) (fun d _ _ _ _ h => by cases d <;> exact h) (by rfl) M.size (fun _ _ h k => h.sf k) M ?_
            simp only [List.take_succ_cons, List.take_zero]
            refine SeqA.pure (.slice (some ⟨kb, ko, none⟩) L.length cap) (fun w' => by go_simp) rfl rfl ?_
            refine SeqA.pure (.int .i64 i) (fun w' => by go_simp) rfl rfl ?_
            refine SeqA.pure (.pointer (some ⟨kb, ko + i * 32, none⟩)) (fun w' => by go_simp) rfl rfl ?_
            refine SeqA.ldk kb (ko + i * 32) k rfl (by go_simp) (fun w' M => HC M.end_) rfl ?_
            refine SeqA.ld0 Try.underlying23 rfl inf_key (b5) (cs U8 (K x)) rfl (by go_simp) (fun _ M => M.row (by simp)) (by simp [hu, hk]) rfl ?_
            simp only [Act.put, List.setIfInBounds_toArray, List.set_cons_succ, List.set_cons_zero]
            refine SeqA.call _ _ _ (fun w' => by go_simp) (fun w' hI _ => rshared_k1 w' k x y hk hy h0) M.size rfl rfl ?_
            refine SeqA.pure (.tuple #[.agg (cs U8 (K y)), .int .i64 0]) (fun w' => by go_simp) rfl rfl ?_
            refine SeqA.pure (.agg (cs U8 (K y))) (fun w' => by go_simp) rfl rfl ?_
            refine SeqA.pure (.int .i64 0) (fun w' => by go_simp) rfl rfl ?_
            refine SeqA.var (z := .agg (cs U8 (zs 32))) (by kernel_rfl) rfl rfl (by decide) rfl ?_
            refine SeqA.nil (fun w1 M2 hz => ?_)
            refine news_one (fun b3 hb1 hb2 hb3 => ?_)
            have M4 := M.in_ (c := cs U8 (zs 32)) M2 hb1 hb2 (by decide) hb3 rfl
            show wpT _ _ _ _ _ _
            simp only [Act.put, List.setIfInBounds_toArray, List.set_cons_succ, List.set_cons_zero]
            refine wpT_st0 M4 0 (cs U8 (K y)) inf_key rfl rfl rfl rfl (by go_simp) (by go_simp) (by simp [hu, hk]) (by simp [hu, hk]) (by simp [go_sem]) rfl (fun w5 M6 => ?_)
            dsimp only [List.set] at M6
            refine wpT_vald 9 (v := .int .i64 0) rfl rfl rfl rfl ?_
            dsimp only [wpT]
            simp only [Act.put, List.setIfInBounds_toArray, List.set_cons_succ, List.set_cons_zero]
            go_upto_region 10 with fail
            refine wp_region_seqF 2 [34, 35] [] [] [] (.done) (Mm no w _) (by kernel_rfl) (by kernel_rfl) (fun d _ _ _ _ h => by cases d <;> exact h) (by rfl) M6.size (fun _ _ h k => h.sf k) M6 (by kernel_rfl) ?_
            simp only [List.take_succ_cons, List.take_zero]
            refine SeqA.pure (.int .i64 0) (fun w' => by go_simp) rfl rfl ?_
            refine SeqA.pure (.bool false) (fun w' => by go_simp) rfl rfl ?_
            refine SeqA.nil (fun w7 M8 hz => ?_)
            show wpT _ _ _ _ _ _
            simp only [Act.put, List.setIfInBounds_toArray, List.set_cons_succ, List.set_cons_zero]
            dsimp only [wpT]
            go_upto_region 12 with fail
            refine wp_region_seqF 1 [38] [] [] [] (.op 1 .done) (Mm no w _) (by kernel_rfl) (by kernel_rfl) (fun d _ _ _ _ h => by cases d <;> exact h) (by rfl) M8.size (fun _ _ h k => h.sf k) M8 (by kernel_rfl) ?_
            simp only [List.take_succ_cons, List.take_zero]
            refine SeqA.ld0 Try.underlying23 rfl inf_key (b3) (cs U8 (K y)) rfl (by go_simp) (fun _ M => M.row (by simp)) (by simp [hu, hk]) rfl ?_
            refine SeqA.nil (fun w9 M10 hz => ?_)
            show wpT _ _ _ _ _ _
            simp only [Act.put, List.setIfInBounds_toArray, List.set_cons_succ, List.set_cons_zero]
            refine wpT_st0 M10 1 (cs U8 (K y)) inf_key rfl rfl rfl rfl (by go_simp) (by go_simp) (by simp [hu, hk]) (by simp [hu, hk]) (by simp [go_sem]) rfl (fun w11 M12 => ?_)
            dsimp only [List.set] at M12
            dsimp only [wpT]
            go_wp2_with fail
            go_roundw
            case rel =>
              refine ⟨i + 1, y, by omega, rfl, by rw [HCh.out, HD2.out], ?_⟩
              exact M12.sub (List.sublist_cons_self _ _)
            case measure => simp [intOf]; omega
        · have : i = L.length := by omega
          subst this
          have HV := hid (show Ending.returned (.tuple #[.agg (cs U8 (K x)), .int .i64 0]) = Ending.returned (.tuple #[.agg (cs U8 (K (chF u L).1)), .int .i64 (chF u L).2]) by rw [HF.out, HCh.out, List.drop_length, chV_nil])
          go_upto_region 13 with fail
          refine wp_region_seqF 1 [39] [] [] [] (.op 1 (.op 2 .done)) (Mm no w _) (by kernel_rfl) (by kernel_rfl) (fun d _ _ _ _ h => by cases d <;> exact h) (by rfl) M.size (fun _ _ h k => h.sf k) M (by kernel_rfl) ?_
          simp only [List.take_succ_cons, List.take_zero]
          refine SeqA.ld0 Try.underlying23 rfl inf_key (b5) (cs U8 (K x)) rfl (by go_simp) (fun _ M => M.row (by simp)) (by simp [hu]) rfl ?_
          refine SeqA.nil (fun w1 M2 hz => ?_)
          show wpT _ _ _ _ _ _
          simp only [Act.put, List.setIfInBounds_toArray, List.set_cons_succ, List.set_cons_zero]
          refine wpT_st0 M2 1 (cs U8 (K x)) inf_key rfl rfl rfl rfl (by go_simp) (by go_simp) (by simp [hu]) (by simp [hu]) (by simp [go_sem]) rfl (fun w3 M4 => ?_)
          dsimp only [List.set] at M4
          refine wpT_vald 5 (v := .int .i64 0) rfl rfl rfl rfl ?_
          dsimp only [wpT]
          simp only [Act.put, List.setIfInBounds_toArray, List.set_cons_succ, List.set_cons_zero]
          go_wp2_with fail
          have r5 := M4.row (b := w.heap.size + 1) (c := cs U8 (K x)) (by simp)
          refine bodyPost_ret (res_two rfl (rv_row Try.underlying23 rfl inf_key (w.heap.size + 1) rfl (by rw [r5]; simp [hu])) (rv_tmp _ _ rfl)) rfl ?_
          rw [r5]
          exact ⟨HV.out, M4.end_⟩
end Go.Proofs.Ytgneclfnfnpmkaa
