/-
  Walks of package curve: Shared, Public; own work.
-/
import Derived.Test.YtgneclfnfnpmkaaCv4
import Derived.Test.YtgneclfnfnpmkaaRes
set_option linter.unusedSimpArgs false
set_option linter.unusedVariables false
namespace Go.Proofs.Ytgneclfnfnpmkaa
open Go.RowKit Fp
theorem wpT_vald {P : Program} {ops : Array Oper} {Q : Exit → Act → World → Prop} {i : Nat} {t : Tr} {a : Act} {w w' : World} {o : Oper} (d : Nat) {v : Value} (hd : o.dst = some d) (ho : ops[i]? = some o) (hw : Region.wanted o (yielded ops a.tmps) = true) (hrun : (execOp a.eval o).run P w = .ok (.value v) w')
    (h : wpT P ops Q t (a.put (some d) v) w') : wpT P ops Q (.op i t) a w := wpT_val ho hw hrun (by rw [hd]; exact h)
theorem times_c (w : World) (a b : List (BitVec 8)) (ha : a.length = 32) (hb : b.length = 32) (x : F) (hx : Fk b = x) :
    Calls Try.prog 51 #[.agg (cs U8 a), .agg (cs U8 b)] w fun e w' => e = .returned (.agg (cs U8 (K (gv (leN a) x)))) ∧ Below w.heap.size w w' := by
  subst hx; exact times_any w a b ha hb
/-- what two of them share; its error -/
noncomputable def shv (a b : List (BitVec 8)) : F := gv (leN (clampB a)) (Fk (maskB b))
def ec (s : F) : Int := if s = 0 then 7 else 0
def nine : List (BitVec 8) := 9#8 :: zs 31
@[simp] theorem nine_len : nine.length = 32 := rfl
theorem Fk_nine : Fk nine = 9 := by decide +kernel
theorem xb_key9 (w : World) : exBuild Try.prog 23 #[(0, .int .u8 9)] w = .ok (.value (.agg (cs U8 nine))) w := by
  unfold exBuild; rw [run_build w _ _ (cs U8 nine) (by kernel_rfl)]; rfl
set_option maxRecDepth 100000 in
set_option maxHeartbeats 2000000 in
theorem public_c (w : World) (a : List (BitVec 8)) (ha : a.length = 32) :
    Calls Try.prog 36 #[.agg (cs U8 a)] w fun e w' => e = .returned (.agg (cs U8 (K (gv (leN (clampB a)) 9)))) ∧ Below w.heap.size w w' := by
  have H9 := hid Fk_nine
  have M0 := Mm.start no w
  go_enter Try.func36, Try.ntmps36
  have M2 := ((M0.alloc (cs U8 a) 23 (by decide)).alloc (cs U8 (zs 32)) 23 (by decide))
  try simp only [World.size_alloc] at M2
  go_upto_region 1 with fail
  obtain ⟨w1, hw1⟩ : ∃ w1, w1 = ((w.alloc (.cells (cs U8 a) 23)).alloc (.cells (cs U8 (zs 32)) 23)) := ⟨_, rfl⟩
  rw [← hw1] at M2 ⊢
  clear hw1
  refine wp_region_seqF 4 [3, 4, 5, 6] [] [] [] (.op 4 .done) (Mm no w _) (by kernel_rfl) (by kernel_rfl) (fun d _ _ _ _ h => by cases d <;> exact h) (by rfl) M2.size (fun _ _ h k => h.sf k) M2 (by kernel_rfl) ?_
  simp only [List.take_succ_cons, List.take_zero]
  refine SeqA.ld0 Try.underlying23 rfl inf_key (w.heap.size) (cs U8 a) rfl (by go_simp) (fun _ M => M.row (by simp)) (by simp [ha]) rfl ?_
  refine SeqA.call _ _ _ (fun w' => by go_simp) (fun w' hI _ => clamp_any w' a (by simp [ha])) M2.size rfl rfl ?_
  refine SeqA.pure (.agg (cs U8 nine)) (fun w' => by have q := xb_key9 w'; go_simp) rfl rfl ?_
  refine SeqA.call _ _ _ (fun w' => by go_simp) (fun w' hI _ => times_c w' (clampB a) nine (by simp [ha]) (by simp [ha]) (Fk nine) (rfl)) M2.size rfl rfl ?_
  refine SeqA.nil (fun w3 M4 hz => ?_)
  show wpT _ _ _ _ _ _
  simp only [Act.put, List.setIfInBounds_toArray, List.set_cons_succ, List.set_cons_zero]
  refine wpT_st0 M4 0 (cs U8 (K (gv (leN (clampB a)) (Fk nine)))) inf_key rfl rfl rfl rfl (by go_simp) (by go_simp) (by simp [ha]) (by simp [ha]) (by simp [go_sem]) rfl (fun w5 M6 => ?_)
  dsimp only [List.set] at M6
  dsimp only [wpT]
  go_wp2_with fail
  have r7 := M6.row (b := w.heap.size + 1) (c := cs U8 (K (gv (leN (clampB a)) (Fk nine)))) (by simp)
  refine bodyPost_ret (res_row (b := w.heap.size + 1) rfl Try.underlying23 rfl inf_key _ _ rfl (by rw [r7]; simp [ha])) rfl ?_
  rw [r7]
  exact ⟨by rw [H9.out], M6.end_⟩
set_option maxRecDepth 100000 in
set_option maxHeartbeats 2000000 in
theorem shared_c (w : World) (a b : List (BitVec 8)) (ha : a.length = 32) (hb : b.length = 32) :
    Calls Try.prog 32 #[.agg (cs U8 a), .agg (cs U8 b)] w fun e w' => e = .returned (.tuple #[.agg (cs U8 (K (shv a b))), .int .i64 (ec (shv a b))]) ∧ Below w.heap.size w w' := by
  by_cases h0 : gv (leN (clampB a)) (Fk (maskB b)) = 0
  · have HE := hid (decide_eq_true h0)
    have HV := hid (show Ending.returned (.tuple #[.agg (cs U8 (zs 32)), .int .i64 7]) = Ending.returned (.tuple #[.agg (cs U8 (K (shv a b))), .int .i64 (ec (shv a b))]) by unfold shv; rw [h0, K_zero]; rfl)
    clear h0
    have M0 := Mm.start no w
    go_enter Try.func32, Try.ntmps32
    have M2 := (((M0.alloc (cs U8 a) 23 (by decide)).alloc (cs U8 b) 23 (by decide)).alloc (cs U8 (zs 32)) 23 (by decide))
    try simp only [World.size_alloc] at M2
    go_upto_region 1 with fail
    obtain ⟨w1, hw1⟩ : ∃ w1, w1 = (((w.alloc (.cells (cs U8 a) 23)).alloc (.cells (cs U8 b) 23)).alloc (.cells (cs U8 (zs 32)) 23)) := ⟨_, rfl⟩
    rw [← hw1] at M2 ⊢
    clear hw1
    refine wp_region_seq 6 [7, 8, 9, 10, 11, 6] [] [] [] (.op 6 .done) (Mm no w _) (by kernel_rfl) (by kernel_rfl) (by kernel_rfl) (fun d _ _ _ _ h => by cases d <;> exact h) (by rfl) M2.size (fun _ _ h k => h.sf k) M2 ?_
    simp only [List.take_succ_cons, List.take_zero]
    refine SeqA.ld0 Try.underlying23 rfl inf_key (w.heap.size) (cs U8 a) rfl (by go_simp) (fun _ M => M.row (by simp)) (by simp [ha, hb]) rfl ?_
    refine SeqA.call _ _ _ (fun w' => by go_simp) (fun w' hI _ => clamp_any w' a (by simp [ha, hb])) M2.size rfl rfl ?_
    refine SeqA.ld0 Try.underlying23 rfl inf_key (w.heap.size + 1) (cs U8 b) rfl (by go_simp) (fun _ M => M.row (by simp)) (by simp [ha, hb]) rfl ?_
    refine SeqA.call _ _ _ (fun w' => by go_simp) (fun w' hI _ => point_any w' b (by simp [ha, hb])) M2.size rfl rfl ?_
    refine SeqA.call _ _ _ (fun w' => by go_simp) (fun w' hI _ => times_c w' (clampB a) (K (Fk (maskB b))) (by simp [ha, hb]) (by simp [ha, hb]) (Fk (maskB b)) (Fk_K _)) M2.size rfl rfl ?_
    simp only [Act.put, List.setIfInBounds_toArray, List.set_cons_succ, List.set_cons_zero]
    refine SeqA.var (z := .agg (cs U8 (zs 32))) (by kernel_rfl) rfl rfl (by decide) rfl ?_
    refine SeqA.nil (fun w3 M4 hz => ?_)
    refine news_one (fun b5 hb1 hb2 hb3 => ?_)
    have M6 := M2.in_ (c := cs U8 (zs 32)) M4 hb1 hb2 (by decide) hb3 rfl
    show wpT _ _ _ _ _ _
    simp only [Act.put, List.setIfInBounds_toArray, List.set_cons_succ, List.set_cons_zero]
    refine wpT_st0 M6 0 (cs U8 (K (gv (leN (clampB a)) (Fk (maskB b))))) inf_key rfl rfl rfl rfl (by go_simp) (by go_simp) (by simp [ha, hb]) (by simp [ha, hb]) (by simp [go_sem]) rfl (fun w7 M8 => ?_)
    dsimp only [List.set] at M8
    dsimp only [wpT]
    go_upto_region 2 with fail
    refine wp_region_seqF 3 [12, 13, 14] [] [] [] (.done) (Mm no w _) (by kernel_rfl) (by kernel_rfl) (fun d _ _ _ _ h => by cases d <;> exact h) (by rfl) M8.size (fun _ _ h k => h.sf k) M8 (by kernel_rfl) ?_
    simp only [List.take_succ_cons, List.take_zero]
    refine SeqA.ld0 Try.underlying23 rfl inf_key (b5) (cs U8 (K (gv (leN (clampB a)) (Fk (maskB b))))) rfl (by go_simp) (fun _ M => M.row (by simp)) (by simp [ha, hb]) rfl ?_
    refine SeqA.pure (.agg (cs U8 (zs 32))) (fun w' => by go_simp) rfl rfl ?_
    refine SeqA.pure (.bool true) (fun w' => by have q := eq0 w' (gv (leN (clampB a)) (Fk (maskB b))); rw [HE.out] at q; go_simp) rfl rfl ?_
    refine SeqA.nil (fun w9 M10 hz => ?_)
    show wpT _ _ _ _ _ _
    simp only [Act.put, List.setIfInBounds_toArray, List.set_cons_succ, List.set_cons_zero]
    dsimp only [wpT]
    go_upto_region 3 with fail
    refine wp_region_seqF 1 [15] [] [] [] (.op 1 (.op 2 .done)) (Mm no w _) (by kernel_rfl) (by kernel_rfl) (fun d _ _ _ _ h => by cases d <;> exact h) (by rfl) M10.size (fun _ _ h k => h.sf k) M10 (by kernel_rfl) ?_
    simp only [List.take_succ_cons, List.take_zero]
    refine SeqA.pure (.agg (cs U8 (zs 32))) (fun w' => by go_simp) rfl rfl ?_
    refine SeqA.nil (fun w11 M12 hz => ?_)
    show wpT _ _ _ _ _ _
    simp only [Act.put, List.setIfInBounds_toArray, List.set_cons_succ, List.set_cons_zero]
    refine wpT_st0 M12 1 (cs U8 (zs 32)) inf_key rfl rfl rfl rfl (by go_simp) (by go_simp) (by simp [ha, hb]) (by simp [ha, hb]) (by simp [go_sem]) rfl (fun w13 M14 => ?_)
    dsimp only [List.set] at M14
    refine wpT_vald 5 (v := .int .i64 7) rfl rfl rfl rfl ?_
    dsimp only [wpT]
    simp only [Act.put, List.setIfInBounds_toArray, List.set_cons_succ, List.set_cons_zero]
    go_wp2_with fail
    have r15 := M14.row (b := w.heap.size + 1 + 1) (c := cs U8 (zs 32)) (by simp)
    refine bodyPost_ret (res_two rfl (rv_row Try.underlying23 rfl inf_key (w.heap.size + 1 + 1) rfl (by rw [r15]; simp [ha, hb])) (rv_tmp _ _ rfl)) rfl ?_
    rw [r15]
    exact ⟨HV.out, M14.end_⟩
  · have HE := hid (decide_eq_false h0)
    have HV := hid (show Ending.returned (.tuple #[.agg (cs U8 (K (gv (leN (clampB a)) (Fk (maskB b))))), .int .i64 0]) = Ending.returned (.tuple #[.agg (cs U8 (K (shv a b))), .int .i64 (ec (shv a b))]) by unfold shv ec; rw [if_neg h0])
    clear h0
    have M0 := Mm.start no w
    go_enter Try.func32, Try.ntmps32
    have M2 := (((M0.alloc (cs U8 a) 23 (by decide)).alloc (cs U8 b) 23 (by decide)).alloc (cs U8 (zs 32)) 23 (by decide))
    try simp only [World.size_alloc] at M2
    go_upto_region 1 with fail
    obtain ⟨w1, hw1⟩ : ∃ w1, w1 = (((w.alloc (.cells (cs U8 a) 23)).alloc (.cells (cs U8 b) 23)).alloc (.cells (cs U8 (zs 32)) 23)) := ⟨_, rfl⟩
    rw [← hw1] at M2 ⊢
    clear hw1
    refine wp_region_seq 6 [7, 8, 9, 10, 11, 6] [] [] [] (.op 6 .done) (Mm no w _) (by kernel_rfl) (by kernel_rfl) (by kernel_rfl) (fun d _ _ _ _ h => by cases d <;> exact h) (by rfl) M2.size (fun _ _ h k => h.sf k) M2 ?_
    simp only [List.take_succ_cons, List.take_zero]
    refine SeqA.ld0 Try.underlying23 rfl inf_key (w.heap.size) (cs U8 a) rfl (by go_simp) (fun _ M => M.row (by simp)) (by simp [ha, hb]) rfl ?_
    refine SeqA.call _ _ _ (fun w' => by go_simp) (fun w' hI _ => clamp_any w' a (by simp [ha, hb])) M2.size rfl rfl ?_
    refine SeqA.ld0 Try.underlying23 rfl inf_key (w.heap.size + 1) (cs U8 b) rfl (by go_simp) (fun _ M => M.row (by simp)) (by simp [ha, hb]) rfl ?_
    refine SeqA.call _ _ _ (fun w' => by go_simp) (fun w' hI _ => point_any w' b (by simp [ha, hb])) M2.size rfl rfl ?_
    refine SeqA.call _ _ _ (fun w' => by go_simp) (fun w' hI _ => times_c w' (clampB a) (K (Fk (maskB b))) (by simp [ha, hb]) (by simp [ha, hb]) (Fk (maskB b)) (Fk_K _)) M2.size rfl rfl ?_
    simp only [Act.put, List.setIfInBounds_toArray, List.set_cons_succ, List.set_cons_zero]
    refine SeqA.var (z := .agg (cs U8 (zs 32))) (by kernel_rfl) rfl rfl (by decide) rfl ?_
    refine SeqA.nil (fun w3 M4 hz => ?_)
    refine news_one (fun b5 hb1 hb2 hb3 => ?_)
    have M6 := M2.in_ (c := cs U8 (zs 32)) M4 hb1 hb2 (by decide) hb3 rfl
    show wpT _ _ _ _ _ _
    simp only [Act.put, List.setIfInBounds_toArray, List.set_cons_succ, List.set_cons_zero]
    refine wpT_st0 M6 0 (cs U8 (K (gv (leN (clampB a)) (Fk (maskB b))))) inf_key rfl rfl rfl rfl (by go_simp) (by go_simp) (by simp [ha, hb]) (by simp [ha, hb]) (by simp [go_sem]) rfl (fun w7 M8 => ?_)
    dsimp only [List.set] at M8
    dsimp only [wpT]
    go_upto_region 2 with fail
    refine wp_region_seqF 3 [12, 13, 14] [] [] [] (.done) (Mm no w _) (by kernel_rfl) (by kernel_rfl) (fun d _ _ _ _ h => by cases d <;> exact h) (by rfl) M8.size (fun _ _ h k => h.sf k) M8 (by kernel_rfl) ?_
    simp only [List.take_succ_cons, List.take_zero]
    refine SeqA.ld0 Try.underlying23 rfl inf_key (b5) (cs U8 (K (gv (leN (clampB a)) (Fk (maskB b))))) rfl (by go_simp) (fun _ M => M.row (by simp)) (by simp [ha, hb]) rfl ?_
    refine SeqA.pure (.agg (cs U8 (zs 32))) (fun w' => by go_simp) rfl rfl ?_
    refine SeqA.pure (.bool false) (fun w' => by have q := eq0 w' (gv (leN (clampB a)) (Fk (maskB b))); rw [HE.out] at q; go_simp) rfl rfl ?_
    refine SeqA.nil (fun w9 M10 hz => ?_)
    show wpT _ _ _ _ _ _
    simp only [Act.put, List.setIfInBounds_toArray, List.set_cons_succ, List.set_cons_zero]
    dsimp only [wpT]
    go_upto_region 4 with fail
    refine wp_region_seqF 1 [16] [] [] [] (.op 1 (.op 2 .done)) (Mm no w _) (by kernel_rfl) (by kernel_rfl) (fun d _ _ _ _ h => by cases d <;> exact h) (by rfl) M10.size (fun _ _ h k => h.sf k) M10 (by kernel_rfl) ?_
    simp only [List.take_succ_cons, List.take_zero]
    refine SeqA.ld0 Try.underlying23 rfl inf_key (b5) (cs U8 (K (gv (leN (clampB a)) (Fk (maskB b))))) rfl (by go_simp) (fun _ M => M.row (by simp)) (by simp [ha, hb]) rfl ?_
    refine SeqA.nil (fun w11 M12 hz => ?_)
    show wpT _ _ _ _ _ _
    simp only [Act.put, List.setIfInBounds_toArray, List.set_cons_succ, List.set_cons_zero]
    refine wpT_st0 M12 1 (cs U8 (K (gv (leN (clampB a)) (Fk (maskB b))))) inf_key rfl rfl rfl rfl (by go_simp) (by go_simp) (by simp [ha, hb]) (by simp [ha, hb]) (by simp [go_sem]) rfl (fun w13 M14 => ?_)
    dsimp only [List.set] at M14
    refine wpT_vald 5 (v := .int .i64 0) rfl rfl rfl rfl ?_
    dsimp only [wpT]
    simp only [Act.put, List.setIfInBounds_toArray, List.set_cons_succ, List.set_cons_zero]
    go_wp2_with fail
    have r15 := M14.row (b := w.heap.size + 1 + 1) (c := cs U8 (K (gv (leN (clampB a)) (Fk (maskB b))))) (by simp)
    refine bodyPost_ret (res_two rfl (rv_row Try.underlying23 rfl inf_key (w.heap.size + 1 + 1) rfl (by rw [r15]; simp [ha, hb])) (rv_tmp _ _ rfl)) rfl ?_
    rw [r15]
    exact ⟨HV.out, M14.end_⟩
end Go.Proofs.Ytgneclfnfnpmkaa
