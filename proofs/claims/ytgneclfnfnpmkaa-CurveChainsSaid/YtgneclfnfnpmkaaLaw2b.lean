/-
  Law 02: the walks that need neither chains nor the document's answer; own work.
  Law 02: order and steps, walked; own work.
-/
import Derived.Test.YtgneclfnfnpmkaaCv7
import Derived.Test.YtgneclfnfnpmkaaLaw1
import Derived.Test.YtgneclfnfnpmkaaKs2
set_option linter.unusedSimpArgs false
set_option linter.unusedVariables false
namespace Go.Proofs.Ytgneclfnfnpmkaa
open Go.RowKit Fp
def la : List (BitVec 8) := 1#8 :: 2#8 :: 3#8 :: zs 29
def lb : List (BitVec 8) := 4#8 :: 5#8 :: 6#8 :: zs 29
def lc5 : List (BitVec 8) := 255#8 :: zs 31
def lc : List (BitVec 8) := 248#8 :: (zs 30 ++ [64#8])
@[simp] theorem la_len : la.length = 32 := by decide
@[simp] theorem lb_len : lb.length = 32 := by decide
@[simp] theorem lc5_len : lc5.length = 32 := by decide
@[simp] theorem lc_len : lc.length = 32 := by decide
theorem lc_0 : U8 (g8 lc 0) = .int .u8 248 := rfl
theorem lc_31 : U8 (g8 lc 31) = .int .u8 64 := rfl
theorem lc_eq : clampB lc5 = lc := by decide +kernel
theorem gla0 : gv (leN (clampB la)) 0 = 0 := by
  have h : (lad 0 (leN (clampB la)) 255).z2 = 0 := by decide +kernel
  rw [gv_eq]; unfold gx; exact mul_inv0 h
theorem xb_la (w : World) : exBuild Try.prog 23 #[(0, .int .u8 1), (1, .int .u8 2), (2, .int .u8 3)] w = .ok (.value (.agg (cs U8 la))) w := by
  unfold exBuild; rw [run_build w _ _ (cs U8 la) (by kernel_rfl)]; rfl
theorem xb_lb (w : World) : exBuild Try.prog 23 #[(0, .int .u8 4), (1, .int .u8 5), (2, .int .u8 6)] w = .ok (.value (.agg (cs U8 lb))) w := by
  unfold exBuild; rw [run_build w _ _ (cs U8 lb) (by kernel_rfl)]; rfl
theorem xb_lc5 (w : World) : exBuild Try.prog 23 #[(0, .int .u8 255)] w = .ok (.value (.agg (cs U8 lc5))) w := by
  unfold exBuild; rw [run_build w _ _ (cs U8 lc5) (by kernel_rfl)]; rfl
theorem clamp_lc (w : World) :
    Calls Try.prog 34 #[.agg (cs U8 lc5)] w fun e w' => e = .returned (.agg (cs U8 lc)) ∧ Below w.heap.size w w' := by
  have h := clamp_any w lc5 (by decide); rwa [lc_eq] at h
theorem clamp_cc (w : World) (a : List (BitVec 8)) (ha : a.length = 32) :
    Calls Try.prog 34 #[.agg (cs U8 (clampB a))] w fun e w' => e = .returned (.agg (cs U8 (clampB a))) ∧ Below w.heap.size w w' := by
  have h := clamp_any w (clampB a) (by simp [ha]); rwa [clampB_clampB a ha] at h
theorem public_cc (w : World) (a : List (BitVec 8)) (ha : a.length = 32) :
    Calls Try.prog 36 #[.agg (cs U8 (clampB a))] w fun e w' => e = .returned (.agg (cs U8 (K (gv (leN (clampB a)) 9)))) ∧ Below w.heap.size w w' := by
  have h := public_c w (clampB a) (by simp [ha]); rwa [clampB_clampB a ha] at h
theorem zz7 : ∀ x : BitVec 8, cl0 x &&& 7#8 = 0#8 := by decide +kernel
theorem zz64 : ∀ x : BitVec 8, cl31 x &&& 192#8 = 64#8 := by decide +kernel
theorem clamp_z7 (a : List (BitVec 8)) (ha : a.length = 32) : U8 (g8 (clampB a) 0 &&& 7#8) = .int .u8 0 := by
  rw [show g8 (clampB a) 0 = _ from clamp_0 a ha, zz7]; rfl
theorem clamp_z64 (a : List (BitVec 8)) (ha : a.length = 32) : U8 (g8 (clampB a) 31 &&& 192#8) = .int .u8 64 := by
  rw [show g8 (clampB a) 31 = _ from clamp_31 a ha, zz64]; rfl
theorem eqL (w : World) (l : List (BitVec 8)) (h : l.length = 32) : (Op.equalIn 10000 23 (.agg (cs U8 l)) (.agg (cs U8 l))).run Try.prog w = .ok true w := by
  rw [eqin_key w l l h h, beq_self_eq_true]
attribute [local irreducible] la lb lc lc5
set_option maxRecDepth 100000 in
set_option maxHeartbeats 2000000 in
theorem alive2_c (w : World) :
    Calls Try.prog 31 #[] w fun e w' => e = .returned (.bool true) ∧ Below w.heap.size w w' := by
  have HN := hid (decide_eq_false (pv_ne la lb la_len lb_len))
  have M0 := Mm.start no w
  go_enter Try.func31, Try.ntmps31
  go_upto_region 1 with fail
  refine wp_region_seqF 4 [10, 11, 1, 2] [] [1] [] (.op 4 (.op 5 .done)) (Mm no w _) (by kernel_rfl) (by kernel_rfl) (fun d _ _ _ _ h => by cases d <;> exact h) (by rfl) M0.size (fun _ _ h k => h.sf k) M0 (by kernel_rfl) ?_
  simp only [List.take_succ_cons, List.take_zero]
  refine SeqA.pure (.agg (cs U8 la)) (fun w' => by have q := xb_la w'; go_simp) rfl rfl ?_
  refine SeqA.pure (.agg (cs U8 lb)) (fun w' => by have q := xb_lb w'; go_simp) rfl rfl ?_
  refine SeqA.var (z := .agg (cs U8 (zs 32))) (by kernel_rfl) rfl rfl (by decide) rfl ?_
  refine SeqA.var (z := .agg (cs U8 (zs 32))) (by kernel_rfl) rfl rfl (by decide) rfl ?_
  refine SeqA.nil (fun w1 M2 hz => ?_)
  refine news_one (fun b3 hb1 hb2 hb3 => ?_)
  have M4 := M0.in_ (c := cs U8 (zs 32)) M2 hb1 hb2 (by decide) hb3 rfl
  refine news_one (fun b5 hb1 hb2 hb3 => ?_)
  have M6 := M0.in_ (c := cs U8 (zs 32)) M4 hb1 hb2 (by decide) hb3 rfl
  show wpT _ _ _ _ _ _
  simp only [Act.put, List.setIfInBounds_toArray, List.set_cons_succ, List.set_cons_zero]
  refine wpT_st0 M6 0 (cs U8 la) inf_key rfl rfl rfl rfl (by go_simp) (by go_simp) (by simp [la_len, lb_len, lc_len, lc5_len]) (by simp [la_len, lb_len, lc_len, lc5_len]) (by simp [go_sem]) rfl (fun w7 M8 => ?_)
  dsimp only [List.set] at M8
  refine wpT_st0 M8 1 (cs U8 lb) inf_key rfl rfl rfl rfl (by go_simp) (by go_simp) (by simp [la_len, lb_len, lc_len, lc5_len]) (by simp [la_len, lb_len, lc_len, lc5_len]) (by simp [go_sem]) rfl (fun w9 M10 => ?_)
  dsimp only [List.set] at M10
  dsimp only [wpT]
  go_upto_region 2 with fail
  refine wp_region_seq 8 [13, 14, 15, 16, 12, 17, 18, 3] [] [6] [] (.op 8 (.op 9 .done)) (Mm no w _) (by kernel_rfl) (by kernel_rfl) (by kernel_rfl) (fun d _ _ _ _ h => by cases d <;> exact h) (by rfl) M10.size (fun _ _ h k => h.sf k) M10 ?_
  simp only [List.take_succ_cons, List.take_zero]
  refine SeqA.ld0 Try.underlying23 rfl inf_key (b5) (cs U8 la) rfl (by go_simp) (fun _ M => M.row (by simp)) (by simp [la_len, lb_len, lc_len, lc5_len]) rfl ?_
  refine SeqA.ld0 Try.underlying23 rfl inf_key (b3) (cs U8 lb) rfl (by go_simp) (fun _ M => M.row (by simp)) (by simp [la_len, lb_len, lc_len, lc5_len]) rfl ?_
  refine SeqA.call _ _ _ (fun w' => by go_simp) (fun w' hI _ => public_c w' lb (by simp [la_len, lb_len, lc_len, lc5_len])) M10.size rfl rfl ?_
  refine SeqA.call _ _ _ (fun w' => by go_simp) (fun w' hI _ => shared_p w' la lb (by simp [la_len, lb_len, lc_len, lc5_len]) (by simp [la_len, lb_len, lc_len, lc5_len])) M10.size rfl rfl ?_
  refine SeqA.pure (.tuple #[.agg (cs U8 (K (pv la lb))), .int .i64 0]) (fun w' => by go_simp) rfl rfl ?_
  simp only [Act.put, List.setIfInBounds_toArray, List.set_cons_succ, List.set_cons_zero]
  refine SeqA.pure (.agg (cs U8 (K (pv la lb)))) (fun w' => by go_simp) rfl rfl ?_
  refine SeqA.pure (.int .i64 0) (fun w' => by go_simp) rfl rfl ?_
  refine SeqA.var (z := .agg (cs U8 (zs 32))) (by kernel_rfl) rfl rfl (by decide) rfl ?_
  refine SeqA.nil (fun w11 M12 hz => ?_)
  refine news_one (fun b13 hb1 hb2 hb3 => ?_)
  have M14 := M10.in_ (c := cs U8 (zs 32)) M12 hb1 hb2 (by decide) hb3 rfl
  show wpT _ _ _ _ _ _
  simp only [Act.put, List.setIfInBounds_toArray, List.set_cons_succ, List.set_cons_zero]
  refine wpT_st0 M14 0 (cs U8 (K (pv la lb))) inf_key rfl rfl rfl rfl (by go_simp) (by go_simp) (by simp [la_len, lb_len, lc_len, lc5_len]) (by simp [la_len, lb_len, lc_len, lc5_len]) (by simp [go_sem]) rfl (fun w15 M16 => ?_)
  dsimp only [List.set] at M16
  refine wpT_vald 4 (v := .int .i64 0) rfl rfl rfl rfl ?_
  dsimp only [wpT]
  simp only [Act.put, List.setIfInBounds_toArray, List.set_cons_succ, List.set_cons_zero]
  go_upto_region 3 with fail
  refine wp_region_seq 8 [20, 21, 22, 23, 19, 24, 25, 5] [] [6] [] (.op 8 (.op 9 .done)) (Mm no w _) (by kernel_rfl) (by kernel_rfl) (by kernel_rfl) (fun d _ _ _ _ h => by cases d <;> exact h) (by rfl) M16.size (fun _ _ h k => h.sf k) M16 ?_
  simp only [List.take_succ_cons, List.take_zero]
  refine SeqA.ld0 Try.underlying23 rfl inf_key (b3) (cs U8 lb) rfl (by go_simp) (fun _ M => M.row (by simp)) (by simp [la_len, lb_len, lc_len, lc5_len]) rfl ?_
  refine SeqA.ld0 Try.underlying23 rfl inf_key (b5) (cs U8 la) rfl (by go_simp) (fun _ M => M.row (by simp)) (by simp [la_len, lb_len, lc_len, lc5_len]) rfl ?_
  refine SeqA.call _ _ _ (fun w' => by go_simp) (fun w' hI _ => public_c w' la (by simp [la_len, lb_len, lc_len, lc5_len])) M16.size rfl rfl ?_
  refine SeqA.call _ _ _ (fun w' => by go_simp) (fun w' hI _ => shared_q w' la lb (by simp [la_len, lb_len, lc_len, lc5_len]) (by simp [la_len, lb_len, lc_len, lc5_len])) M16.size rfl rfl ?_
  refine SeqA.pure (.tuple #[.agg (cs U8 (K (pv la lb))), .int .i64 0]) (fun w' => by go_simp) rfl rfl ?_
  simp only [Act.put, List.setIfInBounds_toArray, List.set_cons_succ, List.set_cons_zero]
  refine SeqA.pure (.agg (cs U8 (K (pv la lb)))) (fun w' => by go_simp) rfl rfl ?_
  refine SeqA.pure (.int .i64 0) (fun w' => by go_simp) rfl rfl ?_
  refine SeqA.var (z := .agg (cs U8 (zs 32))) (by kernel_rfl) rfl rfl (by decide) rfl ?_
  refine SeqA.nil (fun w17 M18 hz => ?_)
  refine news_one (fun b19 hb1 hb2 hb3 => ?_)
  have M20 := M16.in_ (c := cs U8 (zs 32)) M18 hb1 hb2 (by decide) hb3 rfl
  show wpT _ _ _ _ _ _
  simp only [Act.put, List.setIfInBounds_toArray, List.set_cons_succ, List.set_cons_zero]
  refine wpT_st0 M20 0 (cs U8 (K (pv la lb))) inf_key rfl rfl rfl rfl (by go_simp) (by go_simp) (by simp [la_len, lb_len, lc_len, lc5_len]) (by simp [la_len, lb_len, lc_len, lc5_len]) (by simp [go_sem]) rfl (fun w21 M22 => ?_)
  dsimp only [List.set] at M22
  refine wpT_vald 6 (v := .int .i64 0) rfl rfl rfl rfl ?_
  dsimp only [wpT]
  simp only [Act.put, List.setIfInBounds_toArray, List.set_cons_succ, List.set_cons_zero]
  go_upto_region 4 with fail
  refine wp_region_seqF 7 [27, 28, 29, 26, 30, 31, 7] [] [5] [] (.op 7 (.op 8 .done)) (Mm no w _) (by kernel_rfl) (by kernel_rfl) (fun d _ _ _ _ h => by cases d <;> exact h) (by rfl) M22.size (fun _ _ h k => h.sf k) M22 (by kernel_rfl) ?_
  simp only [List.take_succ_cons, List.take_zero]
  refine SeqA.ld0 Try.underlying23 rfl inf_key (b5) (cs U8 la) rfl (by go_simp) (fun _ M => M.row (by simp)) (by simp [la_len, lb_len, lc_len, lc5_len]) rfl ?_
  refine SeqA.pure (.agg (cs U8 (zs 32))) (fun w' => by go_simp) rfl rfl ?_
  refine SeqA.call _ _ _ (fun w' => by go_simp) (fun w' hI _ => shared_z w' la (by simp [la_len, lb_len, lc_len, lc5_len]) gla0) M22.size rfl rfl ?_
  refine SeqA.pure (.tuple #[.agg (cs U8 (zs 32)), .int .i64 7]) (fun w' => by go_simp) rfl rfl ?_
  refine SeqA.pure (.agg (cs U8 (zs 32))) (fun w' => by go_simp) rfl rfl ?_
  simp only [Act.put, List.setIfInBounds_toArray, List.set_cons_succ, List.set_cons_zero]
  refine SeqA.pure (.int .i64 7) (fun w' => by go_simp) rfl rfl ?_
  refine SeqA.var (z := .agg (cs U8 (zs 32))) (by kernel_rfl) rfl rfl (by decide) rfl ?_
  refine SeqA.nil (fun w23 M24 hz => ?_)
  refine news_one (fun b25 hb1 hb2 hb3 => ?_)
  have M26 := M22.in_ (c := cs U8 (zs 32)) M24 hb1 hb2 (by decide) hb3 rfl
  show wpT _ _ _ _ _ _
  simp only [Act.put, List.setIfInBounds_toArray, List.set_cons_succ, List.set_cons_zero]
  refine wpT_st0 M26 0 (cs U8 (zs 32)) inf_key rfl rfl rfl rfl (by go_simp) (by go_simp) (by simp [la_len, lb_len, lc_len, lc5_len]) (by simp [la_len, lb_len, lc_len, lc5_len]) (by simp [go_sem]) rfl (fun w27 M28 => ?_)
  dsimp only [List.set] at M28
  refine wpT_vald 8 (v := .int .i64 7) rfl rfl rfl rfl ?_
  dsimp only [wpT]
  simp only [Act.put, List.setIfInBounds_toArray, List.set_cons_succ, List.set_cons_zero]
  go_upto_region 5 with fail
  refine wp_region_seqF 3 [32, 33, 9] [] [] [] (.op 3 .done) (Mm no w _) (by kernel_rfl) (by kernel_rfl) (fun d _ _ _ _ h => by cases d <;> exact h) (by rfl) M28.size (fun _ _ h k => h.sf k) M28 (by kernel_rfl) ?_
  simp only [List.take_succ_cons, List.take_zero]
  refine SeqA.pure (.agg (cs U8 lc5)) (fun w' => by have q := xb_lc5 w'; go_simp) rfl rfl ?_
  refine SeqA.call _ _ _ (fun w' => by go_simp) (fun w' hI _ => clamp_lc w') M28.size rfl rfl ?_
  refine SeqA.var (z := .agg (cs U8 (zs 32))) (by kernel_rfl) rfl rfl (by decide) rfl ?_
  refine SeqA.nil (fun w29 M30 hz => ?_)
  refine news_one (fun b31 hb1 hb2 hb3 => ?_)
  have M32 := M28.in_ (c := cs U8 (zs 32)) M30 hb1 hb2 (by decide) hb3 rfl
  show wpT _ _ _ _ _ _
  simp only [Act.put, List.setIfInBounds_toArray, List.set_cons_succ, List.set_cons_zero]
  refine wpT_st0 M32 0 (cs U8 lc) inf_key rfl rfl rfl rfl (by go_simp) (by go_simp) (by simp [la_len, lb_len, lc_len, lc5_len]) (by simp [la_len, lb_len, lc_len, lc5_len]) (by simp [go_sem]) rfl (fun w33 M34 => ?_)
  dsimp only [List.set] at M34
  dsimp only [wpT]
  go_upto_region 6 with fail
  refine wp_region_seqF 31 [34, 35, 36, 37, 38, 39, 40, 41, 42, 43, 44, 45, 46, 47, 48, 49, 50, 51, 52, 53, 54, 55, 56, 57, 58, 59, 60, 61, 62, 63, 0] [] [] [] (.done) (Mm no w _) (by kernel_rfl) (by kernel_rfl) (fun d _ _ _ _ h => by cases d <;> exact h) (by rfl) M34.size (fun _ _ h k => h.sf k) M34 (by kernel_rfl) ?_
  simp only [List.take_succ_cons, List.take_zero]
  refine SeqA.pure (.int .i64 0) (fun w' => by go_simp) rfl rfl ?_
  refine SeqA.pure (.bool true) (fun w' => by go_simp) rfl rfl ?_
  refine SeqA.pure (.bool true) (fun w' => by go_simp) rfl rfl ?_
  refine SeqA.pure (.int .i64 0) (fun w' => by go_simp) rfl (by simp [Region.wanted, yielded, Act.put]) ?_
  refine SeqA.pure (.bool true) (fun w' => by go_simp) rfl (by simp [Region.wanted, yielded, Act.put]) ?_
  simp only [Act.put, List.setIfInBounds_toArray, List.set_cons_succ, List.set_cons_zero]
  refine SeqA.pure (.bool true) (fun w' => by go_simp) rfl rfl ?_
  refine SeqA.pure (.bool true) (fun w' => by go_simp) rfl rfl ?_
  refine SeqA.ld0 Try.underlying23 rfl inf_key (b13) (cs U8 (K (pv la lb))) rfl (by go_simp) (fun _ M => M.row (by simp)) (by simp [la_len, lb_len, lc_len, lc5_len]) (by simp [Region.wanted, yielded, Act.put]) ?_
  refine SeqA.ld0 Try.underlying23 rfl inf_key (b19) (cs U8 (K (pv la lb))) rfl (by go_simp) (fun _ M => M.row (by simp)) (by simp [la_len, lb_len, lc_len, lc5_len]) (by simp [Region.wanted, yielded, Act.put]) ?_
  refine SeqA.pure (.bool true) (fun w' => by have q := eqt w' (pv la lb) (pv la lb) (rfl); go_simp) rfl (by simp [Region.wanted, yielded, Act.put]) ?_
  refine SeqA.pure (.bool true) (fun w' => by go_simp) rfl rfl ?_
  simp only [Act.put, List.setIfInBounds_toArray, List.set_cons_succ, List.set_cons_zero]
  refine SeqA.pure (.bool true) (fun w' => by go_simp) rfl rfl ?_
  refine SeqA.ld0 Try.underlying23 rfl inf_key (b13) (cs U8 (K (pv la lb))) rfl (by go_simp) (fun _ M => M.row (by simp)) (by simp [la_len, lb_len, lc_len, lc5_len]) (by simp [Region.wanted, yielded, Act.put]) ?_
  refine SeqA.pure (.agg (cs U8 (zs 32))) (fun w' => by go_simp) rfl (by simp [Region.wanted, yielded, Act.put]) ?_
  refine SeqA.pure (.bool true) (fun w' => by have q := eq0 w' (pv la lb); rw [HN.out] at q; go_simp) rfl (by simp [Region.wanted, yielded, Act.put]) ?_
  refine SeqA.pure (.bool true) (fun w' => by go_simp) rfl rfl ?_
  refine SeqA.pure (.bool true) (fun w' => by go_simp) rfl rfl ?_
  simp only [Act.put, List.setIfInBounds_toArray, List.set_cons_succ, List.set_cons_zero]
  refine SeqA.pure (.int .i64 7) (fun w' => by go_simp) rfl (by simp [Region.wanted, yielded, Act.put]) ?_
  refine SeqA.pure (.bool true) (fun w' => by go_simp) rfl (by simp [Region.wanted, yielded, Act.put]) ?_
  refine SeqA.pure (.bool true) (fun w' => by go_simp) rfl rfl ?_
  refine SeqA.pure (.bool true) (fun w' => by go_simp) rfl rfl ?_
  refine SeqA.pure (.pointer (some ⟨b31, 0, none⟩)) (fun w' => by go_simp) rfl (by simp [Region.wanted, yielded, Act.put]) ?_
  refine SeqA.read (.int .u8 248) (fun w' M => by have c0 := cell_g8 (M.row (b := b31) (c := cs U8 lc) (by simp)) (i := 0) (by rw [lc_len]; decide); rw [lc_0] at c0; go_simp) rfl (by simp [Region.wanted, yielded, Act.put]) ?_
  simp only [Act.put, List.setIfInBounds_toArray, List.set_cons_succ, List.set_cons_zero]
  refine SeqA.pure (.bool true) (fun w' => by go_simp) rfl (by simp [Region.wanted, yielded, Act.put]) ?_
  refine SeqA.pure (.bool true) (fun w' => by go_simp) rfl rfl ?_
  refine SeqA.pure (.bool true) (fun w' => by go_simp) rfl rfl ?_
  refine SeqA.pure (.pointer (some ⟨b31, 31, none⟩)) (fun w' => by go_simp) rfl (by simp [Region.wanted, yielded, Act.put]) ?_
  refine SeqA.read (.int .u8 64) (fun w' M => by have c0 := cell_g8 (M.row (b := b31) (c := cs U8 lc) (by simp)) (i := 31) (by rw [lc_len]; decide); rw [lc_31] at c0; go_simp) rfl (by simp [Region.wanted, yielded, Act.put]) ?_
  refine SeqA.pure (.bool true) (fun w' => by go_simp) rfl (by simp [Region.wanted, yielded, Act.put]) ?_
  simp only [Act.put, List.setIfInBounds_toArray, List.set_cons_succ, List.set_cons_zero]
  refine SeqA.pure (.bool true) (fun w' => by go_simp) rfl rfl ?_
  refine SeqA.pure (.bool true) (fun w' => by go_simp) rfl rfl ?_
  refine SeqA.nil (fun w35 M36 hz => ?_)
  show wpT _ _ _ _ _ _
  simp only [Act.put, List.setIfInBounds_toArray, List.set_cons_succ, List.set_cons_zero]
  dsimp only [wpT]
  go_wp2_with fail
  go_ret
  exact ⟨rfl, M36.end_⟩
set_option maxRecDepth 100000 in
set_option maxHeartbeats 2000000 in
theorem CurvePairs_w (w : World) (a b : List (BitVec 8)) (ha : a.length = 32) (hb : b.length = 32) :
    Calls Try.prog 13 #[.agg (cs U8 a), .agg (cs U8 b)] w fun e w' => e = .returned (.bool true) ∧ Below w.heap.size w w' := by
  have HN := hid (pv_ne a b ha hb)
  have M0 := Mm.start no w
  go_enter Try.func13, Try.ntmps13
  have M2 := ((M0.alloc (cs U8 a) 23 (by decide)).alloc (cs U8 b) 23 (by decide))
  try simp only [World.size_alloc] at M2
  go_upto_region 1 with fail
  obtain ⟨w1, hw1⟩ : ∃ w1, w1 = ((w.alloc (.cells (cs U8 a) 23)).alloc (.cells (cs U8 b) 23)) := ⟨_, rfl⟩
  rw [← hw1] at M2 ⊢
  clear hw1
  refine wp_region_seqF 2 [9, 10] [] [] [] (.done) (Mm no w _) (by kernel_rfl) (by kernel_rfl) (fun d _ _ _ _ h => by cases d <;> exact h) (by rfl) M2.size (fun _ _ h k => h.sf k) M2 (by kernel_rfl) ?_
  simp only [List.take_succ_cons, List.take_zero]
  refine SeqA.call _ _ _ (fun w' => by go_simp) (fun w' hI _ => alive2_c w') M2.size rfl rfl ?_
  refine SeqA.pure (.bool false) (fun w' => by go_simp) rfl rfl ?_
  refine SeqA.nil (fun w3 M4 hz => ?_)
  show wpT _ _ _ _ _ _
  simp only [Act.put, List.setIfInBounds_toArray, List.set_cons_succ, List.set_cons_zero]
  dsimp only [wpT]
  go_upto_region 3 with fail
  refine wp_region_seq 8 [12, 13, 14, 15, 11, 16, 17, 5] [] [6] [] (.op 8 (.op 9 .done)) (Mm no w _) (by kernel_rfl) (by kernel_rfl) (by kernel_rfl) (fun d _ _ _ _ h => by cases d <;> exact h) (by rfl) M4.size (fun _ _ h k => h.sf k) M4 ?_
  simp only [List.take_succ_cons, List.take_zero]
  refine SeqA.ld0 Try.underlying23 rfl inf_key (w.heap.size) (cs U8 a) rfl (by go_simp) (fun _ M => M.row (by simp)) (by simp [ha, hb]) rfl ?_
  refine SeqA.ld0 Try.underlying23 rfl inf_key (w.heap.size + 1) (cs U8 b) rfl (by go_simp) (fun _ M => M.row (by simp)) (by simp [ha, hb]) rfl ?_
  refine SeqA.call _ _ _ (fun w' => by go_simp) (fun w' hI _ => public_c w' b (by simp [ha, hb])) M4.size rfl rfl ?_
  refine SeqA.call _ _ _ (fun w' => by go_simp) (fun w' hI _ => shared_p w' a b (by simp [ha, hb]) (by simp [ha, hb])) M4.size rfl rfl ?_
  refine SeqA.pure (.tuple #[.agg (cs U8 (K (pv a b))), .int .i64 0]) (fun w' => by go_simp) rfl rfl ?_
  simp only [Act.put, List.setIfInBounds_toArray, List.set_cons_succ, List.set_cons_zero]
  refine SeqA.pure (.agg (cs U8 (K (pv a b)))) (fun w' => by go_simp) rfl rfl ?_
  refine SeqA.pure (.int .i64 0) (fun w' => by go_simp) rfl rfl ?_
  refine SeqA.var (z := .agg (cs U8 (zs 32))) (by kernel_rfl) rfl rfl (by decide) rfl ?_
  refine SeqA.nil (fun w5 M6 hz => ?_)
  refine news_one (fun b7 hb1 hb2 hb3 => ?_)
  have M8 := M4.in_ (c := cs U8 (zs 32)) M6 hb1 hb2 (by decide) hb3 rfl
  show wpT _ _ _ _ _ _
  simp only [Act.put, List.setIfInBounds_toArray, List.set_cons_succ, List.set_cons_zero]
  refine wpT_st0 M8 0 (cs U8 (K (pv a b))) inf_key rfl rfl rfl rfl (by go_simp) (by go_simp) (by simp [ha, hb]) (by simp [ha, hb]) (by simp [go_sem]) rfl (fun w9 M10 => ?_)
  dsimp only [List.set] at M10
  refine wpT_vald 6 (v := .int .i64 0) rfl rfl rfl rfl ?_
  dsimp only [wpT]
  simp only [Act.put, List.setIfInBounds_toArray, List.set_cons_succ, List.set_cons_zero]
  go_upto_region 4 with fail
  refine wp_region_seq 8 [19, 20, 21, 22, 18, 23, 24, 7] [] [6] [] (.op 8 (.op 9 .done)) (Mm no w _) (by kernel_rfl) (by kernel_rfl) (by kernel_rfl) (fun d _ _ _ _ h => by cases d <;> exact h) (by rfl) M10.size (fun _ _ h k => h.sf k) M10 ?_
  simp only [List.take_succ_cons, List.take_zero]
  refine SeqA.ld0 Try.underlying23 rfl inf_key (w.heap.size + 1) (cs U8 b) rfl (by go_simp) (fun _ M => M.row (by simp)) (by simp [ha, hb]) rfl ?_
  refine SeqA.ld0 Try.underlying23 rfl inf_key (w.heap.size) (cs U8 a) rfl (by go_simp) (fun _ M => M.row (by simp)) (by simp [ha, hb]) rfl ?_
  refine SeqA.call _ _ _ (fun w' => by go_simp) (fun w' hI _ => public_c w' a (by simp [ha, hb])) M10.size rfl rfl ?_
  refine SeqA.call _ _ _ (fun w' => by go_simp) (fun w' hI _ => shared_q w' a b (by simp [ha, hb]) (by simp [ha, hb])) M10.size rfl rfl ?_
  refine SeqA.pure (.tuple #[.agg (cs U8 (K (pv a b))), .int .i64 0]) (fun w' => by go_simp) rfl rfl ?_
  simp only [Act.put, List.setIfInBounds_toArray, List.set_cons_succ, List.set_cons_zero]
  refine SeqA.pure (.agg (cs U8 (K (pv a b)))) (fun w' => by go_simp) rfl rfl ?_
  refine SeqA.pure (.int .i64 0) (fun w' => by go_simp) rfl rfl ?_
  refine SeqA.var (z := .agg (cs U8 (zs 32))) (by kernel_rfl) rfl rfl (by decide) rfl ?_
  refine SeqA.nil (fun w11 M12 hz => ?_)
  refine news_one (fun b13 hb1 hb2 hb3 => ?_)
  have M14 := M10.in_ (c := cs U8 (zs 32)) M12 hb1 hb2 (by decide) hb3 rfl
  show wpT _ _ _ _ _ _
  simp only [Act.put, List.setIfInBounds_toArray, List.set_cons_succ, List.set_cons_zero]
  refine wpT_st0 M14 0 (cs U8 (K (pv a b))) inf_key rfl rfl rfl rfl (by go_simp) (by go_simp) (by simp [ha, hb]) (by simp [ha, hb]) (by simp [go_sem]) rfl (fun w15 M16 => ?_)
  dsimp only [List.set] at M16
  refine wpT_vald 8 (v := .int .i64 0) rfl rfl rfl rfl ?_
  dsimp only [wpT]
  simp only [Act.put, List.setIfInBounds_toArray, List.set_cons_succ, List.set_cons_zero]
  go_upto_region 5 with fail
  refine wp_region_seq 23 [25, 26, 27, 28, 29, 30, 31, 32, 33, 34, 35, 36, 37, 38, 39, 40, 41, 42, 43, 44, 45, 46, 4] [] [] [] (.done) (Mm no w _) (by kernel_rfl) (by kernel_rfl) (by kernel_rfl) (fun d _ _ _ _ h => by cases d <;> exact h) (by rfl) M16.size (fun _ _ h k => h.sf k) M16 ?_
  simp only [List.take_succ_cons, List.take_zero]
  refine SeqA.pure (.int .i64 0) (fun w' => by go_simp) rfl rfl ?_
  refine SeqA.pure (.bool true) (fun w' => by go_simp) rfl rfl ?_
  refine SeqA.pure (.bool true) (fun w' => by go_simp) rfl rfl ?_
  refine SeqA.pure (.int .i64 0) (fun w' => by go_simp) rfl (by simp [Region.wanted, yielded, Act.put]) ?_
  refine SeqA.pure (.bool true) (fun w' => by go_simp) rfl (by simp [Region.wanted, yielded, Act.put]) ?_
  simp only [Act.put, List.setIfInBounds_toArray, List.set_cons_succ, List.set_cons_zero]
  refine SeqA.pure (.bool true) (fun w' => by go_simp) rfl rfl ?_
  refine SeqA.pure (.bool true) (fun w' => by go_simp) rfl rfl ?_
  refine SeqA.ld0 Try.underlying23 rfl inf_key (b7) (cs U8 (K (pv a b))) rfl (by go_simp) (fun _ M => M.row (by simp)) (by simp [ha, hb]) (by simp [Region.wanted, yielded, Act.put]) ?_
  refine SeqA.ld0 Try.underlying23 rfl inf_key (b13) (cs U8 (K (pv a b))) rfl (by go_simp) (fun _ M => M.row (by simp)) (by simp [ha, hb]) (by simp [Region.wanted, yielded, Act.put]) ?_
  refine SeqA.pure (.bool true) (fun w' => by have q := eqt w' (pv a b) (pv a b) (rfl); go_simp) rfl (by simp [Region.wanted, yielded, Act.put]) ?_
  refine SeqA.pure (.bool true) (fun w' => by go_simp) rfl rfl ?_
  simp only [Act.put, List.setIfInBounds_toArray, List.set_cons_succ, List.set_cons_zero]
  refine SeqA.pure (.bool true) (fun w' => by go_simp) rfl rfl ?_
  refine SeqA.ld0 Try.underlying23 rfl inf_key (b7) (cs U8 (K (pv a b))) rfl (by go_simp) (fun _ M => M.row (by simp)) (by simp [ha, hb]) (by simp [Region.wanted, yielded, Act.put]) ?_
  refine SeqA.call _ _ _ (fun w' => by go_simp) (fun w' hI _ => fzero_f w' _ (by simp) (pv a b) (Fk_K _) HN.out) M16.size rfl (by simp [Region.wanted, yielded, Act.put]) ?_
  refine SeqA.pure (.bool true) (fun w' => by go_simp) rfl (by simp [Region.wanted, yielded, Act.put]) ?_
  refine SeqA.pure (.bool true) (fun w' => by go_simp) rfl rfl ?_
  refine SeqA.pure (.bool true) (fun w' => by go_simp) rfl rfl ?_
  simp only [Act.put, List.setIfInBounds_toArray, List.set_cons_succ, List.set_cons_zero]
  refine SeqA.ld0 Try.underlying23 rfl inf_key (b7) (cs U8 (K (pv a b))) rfl (by go_simp) (fun _ M => M.row (by simp)) (by simp [ha, hb]) (by simp [Region.wanted, yielded, Act.put]) ?_
  refine SeqA.call _ _ _ (fun w' => by go_simp) (fun w' hI _ => fcanon_c w' (K (pv a b)) (by simp [ha, hb]) (pv a b) (Fk_K _)) M16.size rfl (by simp [Region.wanted, yielded, Act.put]) ?_
  refine SeqA.ld0 Try.underlying23 rfl inf_key (b7) (cs U8 (K (pv a b))) rfl (by go_simp) (fun _ M => M.row (by simp)) (by simp [ha, hb]) (by simp [Region.wanted, yielded, Act.put]) ?_
  refine SeqA.pure (.bool true) (fun w' => by have q := eqt w' ((pv a b)) (pv a b) (by grind); go_simp) rfl (by simp [Region.wanted, yielded, Act.put]) ?_
  refine SeqA.pure (.bool true) (fun w' => by go_simp) rfl rfl ?_
  refine SeqA.pure (.bool true) (fun w' => by go_simp) rfl rfl ?_
  refine SeqA.nil (fun w17 M18 hz => ?_)
  show wpT _ _ _ _ _ _
  simp only [Act.put, List.setIfInBounds_toArray, List.set_cons_succ, List.set_cons_zero]
  dsimp only [wpT]
  go_wp2_with fail
  go_ret
  exact ⟨rfl, M18.end_⟩
set_option maxRecDepth 100000 in
set_option maxHeartbeats 2000000 in
theorem CurveBits_w (w : World) (a b : List (BitVec 8)) (ha : a.length = 32) (hb : b.length = 32) :
    Calls Try.prog 12 #[.agg (cs U8 a), .agg (cs U8 b)] w fun e w' => e = .returned (.bool true) ∧ Below w.heap.size w w' := by
  have HZ7 := hid (clamp_z7 a ha)
  have HCL := hid (show (clampB a).length = 32 by simp [ha])
  have HZ64 := hid (clamp_z64 a ha)
  have M0 := Mm.start no w
  go_enter Try.func12, Try.ntmps12
  have M2 := ((M0.alloc (cs U8 a) 23 (by decide)).alloc (cs U8 b) 23 (by decide))
  try simp only [World.size_alloc] at M2
  go_upto_region 1 with fail
  obtain ⟨w1, hw1⟩ : ∃ w1, w1 = ((w.alloc (.cells (cs U8 a) 23)).alloc (.cells (cs U8 b) 23)) := ⟨_, rfl⟩
  rw [← hw1] at M2 ⊢
  clear hw1
  refine wp_region_seqF 2 [14, 15] [] [] [] (.done) (Mm no w _) (by kernel_rfl) (by kernel_rfl) (fun d _ _ _ _ h => by cases d <;> exact h) (by rfl) M2.size (fun _ _ h k => h.sf k) M2 (by kernel_rfl) ?_
  simp only [List.take_succ_cons, List.take_zero]
  refine SeqA.call _ _ _ (fun w' => by go_simp) (fun w' hI _ => alive2_c w') M2.size rfl rfl ?_
  refine SeqA.pure (.bool false) (fun w' => by go_simp) rfl rfl ?_
  refine SeqA.nil (fun w3 M4 hz => ?_)
  show wpT _ _ _ _ _ _
  simp only [Act.put, List.setIfInBounds_toArray, List.set_cons_succ, List.set_cons_zero]
  dsimp only [wpT]
  go_upto_region 3 with fail
  refine wp_region_seqF 2 [16, 5] [] [] [] (.op 2 .done) (Mm no w _) (by kernel_rfl) (by kernel_rfl) (fun d _ _ _ _ h => by cases d <;> exact h) (by rfl) M4.size (fun _ _ h k => h.sf k) M4 (by kernel_rfl) ?_
  simp only [List.take_succ_cons, List.take_zero]
  refine SeqA.ld0 Try.underlying23 rfl inf_key (w.heap.size + 1) (cs U8 b) rfl (by go_simp) (fun _ M => M.row (by simp)) (by simp [ha, hb]) rfl ?_
  refine SeqA.var (z := .agg (cs U8 (zs 32))) (by kernel_rfl) rfl rfl (by decide) rfl ?_
  refine SeqA.nil (fun w5 M6 hz => ?_)
  refine news_one (fun b7 hb1 hb2 hb3 => ?_)
  have M8 := M4.in_ (c := cs U8 (zs 32)) M6 hb1 hb2 (by decide) hb3 rfl
  show wpT _ _ _ _ _ _
  simp only [Act.put, List.setIfInBounds_toArray, List.set_cons_succ, List.set_cons_zero]
  refine wpT_st0 M8 0 (cs U8 b) inf_key rfl rfl rfl rfl (by go_simp) (by go_simp) (by simp [ha, hb]) (by simp [ha, hb]) (by simp [go_sem]) rfl (fun w9 M10 => ?_)
  dsimp only [List.set] at M10
  dsimp only [wpT]
  go_upto_region 4 with fail
  refine wp_region_seqF 4 [17, 18, 19, 20] [] [] [] (.op 4 .done) (Mm no w _) (by kernel_rfl) (by kernel_rfl) (fun d _ _ _ _ h => by cases d <;> exact h) (by rfl) M10.size (fun _ _ h k => h.sf k) M10 (by kernel_rfl) ?_
  simp only [List.take_succ_cons, List.take_zero]
  refine SeqA.pure (.pointer (some ⟨b7, 31, none⟩)) (fun w' => by go_simp) rfl rfl ?_
  refine SeqA.read (U8 (g8 b 31)) (fun w' M => by have c0 := cell_g8 (M.row (b := b7) (c := cs U8 b) (by simp)) (i := 31) (by rw [hb]; decide); go_simp) rfl rfl ?_
  refine SeqA.pure (U8 (g8 b 31 ^^^ 128#8)) (fun w' => by go_simp) rfl rfl ?_
  refine SeqA.pure (.pointer (some ⟨b7, 31, none⟩)) (fun w' => by go_simp) rfl rfl ?_
  refine SeqA.nil (fun w11 M12 hz => ?_)
  show wpT _ _ _ _ _ _
  simp only [Act.put, List.setIfInBounds_toArray, List.set_cons_succ, List.set_cons_zero]
  refine wpT_stc M12 0 (U8 (g8 b 31 ^^^ 128#8)) (cs U8 (b.set 31 (g8 b 31 ^^^ 128#8))) inf_u8 rfl rfl rfl rfl (by go_simp) (by go_simp) (by have := (by rw [hb]; decide : 31 < b.length); first | (simp; done) | (simpa using this) | (simp; omega)) (by simp [go_sem]) (cs_set _ _) rfl (fun w13 M14 => ?_)
  dsimp only [List.set] at M14
  dsimp only [wpT]
  go_upto_region 5 with fail
  refine wp_region_seqF 2 [21, 6] [] [] [] (.op 2 .done) (Mm no w _) (by kernel_rfl) (by kernel_rfl) (fun d _ _ _ _ h => by cases d <;> exact h) (by rfl) M14.size (fun _ _ h k => h.sf k) M14 (by kernel_rfl) ?_
  simp only [List.take_succ_cons, List.take_zero]
  refine SeqA.ld0 Try.underlying23 rfl inf_key (w.heap.size + 1) (cs U8 b) rfl (by go_simp) (fun _ M => M.row (by simp)) (by simp [ha, hb]) rfl ?_
  refine SeqA.var (z := .agg (cs U8 (zs 32))) (by kernel_rfl) rfl rfl (by decide) rfl ?_
  refine SeqA.nil (fun w15 M16 hz => ?_)
  refine news_one (fun b17 hb1 hb2 hb3 => ?_)
  have M18 := M14.in_ (c := cs U8 (zs 32)) M16 hb1 hb2 (by decide) hb3 rfl
  show wpT _ _ _ _ _ _
  simp only [Act.put, List.setIfInBounds_toArray, List.set_cons_succ, List.set_cons_zero]
  refine wpT_st0 M18 0 (cs U8 b) inf_key rfl rfl rfl rfl (by go_simp) (by go_simp) (by simp [ha, hb]) (by simp [ha, hb]) (by simp [go_sem]) rfl (fun w19 M20 => ?_)
  dsimp only [List.set] at M20
  dsimp only [wpT]
  go_upto_region 6 with fail
  refine wp_region_seqF 4 [22, 23, 24, 25] [] [] [] (.op 4 .done) (Mm no w _) (by kernel_rfl) (by kernel_rfl) (fun d _ _ _ _ h => by cases d <;> exact h) (by rfl) M20.size (fun _ _ h k => h.sf k) M20 (by kernel_rfl) ?_
  simp only [List.take_succ_cons, List.take_zero]
  refine SeqA.pure (.pointer (some ⟨b17, 31, none⟩)) (fun w' => by go_simp) rfl rfl ?_
  refine SeqA.read (U8 (g8 b 31)) (fun w' M => by have c0 := cell_g8 (M.row (b := b17) (c := cs U8 b) (by simp)) (i := 31) (by rw [hb]; decide); go_simp) rfl rfl ?_
  refine SeqA.pure (U8 (hi0 (g8 b 31))) (fun w' => by have q := hi0_eq (g8 b 31); go_simp) rfl rfl ?_
  refine SeqA.pure (.pointer (some ⟨b17, 31, none⟩)) (fun w' => by go_simp) rfl rfl ?_
  refine SeqA.nil (fun w21 M22 hz => ?_)
  show wpT _ _ _ _ _ _
  simp only [Act.put, List.setIfInBounds_toArray, List.set_cons_succ, List.set_cons_zero]
  refine wpT_stc M22 0 (U8 (hi0 (g8 b 31))) (cs U8 (b.set 31 (hi0 (g8 b 31)))) inf_u8 rfl rfl rfl rfl (by go_simp) (by go_simp) (by have := (by rw [hb]; decide : 31 < b.length); first | (simp; done) | (simpa using this) | (simp; omega)) (by simp [go_sem]) (cs_set _ _) rfl (fun w23 M24 => ?_)
  dsimp only [List.set] at M24
  dsimp only [wpT]
  go_upto_region 7 with fail
  refine wp_region_seqF 2 [26, 27] [] [] [] (.op 2 .done) (Mm no w _) (by kernel_rfl) (by kernel_rfl) (fun d _ _ _ _ h => by cases d <;> exact h) (by rfl) M24.size (fun _ _ h k => h.sf k) M24 (by kernel_rfl) ?_
  simp only [List.take_succ_cons, List.take_zero]
  refine SeqA.ld0 Try.underlying23 rfl inf_key (b17) (cs U8 (b.set 31 (hi0 (g8 b 31)))) rfl (by go_simp) (fun _ M => M.row (by simp)) (by simp [ha, hb]) rfl ?_
  refine SeqA.call _ _ _ (fun w' => by go_simp) (fun w' hI _ => fcanon_c w' (b.set 31 (hi0 (g8 b 31))) (by simp [ha, hb]) (Fk (maskB b)) rfl) M24.size rfl rfl ?_
  refine SeqA.nil (fun w25 M26 hz => ?_)
  show wpT _ _ _ _ _ _
  simp only [Act.put, List.setIfInBounds_toArray, List.set_cons_succ, List.set_cons_zero]
  refine wpT_st0 M26 0 (cs U8 (K (Fk (maskB b)))) inf_key rfl rfl rfl rfl (by go_simp) (by go_simp) (by simp [ha, hb]) (by simp [ha, hb]) (by simp [go_sem]) rfl (fun w27 M28 => ?_)
  dsimp only [List.set] at M28
  dsimp only [wpT]
  go_upto_region 8 with fail
  refine wp_region_seqF 7 [29, 30, 31, 28, 32, 33, 7] [] [5] [] (.op 7 (.op 8 .done)) (Mm no w _) (by kernel_rfl) (by kernel_rfl) (fun d _ _ _ _ h => by cases d <;> exact h) (by rfl) M28.size (fun _ _ h k => h.sf k) M28 (by kernel_rfl) ?_
  simp only [List.take_succ_cons, List.take_zero]
  refine SeqA.ld0 Try.underlying23 rfl inf_key (w.heap.size) (cs U8 a) rfl (by go_simp) (fun _ M => M.row (by simp)) (by simp [ha, hb]) rfl ?_
  refine SeqA.ld0 Try.underlying23 rfl inf_key (w.heap.size + 1) (cs U8 b) rfl (by go_simp) (fun _ M => M.row (by simp)) (by simp [ha, hb]) rfl ?_
  refine SeqA.call _ _ _ (fun w' => by go_simp) (fun w' hI _ => shared_c w' a b (by simp [ha, hb]) (by simp [ha, hb])) M28.size rfl rfl ?_
  refine SeqA.pure (.tuple #[.agg (cs U8 (K (shv a b))), .int .i64 (ec (shv a b))]) (fun w' => by go_simp) rfl rfl ?_
  refine SeqA.pure (.agg (cs U8 (K (shv a b)))) (fun w' => by go_simp) rfl rfl ?_
  simp only [Act.put, List.setIfInBounds_toArray, List.set_cons_succ, List.set_cons_zero]
  refine SeqA.pure (.int .i64 (ec (shv a b))) (fun w' => by go_simp) rfl rfl ?_
  refine SeqA.var (z := .agg (cs U8 (zs 32))) (by kernel_rfl) rfl rfl (by decide) rfl ?_
  refine SeqA.nil (fun w29 M30 hz => ?_)
  refine news_one (fun b31 hb1 hb2 hb3 => ?_)
  have M32 := M28.in_ (c := cs U8 (zs 32)) M30 hb1 hb2 (by decide) hb3 rfl
  show wpT _ _ _ _ _ _
  simp only [Act.put, List.setIfInBounds_toArray, List.set_cons_succ, List.set_cons_zero]
  refine wpT_st0 M32 0 (cs U8 (K (shv a b))) inf_key rfl rfl rfl rfl (by go_simp) (by go_simp) (by simp [ha, hb]) (by simp [ha, hb]) (by simp [go_sem]) rfl (fun w33 M34 => ?_)
  dsimp only [List.set] at M34
  refine wpT_vald 8 (v := .int .i64 (ec (shv a b))) rfl rfl rfl rfl ?_
  dsimp only [wpT]
  simp only [Act.put, List.setIfInBounds_toArray, List.set_cons_succ, List.set_cons_zero]
  go_upto_region 9 with fail
  refine wp_region_seq 8 [35, 36, 37, 38, 34, 39, 40, 9] [] [6] [] (.op 8 (.op 9 .done)) (Mm no w _) (by kernel_rfl) (by kernel_rfl) (by kernel_rfl) (fun d _ _ _ _ h => by cases d <;> exact h) (by rfl) M34.size (fun _ _ h k => h.sf k) M34 ?_
  simp only [List.take_succ_cons, List.take_zero]
  refine SeqA.ld0 Try.underlying23 rfl inf_key (w.heap.size) (cs U8 a) rfl (by go_simp) (fun _ M => M.row (by simp)) (by simp [ha, hb]) rfl ?_
  refine SeqA.call _ _ _ (fun w' => by go_simp) (fun w' hI _ => clamp_any w' a (by simp [ha, hb])) M34.size rfl rfl ?_
  refine SeqA.ld0 Try.underlying23 rfl inf_key (b7) (cs U8 (b.set 31 (g8 b 31 ^^^ 128#8))) rfl (by go_simp) (fun _ M => M.row (by simp)) (by simp [ha, hb]) rfl ?_
  refine SeqA.call _ _ _ (fun w' => by go_simp) (fun w' hI _ => shared_b w' a b (clampB a) (b.set 31 (g8 b 31 ^^^ 128#8)) (by simp [ha, hb]) (by simp [ha, hb]) (clampB_clampB a ha) (by rw [maskB_flip b hb])) M34.size rfl rfl ?_
  refine SeqA.pure (.tuple #[.agg (cs U8 (K (shv a b))), .int .i64 (ec (shv a b))]) (fun w' => by go_simp) rfl rfl ?_
  simp only [Act.put, List.setIfInBounds_toArray, List.set_cons_succ, List.set_cons_zero]
  refine SeqA.pure (.agg (cs U8 (K (shv a b)))) (fun w' => by go_simp) rfl rfl ?_
  refine SeqA.pure (.int .i64 (ec (shv a b))) (fun w' => by go_simp) rfl rfl ?_
  refine SeqA.var (z := .agg (cs U8 (zs 32))) (by kernel_rfl) rfl rfl (by decide) rfl ?_
  refine SeqA.nil (fun w35 M36 hz => ?_)
  refine news_one (fun b37 hb1 hb2 hb3 => ?_)
  have M38 := M34.in_ (c := cs U8 (zs 32)) M36 hb1 hb2 (by decide) hb3 rfl
  show wpT _ _ _ _ _ _
  simp only [Act.put, List.setIfInBounds_toArray, List.set_cons_succ, List.set_cons_zero]
  refine wpT_st0 M38 0 (cs U8 (K (shv a b))) inf_key rfl rfl rfl rfl (by go_simp) (by go_simp) (by simp [ha, hb]) (by simp [ha, hb]) (by simp [go_sem]) rfl (fun w39 M40 => ?_)
  dsimp only [List.set] at M40
  refine wpT_vald 10 (v := .int .i64 (ec (shv a b))) rfl rfl rfl rfl ?_
  dsimp only [wpT]
  simp only [Act.put, List.setIfInBounds_toArray, List.set_cons_succ, List.set_cons_zero]
  go_upto_region 10 with fail
  refine wp_region_seqF 7 [42, 43, 44, 41, 45, 46, 11] [] [5] [] (.op 7 (.op 8 .done)) (Mm no w _) (by kernel_rfl) (by kernel_rfl) (fun d _ _ _ _ h => by cases d <;> exact h) (by rfl) M40.size (fun _ _ h k => h.sf k) M40 (by kernel_rfl) ?_
  simp only [List.take_succ_cons, List.take_zero]
  refine SeqA.ld0 Try.underlying23 rfl inf_key (w.heap.size) (cs U8 a) rfl (by go_simp) (fun _ M => M.row (by simp)) (by simp [ha, hb]) rfl ?_
  refine SeqA.ld0 Try.underlying23 rfl inf_key (b17) (cs U8 (K (Fk (maskB b)))) rfl (by go_simp) (fun _ M => M.row (by simp)) (by simp [ha, hb]) rfl ?_
  refine SeqA.call _ _ _ (fun w' => by go_simp) (fun w' hI _ => shared_b w' a b a (K (Fk (maskB b))) (by simp [ha, hb]) (by simp [ha, hb]) rfl (by rw [maskB_K, Fk_K])) M40.size rfl rfl ?_
  refine SeqA.pure (.tuple #[.agg (cs U8 (K (shv a b))), .int .i64 (ec (shv a b))]) (fun w' => by go_simp) rfl rfl ?_
  refine SeqA.pure (.agg (cs U8 (K (shv a b)))) (fun w' => by go_simp) rfl rfl ?_
  simp only [Act.put, List.setIfInBounds_toArray, List.set_cons_succ, List.set_cons_zero]
  refine SeqA.pure (.int .i64 (ec (shv a b))) (fun w' => by go_simp) rfl rfl ?_
  refine SeqA.var (z := .agg (cs U8 (zs 32))) (by kernel_rfl) rfl rfl (by decide) rfl ?_
  refine SeqA.nil (fun w41 M42 hz => ?_)
  refine news_one (fun b43 hb1 hb2 hb3 => ?_)
  have M44 := M40.in_ (c := cs U8 (zs 32)) M42 hb1 hb2 (by decide) hb3 rfl
  show wpT _ _ _ _ _ _
  simp only [Act.put, List.setIfInBounds_toArray, List.set_cons_succ, List.set_cons_zero]
  refine wpT_st0 M44 0 (cs U8 (K (shv a b))) inf_key rfl rfl rfl rfl (by go_simp) (by go_simp) (by simp [ha, hb]) (by simp [ha, hb]) (by simp [go_sem]) rfl (fun w45 M46 => ?_)
  dsimp only [List.set] at M46
  refine wpT_vald 12 (v := .int .i64 (ec (shv a b))) rfl rfl rfl rfl ?_
  dsimp only [wpT]
  simp only [Act.put, List.setIfInBounds_toArray, List.set_cons_succ, List.set_cons_zero]
  go_upto_region 11 with fail
  refine wp_region_seqF 3 [47, 48, 13] [] [] [] (.op 3 .done) (Mm no w _) (by kernel_rfl) (by kernel_rfl) (fun d _ _ _ _ h => by cases d <;> exact h) (by rfl) M46.size (fun _ _ h k => h.sf k) M46 (by kernel_rfl) ?_
  simp only [List.take_succ_cons, List.take_zero]
  refine SeqA.ld0 Try.underlying23 rfl inf_key (w.heap.size) (cs U8 a) rfl (by go_simp) (fun _ M => M.row (by simp)) (by simp [ha, hb]) rfl ?_
  refine SeqA.call _ _ _ (fun w' => by go_simp) (fun w' hI _ => clamp_any w' a (by simp [ha, hb])) M46.size rfl rfl ?_
  refine SeqA.var (z := .agg (cs U8 (zs 32))) (by kernel_rfl) rfl rfl (by decide) rfl ?_
  refine SeqA.nil (fun w47 M48 hz => ?_)
  refine news_one (fun b49 hb1 hb2 hb3 => ?_)
  have M50 := M46.in_ (c := cs U8 (zs 32)) M48 hb1 hb2 (by decide) hb3 rfl
  show wpT _ _ _ _ _ _
  simp only [Act.put, List.setIfInBounds_toArray, List.set_cons_succ, List.set_cons_zero]
  refine wpT_st0 M50 0 (cs U8 (clampB a)) inf_key rfl rfl rfl rfl (by go_simp) (by go_simp) (by simp [ha, hb]) (by simp [ha, hb]) (by simp [go_sem]) rfl (fun w51 M52 => ?_)
  dsimp only [List.set] at M52
  dsimp only [wpT]
  go_upto_region 12 with fail
  refine wp_region_seq 44 [49, 50, 51, 52, 53, 54, 55, 56, 57, 58, 59, 60, 61, 62, 63, 64, 65, 66, 67, 68, 69, 70, 71, 72, 73, 74, 75, 76, 77, 78, 79, 80, 81, 82, 83, 84, 85, 86, 87, 88, 89, 90, 91, 4] [] [] [] (.done) (Mm no w _) (by kernel_rfl) (by kernel_rfl) (by kernel_rfl) (fun d _ _ _ _ h => by cases d <;> exact h) (by rfl) M52.size (fun _ _ h k => h.sf k) M52 ?_
  simp only [List.append_eq, List.cons_append, List.nil_append, List.take_succ_cons, List.take_zero]
  refine SeqA.ld0 Try.underlying23 rfl inf_key (b31) (cs U8 (K (shv a b))) rfl (by go_simp) (fun _ M => M.row (by simp)) (by simp [ha, hb]) rfl ?_
  refine SeqA.ld0 Try.underlying23 rfl inf_key (b37) (cs U8 (K (shv a b))) rfl (by go_simp) (fun _ M => M.row (by simp)) (by simp [ha, hb]) rfl ?_
  refine SeqA.pure (.bool true) (fun w' => by have q := eqt w' (shv a b) (shv a b) (rfl); go_simp) rfl rfl ?_
  refine SeqA.pure (.bool true) (fun w' => by go_simp) rfl rfl ?_
  refine SeqA.pure (.int .i64 (ec (shv a b))) (fun w' => by go_simp) rfl (by simp [Region.wanted, yielded, Act.put]) ?_
  simp only [Act.put, List.setIfInBounds_toArray, List.set_cons_succ, List.set_cons_zero]
  refine SeqA.pure (.int .i64 (ec (shv a b))) (fun w' => by go_simp) rfl (by simp [Region.wanted, yielded, Act.put]) ?_
  refine SeqA.pure (.bool true) (fun w' => by go_simp) rfl (by simp [Region.wanted, yielded, Act.put]) ?_
  refine SeqA.pure (.bool true) (fun w' => by go_simp) rfl rfl ?_
  refine SeqA.pure (.bool true) (fun w' => by go_simp) rfl rfl ?_
  refine SeqA.ld0 Try.underlying23 rfl inf_key (b31) (cs U8 (K (shv a b))) rfl (by go_simp) (fun _ M => M.row (by simp)) (by simp [ha, hb]) (by simp [Region.wanted, yielded, Act.put]) ?_
  refine SeqA.ld0 Try.underlying23 rfl inf_key (b43) (cs U8 (K (shv a b))) rfl (by go_simp) (fun _ M => M.row (by simp)) (by simp [ha, hb]) (by simp [Region.wanted, yielded, Act.put]) ?_
  simp only [Act.put, List.setIfInBounds_toArray, List.set_cons_succ, List.set_cons_zero]
  refine SeqA.pure (.bool true) (fun w' => by have q := eqt w' (shv a b) (shv a b) (rfl); go_simp) rfl (by simp [Region.wanted, yielded, Act.put]) ?_
  refine SeqA.pure (.bool true) (fun w' => by go_simp) rfl rfl ?_
  refine SeqA.pure (.bool true) (fun w' => by go_simp) rfl rfl ?_
  refine SeqA.pure (.int .i64 (ec (shv a b))) (fun w' => by go_simp) rfl (by simp [Region.wanted, yielded, Act.put]) ?_
  refine SeqA.pure (.int .i64 (ec (shv a b))) (fun w' => by go_simp) rfl (by simp [Region.wanted, yielded, Act.put]) ?_
  refine SeqA.pure (.bool true) (fun w' => by go_simp) rfl (by simp [Region.wanted, yielded, Act.put]) ?_
  simp only [Act.put, List.setIfInBounds_toArray, List.set_cons_succ, List.set_cons_zero]
  refine SeqA.pure (.bool true) (fun w' => by go_simp) rfl rfl ?_
  refine SeqA.pure (.bool true) (fun w' => by go_simp) rfl rfl ?_
  refine SeqA.ld0 Try.underlying23 rfl inf_key (b49) (cs U8 (clampB a)) rfl (by go_simp) (fun _ M => M.row (by simp)) (by simp [ha, hb]) (by simp [Region.wanted, yielded, Act.put]) ?_
  refine SeqA.call _ _ _ (fun w' => by go_simp) (fun w' hI _ => clamp_cc w' a ha) M52.size rfl (by simp [Region.wanted, yielded, Act.put]) ?_
  refine SeqA.ld0 Try.underlying23 rfl inf_key (b49) (cs U8 (clampB a)) rfl (by go_simp) (fun _ M => M.row (by simp)) (by simp [ha, hb]) (by simp [Region.wanted, yielded, Act.put]) ?_
  refine SeqA.pure (.bool true) (fun w' => by have q := eqL w' (clampB a) HCL.out; go_simp) rfl (by simp [Region.wanted, yielded, Act.put]) ?_
  simp only [Act.put, List.setIfInBounds_toArray, List.set_cons_succ, List.set_cons_zero]
  refine SeqA.pure (.bool true) (fun w' => by go_simp) rfl rfl ?_
  refine SeqA.pure (.bool true) (fun w' => by go_simp) rfl rfl ?_
  refine SeqA.pure (.pointer (some ⟨b49, 0, none⟩)) (fun w' => by go_simp) rfl (by simp [Region.wanted, yielded, Act.put]) ?_
  refine SeqA.read (U8 (g8 (clampB a) 0)) (fun w' M => by have c0 := cell_g8 (M.row (b := b49) (c := cs U8 (clampB a)) (by simp)) (i := 0) (by rw [clampB_len, ha]; decide); go_simp) rfl (by simp [Region.wanted, yielded, Act.put]) ?_
  refine SeqA.pure (.int .u8 0) (fun w' => by have h := HZ7.out; go_simp) rfl (by simp [Region.wanted, yielded, Act.put]) ?_
  refine SeqA.pure (.bool true) (fun w' => by go_simp) rfl (by simp [Region.wanted, yielded, Act.put]) ?_
  simp only [Act.put, List.setIfInBounds_toArray, List.set_cons_succ, List.set_cons_zero]
  refine SeqA.pure (.bool true) (fun w' => by go_simp) rfl rfl ?_
  refine SeqA.pure (.bool true) (fun w' => by go_simp) rfl rfl ?_
  refine SeqA.pure (.pointer (some ⟨b49, 31, none⟩)) (fun w' => by go_simp) rfl (by simp [Region.wanted, yielded, Act.put]) ?_
  refine SeqA.read (U8 (g8 (clampB a) 31)) (fun w' M => by have c0 := cell_g8 (M.row (b := b49) (c := cs U8 (clampB a)) (by simp)) (i := 31) (by rw [clampB_len, ha]; decide); go_simp) rfl (by simp [Region.wanted, yielded, Act.put]) ?_
  refine SeqA.pure (.int .u8 64) (fun w' => by have h := HZ64.out; go_simp) rfl (by simp [Region.wanted, yielded, Act.put]) ?_
  refine SeqA.pure (.bool true) (fun w' => by go_simp) rfl (by simp [Region.wanted, yielded, Act.put]) ?_
  simp only [Act.put, List.setIfInBounds_toArray, List.set_cons_succ, List.set_cons_zero]
  refine SeqA.pure (.bool true) (fun w' => by go_simp) rfl rfl ?_
  refine SeqA.pure (.bool true) (fun w' => by go_simp) rfl rfl ?_
  refine SeqA.ld0 Try.underlying23 rfl inf_key (w.heap.size) (cs U8 a) rfl (by go_simp) (fun _ M => M.row (by simp)) (by simp [ha, hb]) (by simp [Region.wanted, yielded, Act.put]) ?_
  refine SeqA.call _ _ _ (fun w' => by go_simp) (fun w' hI _ => public_c w' a (by simp [ha, hb])) M52.size rfl (by simp [Region.wanted, yielded, Act.put]) ?_
  refine SeqA.ld0 Try.underlying23 rfl inf_key (b49) (cs U8 (clampB a)) rfl (by go_simp) (fun _ M => M.row (by simp)) (by simp [ha, hb]) (by simp [Region.wanted, yielded, Act.put]) ?_
  refine SeqA.call _ _ _ (fun w' => by go_simp) (fun w' hI _ => public_cc w' a ha) M52.size rfl (by simp [Region.wanted, yielded, Act.put]) ?_
  simp only [Act.put, List.setIfInBounds_toArray, List.set_cons_succ, List.set_cons_zero]
  refine SeqA.pure (.bool true) (fun w' => by have q := eqt w' ((gv (leN (clampB a)) 9)) ((gv (leN (clampB a)) 9)) (rfl); go_simp) rfl (by simp [Region.wanted, yielded, Act.put]) ?_
  refine SeqA.pure (.bool true) (fun w' => by go_simp) rfl rfl ?_
  refine SeqA.pure (.bool true) (fun w' => by go_simp) rfl rfl ?_
  refine SeqA.nil (fun w53 M54 hz => ?_)
  show wpT _ _ _ _ _ _
  simp only [Act.put, List.setIfInBounds_toArray, List.set_cons_succ, List.set_cons_zero]
  dsimp only [wpT]
  go_wp2_with fail
  go_ret
  exact ⟨rfl, M54.end_⟩
end Go.Proofs.Ytgneclfnfnpmkaa
set_option linter.unusedSimpArgs false
set_option linter.unusedVariables false
namespace Go.Proofs.Ytgneclfnfnpmkaa
open Go.RowKit Fp
theorem chain_ab (w : World) (u a b : List (BitVec 8)) (v : Value) (hu : u.length = 32) (ha : a.length = 32) (hb : b.length = 32) (hv : KS w v [b, a]) :
    Calls Try.prog 38 #[.agg (cs U8 u), v] w fun e w' => e = .returned (.tuple #[.agg (cs U8 (K (chF u [a, b]).1)), .int .i64 (chF u [a, b]).2]) ∧ Below w.heap.size w w' := by
  have h := chain_c w u v [b, a] hu hv
  rw [chF_comm u a b ha hb] at h; exact h
theorem chain_v (w : World) (u : List (BitVec 8)) (v : Value) (L : List (List (BitVec 8))) (hu : u.length = 32) (hv : KS w v L) (r : F × Int) (h : chF u L = r) :
    Calls Try.prog 38 #[.agg (cs U8 u), v] w fun e w' => e = .returned (.tuple #[.agg (cs U8 (K r.1)), .int .i64 r.2]) ∧ Below w.heap.size w w' := by
  subst h; exact chain_c w u v L hu hv
theorem maskB_nine : maskB nine = nine := by decide +kernel
theorem shared_n (w : World) (a : List (BitVec 8)) (ha : a.length = 32) :
    Calls Try.prog 32 #[.agg (cs U8 a), .agg (cs U8 nine)] w fun e w' => e = .returned (.tuple #[.agg (cs U8 (K (gv (leN (clampB a)) 9))), .int .i64 0]) ∧ Below w.heap.size w w' := by
  have h := shared_c w a nine ha (by decide)
  have e : shv a nine = gv (leN (clampB a)) 9 := by unfold shv; rw [maskB_nine, Fk_nine]
  have hn : ¬ gv (leN (clampB a)) 9 = 0 := by
    obtain ⟨-, a2⟩ := clamp_rng a ha
    rw [gv_eq]; exact (pair_ne _ _ a2 a2 (clamp_L a ha) (clamp_L a ha)).1
  rw [e, show ec (gv (leN (clampB a)) 9) = 0 from if_neg hn] at h
  exact h
theorem steps0 (u a b : List (BitVec 8)) (hu : u.length = 32) (ha : a.length = 32) (hb : b.length = 32) (h0 : shv a u = 0) :
    (∀ w v, KS w v [a] → Calls Try.prog 38 #[.agg (cs U8 u), v] w fun e w' => e = .returned (.tuple #[.agg (cs U8 (zs 32)), .int .i64 7]) ∧ Below w.heap.size w w') ∧
    (∀ w v, KS w v [a, b] → Calls Try.prog 38 #[.agg (cs U8 u), v] w fun e w' => e = .returned (.tuple #[.agg (cs U8 (zs 32)), .int .i64 7]) ∧ Below w.heap.size w w') ∧
    (∀ w, Calls Try.prog 32 #[.agg (cs U8 a), .agg (cs U8 u)] w fun e w' => e = .returned (.tuple #[.agg (cs U8 (zs 32)), .int .i64 7]) ∧ Below w.heap.size w w') := by
  refine ⟨fun w v hv => ?_, fun w v hv => ?_, fun w => ?_⟩
  · have h := chain_v w u v _ hu hv _ (chF_one0 h0); rw [← K_zero]; exact h
  · have h := chain_v w u v _ hu hv _ (chF_two0 b h0); rw [← K_zero]; exact h
  · have h := shared_c w a u ha hu; rw [h0] at h; rw [← K_zero]; exact h
theorem steps1 (u a b : List (BitVec 8)) (hu : u.length = 32) (ha : a.length = 32) (hb : b.length = 32) (s y : F) (hs : shv a u = s) (h0 : ¬ s = 0) (hy : gv (leN (clampB b)) s = y) :
    (∀ w v, KS w v [a] → Calls Try.prog 38 #[.agg (cs U8 u), v] w fun e w' => e = .returned (.tuple #[.agg (cs U8 (K s)), .int .i64 0]) ∧ Below w.heap.size w w') ∧
    (∀ w v, KS w v [a, b] → Calls Try.prog 38 #[.agg (cs U8 u), v] w fun e w' => e = .returned (.tuple #[.agg (cs U8 (K y)), .int .i64 (ec y)]) ∧ Below w.heap.size w w') ∧
    (∀ w, Calls Try.prog 32 #[.agg (cs U8 a), .agg (cs U8 u)] w fun e w' => e = .returned (.tuple #[.agg (cs U8 (K s)), .int .i64 0]) ∧ Below w.heap.size w w') ∧
    (∀ w, Calls Try.prog 32 #[.agg (cs U8 b), .agg (cs U8 (K s))] w fun e w' => e = .returned (.tuple #[.agg (cs U8 (K y)), .int .i64 (ec y)]) ∧ Below w.heap.size w w') := by
  subst hs hy
  refine ⟨fun w v hv => chain_v w u v _ hu hv _ (chF_one h0), fun w v hv => chain_v w u v _ hu hv _ (chF_two b h0), fun w => ?_, fun w => ?_⟩
  · have h := shared_c w a u ha hu; rw [show ec (shv a u) = 0 from if_neg h0] at h; exact h
  · have h := shared_c w b (K (shv a u)) hb (by simp); rw [shv_K] at h; exact h
attribute [local irreducible] chF gv shv ec
set_option maxRecDepth 100000 in
set_option maxHeartbeats 2000000 in
theorem CurveOrder_w (w : World) (a b c : List (BitVec 8)) (ha : a.length = 32) (hb : b.length = 32) (hc : c.length = 32) :
    Calls Try.prog 15 #[.agg (cs U8 a), .agg (cs U8 b), .agg (cs U8 c)] w fun e w' => e = .returned (.bool true) ∧ Below w.heap.size w w' := by
  have M0 := Mm.start no w
  go_enter Try.func15, Try.ntmps15
  have M2 := (((M0.alloc (cs U8 a) 23 (by decide)).alloc (cs U8 b) 23 (by decide)).alloc (cs U8 c) 23 (by decide))
  try simp only [World.size_alloc] at M2
  go_upto_region 1 with fail
  obtain ⟨w1, hw1⟩ : ∃ w1, w1 = (((w.alloc (.cells (cs U8 a) 23)).alloc (.cells (cs U8 b) 23)).alloc (.cells (cs U8 c) 23)) := ⟨_, rfl⟩
  rw [← hw1] at M2 ⊢
  clear hw1
  refine wp_region_seqF 2 [11, 12] [] [] [] (.done) (Mm no w _) (by kernel_rfl) (by kernel_rfl) (fun d _ _ _ _ h => by cases d <;> exact h) (by rfl) M2.size (fun _ _ h k => h.sf k) M2 (by kernel_rfl) ?_
  simp only [List.take_succ_cons, List.take_zero]
  refine SeqA.call _ _ _ (fun w' => by go_simp) (fun w' hI _ => alive2_c w') M2.size rfl rfl ?_
  refine SeqA.pure (.bool false) (fun w' => by go_simp) rfl rfl ?_
  refine SeqA.nil (fun w3 M4 hz => ?_)
  show wpT _ _ _ _ _ _
  simp only [Act.put, List.setIfInBounds_toArray, List.set_cons_succ, List.set_cons_zero]
  dsimp only [wpT]
  go_upto_region 3 with fail
  refine wp_region_lin (.op 0 (.op 1 (.op 2 (.op 3 (.op 4 (.op 5 (.op 6 (.op 7 (.op 8 (.op 9 (.op 10 .done))))))))))) (by rfl) ?_
  refine wpT_ld0 14 Try.underlying23 rfl inf_key (w.heap.size + 1 + 1) (cs U8 c) rfl rfl rfl (by go_simp) (M4.row (by simp)) (by simp [ha, hb, hc]) rfl ?_
  refine wpT_ld0 15 Try.underlying23 rfl inf_key (w.heap.size) (cs U8 a) rfl rfl rfl (by go_simp) (M4.row (by simp)) (by simp [ha, hb, hc]) rfl ?_
  refine wpT_ld0 16 Try.underlying23 rfl inf_key (w.heap.size + 1) (cs U8 b) rfl rfl rfl (by go_simp) (M4.row (by simp)) (by simp [ha, hb, hc]) rfl ?_
  refine wpT_keys2 17 _ _ M4 a b (by simp [ha, hb, hc]) (by simp [ha, hb, hc]) rfl rfl rfl (by go_simp) (by go_simp) rfl (fun b5 w6 M7 => ?_)
  simp only [Act.put, List.setIfInBounds_toArray, List.set_cons_succ, List.set_cons_zero]
  refine wpT_callv 18 M7 (v := .tuple #[.agg (cs U8 (K ((chF c [a, b]).1))), .int .i64 ((chF c [a, b]).2)]) rfl rfl rfl (by go_simp) (chain_c w6 c (.slice (some ⟨b5, 0, none⟩) 2 2) [a, b] hc (KS.two (b := b5) ha hb (M7.row (by simp)))) (fun w8 M9 => ?_)
  refine wpT_valp 13 (v := .tuple #[.agg (cs U8 (K ((chF c [a, b]).1))), .int .i64 ((chF c [a, b]).2)]) rfl rfl rfl (by go_simp) ?_
  refine wpT_valp 19 (v := .agg (cs U8 (K ((chF c [a, b]).1)))) rfl rfl rfl (by go_simp) ?_
  refine wpT_valp 20 (v := .int .i64 ((chF c [a, b]).2)) rfl rfl rfl (by go_simp) ?_
  refine wpT_new (z := .agg (cs U8 (zs 32))) 7 M9 (by kernel_rfl) (by decide) rfl rfl rfl rfl (fun b10 w11 M12 => ?_)
  try dsimp only [Value.cells] at M12
  simp only [Act.put, List.setIfInBounds_toArray, List.set_cons_succ, List.set_cons_zero]
  refine wpT_st0 M12 0 (cs U8 (K ((chF c [a, b]).1))) inf_key rfl rfl rfl rfl (by go_simp) (by go_simp) (by simp [ha, hb, hc]) (by simp [ha, hb, hc]) (by simp [go_sem]) rfl (fun w13 M14 => ?_)
  dsimp only [List.set] at M14
  refine wpT_valp 8 (v := .int .i64 ((chF c [a, b]).2)) rfl rfl rfl (by go_simp) ?_
  dsimp only [wpT]
  simp only [Act.put, List.setIfInBounds_toArray, List.set_cons_succ, List.set_cons_zero]
  go_upto_region 4 with fail
  refine wp_region_lin (.op 0 (.op 1 (.op 2 (.op 3 (.op 4 (.op 5 (.op 6 (.op 7 (.op 8 (.op 9 (.op 10 .done))))))))))) (by rfl) ?_
  refine wpT_ld0 22 Try.underlying23 rfl inf_key (w.heap.size + 1 + 1) (cs U8 c) rfl rfl rfl (by go_simp) (M14.row (by simp)) (by simp [ha, hb, hc]) rfl ?_
  refine wpT_ld0 23 Try.underlying23 rfl inf_key (w.heap.size + 1) (cs U8 b) rfl rfl rfl (by go_simp) (M14.row (by simp)) (by simp [ha, hb, hc]) rfl ?_
  refine wpT_ld0 24 Try.underlying23 rfl inf_key (w.heap.size) (cs U8 a) rfl rfl rfl (by go_simp) (M14.row (by simp)) (by simp [ha, hb, hc]) rfl ?_
  refine wpT_keys2 25 _ _ M14 b a (by simp [ha, hb, hc]) (by simp [ha, hb, hc]) rfl rfl rfl (by go_simp) (by go_simp) rfl (fun b15 w16 M17 => ?_)
  simp only [Act.put, List.setIfInBounds_toArray, List.set_cons_succ, List.set_cons_zero]
  refine wpT_callv 26 M17 (v := .tuple #[.agg (cs U8 (K ((chF c [a, b]).1))), .int .i64 ((chF c [a, b]).2)]) rfl rfl rfl (by go_simp) (chain_ab w16 c a b (.slice (some ⟨b15, 0, none⟩) 2 2) hc ha hb (KS.two (b := b15) hb ha (M17.row (by simp)))) (fun w18 M19 => ?_)
  refine wpT_valp 21 (v := .tuple #[.agg (cs U8 (K ((chF c [a, b]).1))), .int .i64 ((chF c [a, b]).2)]) rfl rfl rfl (by go_simp) ?_
  refine wpT_valp 27 (v := .agg (cs U8 (K ((chF c [a, b]).1)))) rfl rfl rfl (by go_simp) ?_
  refine wpT_valp 28 (v := .int .i64 ((chF c [a, b]).2)) rfl rfl rfl (by go_simp) ?_
  refine wpT_new (z := .agg (cs U8 (zs 32))) 9 M19 (by kernel_rfl) (by decide) rfl rfl rfl rfl (fun b20 w21 M22 => ?_)
  try dsimp only [Value.cells] at M22
  simp only [Act.put, List.setIfInBounds_toArray, List.set_cons_succ, List.set_cons_zero]
  refine wpT_st0 M22 0 (cs U8 (K ((chF c [a, b]).1))) inf_key rfl rfl rfl rfl (by go_simp) (by go_simp) (by simp [ha, hb, hc]) (by simp [ha, hb, hc]) (by simp [go_sem]) rfl (fun w23 M24 => ?_)
  dsimp only [List.set] at M24
  refine wpT_valp 10 (v := .int .i64 ((chF c [a, b]).2)) rfl rfl rfl (by go_simp) ?_
  dsimp only [wpT]
  simp only [Act.put, List.setIfInBounds_toArray, List.set_cons_succ, List.set_cons_zero]
  go_upto_region 5 with fail
  refine wp_region_seqF 9 [29, 30, 31, 32, 33, 34, 35, 36, 6] [] [] [] (.done) (Mm no w _) (by kernel_rfl) (by kernel_rfl) (fun d _ _ _ _ h => by cases d <;> exact h) (by rfl) M24.size (fun _ _ h k => h.sf k) M24 (by kernel_rfl) ?_
  simp only [List.take_succ_cons, List.take_zero]
  refine SeqA.ld0 Try.underlying23 rfl inf_key (b10) (cs U8 (K ((chF c [a, b]).1))) rfl (by go_simp) (fun _ M => M.row (by simp)) (by simp [ha, hb, hc]) rfl ?_
  refine SeqA.ld0 Try.underlying23 rfl inf_key (b20) (cs U8 (K ((chF c [a, b]).1))) rfl (by go_simp) (fun _ M => M.row (by simp)) (by simp [ha, hb, hc]) rfl ?_
  refine SeqA.pure (.bool true) (fun w' => by have q := eqt w' ((chF c [a, b]).1) ((chF c [a, b]).1) (rfl); go_simp) rfl rfl ?_
  refine SeqA.pure (.bool true) (fun w' => by go_simp) rfl rfl ?_
  refine SeqA.pure (.int .i64 ((chF c [a, b]).2)) (fun w' => by go_simp) rfl (by simp [Region.wanted, yielded, Act.put]) ?_
  simp only [Act.put, List.setIfInBounds_toArray, List.set_cons_succ, List.set_cons_zero]
  refine SeqA.pure (.int .i64 ((chF c [a, b]).2)) (fun w' => by go_simp) rfl (by simp [Region.wanted, yielded, Act.put]) ?_
  refine SeqA.pure (.bool true) (fun w' => by go_simp) rfl (by simp [Region.wanted, yielded, Act.put]) ?_
  refine SeqA.pure (.bool true) (fun w' => by go_simp) rfl rfl ?_
  refine SeqA.pure (.bool true) (fun w' => by go_simp) rfl rfl ?_
  refine SeqA.nil (fun w25 M26 hz => ?_)
  show wpT _ _ _ _ _ _
  simp only [Act.put, List.setIfInBounds_toArray, List.set_cons_succ, List.set_cons_zero]
  dsimp only [wpT]
  go_wp2_with fail
  go_ret
  exact ⟨rfl, M26.end_⟩
set_option maxRecDepth 100000 in
set_option maxHeartbeats 2000000 in
theorem CurveSteps_w (w : World) (a b c : List (BitVec 8)) (ha : a.length = 32) (hb : b.length = 32) (hc : c.length = 32) :
    Calls Try.prog 16 #[.agg (cs U8 a), .agg (cs U8 b), .agg (cs U8 c)] w fun e w' => e = .returned (.bool true) ∧ Below w.heap.size w w' := by
  by_cases h0 : shv b a = 0
  · have H1 := hid (steps0 a b c ha hb hc h0)
    clear h0
    have M0 := Mm.start no w
    go_enter Try.func16, Try.ntmps16
    have M2 := (((M0.alloc (cs U8 a) 23 (by decide)).alloc (cs U8 b) 23 (by decide)).alloc (cs U8 c) 23 (by decide))
    try simp only [World.size_alloc] at M2
    go_upto_region 1 with fail
    obtain ⟨w1, hw1⟩ : ∃ w1, w1 = (((w.alloc (.cells (cs U8 a) 23)).alloc (.cells (cs U8 b) 23)).alloc (.cells (cs U8 c) 23)) := ⟨_, rfl⟩
    rw [← hw1] at M2 ⊢
    clear hw1
    refine wp_region_seqF 2 [17, 18] [] [] [] (.done) (Mm no w _) (by kernel_rfl) (by kernel_rfl) (fun d _ _ _ _ h => by cases d <;> exact h) (by rfl) M2.size (fun _ _ h k => h.sf k) M2 (by kernel_rfl) ?_
    simp only [List.take_succ_cons, List.take_zero]
    refine SeqA.call _ _ _ (fun w' => by go_simp) (fun w' hI _ => alive2_c w') M2.size rfl rfl ?_
    refine SeqA.pure (.bool false) (fun w' => by go_simp) rfl rfl ?_
    refine SeqA.nil (fun w3 M4 hz => ?_)
    show wpT _ _ _ _ _ _
    simp only [Act.put, List.setIfInBounds_toArray, List.set_cons_succ, List.set_cons_zero]
    dsimp only [wpT]
    go_upto_region 3 with fail
    refine wp_region_lin (.op 0 (.op 1 (.op 2 (.op 3 (.op 4 (.op 5 (.op 6 (.op 7 (.op 8 (.op 9 .done)))))))))) (by rfl) ?_
    refine wpT_ld0 20 Try.underlying23 rfl inf_key (w.heap.size) (cs U8 a) rfl rfl rfl (by go_simp) (M4.row (by simp)) (by simp [ha, hb, hc]) rfl ?_
    refine wpT_ld0 21 Try.underlying23 rfl inf_key (w.heap.size + 1) (cs U8 b) rfl rfl rfl (by go_simp) (M4.row (by simp)) (by simp [ha, hb, hc]) rfl ?_
    refine wpT_keys1 22 _ M4 b (by simp [ha, hb, hc]) rfl rfl rfl (by go_simp) rfl (fun b5 w6 M7 => ?_)
    refine wpT_callv 23 M7 (v := .tuple #[.agg (cs U8 (zs 32)), .int .i64 7]) rfl rfl rfl (by go_simp) (H1.out.1 w6 (.slice (some ⟨b5, 0, none⟩) 1 1) (KS.one (b := b5) hb (M7.row (by simp)))) (fun w8 M9 => ?_)
    simp only [Act.put, List.setIfInBounds_toArray, List.set_cons_succ, List.set_cons_zero]
    refine wpT_valp 19 (v := .tuple #[.agg (cs U8 (zs 32)), .int .i64 7]) rfl rfl rfl (by go_simp) ?_
    refine wpT_valp 24 (v := .agg (cs U8 (zs 32))) rfl rfl rfl (by go_simp) ?_
    refine wpT_valp 25 (v := .int .i64 7) rfl rfl rfl (by go_simp) ?_
    refine wpT_new (z := .agg (cs U8 (zs 32))) 7 M9 (by kernel_rfl) (by decide) rfl rfl rfl rfl (fun b10 w11 M12 => ?_)
    try dsimp only [Value.cells] at M12
    refine wpT_st0 M12 0 (cs U8 (zs 32)) inf_key rfl rfl rfl rfl (by go_simp) (by go_simp) (by simp [ha, hb, hc]) (by simp [ha, hb, hc]) (by simp [go_sem]) rfl (fun w13 M14 => ?_)
    dsimp only [List.set] at M14
    simp only [Act.put, List.setIfInBounds_toArray, List.set_cons_succ, List.set_cons_zero]
    refine wpT_valp 8 (v := .int .i64 7) rfl rfl rfl (by go_simp) ?_
    dsimp only [wpT]
    simp only [Act.put, List.setIfInBounds_toArray, List.set_cons_succ, List.set_cons_zero]
    go_upto_region 4 with fail
    refine wp_region_lin (.op 0 (.op 1 (.op 2 (.op 3 (.op 4 (.op 5 (.op 6 (.op 7 (.op 8 (.op 9 (.op 10 .done))))))))))) (by rfl) ?_
    refine wpT_ld0 27 Try.underlying23 rfl inf_key (w.heap.size) (cs U8 a) rfl rfl rfl (by go_simp) (M14.row (by simp)) (by simp [ha, hb, hc]) rfl ?_
    refine wpT_ld0 28 Try.underlying23 rfl inf_key (w.heap.size + 1) (cs U8 b) rfl rfl rfl (by go_simp) (M14.row (by simp)) (by simp [ha, hb, hc]) rfl ?_
    refine wpT_ld0 29 Try.underlying23 rfl inf_key (w.heap.size + 1 + 1) (cs U8 c) rfl rfl rfl (by go_simp) (M14.row (by simp)) (by simp [ha, hb, hc]) rfl ?_
    refine wpT_keys2 30 _ _ M14 b c (by simp [ha, hb, hc]) (by simp [ha, hb, hc]) rfl rfl rfl (by go_simp) (by go_simp) rfl (fun b15 w16 M17 => ?_)
    simp only [Act.put, List.setIfInBounds_toArray, List.set_cons_succ, List.set_cons_zero]
    refine wpT_callv 31 M17 (v := .tuple #[.agg (cs U8 (zs 32)), .int .i64 7]) rfl rfl rfl (by go_simp) (H1.out.2.1 w16 (.slice (some ⟨b15, 0, none⟩) 2 2) (KS.two (b := b15) hb hc (M17.row (by simp)))) (fun w18 M19 => ?_)
    refine wpT_valp 26 (v := .tuple #[.agg (cs U8 (zs 32)), .int .i64 7]) rfl rfl rfl (by go_simp) ?_
    refine wpT_valp 32 (v := .agg (cs U8 (zs 32))) rfl rfl rfl (by go_simp) ?_
    refine wpT_valp 33 (v := .int .i64 7) rfl rfl rfl (by go_simp) ?_
    refine wpT_new (z := .agg (cs U8 (zs 32))) 9 M19 (by kernel_rfl) (by decide) rfl rfl rfl rfl (fun b20 w21 M22 => ?_)
    try dsimp only [Value.cells] at M22
    simp only [Act.put, List.setIfInBounds_toArray, List.set_cons_succ, List.set_cons_zero]
    refine wpT_st0 M22 0 (cs U8 (zs 32)) inf_key rfl rfl rfl rfl (by go_simp) (by go_simp) (by simp [ha, hb, hc]) (by simp [ha, hb, hc]) (by simp [go_sem]) rfl (fun w23 M24 => ?_)
    dsimp only [List.set] at M24
    refine wpT_valp 10 (v := .int .i64 7) rfl rfl rfl (by go_simp) ?_
    dsimp only [wpT]
    simp only [Act.put, List.setIfInBounds_toArray, List.set_cons_succ, List.set_cons_zero]
    go_upto_region 5 with fail
    refine wp_region_seqF 7 [35, 36, 37, 34, 38, 39, 11] [] [5] [] (.op 7 (.op 8 .done)) (Mm no w _) (by kernel_rfl) (by kernel_rfl) (fun d _ _ _ _ h => by cases d <;> exact h) (by rfl) M24.size (fun _ _ h k => h.sf k) M24 (by kernel_rfl) ?_
    simp only [List.take_succ_cons, List.take_zero]
    refine SeqA.ld0 Try.underlying23 rfl inf_key (w.heap.size + 1) (cs U8 b) rfl (by go_simp) (fun _ M => M.row (by simp)) (by simp [ha, hb, hc]) rfl ?_
    refine SeqA.ld0 Try.underlying23 rfl inf_key (w.heap.size) (cs U8 a) rfl (by go_simp) (fun _ M => M.row (by simp)) (by simp [ha, hb, hc]) rfl ?_
    refine SeqA.call _ _ _ (fun w' => by go_simp) (fun w' hI _ => H1.out.2.2 w') M24.size rfl rfl ?_
    refine SeqA.pure (.tuple #[.agg (cs U8 (zs 32)), .int .i64 7]) (fun w' => by go_simp) rfl rfl ?_
    refine SeqA.pure (.agg (cs U8 (zs 32))) (fun w' => by go_simp) rfl rfl ?_
    simp only [Act.put, List.setIfInBounds_toArray, List.set_cons_succ, List.set_cons_zero]
    refine SeqA.pure (.int .i64 7) (fun w' => by go_simp) rfl rfl ?_
    refine SeqA.var (z := .agg (cs U8 (zs 32))) (by kernel_rfl) rfl rfl (by decide) rfl ?_
    refine SeqA.nil (fun w25 M26 hz => ?_)
    refine news_one (fun b27 hb1 hb2 hb3 => ?_)
    have M28 := M24.in_ (c := cs U8 (zs 32)) M26 hb1 hb2 (by decide) hb3 rfl
    show wpT _ _ _ _ _ _
    simp only [Act.put, List.setIfInBounds_toArray, List.set_cons_succ, List.set_cons_zero]
    refine wpT_st0 M28 0 (cs U8 (zs 32)) inf_key rfl rfl rfl rfl (by go_simp) (by go_simp) (by simp [ha, hb, hc]) (by simp [ha, hb, hc]) (by simp [go_sem]) rfl (fun w29 M30 => ?_)
    dsimp only [List.set] at M30
    refine wpT_vald 12 (v := .int .i64 7) rfl rfl rfl rfl ?_
    dsimp only [wpT]
    simp only [Act.put, List.setIfInBounds_toArray, List.set_cons_succ, List.set_cons_zero]
    go_upto_region 6 with fail
    refine wp_region_seqF 7 [41, 42, 43, 40, 44, 45, 13] [] [5] [] (.op 7 (.op 8 .done)) (Mm no w _) (by kernel_rfl) (by kernel_rfl) (fun d _ _ _ _ h => by cases d <;> exact h) (by rfl) M30.size (fun _ _ h k => h.sf k) M30 (by kernel_rfl) ?_
    simp only [List.take_succ_cons, List.take_zero]
    refine SeqA.ld0 Try.underlying23 rfl inf_key (w.heap.size + 1) (cs U8 b) rfl (by go_simp) (fun _ M => M.row (by simp)) (by simp [ha, hb, hc]) rfl ?_
    refine SeqA.pure (.agg (cs U8 nine)) (fun w' => by have q := xb_key9 w'; go_simp) rfl rfl ?_
    refine SeqA.call _ _ _ (fun w' => by go_simp) (fun w' hI _ => shared_n w' b hb) M30.size rfl rfl ?_
    refine SeqA.pure (.tuple #[.agg (cs U8 (K (gv (leN (clampB b)) 9))), .int .i64 0]) (fun w' => by go_simp) rfl rfl ?_
    refine SeqA.pure (.agg (cs U8 (K (gv (leN (clampB b)) 9)))) (fun w' => by go_simp) rfl rfl ?_
    simp only [Act.put, List.setIfInBounds_toArray, List.set_cons_succ, List.set_cons_zero]
    refine SeqA.pure (.int .i64 0) (fun w' => by go_simp) rfl rfl ?_
    refine SeqA.var (z := .agg (cs U8 (zs 32))) (by kernel_rfl) rfl rfl (by decide) rfl ?_
    refine SeqA.nil (fun w31 M32 hz => ?_)
    refine news_one (fun b33 hb1 hb2 hb3 => ?_)
    have M34 := M30.in_ (c := cs U8 (zs 32)) M32 hb1 hb2 (by decide) hb3 rfl
    show wpT _ _ _ _ _ _
    simp only [Act.put, List.setIfInBounds_toArray, List.set_cons_succ, List.set_cons_zero]
    refine wpT_st0 M34 0 (cs U8 (K (gv (leN (clampB b)) 9))) inf_key rfl rfl rfl rfl (by go_simp) (by go_simp) (by simp [ha, hb, hc]) (by simp [ha, hb, hc]) (by simp [go_sem]) rfl (fun w35 M36 => ?_)
    dsimp only [List.set] at M36
    refine wpT_vald 14 (v := .int .i64 0) rfl rfl rfl rfl ?_
    dsimp only [wpT]
    simp only [Act.put, List.setIfInBounds_toArray, List.set_cons_succ, List.set_cons_zero]
    go_upto_region 7 with fail
    refine wp_region_seq 18 [46, 47, 48, 49, 50, 51, 52, 53, 54, 55, 56, 57, 58, 59, 60, 61, 62, 63] [] [] [] (.done) (Mm no w _) (by kernel_rfl) (by kernel_rfl) (by kernel_rfl) (fun d _ _ _ _ h => by cases d <;> exact h) (by rfl) M36.size (fun _ _ h k => h.sf k) M36 ?_
    simp only [List.take_succ_cons, List.take_zero]
    refine SeqA.pure (.int .i64 0) (fun w' => by go_simp) rfl rfl ?_
    refine SeqA.pure (.bool false) (fun w' => by go_simp) rfl rfl ?_
    refine SeqA.pure (.bool false) (fun w' => by go_simp) rfl rfl ?_
    refine SeqA.ld0 Try.underlying23 rfl inf_key (b33) (cs U8 (K (gv (leN (clampB b)) 9))) rfl (by go_simp) (fun _ M => M.row (by simp)) (by simp [ha, hb, hc]) (by simp [Region.wanted, yielded, Act.put]) ?_
    refine SeqA.ld0 Try.underlying23 rfl inf_key (w.heap.size + 1) (cs U8 b) rfl (by go_simp) (fun _ M => M.row (by simp)) (by simp [ha, hb, hc]) (by simp [Region.wanted, yielded, Act.put]) ?_
    simp only [Act.put, List.setIfInBounds_toArray, List.set_cons_succ, List.set_cons_zero]
    refine SeqA.call _ _ _ (fun w' => by go_simp) (fun w' hI _ => public_c w' b (by simp [ha, hb, hc])) M36.size rfl (by simp [Region.wanted, yielded, Act.put]) ?_
    refine SeqA.pure (.bool false) (fun w' => by have q := eqt w' (gv (leN (clampB b)) 9) (gv (leN (clampB b)) 9) rfl; go_simp) rfl (by simp [Region.wanted, yielded, Act.put]) ?_
    refine SeqA.pure (.bool false) (fun w' => by go_simp) rfl rfl ?_
    refine SeqA.pure (.bool false) (fun w' => by go_simp) rfl rfl ?_
    refine SeqA.ld0 Try.underlying23 rfl inf_key (b10) (cs U8 (zs 32)) rfl (by go_simp) (fun _ M => M.row (by simp)) (by simp [ha, hb, hc]) (by simp [Region.wanted, yielded, Act.put]) ?_
    refine SeqA.ld0 Try.underlying23 rfl inf_key (b27) (cs U8 (zs 32)) rfl (by go_simp) (fun _ M => M.row (by simp)) (by simp [ha, hb, hc]) (by simp [Region.wanted, yielded, Act.put]) ?_
    simp only [Act.put, List.setIfInBounds_toArray, List.set_cons_succ, List.set_cons_zero]
    refine SeqA.pure (.bool false) (fun w' => by have q := eqL w' (zs 32) (by decide); go_simp) rfl (by simp [Region.wanted, yielded, Act.put]) ?_
    refine SeqA.pure (.bool false) (fun w' => by go_simp) rfl rfl ?_
    refine SeqA.pure (.bool false) (fun w' => by go_simp) rfl rfl ?_
    refine SeqA.pure (.int .i64 7) (fun w' => by go_simp) rfl (by simp [Region.wanted, yielded, Act.put]) ?_
    refine SeqA.pure (.int .i64 7) (fun w' => by go_simp) rfl (by simp [Region.wanted, yielded, Act.put]) ?_
    refine SeqA.pure (.bool false) (fun w' => by go_simp) rfl (by simp [Region.wanted, yielded, Act.put]) ?_
    simp only [Act.put, List.setIfInBounds_toArray, List.set_cons_succ, List.set_cons_zero]
    refine SeqA.pure (.bool false) (fun w' => by go_simp) rfl rfl ?_
    refine SeqA.nil (fun w37 M38 hz => ?_)
    show wpT _ _ _ _ _ _
    simp only [Act.put, List.setIfInBounds_toArray, List.set_cons_succ, List.set_cons_zero]
    dsimp only [wpT]
    go_upto_region 9 with fail
    refine wp_region_seqF 2 [64, 65] [] [] [] (.done) (Mm no w _) (by kernel_rfl) (by kernel_rfl) (fun d _ _ _ _ h => by cases d <;> exact h) (by rfl) M38.size (fun _ _ h k => h.sf k) M38 (by kernel_rfl) ?_
    simp only [List.take_succ_cons, List.take_zero]
    refine SeqA.pure (.int .i64 7) (fun w' => by go_simp) rfl rfl ?_
    refine SeqA.pure (.bool true) (fun w' => by go_simp) rfl rfl ?_
    refine SeqA.nil (fun w39 M40 hz => ?_)
    show wpT _ _ _ _ _ _
    simp only [Act.put, List.setIfInBounds_toArray, List.set_cons_succ, List.set_cons_zero]
    dsimp only [wpT]
    go_upto_region 10 with fail
    refine wp_region_seqF 4 [66, 67, 68, 6] [] [] [] (.done) (Mm no w _) (by kernel_rfl) (by kernel_rfl) (fun d _ _ _ _ h => by cases d <;> exact h) (by rfl) M40.size (fun _ _ h k => h.sf k) M40 (by kernel_rfl) ?_
    simp only [List.take_succ_cons, List.take_zero]
    refine SeqA.pure (.int .i64 7) (fun w' => by go_simp) rfl rfl ?_
    refine SeqA.pure (.int .i64 7) (fun w' => by go_simp) rfl rfl ?_
    refine SeqA.pure (.bool true) (fun w' => by go_simp) rfl rfl ?_
    refine SeqA.pure (.bool true) (fun w' => by go_simp) rfl rfl ?_
    refine SeqA.nil (fun w41 M42 hz => ?_)
    show wpT _ _ _ _ _ _
    simp only [Act.put, List.setIfInBounds_toArray, List.set_cons_succ, List.set_cons_zero]
    dsimp only [wpT]
    go_wp2_with fail
    go_ret
    exact ⟨rfl, M42.end_⟩
  · obtain ⟨s, hs⟩ : ∃ s, shv b a = s := ⟨_, rfl⟩
    obtain ⟨y, hy⟩ : ∃ y, gv (leN (clampB c)) s = y := ⟨_, rfl⟩
    have H1 := hid (steps1 a b c ha hb hc s y hs (hs ▸ h0) hy)
    clear h0 hs hy
    have M0 := Mm.start no w
    go_enter Try.func16, Try.ntmps16
    have M2 := (((M0.alloc (cs U8 a) 23 (by decide)).alloc (cs U8 b) 23 (by decide)).alloc (cs U8 c) 23 (by decide))
    try simp only [World.size_alloc] at M2
    go_upto_region 1 with fail
    obtain ⟨w1, hw1⟩ : ∃ w1, w1 = (((w.alloc (.cells (cs U8 a) 23)).alloc (.cells (cs U8 b) 23)).alloc (.cells (cs U8 c) 23)) := ⟨_, rfl⟩
    rw [← hw1] at M2 ⊢
    clear hw1
    refine wp_region_seqF 2 [17, 18] [] [] [] (.done) (Mm no w _) (by kernel_rfl) (by kernel_rfl) (fun d _ _ _ _ h => by cases d <;> exact h) (by rfl) M2.size (fun _ _ h k => h.sf k) M2 (by kernel_rfl) ?_
    simp only [List.take_succ_cons, List.take_zero]
    refine SeqA.call _ _ _ (fun w' => by go_simp) (fun w' hI _ => alive2_c w') M2.size rfl rfl ?_
    refine SeqA.pure (.bool false) (fun w' => by go_simp) rfl rfl ?_
    refine SeqA.nil (fun w3 M4 hz => ?_)
    show wpT _ _ _ _ _ _
    simp only [Act.put, List.setIfInBounds_toArray, List.set_cons_succ, List.set_cons_zero]
    dsimp only [wpT]
    go_upto_region 3 with fail
    refine wp_region_lin (.op 0 (.op 1 (.op 2 (.op 3 (.op 4 (.op 5 (.op 6 (.op 7 (.op 8 (.op 9 .done)))))))))) (by rfl) ?_
    refine wpT_ld0 20 Try.underlying23 rfl inf_key (w.heap.size) (cs U8 a) rfl rfl rfl (by go_simp) (M4.row (by simp)) (by simp [ha, hb, hc]) rfl ?_
    refine wpT_ld0 21 Try.underlying23 rfl inf_key (w.heap.size + 1) (cs U8 b) rfl rfl rfl (by go_simp) (M4.row (by simp)) (by simp [ha, hb, hc]) rfl ?_
    refine wpT_keys1 22 _ M4 b (by simp [ha, hb, hc]) rfl rfl rfl (by go_simp) rfl (fun b5 w6 M7 => ?_)
    refine wpT_callv 23 M7 (v := .tuple #[.agg (cs U8 (K s)), .int .i64 0]) rfl rfl rfl (by go_simp) (H1.out.1 w6 (.slice (some ⟨b5, 0, none⟩) 1 1) (KS.one (b := b5) hb (M7.row (by simp)))) (fun w8 M9 => ?_)
    simp only [Act.put, List.setIfInBounds_toArray, List.set_cons_succ, List.set_cons_zero]
    refine wpT_valp 19 (v := .tuple #[.agg (cs U8 (K s)), .int .i64 0]) rfl rfl rfl (by go_simp) ?_
    refine wpT_valp 24 (v := .agg (cs U8 (K s))) rfl rfl rfl (by go_simp) ?_
    refine wpT_valp 25 (v := .int .i64 0) rfl rfl rfl (by go_simp) ?_
    refine wpT_new (z := .agg (cs U8 (zs 32))) 7 M9 (by kernel_rfl) (by decide) rfl rfl rfl rfl (fun b10 w11 M12 => ?_)
    try dsimp only [Value.cells] at M12
    refine wpT_st0 M12 0 (cs U8 (K s)) inf_key rfl rfl rfl rfl (by go_simp) (by go_simp) (by simp [ha, hb, hc]) (by simp [ha, hb, hc]) (by simp [go_sem]) rfl (fun w13 M14 => ?_)
    dsimp only [List.set] at M14
    simp only [Act.put, List.setIfInBounds_toArray, List.set_cons_succ, List.set_cons_zero]
    refine wpT_valp 8 (v := .int .i64 0) rfl rfl rfl (by go_simp) ?_
    dsimp only [wpT]
    simp only [Act.put, List.setIfInBounds_toArray, List.set_cons_succ, List.set_cons_zero]
    go_upto_region 4 with fail
    refine wp_region_lin (.op 0 (.op 1 (.op 2 (.op 3 (.op 4 (.op 5 (.op 6 (.op 7 (.op 8 (.op 9 (.op 10 .done))))))))))) (by rfl) ?_
    refine wpT_ld0 27 Try.underlying23 rfl inf_key (w.heap.size) (cs U8 a) rfl rfl rfl (by go_simp) (M14.row (by simp)) (by simp [ha, hb, hc]) rfl ?_
    refine wpT_ld0 28 Try.underlying23 rfl inf_key (w.heap.size + 1) (cs U8 b) rfl rfl rfl (by go_simp) (M14.row (by simp)) (by simp [ha, hb, hc]) rfl ?_
    refine wpT_ld0 29 Try.underlying23 rfl inf_key (w.heap.size + 1 + 1) (cs U8 c) rfl rfl rfl (by go_simp) (M14.row (by simp)) (by simp [ha, hb, hc]) rfl ?_
    refine wpT_keys2 30 _ _ M14 b c (by simp [ha, hb, hc]) (by simp [ha, hb, hc]) rfl rfl rfl (by go_simp) (by go_simp) rfl (fun b15 w16 M17 => ?_)
    simp only [Act.put, List.setIfInBounds_toArray, List.set_cons_succ, List.set_cons_zero]
    refine wpT_callv 31 M17 (v := .tuple #[.agg (cs U8 (K y)), .int .i64 (ec y)]) rfl rfl rfl (by go_simp) (H1.out.2.1 w16 (.slice (some ⟨b15, 0, none⟩) 2 2) (KS.two (b := b15) hb hc (M17.row (by simp)))) (fun w18 M19 => ?_)
    refine wpT_valp 26 (v := .tuple #[.agg (cs U8 (K y)), .int .i64 (ec y)]) rfl rfl rfl (by go_simp) ?_
    refine wpT_valp 32 (v := .agg (cs U8 (K y))) rfl rfl rfl (by go_simp) ?_
    refine wpT_valp 33 (v := .int .i64 (ec y)) rfl rfl rfl (by go_simp) ?_
    refine wpT_new (z := .agg (cs U8 (zs 32))) 9 M19 (by kernel_rfl) (by decide) rfl rfl rfl rfl (fun b20 w21 M22 => ?_)
    try dsimp only [Value.cells] at M22
    simp only [Act.put, List.setIfInBounds_toArray, List.set_cons_succ, List.set_cons_zero]
    refine wpT_st0 M22 0 (cs U8 (K y)) inf_key rfl rfl rfl rfl (by go_simp) (by go_simp) (by simp [ha, hb, hc]) (by simp [ha, hb, hc]) (by simp [go_sem]) rfl (fun w23 M24 => ?_)
    dsimp only [List.set] at M24
    refine wpT_valp 10 (v := .int .i64 (ec y)) rfl rfl rfl (by go_simp) ?_
    dsimp only [wpT]
    simp only [Act.put, List.setIfInBounds_toArray, List.set_cons_succ, List.set_cons_zero]
    go_upto_region 5 with fail
    refine wp_region_seqF 7 [35, 36, 37, 34, 38, 39, 11] [] [5] [] (.op 7 (.op 8 .done)) (Mm no w _) (by kernel_rfl) (by kernel_rfl) (fun d _ _ _ _ h => by cases d <;> exact h) (by rfl) M24.size (fun _ _ h k => h.sf k) M24 (by kernel_rfl) ?_
    simp only [List.take_succ_cons, List.take_zero]
    refine SeqA.ld0 Try.underlying23 rfl inf_key (w.heap.size + 1) (cs U8 b) rfl (by go_simp) (fun _ M => M.row (by simp)) (by simp [ha, hb, hc]) rfl ?_
    refine SeqA.ld0 Try.underlying23 rfl inf_key (w.heap.size) (cs U8 a) rfl (by go_simp) (fun _ M => M.row (by simp)) (by simp [ha, hb, hc]) rfl ?_
    refine SeqA.call _ _ _ (fun w' => by go_simp) (fun w' hI _ => H1.out.2.2.1 w') M24.size rfl rfl ?_
    refine SeqA.pure (.tuple #[.agg (cs U8 (K s)), .int .i64 0]) (fun w' => by go_simp) rfl rfl ?_
    refine SeqA.pure (.agg (cs U8 (K s))) (fun w' => by go_simp) rfl rfl ?_
    simp only [Act.put, List.setIfInBounds_toArray, List.set_cons_succ, List.set_cons_zero]
    refine SeqA.pure (.int .i64 0) (fun w' => by go_simp) rfl rfl ?_
    refine SeqA.var (z := .agg (cs U8 (zs 32))) (by kernel_rfl) rfl rfl (by decide) rfl ?_
    refine SeqA.nil (fun w25 M26 hz => ?_)
    refine news_one (fun b27 hb1 hb2 hb3 => ?_)
    have M28 := M24.in_ (c := cs U8 (zs 32)) M26 hb1 hb2 (by decide) hb3 rfl
    show wpT _ _ _ _ _ _
    simp only [Act.put, List.setIfInBounds_toArray, List.set_cons_succ, List.set_cons_zero]
    refine wpT_st0 M28 0 (cs U8 (K s)) inf_key rfl rfl rfl rfl (by go_simp) (by go_simp) (by simp [ha, hb, hc]) (by simp [ha, hb, hc]) (by simp [go_sem]) rfl (fun w29 M30 => ?_)
    dsimp only [List.set] at M30
    refine wpT_vald 12 (v := .int .i64 0) rfl rfl rfl rfl ?_
    dsimp only [wpT]
    simp only [Act.put, List.setIfInBounds_toArray, List.set_cons_succ, List.set_cons_zero]
    go_upto_region 6 with fail
    refine wp_region_seqF 7 [41, 42, 43, 40, 44, 45, 13] [] [5] [] (.op 7 (.op 8 .done)) (Mm no w _) (by kernel_rfl) (by kernel_rfl) (fun d _ _ _ _ h => by cases d <;> exact h) (by rfl) M30.size (fun _ _ h k => h.sf k) M30 (by kernel_rfl) ?_
    simp only [List.take_succ_cons, List.take_zero]
    refine SeqA.ld0 Try.underlying23 rfl inf_key (w.heap.size + 1) (cs U8 b) rfl (by go_simp) (fun _ M => M.row (by simp)) (by simp [ha, hb, hc]) rfl ?_
    refine SeqA.pure (.agg (cs U8 nine)) (fun w' => by have q := xb_key9 w'; go_simp) rfl rfl ?_
    refine SeqA.call _ _ _ (fun w' => by go_simp) (fun w' hI _ => shared_n w' b hb) M30.size rfl rfl ?_
    refine SeqA.pure (.tuple #[.agg (cs U8 (K (gv (leN (clampB b)) 9))), .int .i64 0]) (fun w' => by go_simp) rfl rfl ?_
    refine SeqA.pure (.agg (cs U8 (K (gv (leN (clampB b)) 9)))) (fun w' => by go_simp) rfl rfl ?_
    simp only [Act.put, List.setIfInBounds_toArray, List.set_cons_succ, List.set_cons_zero]
    refine SeqA.pure (.int .i64 0) (fun w' => by go_simp) rfl rfl ?_
    refine SeqA.var (z := .agg (cs U8 (zs 32))) (by kernel_rfl) rfl rfl (by decide) rfl ?_
    refine SeqA.nil (fun w31 M32 hz => ?_)
    refine news_one (fun b33 hb1 hb2 hb3 => ?_)
    have M34 := M30.in_ (c := cs U8 (zs 32)) M32 hb1 hb2 (by decide) hb3 rfl
    show wpT _ _ _ _ _ _
    simp only [Act.put, List.setIfInBounds_toArray, List.set_cons_succ, List.set_cons_zero]
    refine wpT_st0 M34 0 (cs U8 (K (gv (leN (clampB b)) 9))) inf_key rfl rfl rfl rfl (by go_simp) (by go_simp) (by simp [ha, hb, hc]) (by simp [ha, hb, hc]) (by simp [go_sem]) rfl (fun w35 M36 => ?_)
    dsimp only [List.set] at M36
    refine wpT_vald 14 (v := .int .i64 0) rfl rfl rfl rfl ?_
    dsimp only [wpT]
    simp only [Act.put, List.setIfInBounds_toArray, List.set_cons_succ, List.set_cons_zero]
    go_upto_region 7 with fail
    refine wp_region_seq 18 [46, 47, 48, 49, 50, 51, 52, 53, 54, 55, 56, 57, 58, 59, 60, 61, 62, 63] [] [] [] (.done) (Mm no w _) (by kernel_rfl) (by kernel_rfl) (by kernel_rfl) (fun d _ _ _ _ h => by cases d <;> exact h) (by rfl) M36.size (fun _ _ h k => h.sf k) M36 ?_
    simp only [List.take_succ_cons, List.take_zero]
    refine SeqA.pure (.int .i64 0) (fun w' => by go_simp) rfl rfl ?_
    refine SeqA.pure (.bool false) (fun w' => by go_simp) rfl rfl ?_
    refine SeqA.pure (.bool false) (fun w' => by go_simp) rfl rfl ?_
    refine SeqA.ld0 Try.underlying23 rfl inf_key (b33) (cs U8 (K (gv (leN (clampB b)) 9))) rfl (by go_simp) (fun _ M => M.row (by simp)) (by simp [ha, hb, hc]) (by simp [Region.wanted, yielded, Act.put]) ?_
    refine SeqA.ld0 Try.underlying23 rfl inf_key (w.heap.size + 1) (cs U8 b) rfl (by go_simp) (fun _ M => M.row (by simp)) (by simp [ha, hb, hc]) (by simp [Region.wanted, yielded, Act.put]) ?_
    simp only [Act.put, List.setIfInBounds_toArray, List.set_cons_succ, List.set_cons_zero]
    refine SeqA.call _ _ _ (fun w' => by go_simp) (fun w' hI _ => public_c w' b (by simp [ha, hb, hc])) M36.size rfl (by simp [Region.wanted, yielded, Act.put]) ?_
    refine SeqA.pure (.bool false) (fun w' => by have q := eqt w' (gv (leN (clampB b)) 9) (gv (leN (clampB b)) 9) rfl; go_simp) rfl (by simp [Region.wanted, yielded, Act.put]) ?_
    refine SeqA.pure (.bool false) (fun w' => by go_simp) rfl rfl ?_
    refine SeqA.pure (.bool false) (fun w' => by go_simp) rfl rfl ?_
    refine SeqA.ld0 Try.underlying23 rfl inf_key (b10) (cs U8 (K s)) rfl (by go_simp) (fun _ M => M.row (by simp)) (by simp [ha, hb, hc]) (by simp [Region.wanted, yielded, Act.put]) ?_
    refine SeqA.ld0 Try.underlying23 rfl inf_key (b27) (cs U8 (K s)) rfl (by go_simp) (fun _ M => M.row (by simp)) (by simp [ha, hb, hc]) (by simp [Region.wanted, yielded, Act.put]) ?_
    simp only [Act.put, List.setIfInBounds_toArray, List.set_cons_succ, List.set_cons_zero]
    refine SeqA.pure (.bool false) (fun w' => by have q := eqt w' s s rfl; go_simp) rfl (by simp [Region.wanted, yielded, Act.put]) ?_
    refine SeqA.pure (.bool false) (fun w' => by go_simp) rfl rfl ?_
    refine SeqA.pure (.bool false) (fun w' => by go_simp) rfl rfl ?_
    refine SeqA.pure (.int .i64 0) (fun w' => by go_simp) rfl (by simp [Region.wanted, yielded, Act.put]) ?_
    refine SeqA.pure (.int .i64 0) (fun w' => by go_simp) rfl (by simp [Region.wanted, yielded, Act.put]) ?_
    refine SeqA.pure (.bool false) (fun w' => by go_simp) rfl (by simp [Region.wanted, yielded, Act.put]) ?_
    simp only [Act.put, List.setIfInBounds_toArray, List.set_cons_succ, List.set_cons_zero]
    refine SeqA.pure (.bool false) (fun w' => by go_simp) rfl rfl ?_
    refine SeqA.nil (fun w37 M38 hz => ?_)
    show wpT _ _ _ _ _ _
    simp only [Act.put, List.setIfInBounds_toArray, List.set_cons_succ, List.set_cons_zero]
    dsimp only [wpT]
    go_upto_region 9 with fail
    refine wp_region_seqF 2 [64, 65] [] [] [] (.done) (Mm no w _) (by kernel_rfl) (by kernel_rfl) (fun d _ _ _ _ h => by cases d <;> exact h) (by rfl) M38.size (fun _ _ h k => h.sf k) M38 (by kernel_rfl) ?_
    simp only [List.take_succ_cons, List.take_zero]
    refine SeqA.pure (.int .i64 0) (fun w' => by go_simp) rfl rfl ?_
    refine SeqA.pure (.bool false) (fun w' => by go_simp) rfl rfl ?_
    refine SeqA.nil (fun w39 M40 hz => ?_)
    show wpT _ _ _ _ _ _
    simp only [Act.put, List.setIfInBounds_toArray, List.set_cons_succ, List.set_cons_zero]
    dsimp only [wpT]
    go_upto_region 11 with fail
    refine wp_region_seqF 7 [70, 71, 72, 69, 73, 74, 15] [] [5] [] (.op 7 (.op 8 .done)) (Mm no w _) (by kernel_rfl) (by kernel_rfl) (fun d _ _ _ _ h => by cases d <;> exact h) (by rfl) M40.size (fun _ _ h k => h.sf k) M40 (by kernel_rfl) ?_
    simp only [List.take_succ_cons, List.take_zero]
    refine SeqA.ld0 Try.underlying23 rfl inf_key (w.heap.size + 1 + 1) (cs U8 c) rfl (by go_simp) (fun _ M => M.row (by simp)) (by simp [ha, hb, hc]) rfl ?_
    refine SeqA.ld0 Try.underlying23 rfl inf_key (b10) (cs U8 (K s)) rfl (by go_simp) (fun _ M => M.row (by simp)) (by simp [ha, hb, hc]) rfl ?_
    refine SeqA.call _ _ _ (fun w' => by go_simp) (fun w' hI _ => H1.out.2.2.2 w') M40.size rfl rfl ?_
    refine SeqA.pure (.tuple #[.agg (cs U8 (K y)), .int .i64 (ec y)]) (fun w' => by go_simp) rfl rfl ?_
    refine SeqA.pure (.agg (cs U8 (K y))) (fun w' => by go_simp) rfl rfl ?_
    simp only [Act.put, List.setIfInBounds_toArray, List.set_cons_succ, List.set_cons_zero]
    refine SeqA.pure (.int .i64 (ec y)) (fun w' => by go_simp) rfl rfl ?_
    refine SeqA.var (z := .agg (cs U8 (zs 32))) (by kernel_rfl) rfl rfl (by decide) rfl ?_
    refine SeqA.nil (fun w41 M42 hz => ?_)
    refine news_one (fun b43 hb1 hb2 hb3 => ?_)
    have M44 := M40.in_ (c := cs U8 (zs 32)) M42 hb1 hb2 (by decide) hb3 rfl
    show wpT _ _ _ _ _ _
    simp only [Act.put, List.setIfInBounds_toArray, List.set_cons_succ, List.set_cons_zero]
    refine wpT_st0 M44 0 (cs U8 (K y)) inf_key rfl rfl rfl rfl (by go_simp) (by go_simp) (by simp [ha, hb, hc]) (by simp [ha, hb, hc]) (by simp [go_sem]) rfl (fun w45 M46 => ?_)
    dsimp only [List.set] at M46
    refine wpT_vald 16 (v := .int .i64 (ec y)) rfl rfl rfl rfl ?_
    dsimp only [wpT]
    simp only [Act.put, List.setIfInBounds_toArray, List.set_cons_succ, List.set_cons_zero]
    go_upto_region 12 with fail
    refine wp_region_seqF 9 [75, 76, 77, 78, 79, 80, 81, 82, 6] [] [] [] (.done) (Mm no w _) (by kernel_rfl) (by kernel_rfl) (fun d _ _ _ _ h => by cases d <;> exact h) (by rfl) M46.size (fun _ _ h k => h.sf k) M46 (by kernel_rfl) ?_
    simp only [List.take_succ_cons, List.take_zero]
    refine SeqA.ld0 Try.underlying23 rfl inf_key (b20) (cs U8 (K y)) rfl (by go_simp) (fun _ M => M.row (by simp)) (by simp [ha, hb, hc]) rfl ?_
    refine SeqA.ld0 Try.underlying23 rfl inf_key (b43) (cs U8 (K y)) rfl (by go_simp) (fun _ M => M.row (by simp)) (by simp [ha, hb, hc]) rfl ?_
    refine SeqA.pure (.bool true) (fun w' => by have q := eqt w' y y (rfl); go_simp) rfl rfl ?_
    refine SeqA.pure (.bool true) (fun w' => by go_simp) rfl rfl ?_
    refine SeqA.pure (.int .i64 (ec y)) (fun w' => by go_simp) rfl (by simp [Region.wanted, yielded, Act.put]) ?_
    simp only [Act.put, List.setIfInBounds_toArray, List.set_cons_succ, List.set_cons_zero]
    refine SeqA.pure (.int .i64 (ec y)) (fun w' => by go_simp) rfl (by simp [Region.wanted, yielded, Act.put]) ?_
    refine SeqA.pure (.bool true) (fun w' => by go_simp) rfl (by simp [Region.wanted, yielded, Act.put]) ?_
    refine SeqA.pure (.bool true) (fun w' => by go_simp) rfl rfl ?_
    refine SeqA.pure (.bool true) (fun w' => by go_simp) rfl rfl ?_
    refine SeqA.nil (fun w47 M48 hz => ?_)
    show wpT _ _ _ _ _ _
    simp only [Act.put, List.setIfInBounds_toArray, List.set_cons_succ, List.set_cons_zero]
    dsimp only [wpT]
    go_wp2_with fail
    go_ret
    exact ⟨rfl, M48.end_⟩
end Go.Proofs.Ytgneclfnfnpmkaa
