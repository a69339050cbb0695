/-
  Walks of package field, and of the inverse in package fe; own work.
-/
import Derived.Test.YtgclegdgngldoaaDoorFe7
set_option linter.unusedSimpArgs false
set_option linter.unusedVariables false
namespace Go.Proofs.YtgclegdgngldoaaDoor.Fp
def iv2 (x : Nat) : Nat := mulV (sqV x 1) x
def iv4 (x : Nat) : Nat := mulV (sqV (iv2 x) 2) (iv2 x)
def iv5 (x : Nat) : Nat := mulV (sqV (iv4 x) 1) x
def iv10 (x : Nat) : Nat := mulV (sqV (iv5 x) 5) (iv5 x)
def iv20 (x : Nat) : Nat := mulV (sqV (iv10 x) 10) (iv10 x)
def iv40 (x : Nat) : Nat := mulV (sqV (iv20 x) 20) (iv20 x)
def iv50 (x : Nat) : Nat := mulV (sqV (iv40 x) 10) (iv10 x)
def iv100 (x : Nat) : Nat := mulV (sqV (iv50 x) 50) (iv50 x)
def iv250 (x : Nat) : Nat := mulV (sqV (mulV (sqV (iv100 x) 100) (iv100 x)) 50) (iv50 x)
def ivlow (x : Nat) : Nat := mulV (sqV (mulV (sqV x 2) x) 1) x
def invV (x : Nat) : Nat := mulV (sqV (iv250 x) 5) (ivlow x)
end Go.Proofs.YtgclegdgngldoaaDoor.Fp
namespace Go.Proofs.YtgclegdgngldoaaDoor
open Go.RowKit Fp
set_option maxRecDepth 100000 in
set_option maxHeartbeats 4000000 in
theorem ninv_any (w : World) (x : Nat) :
    Calls Tryd.prog 62 #[.agg (cs N64 (limbs x))] w fun e w' => e = .returned (.agg (cs N64 (limbs (invV x)))) ∧ Below w.heap.size w w' := by
  have M0 := Mm.start no w
  go_enter Tryd.func62, Tryd.ntmps62
  have M2 := ((M0.alloc (cs N64 (limbs x)) 97 (by decide)).alloc (cs N64 (limbs 0)) 97 (by decide))
  simp only [World.size_alloc] at M2
  go_upto_region 1 with fail
  obtain ⟨w1, hw1⟩ : ∃ w1, w1 = ((w.alloc (.cells (cs N64 (limbs x)) 97)).alloc (.cells (cs N64 (limbs 0)) 97)) := ⟨_, rfl⟩
  rw [← hw1] at M2 ⊢
  clear hw1
  refine wp_region_seq 5 [13, 14, 15, 16, 3] [] [] [] (.op 5 .done) (Mm no w _) (by kernel_rfl) (by kernel_rfl) (by kernel_rfl) (fun d _ _ _ _ h => by cases d <;> exact h) (by rfl) M2.size (fun _ _ h k => h.sf k) M2 ?_
  simp only [List.take_succ_cons, List.take_zero]
  refine SeqA.ld0 Tryd.underlying97 rfl inf_num (w.heap.size) (cs N64 (limbs x)) rfl (by go_simp) (fun _ M => M.row (by simp)) (by simp []) rfl ?_
  refine SeqA.call _ _ _ (fun w' => by go_simp) (fun w' hI _ => nsq_any w' x 1 (by decide)) M2.size rfl rfl ?_
  refine SeqA.ld0 Tryd.underlying97 rfl inf_num (w.heap.size) (cs N64 (limbs x)) rfl (by go_simp) (fun _ M => M.row (by simp)) (by simp []) rfl ?_
  refine SeqA.call _ _ _ (fun w' => by go_simp) (fun w' hI _ => nmul_any w' (sqV x 1) x) M2.size rfl rfl ?_
  refine SeqA.var (z := .agg (cs N64 (limbs 0))) (by kernel_rfl) rfl rfl (by decide) rfl ?_
  refine SeqA.nil (fun w3 M4 hz => ?_)
  refine news_one (fun b5 hb1 hb2 hb3 => ?_)
  have M6 := M2.in_ (c := cs N64 (limbs 0)) M4 hb1 hb2 (by decide) hb3 rfl
  show wpT _ _ _ _ _ _
  simp only [Act.put, List.setIfInBounds_toArray, List.set_cons_succ, List.set_cons_zero]
  refine wpT_st0 M6 0 (cs N64 (limbs (mulV (sqV x 1) x))) inf_num rfl rfl rfl rfl (by go_simp) (by go_simp) (by simp []) (by simp []) (by simp [go_sem]) rfl (fun w7 M8 => ?_)
  dsimp only [List.set] at M8
  dsimp only [wpT]
  rw [show mulV (sqV x 1) x = iv2 x from rfl] at M8 ⊢
  go_upto_region 2 with fail
  refine wp_region_seq 5 [17, 18, 19, 20, 4] [] [] [] (.op 5 .done) (Mm no w _) (by kernel_rfl) (by kernel_rfl) (by kernel_rfl) (fun d _ _ _ _ h => by cases d <;> exact h) (by rfl) M8.size (fun _ _ h k => h.sf k) M8 ?_
  simp only [List.take_succ_cons, List.take_zero]
  refine SeqA.ld0 Tryd.underlying97 rfl inf_num (b5) (cs N64 (limbs (iv2 x))) rfl (by go_simp) (fun _ M => M.row (by simp)) (by simp []) rfl ?_
  refine SeqA.call _ _ _ (fun w' => by go_simp) (fun w' hI _ => nsq_any w' (iv2 x) 2 (by decide)) M8.size rfl rfl ?_
  refine SeqA.ld0 Tryd.underlying97 rfl inf_num (b5) (cs N64 (limbs (iv2 x))) rfl (by go_simp) (fun _ M => M.row (by simp)) (by simp []) rfl ?_
  refine SeqA.call _ _ _ (fun w' => by go_simp) (fun w' hI _ => nmul_any w' (sqV (iv2 x) 2) (iv2 x)) M8.size rfl rfl ?_
  refine SeqA.var (z := .agg (cs N64 (limbs 0))) (by kernel_rfl) rfl rfl (by decide) rfl ?_
  refine SeqA.nil (fun w9 M10 hz => ?_)
  refine news_one (fun b11 hb1 hb2 hb3 => ?_)
  have M12 := M8.in_ (c := cs N64 (limbs 0)) M10 hb1 hb2 (by decide) hb3 rfl
  show wpT _ _ _ _ _ _
  simp only [Act.put, List.setIfInBounds_toArray, List.set_cons_succ, List.set_cons_zero]
  refine wpT_st0 M12 0 (cs N64 (limbs (mulV (sqV (iv2 x) 2) (iv2 x)))) inf_num rfl rfl rfl rfl (by go_simp) (by go_simp) (by simp []) (by simp []) (by simp [go_sem]) rfl (fun w13 M14 => ?_)
  dsimp only [List.set] at M14
  dsimp only [wpT]
  rw [show mulV (sqV (iv2 x) 2) (iv2 x) = iv4 x from rfl] at M14 ⊢
  go_upto_region 3 with fail
  refine wp_region_seq 5 [21, 22, 23, 24, 5] [] [] [] (.op 5 .done) (Mm no w _) (by kernel_rfl) (by kernel_rfl) (by kernel_rfl) (fun d _ _ _ _ h => by cases d <;> exact h) (by rfl) M14.size (fun _ _ h k => h.sf k) M14 ?_
  simp only [List.take_succ_cons, List.take_zero]
  refine SeqA.ld0 Tryd.underlying97 rfl inf_num (b11) (cs N64 (limbs (iv4 x))) rfl (by go_simp) (fun _ M => M.row (by simp)) (by simp []) rfl ?_
  refine SeqA.call _ _ _ (fun w' => by go_simp) (fun w' hI _ => nsq_any w' (iv4 x) 1 (by decide)) M14.size rfl rfl ?_
  refine SeqA.ld0 Tryd.underlying97 rfl inf_num (w.heap.size) (cs N64 (limbs x)) rfl (by go_simp) (fun _ M => M.row (by simp)) (by simp []) rfl ?_
  refine SeqA.call _ _ _ (fun w' => by go_simp) (fun w' hI _ => nmul_any w' (sqV (iv4 x) 1) x) M14.size rfl rfl ?_
  refine SeqA.var (z := .agg (cs N64 (limbs 0))) (by kernel_rfl) rfl rfl (by decide) rfl ?_
  refine SeqA.nil (fun w15 M16 hz => ?_)
  refine news_one (fun b17 hb1 hb2 hb3 => ?_)
  have M18 := M14.in_ (c := cs N64 (limbs 0)) M16 hb1 hb2 (by decide) hb3 rfl
  show wpT _ _ _ _ _ _
  simp only [Act.put, List.setIfInBounds_toArray, List.set_cons_succ, List.set_cons_zero]
  refine wpT_st0 M18 0 (cs N64 (limbs (mulV (sqV (iv4 x) 1) x))) inf_num rfl rfl rfl rfl (by go_simp) (by go_simp) (by simp []) (by simp []) (by simp [go_sem]) rfl (fun w19 M20 => ?_)
  dsimp only [List.set] at M20
  dsimp only [wpT]
  rw [show mulV (sqV (iv4 x) 1) x = iv5 x from rfl] at M20 ⊢
  go_upto_region 4 with fail
  refine wp_region_seq 5 [25, 26, 27, 28, 6] [] [] [] (.op 5 .done) (Mm no w _) (by kernel_rfl) (by kernel_rfl) (by kernel_rfl) (fun d _ _ _ _ h => by cases d <;> exact h) (by rfl) M20.size (fun _ _ h k => h.sf k) M20 ?_
  simp only [List.take_succ_cons, List.take_zero]
  refine SeqA.ld0 Tryd.underlying97 rfl inf_num (b17) (cs N64 (limbs (iv5 x))) rfl (by go_simp) (fun _ M => M.row (by simp)) (by simp []) rfl ?_
  refine SeqA.call _ _ _ (fun w' => by go_simp) (fun w' hI _ => nsq_any w' (iv5 x) 5 (by decide)) M20.size rfl rfl ?_
  refine SeqA.ld0 Tryd.underlying97 rfl inf_num (b17) (cs N64 (limbs (iv5 x))) rfl (by go_simp) (fun _ M => M.row (by simp)) (by simp []) rfl ?_
  refine SeqA.call _ _ _ (fun w' => by go_simp) (fun w' hI _ => nmul_any w' (sqV (iv5 x) 5) (iv5 x)) M20.size rfl rfl ?_
  refine SeqA.var (z := .agg (cs N64 (limbs 0))) (by kernel_rfl) rfl rfl (by decide) rfl ?_
  refine SeqA.nil (fun w21 M22 hz => ?_)
  refine news_one (fun b23 hb1 hb2 hb3 => ?_)
  have M24 := M20.in_ (c := cs N64 (limbs 0)) M22 hb1 hb2 (by decide) hb3 rfl
  show wpT _ _ _ _ _ _
  simp only [Act.put, List.setIfInBounds_toArray, List.set_cons_succ, List.set_cons_zero]
  refine wpT_st0 M24 0 (cs N64 (limbs (mulV (sqV (iv5 x) 5) (iv5 x)))) inf_num rfl rfl rfl rfl (by go_simp) (by go_simp) (by simp []) (by simp []) (by simp [go_sem]) rfl (fun w25 M26 => ?_)
  dsimp only [List.set] at M26
  dsimp only [wpT]
  rw [show mulV (sqV (iv5 x) 5) (iv5 x) = iv10 x from rfl] at M26 ⊢
  go_upto_region 5 with fail
  refine wp_region_seq 5 [29, 30, 31, 32, 7] [] [] [] (.op 5 .done) (Mm no w _) (by kernel_rfl) (by kernel_rfl) (by kernel_rfl) (fun d _ _ _ _ h => by cases d <;> exact h) (by rfl) M26.size (fun _ _ h k => h.sf k) M26 ?_
  simp only [List.take_succ_cons, List.take_zero]
  refine SeqA.ld0 Tryd.underlying97 rfl inf_num (b23) (cs N64 (limbs (iv10 x))) rfl (by go_simp) (fun _ M => M.row (by simp)) (by simp []) rfl ?_
  refine SeqA.call _ _ _ (fun w' => by go_simp) (fun w' hI _ => nsq_any w' (iv10 x) 10 (by decide)) M26.size rfl rfl ?_
  refine SeqA.ld0 Tryd.underlying97 rfl inf_num (b23) (cs N64 (limbs (iv10 x))) rfl (by go_simp) (fun _ M => M.row (by simp)) (by simp []) rfl ?_
  refine SeqA.call _ _ _ (fun w' => by go_simp) (fun w' hI _ => nmul_any w' (sqV (iv10 x) 10) (iv10 x)) M26.size rfl rfl ?_
  refine SeqA.var (z := .agg (cs N64 (limbs 0))) (by kernel_rfl) rfl rfl (by decide) rfl ?_
  refine SeqA.nil (fun w27 M28 hz => ?_)
  refine news_one (fun b29 hb1 hb2 hb3 => ?_)
  have M30 := M26.in_ (c := cs N64 (limbs 0)) M28 hb1 hb2 (by decide) hb3 rfl
  show wpT _ _ _ _ _ _
  simp only [Act.put, List.setIfInBounds_toArray, List.set_cons_succ, List.set_cons_zero]
  refine wpT_st0 M30 0 (cs N64 (limbs (mulV (sqV (iv10 x) 10) (iv10 x)))) inf_num rfl rfl rfl rfl (by go_simp) (by go_simp) (by simp []) (by simp []) (by simp [go_sem]) rfl (fun w31 M32 => ?_)
  dsimp only [List.set] at M32
  dsimp only [wpT]
  rw [show mulV (sqV (iv10 x) 10) (iv10 x) = iv20 x from rfl] at M32 ⊢
  go_upto_region 6 with fail
  refine wp_region_seq 5 [33, 34, 35, 36, 8] [] [] [] (.op 5 .done) (Mm no w _) (by kernel_rfl) (by kernel_rfl) (by kernel_rfl) (fun d _ _ _ _ h => by cases d <;> exact h) (by rfl) M32.size (fun _ _ h k => h.sf k) M32 ?_
  simp only [List.take_succ_cons, List.take_zero]
  refine SeqA.ld0 Tryd.underlying97 rfl inf_num (b29) (cs N64 (limbs (iv20 x))) rfl (by go_simp) (fun _ M => M.row (by simp)) (by simp []) rfl ?_
  refine SeqA.call _ _ _ (fun w' => by go_simp) (fun w' hI _ => nsq_any w' (iv20 x) 20 (by decide)) M32.size rfl rfl ?_
  refine SeqA.ld0 Tryd.underlying97 rfl inf_num (b29) (cs N64 (limbs (iv20 x))) rfl (by go_simp) (fun _ M => M.row (by simp)) (by simp []) rfl ?_
  refine SeqA.call _ _ _ (fun w' => by go_simp) (fun w' hI _ => nmul_any w' (sqV (iv20 x) 20) (iv20 x)) M32.size rfl rfl ?_
  refine SeqA.var (z := .agg (cs N64 (limbs 0))) (by kernel_rfl) rfl rfl (by decide) rfl ?_
  refine SeqA.nil (fun w33 M34 hz => ?_)
  refine news_one (fun b35 hb1 hb2 hb3 => ?_)
  have M36 := M32.in_ (c := cs N64 (limbs 0)) M34 hb1 hb2 (by decide) hb3 rfl
  show wpT _ _ _ _ _ _
  simp only [Act.put, List.setIfInBounds_toArray, List.set_cons_succ, List.set_cons_zero]
  refine wpT_st0 M36 0 (cs N64 (limbs (mulV (sqV (iv20 x) 20) (iv20 x)))) inf_num rfl rfl rfl rfl (by go_simp) (by go_simp) (by simp []) (by simp []) (by simp [go_sem]) rfl (fun w37 M38 => ?_)
  dsimp only [List.set] at M38
  dsimp only [wpT]
  rw [show mulV (sqV (iv20 x) 20) (iv20 x) = iv40 x from rfl] at M38 ⊢
  go_upto_region 7 with fail
  refine wp_region_seq 5 [37, 38, 39, 40, 9] [] [] [] (.op 5 .done) (Mm no w _) (by kernel_rfl) (by kernel_rfl) (by kernel_rfl) (fun d _ _ _ _ h => by cases d <;> exact h) (by rfl) M38.size (fun _ _ h k => h.sf k) M38 ?_
  simp only [List.take_succ_cons, List.take_zero]
  refine SeqA.ld0 Tryd.underlying97 rfl inf_num (b35) (cs N64 (limbs (iv40 x))) rfl (by go_simp) (fun _ M => M.row (by simp)) (by simp []) rfl ?_
  refine SeqA.call _ _ _ (fun w' => by go_simp) (fun w' hI _ => nsq_any w' (iv40 x) 10 (by decide)) M38.size rfl rfl ?_
  refine SeqA.ld0 Tryd.underlying97 rfl inf_num (b23) (cs N64 (limbs (iv10 x))) rfl (by go_simp) (fun _ M => M.row (by simp)) (by simp []) rfl ?_
  refine SeqA.call _ _ _ (fun w' => by go_simp) (fun w' hI _ => nmul_any w' (sqV (iv40 x) 10) (iv10 x)) M38.size rfl rfl ?_
  refine SeqA.var (z := .agg (cs N64 (limbs 0))) (by kernel_rfl) rfl rfl (by decide) rfl ?_
  refine SeqA.nil (fun w39 M40 hz => ?_)
  refine news_one (fun b41 hb1 hb2 hb3 => ?_)
  have M42 := M38.in_ (c := cs N64 (limbs 0)) M40 hb1 hb2 (by decide) hb3 rfl
  show wpT _ _ _ _ _ _
  simp only [Act.put, List.setIfInBounds_toArray, List.set_cons_succ, List.set_cons_zero]
  refine wpT_st0 M42 0 (cs N64 (limbs (mulV (sqV (iv40 x) 10) (iv10 x)))) inf_num rfl rfl rfl rfl (by go_simp) (by go_simp) (by simp []) (by simp []) (by simp [go_sem]) rfl (fun w43 M44 => ?_)
  dsimp only [List.set] at M44
  dsimp only [wpT]
  rw [show mulV (sqV (iv40 x) 10) (iv10 x) = iv50 x from rfl] at M44 ⊢
  go_upto_region 8 with fail
  refine wp_region_seq 5 [41, 42, 43, 44, 10] [] [] [] (.op 5 .done) (Mm no w _) (by kernel_rfl) (by kernel_rfl) (by kernel_rfl) (fun d _ _ _ _ h => by cases d <;> exact h) (by rfl) M44.size (fun _ _ h k => h.sf k) M44 ?_
  simp only [List.take_succ_cons, List.take_zero]
  refine SeqA.ld0 Tryd.underlying97 rfl inf_num (b41) (cs N64 (limbs (iv50 x))) rfl (by go_simp) (fun _ M => M.row (by simp)) (by simp []) rfl ?_
  refine SeqA.call _ _ _ (fun w' => by go_simp) (fun w' hI _ => nsq_any w' (iv50 x) 50 (by decide)) M44.size rfl rfl ?_
  refine SeqA.ld0 Tryd.underlying97 rfl inf_num (b41) (cs N64 (limbs (iv50 x))) rfl (by go_simp) (fun _ M => M.row (by simp)) (by simp []) rfl ?_
  refine SeqA.call _ _ _ (fun w' => by go_simp) (fun w' hI _ => nmul_any w' (sqV (iv50 x) 50) (iv50 x)) M44.size rfl rfl ?_
  refine SeqA.var (z := .agg (cs N64 (limbs 0))) (by kernel_rfl) rfl rfl (by decide) rfl ?_
  refine SeqA.nil (fun w45 M46 hz => ?_)
  refine news_one (fun b47 hb1 hb2 hb3 => ?_)
  have M48 := M44.in_ (c := cs N64 (limbs 0)) M46 hb1 hb2 (by decide) hb3 rfl
  show wpT _ _ _ _ _ _
  simp only [Act.put, List.setIfInBounds_toArray, List.set_cons_succ, List.set_cons_zero]
  refine wpT_st0 M48 0 (cs N64 (limbs (mulV (sqV (iv50 x) 50) (iv50 x)))) inf_num rfl rfl rfl rfl (by go_simp) (by go_simp) (by simp []) (by simp []) (by simp [go_sem]) rfl (fun w49 M50 => ?_)
  dsimp only [List.set] at M50
  dsimp only [wpT]
  rw [show mulV (sqV (iv50 x) 50) (iv50 x) = iv100 x from rfl] at M50 ⊢
  go_upto_region 9 with fail
  refine wp_region_seq 8 [45, 46, 47, 48, 49, 50, 51, 11] [] [] [] (.op 8 .done) (Mm no w _) (by kernel_rfl) (by kernel_rfl) (by kernel_rfl) (fun d _ _ _ _ h => by cases d <;> exact h) (by rfl) M50.size (fun _ _ h k => h.sf k) M50 ?_
  simp only [List.take_succ_cons, List.take_zero]
  refine SeqA.ld0 Tryd.underlying97 rfl inf_num (b47) (cs N64 (limbs (iv100 x))) rfl (by go_simp) (fun _ M => M.row (by simp)) (by simp []) rfl ?_
  refine SeqA.call _ _ _ (fun w' => by go_simp) (fun w' hI _ => nsq_any w' (iv100 x) 100 (by decide)) M50.size rfl rfl ?_
  refine SeqA.ld0 Tryd.underlying97 rfl inf_num (b47) (cs N64 (limbs (iv100 x))) rfl (by go_simp) (fun _ M => M.row (by simp)) (by simp []) rfl ?_
  refine SeqA.call _ _ _ (fun w' => by go_simp) (fun w' hI _ => nmul_any w' (sqV (iv100 x) 100) (iv100 x)) M50.size rfl rfl ?_
  refine SeqA.call _ _ _ (fun w' => by go_simp) (fun w' hI _ => nsq_any w' (mulV (sqV (iv100 x) 100) (iv100 x)) 50 (by decide)) M50.size rfl rfl ?_
  simp only [Act.put, List.setIfInBounds_toArray, List.set_cons_succ, List.set_cons_zero]
  refine SeqA.ld0 Tryd.underlying97 rfl inf_num (b41) (cs N64 (limbs (iv50 x))) rfl (by go_simp) (fun _ M => M.row (by simp)) (by simp []) rfl ?_
  refine SeqA.call _ _ _ (fun w' => by go_simp) (fun w' hI _ => nmul_any w' (sqV (mulV (sqV (iv100 x) 100) (iv100 x)) 50) (iv50 x)) M50.size rfl rfl ?_
  refine SeqA.var (z := .agg (cs N64 (limbs 0))) (by kernel_rfl) rfl rfl (by decide) rfl ?_
  refine SeqA.nil (fun w51 M52 hz => ?_)
  refine news_one (fun b53 hb1 hb2 hb3 => ?_)
  have M54 := M50.in_ (c := cs N64 (limbs 0)) M52 hb1 hb2 (by decide) hb3 rfl
  show wpT _ _ _ _ _ _
  simp only [Act.put, List.setIfInBounds_toArray, List.set_cons_succ, List.set_cons_zero]
  refine wpT_st0 M54 0 (cs N64 (limbs (mulV (sqV (mulV (sqV (iv100 x) 100) (iv100 x)) 50) (iv50 x)))) inf_num rfl rfl rfl rfl (by go_simp) (by go_simp) (by simp []) (by simp []) (by simp [go_sem]) rfl (fun w55 M56 => ?_)
  dsimp only [List.set] at M56
  dsimp only [wpT]
  rw [show mulV (sqV (mulV (sqV (iv100 x) 100) (iv100 x)) 50) (iv50 x) = iv250 x from rfl] at M56 ⊢
  go_upto_region 10 with fail
  refine wp_region_seq 8 [52, 53, 54, 55, 56, 57, 58, 12] [] [] [] (.op 8 .done) (Mm no w _) (by kernel_rfl) (by kernel_rfl) (by kernel_rfl) (fun d _ _ _ _ h => by cases d <;> exact h) (by rfl) M56.size (fun _ _ h k => h.sf k) M56 ?_
  simp only [List.take_succ_cons, List.take_zero]
  refine SeqA.ld0 Tryd.underlying97 rfl inf_num (w.heap.size) (cs N64 (limbs x)) rfl (by go_simp) (fun _ M => M.row (by simp)) (by simp []) rfl ?_
  refine SeqA.call _ _ _ (fun w' => by go_simp) (fun w' hI _ => nsq_any w' x 2 (by decide)) M56.size rfl rfl ?_
  refine SeqA.ld0 Tryd.underlying97 rfl inf_num (w.heap.size) (cs N64 (limbs x)) rfl (by go_simp) (fun _ M => M.row (by simp)) (by simp []) rfl ?_
  refine SeqA.call _ _ _ (fun w' => by go_simp) (fun w' hI _ => nmul_any w' (sqV x 2) x) M56.size rfl rfl ?_
  refine SeqA.call _ _ _ (fun w' => by go_simp) (fun w' hI _ => nsq_any w' (mulV (sqV x 2) x) 1 (by decide)) M56.size rfl rfl ?_
  simp only [Act.put, List.setIfInBounds_toArray, List.set_cons_succ, List.set_cons_zero]
  refine SeqA.ld0 Tryd.underlying97 rfl inf_num (w.heap.size) (cs N64 (limbs x)) rfl (by go_simp) (fun _ M => M.row (by simp)) (by simp []) rfl ?_
  refine SeqA.call _ _ _ (fun w' => by go_simp) (fun w' hI _ => nmul_any w' (sqV (mulV (sqV x 2) x) 1) x) M56.size rfl rfl ?_
  refine SeqA.var (z := .agg (cs N64 (limbs 0))) (by kernel_rfl) rfl rfl (by decide) rfl ?_
  refine SeqA.nil (fun w57 M58 hz => ?_)
  refine news_one (fun b59 hb1 hb2 hb3 => ?_)
  have M60 := M56.in_ (c := cs N64 (limbs 0)) M58 hb1 hb2 (by decide) hb3 rfl
  show wpT _ _ _ _ _ _
  simp only [Act.put, List.setIfInBounds_toArray, List.set_cons_succ, List.set_cons_zero]
  refine wpT_st0 M60 0 (cs N64 (limbs (mulV (sqV (mulV (sqV x 2) x) 1) x))) inf_num rfl rfl rfl rfl (by go_simp) (by go_simp) (by simp []) (by simp []) (by simp [go_sem]) rfl (fun w61 M62 => ?_)
  dsimp only [List.set] at M62
  dsimp only [wpT]
  rw [show mulV (sqV (mulV (sqV x 2) x) 1) x = ivlow x from rfl] at M62 ⊢
  go_upto_region 11 with fail
  refine wp_region_seq 4 [59, 60, 61, 62] [] [] [] (.op 4 .done) (Mm no w _) (by kernel_rfl) (by kernel_rfl) (by kernel_rfl) (fun d _ _ _ _ h => by cases d <;> exact h) (by rfl) M62.size (fun _ _ h k => h.sf k) M62 ?_
  simp only [List.take_succ_cons, List.take_zero]
  refine SeqA.ld0 Tryd.underlying97 rfl inf_num (b53) (cs N64 (limbs (iv250 x))) rfl (by go_simp) (fun _ M => M.row (by simp)) (by simp []) rfl ?_
  refine SeqA.call _ _ _ (fun w' => by go_simp) (fun w' hI _ => nsq_any w' (iv250 x) 5 (by decide)) M62.size rfl rfl ?_
  refine SeqA.ld0 Tryd.underlying97 rfl inf_num (b59) (cs N64 (limbs (ivlow x))) rfl (by go_simp) (fun _ M => M.row (by simp)) (by simp []) rfl ?_
  refine SeqA.call _ _ _ (fun w' => by go_simp) (fun w' hI _ => nmul_any w' (sqV (iv250 x) 5) (ivlow x)) M62.size rfl rfl ?_
  refine SeqA.nil (fun w63 M64 hz => ?_)
  show wpT _ _ _ _ _ _
  simp only [Act.put, List.setIfInBounds_toArray, List.set_cons_succ, List.set_cons_zero]
  refine wpT_st0 M64 10 (cs N64 (limbs (mulV (sqV (iv250 x) 5) (ivlow x)))) inf_num rfl rfl rfl rfl (by go_simp) (by go_simp) (by simp []) (by simp []) (by simp [go_sem]) rfl (fun w65 M66 => ?_)
  dsimp only [List.set] at M66
  dsimp only [wpT]
  rw [show mulV (sqV (iv250 x) 5) (ivlow x) = invV x from rfl] at M66 ⊢
  go_wp2_with fail
  have r67 := M66.row (b := w.heap.size + 1) (c := cs N64 (limbs (invV x))) (by simp)
  refine bodyPost_ret (res_row (b := w.heap.size + 1) rfl Tryd.underlying97 rfl inf_num _ _ rfl (by rw [r67]; simp [])) rfl ?_
  rw [r67]
  exact ⟨rfl, M66.end_⟩
set_option maxRecDepth 100000 in
set_option maxHeartbeats 1000000 in
theorem fcanon_any (w : World) (a : List (BitVec 8)) (ha : a.length = 32) :
    Calls Tryd.prog 93 #[.agg (cs U8 a)] w fun e w' => e = .returned (.agg (cs U8 (keyV (leN a)))) ∧ Below w.heap.size w w' := by
  have M0 := Mm.start no w
  go_enter Tryd.func93, Tryd.ntmps93
  have M2 := ((M0.alloc (cs U8 a) 23 (by decide)).alloc (cs U8 (zs 32)) 23 (by decide))
  simp only [World.size_alloc] at M2
  go_upto_region 1 with fail
  obtain ⟨w1, hw1⟩ : ∃ w1, w1 = ((w.alloc (.cells (cs U8 a) 23)).alloc (.cells (cs U8 (zs 32)) 23)) := ⟨_, rfl⟩
  rw [← hw1] at M2 ⊢
  clear hw1
  refine wp_region_seqF 3 [3, 4, 5] [] [] [] (.op 3 .done) (Mm no w _) (by kernel_rfl) (by kernel_rfl) (fun d _ _ _ _ h => by cases d <;> exact h) (by rfl) M2.size (fun _ _ h k => h.sf k) M2 (by kernel_rfl) ?_
  simp only [List.take_succ_cons, List.take_zero]
  refine SeqA.ld0 Tryd.underlying23 rfl inf_key (w.heap.size) (cs U8 a) rfl (by go_simp) (fun _ M => M.row (by simp)) (by simp [ha]) rfl ?_
  refine SeqA.call _ _ _ (fun w' => by go_simp) (fun w' hI _ => of_any w' a (by simp [ha])) M2.size rfl rfl ?_
  refine SeqA.call _ _ _ (fun w' => by go_simp) (fun w' hI _ => key_any w' (leN a)) M2.size rfl rfl ?_
  refine SeqA.nil (fun w3 M4 hz => ?_)
  show wpT _ _ _ _ _ _
  simp only [Act.put, List.setIfInBounds_toArray, List.set_cons_succ, List.set_cons_zero]
  refine wpT_st0 M4 0 (cs U8 (keyV (leN a))) inf_key rfl rfl rfl rfl (by go_simp) (by go_simp) (by simp [ha]) (by simp [ha]) (by simp [go_sem]) rfl (fun w5 M6 => ?_)
  dsimp only [List.set] at M6
  dsimp only [wpT]
  go_wp2_with fail
  have r7 := M6.row (b := w.heap.size + 1) (c := cs U8 (keyV (leN a))) (by simp)
  refine bodyPost_ret (res_row (b := w.heap.size + 1) rfl Tryd.underlying23 rfl inf_key _ _ rfl (by rw [r7]; simp [ha])) rfl ?_
  rw [r7]
  exact ⟨rfl, M6.end_⟩
end Go.Proofs.YtgclegdgngldoaaDoor
