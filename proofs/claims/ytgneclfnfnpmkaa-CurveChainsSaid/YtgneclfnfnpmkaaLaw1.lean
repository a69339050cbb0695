/-
  Law 01: the walks; own work.
-/
import Derived.Test.YtgneclfnfnpmkaaFldD
import Derived.Test.YtgneclfnfnpmkaaLad
import Derived.Test.YtgneclfnfnpmkaaStep
set_option linter.unusedSimpArgs false
set_option linter.unusedVariables false
namespace Go.Proofs.Ytgneclfnfnpmkaa
open Go.RowKit Fp
theorem eqt (w : World) (x y : F) (h : x = y) : (Op.equalIn 10000 23 (.agg (cs U8 (K x))) (.agg (cs U8 (K y)))).run Try.prog w = .ok true w := eqk w x y true (decide_eq_true h)
theorem fzero_t (w : World) (a : List (BitVec 8)) (ha : a.length = 32) (x : F) (hx : Fk a = x) (h : x = 0) :
    Calls Try.prog 20 #[.agg (cs U8 a)] w fun e w' => e = .returned (.bool true) ∧ Below w.heap.size w w' := by
  have := fzero_c w a ha x hx; rwa [decide_eq_true h] at this
theorem fzero_f (w : World) (a : List (BitVec 8)) (ha : a.length = 32) (x : F) (hx : Fk a = x) (h : ¬ x = 0) :
    Calls Try.prog 20 #[.agg (cs U8 a)] w fun e w' => e = .returned (.bool false) ∧ Below w.heap.size w w' := by
  have := fzero_c w a ha x hx; rwa [decide_eq_false h] at this
theorem f0 : fk 0 = 0 := rfl
theorem f1e : fk 1 = 1 := by decide +kernel
theorem f121 : fk 0 - fk 1 + fk 2 = fk 1 := by decide +kernel
theorem iv0 : iv 0 = fk 0 := by rw [iv_eq, inv_zero]; rfl
theorem miv {x : F} (h : x ≠ 0) : x * iv x = fk 1 := by rw [iv_eq, mul_inv h, f1e]
theorem f1 : ¬ fk 1 = 0 := by decide +kernel
theorem f15 : fk 3 * fk 5 = fk 15 := by rw [← fk_mul]
theorem f2inv : fk 2 * iv (fk 2) = fk 1 := by rw [iv_eq, mul_inv (by decide +kernel), f1e]
theorem inv_ne {x : F} (h : x ≠ 0) : inv x ≠ 0 := by
  intro e
  have := mul_inv h
  rw [e] at this
  have h2 : (1 : F) ≠ 0 := by decide +kernel
  exact h2 (by grind)
theorem iv_iv {x : F} (h : x ≠ 0) : iv (iv x) = x := by
  rw [iv_eq, iv_eq]
  have h1 := mul_inv h
  have h2 := mul_inv (inv_ne h)
  grind
theorem iv_mul (x y : F) : iv (x * y) = iv x * iv y := by
  rw [iv_eq, iv_eq, iv_eq]
  unfold inv; exact Lean.Grind.CommSemiring.mul_pow ..
@[go_sem] theorem xb_keyn (w : World) (v : BitVec 8) : exBuild Try.prog 23 #[(0, U8 v)] w = .ok (.value (.agg (cs U8 (v :: zs 31)))) w := by
  unfold exBuild; rw [run_build w _ _ (cs U8 (v :: zs 31)) (by kernel_rfl)]; rfl
theorem num_u8 (w : World) (v : BitVec 8) :
    Calls Try.prog 30 #[U8 v] w fun e w' => e = .returned (.agg (cs U8 (v :: zs 31))) ∧ Below w.heap.size w w' := by
  have M0 := Mm.start no w
  go_enter Try.func30, Try.ntmps30
  have M2 := (M0.alloc (cs U8 (zs 32)) 23 (by decide))
  try simp only [World.size_alloc] at M2
  go_upto_region 1 with fail
  obtain ⟨w1, hw1⟩ : ∃ w1, w1 = (w.alloc (.cells (cs U8 (zs 32)) 23)) := ⟨_, rfl⟩
  rw [← hw1] at M2 ⊢
  clear hw1
  refine wp_region_seqF 2 [3, 4] [] [] [] (.op 2 .done) (Mm no w _) (by kernel_rfl) (by kernel_rfl) (fun d _ _ _ _ h => by cases d <;> exact h) (by rfl) M2.size (fun _ _ h k => h.sf k) M2 (by kernel_rfl) ?_
  simp only [List.take_succ_cons, List.take_zero]
  refine SeqA.pure (U8 v) (fun w' => by go_simp) rfl rfl ?_
  refine SeqA.pure (.agg (cs U8 (v :: zs 31))) (fun w' => by go_simp) rfl rfl ?_
  refine SeqA.nil (fun w3 M4 hz => ?_)
  show wpT _ _ _ _ _ _
  simp only [Act.put, List.setIfInBounds_toArray, List.set_cons_succ, List.set_cons_zero]
  refine wpT_st0 M4 0 (cs U8 (v :: zs 31)) inf_key rfl rfl rfl rfl (by go_simp) (by go_simp) (by simp []) (by simp []) (by simp [go_sem]) rfl (fun w5 M6 => ?_)
  dsimp only [List.set] at M6
  dsimp only [wpT]
  go_wp2_with fail
  have r7 := M6.row (b := w.heap.size) (c := cs U8 (v :: zs 31)) (by simp)
  refine bodyPost_ret (res_row (b := w.heap.size) rfl Try.underlying23 rfl inf_key _ _ rfl (by rw [r7]; simp [])) rfl ?_
  rw [r7]
  exact ⟨rfl, M6.end_⟩
theorem kb_small {c : Nat} (h : c < 256) : kb c = BitVec.ofNat 8 c :: zs 31 := by
  show BitVec.ofNat 8 c :: kbN 31 (c / 256) = _
  rw [Nat.div_eq_of_lt h]; rfl
theorem num_c (w : World) (c : Nat) (C : Int) (hC : (c : Int) = C) (hc : c < 256) :
    Calls Try.prog 30 #[.int .u8 C] w fun e w' => e = .returned (.agg (cs U8 (K (fk c)))) ∧ Below w.heap.size w w' := by
  have h := num_u8 w (BitVec.ofNat 8 c)
  have e : U8 (BitVec.ofNat 8 c) = .int .u8 C := by unfold U8; rw [BitVec.toNat_ofNat, Nat.mod_eq_of_lt hc, hC]
  rw [e] at h
  refine h.mono fun e w' ⟨h1, h2⟩ => ⟨?_, h2⟩
  have hP : c < P := Nat.lt_trans hc (by decide)
  rw [h1, ← kb_small hc]; unfold K; rw [show (fk c).val = c from Nat.mod_eq_of_lt hP]
set_option maxRecDepth 100000 in
set_option maxHeartbeats 1000000 in
theorem alive_c (w : World) :
    Calls Try.prog 17 #[] w fun e w' => e = .returned (.bool true) ∧ Below w.heap.size w w' := by
  have M0 := Mm.start no w
  go_enter Try.func17, Try.ntmps17
  go_upto_region 1 with fail
  refine wp_region_seqF 38 [1, 2, 3, 4, 5, 6, 7, 8, 9, 10, 11, 12, 13, 14, 15, 16, 17, 18, 19, 20, 21, 22, 23, 24, 25, 26, 27, 28, 29, 30, 31, 32, 33, 34, 35, 36, 37, 0] [] [] [] (.done) (Mm no w _) (by kernel_rfl) (by kernel_rfl) (fun d _ _ _ _ h => by cases d <;> exact h) (by rfl) M0.size (fun _ _ h k => h.sf k) M0 (by kernel_rfl) ?_
  simp only [List.take_succ_cons, List.take_zero]
  refine SeqA.call _ _ _ (fun w' => by go_simp) (fun w' hI _ => num_c w' 0 0 rfl (by decide)) M0.size rfl rfl ?_
  refine SeqA.call _ _ _ (fun w' => by go_simp) (fun w' hI _ => num_c w' 1 1 rfl (by decide)) M0.size rfl rfl ?_
  refine SeqA.call _ _ _ (fun w' => by go_simp) (fun w' hI _ => fsub_c w' (K (fk 0)) (K (fk 1)) (by simp []) (by simp []) (fk 0) (fk 1) (Fk_K _) (Fk_K _)) M0.size rfl rfl ?_
  refine SeqA.call _ _ _ (fun w' => by go_simp) (fun w' hI _ => num_c w' 2 2 rfl (by decide)) M0.size rfl rfl ?_
  refine SeqA.call _ _ _ (fun w' => by go_simp) (fun w' hI _ => fadd_c w' (K ((fk 0) - (fk 1))) (K (fk 2)) (by simp []) (by simp []) ((fk 0) - (fk 1)) (fk 2) (Fk_K _) (Fk_K _)) M0.size rfl rfl ?_
  simp only [Act.put, List.setIfInBounds_toArray, List.set_cons_succ, List.set_cons_zero]
  refine SeqA.call _ _ _ (fun w' => by go_simp) (fun w' hI _ => num_c w' 1 1 rfl (by decide)) M0.size rfl rfl ?_
  refine SeqA.pure (.bool true) (fun w' => by have q := eqt w' ((((fk 0) - (fk 1)) + (fk 2))) (fk 1) (f121); go_simp) rfl rfl ?_
  refine SeqA.pure (.bool true) (fun w' => by go_simp) rfl rfl ?_
  refine SeqA.call _ _ _ (fun w' => by go_simp) (fun w' hI _ => num_c w' 3 3 rfl (by decide)) M0.size rfl (by simp [Region.wanted, yielded, Act.put]) ?_
  refine SeqA.call _ _ _ (fun w' => by go_simp) (fun w' hI _ => num_c w' 5 5 rfl (by decide)) M0.size rfl (by simp [Region.wanted, yielded, Act.put]) ?_
  refine SeqA.call _ _ _ (fun w' => by go_simp) (fun w' hI _ => fmul_c w' (K (fk 3)) (K (fk 5)) (by simp []) (by simp []) (fk 3) (fk 5) (Fk_K _) (Fk_K _)) M0.size rfl (by simp [Region.wanted, yielded, Act.put]) ?_
  simp only [Act.put, List.setIfInBounds_toArray, List.set_cons_succ, List.set_cons_zero]
  refine SeqA.call _ _ _ (fun w' => by go_simp) (fun w' hI _ => num_c w' 15 15 rfl (by decide)) M0.size rfl (by simp [Region.wanted, yielded, Act.put]) ?_
  refine SeqA.pure (.bool true) (fun w' => by have q := eqt w' ((fk 3) * (fk 5)) (fk 15) (f15); go_simp) rfl (by simp [Region.wanted, yielded, Act.put]) ?_
  refine SeqA.pure (.bool true) (fun w' => by go_simp) rfl rfl ?_
  refine SeqA.pure (.bool true) (fun w' => by go_simp) rfl rfl ?_
  refine SeqA.call _ _ _ (fun w' => by go_simp) (fun w' hI _ => num_c w' 2 2 rfl (by decide)) M0.size rfl (by simp [Region.wanted, yielded, Act.put]) ?_
  refine SeqA.call _ _ _ (fun w' => by go_simp) (fun w' hI _ => num_c w' 2 2 rfl (by decide)) M0.size rfl (by simp [Region.wanted, yielded, Act.put]) ?_
  simp only [Act.put, List.setIfInBounds_toArray, List.set_cons_succ, List.set_cons_zero]
  refine SeqA.call _ _ _ (fun w' => by go_simp) (fun w' hI _ => finv_c w' (K (fk 2)) (by simp []) (fk 2) (Fk_K _)) M0.size rfl (by simp [Region.wanted, yielded, Act.put]) ?_
  refine SeqA.call _ _ _ (fun w' => by go_simp) (fun w' hI _ => fmul_c w' (K (fk 2)) (K (iv (fk 2))) (by simp []) (by simp []) (fk 2) (iv (fk 2)) (Fk_K _) (Fk_K _)) M0.size rfl (by simp [Region.wanted, yielded, Act.put]) ?_
  refine SeqA.call _ _ _ (fun w' => by go_simp) (fun w' hI _ => num_c w' 1 1 rfl (by decide)) M0.size rfl (by simp [Region.wanted, yielded, Act.put]) ?_
  refine SeqA.pure (.bool true) (fun w' => by have q := eqt w' (((fk 2) * (iv (fk 2)))) (fk 1) (f2inv); go_simp) rfl (by simp [Region.wanted, yielded, Act.put]) ?_
  refine SeqA.pure (.bool true) (fun w' => by go_simp) rfl rfl ?_
  refine SeqA.pure (.bool true) (fun w' => by go_simp) rfl rfl ?_
  simp only [Act.put, List.setIfInBounds_toArray, List.set_cons_succ, List.set_cons_zero]
  refine SeqA.call _ _ _ (fun w' => by go_simp) (fun w' hI _ => num_c w' 0 0 rfl (by decide)) M0.size rfl (by simp [Region.wanted, yielded, Act.put]) ?_
  refine SeqA.call _ _ _ (fun w' => by go_simp) (fun w' hI _ => fzero_t w' _ (by simp) (fk 0) (Fk_K _) (by simp [f0])) M0.size rfl (by simp [Region.wanted, yielded, Act.put]) ?_
  refine SeqA.pure (.bool true) (fun w' => by go_simp) rfl rfl ?_
  refine SeqA.pure (.bool true) (fun w' => by go_simp) rfl rfl ?_
  refine SeqA.call _ _ _ (fun w' => by go_simp) (fun w' hI _ => num_c w' 1 1 rfl (by decide)) M0.size rfl (by simp [Region.wanted, yielded, Act.put]) ?_
  refine SeqA.call _ _ _ (fun w' => by go_simp) (fun w' hI _ => fzero_f w' _ (by simp) (fk 1) (Fk_K _) f1) M0.size rfl (by simp [Region.wanted, yielded, Act.put]) ?_
  simp only [Act.put, List.setIfInBounds_toArray, List.set_cons_succ, List.set_cons_zero]
  refine SeqA.pure (.bool true) (fun w' => by go_simp) rfl (by simp [Region.wanted, yielded, Act.put]) ?_
  refine SeqA.pure (.bool true) (fun w' => by go_simp) rfl rfl ?_
  refine SeqA.pure (.bool true) (fun w' => by go_simp) rfl rfl ?_
  refine SeqA.call _ _ _ (fun w' => by go_simp) (fun w' hI _ => num_c w' 7 7 rfl (by decide)) M0.size rfl (by simp [Region.wanted, yielded, Act.put]) ?_
  refine SeqA.call _ _ _ (fun w' => by go_simp) (fun w' hI _ => fcanon_c w' (K (fk 7)) (by simp []) (fk 7) (Fk_K _)) M0.size rfl (by simp [Region.wanted, yielded, Act.put]) ?_
  refine SeqA.call _ _ _ (fun w' => by go_simp) (fun w' hI _ => num_c w' 7 7 rfl (by decide)) M0.size rfl (by simp [Region.wanted, yielded, Act.put]) ?_
  simp only [Act.put, List.setIfInBounds_toArray, List.set_cons_succ, List.set_cons_zero]
  refine SeqA.pure (.bool true) (fun w' => by have q := eqt w' ((fk 7)) (fk 7) (by grind); go_simp) rfl (by simp [Region.wanted, yielded, Act.put]) ?_
  refine SeqA.pure (.bool true) (fun w' => by go_simp) rfl rfl ?_
  refine SeqA.pure (.bool true) (fun w' => by go_simp) rfl rfl ?_
  refine SeqA.nil (fun w1 M2 hz => ?_)
  show wpT _ _ _ _ _ _
  simp only [Act.put, List.setIfInBounds_toArray, List.set_cons_succ, List.set_cons_zero]
  dsimp only [wpT]
  go_wp2_with fail
  go_ret
  exact ⟨rfl, M2.end_⟩
set_option maxRecDepth 100000 in
set_option maxHeartbeats 1000000 in
theorem FieldRests_w (w : World) (a : List (BitVec 8)) (ha : a.length = 32) :
    Calls Try.prog 3 #[.agg (cs U8 a)] w fun e w' => e = .returned (.bool true) ∧ Below w.heap.size w w' := by
  have M0 := Mm.start no w
  go_enter Try.func3, Try.ntmps3
  have M2 := (M0.alloc (cs U8 a) 23 (by decide))
  try simp only [World.size_alloc] at M2
  go_upto_region 1 with fail
  obtain ⟨w1, hw1⟩ : ∃ w1, w1 = (w.alloc (.cells (cs U8 a) 23)) := ⟨_, rfl⟩
  rw [← hw1] at M2 ⊢
  clear hw1
  refine wp_region_seqF 2 [3, 4] [] [] [] (.done) (Mm no w _) (by kernel_rfl) (by kernel_rfl) (fun d _ _ _ _ h => by cases d <;> exact h) (by rfl) M2.size (fun _ _ h k => h.sf k) M2 (by kernel_rfl) ?_
  simp only [List.take_succ_cons, List.take_zero]
  refine SeqA.call _ _ _ (fun w' => by go_simp) (fun w' hI _ => alive_c w') M2.size rfl rfl ?_
  refine SeqA.pure (.bool false) (fun w' => by go_simp) rfl rfl ?_
  refine SeqA.nil (fun w3 M4 hz => ?_)
  show wpT _ _ _ _ _ _
  simp only [Act.put, List.setIfInBounds_toArray, List.set_cons_succ, List.set_cons_zero]
  dsimp only [wpT]
  go_upto_region 3 with fail
  refine wp_region_seq 13 [5, 6, 7, 8, 9, 10, 11, 12, 13, 14, 15, 16, 2] [] [] [] (.done) (Mm no w _) (by kernel_rfl) (by kernel_rfl) (by kernel_rfl) (fun d _ _ _ _ h => by cases d <;> exact h) (by rfl) M4.size (fun _ _ h k => h.sf k) M4 ?_
  simp only [List.take_succ_cons, List.take_zero]
  refine SeqA.ld0 Try.underlying23 rfl inf_key (w.heap.size) (cs U8 a) rfl (by go_simp) (fun _ M => M.row (by simp)) (by simp [ha]) rfl ?_
  refine SeqA.call _ _ _ (fun w' => by go_simp) (fun w' hI _ => fcanon_c w' a (by simp [ha]) (Fk a) (rfl)) M4.size rfl rfl ?_
  refine SeqA.ld0 Try.underlying23 rfl inf_key (w.heap.size) (cs U8 a) rfl (by go_simp) (fun _ M => M.row (by simp)) (by simp [ha]) rfl ?_
  refine SeqA.call _ _ _ (fun w' => by go_simp) (fun w' hI _ => rcanon_c w' a (by simp [ha]) (Fk a) (rfl)) M4.size rfl rfl ?_
  refine SeqA.pure (.bool true) (fun w' => by have q := eqt w' ((Fk a)) ((Fk a)) (rfl); go_simp) rfl rfl ?_
  simp only [Act.put, List.setIfInBounds_toArray, List.set_cons_succ, List.set_cons_zero]
  refine SeqA.pure (.bool true) (fun w' => by go_simp) rfl rfl ?_
  refine SeqA.ld0 Try.underlying23 rfl inf_key (w.heap.size) (cs U8 a) rfl (by go_simp) (fun _ M => M.row (by simp)) (by simp [ha]) (by simp [Region.wanted, yielded, Act.put]) ?_
  refine SeqA.call _ _ _ (fun w' => by go_simp) (fun w' hI _ => fzero_c w' a (by simp [ha]) (Fk a) (rfl)) M4.size rfl (by simp [Region.wanted, yielded, Act.put]) ?_
  refine SeqA.ld0 Try.underlying23 rfl inf_key (w.heap.size) (cs U8 a) rfl (by go_simp) (fun _ M => M.row (by simp)) (by simp [ha]) (by simp [Region.wanted, yielded, Act.put]) ?_
  refine SeqA.call _ _ _ (fun w' => by go_simp) (fun w' hI _ => rzero_c w' a (by simp [ha]) (Fk a) (rfl)) M4.size rfl (by simp [Region.wanted, yielded, Act.put]) ?_
  refine SeqA.pure (.bool true) (fun w' => by go_simp) rfl (by simp [Region.wanted, yielded, Act.put]) ?_
  simp only [Act.put, List.setIfInBounds_toArray, List.set_cons_succ, List.set_cons_zero]
  refine SeqA.pure (.bool true) (fun w' => by go_simp) rfl rfl ?_
  refine SeqA.pure (.bool true) (fun w' => by go_simp) rfl rfl ?_
  refine SeqA.nil (fun w5 M6 hz => ?_)
  show wpT _ _ _ _ _ _
  simp only [Act.put, List.setIfInBounds_toArray, List.set_cons_succ, List.set_cons_zero]
  dsimp only [wpT]
  go_wp2_with fail
  go_ret
  exact ⟨rfl, M6.end_⟩
set_option maxRecDepth 100000 in
set_option maxHeartbeats 1000000 in
theorem FieldSums_w (w : World) (a b : List (BitVec 8)) (ha : a.length = 32) (hb : b.length = 32) :
    Calls Try.prog 4 #[.agg (cs U8 a), .agg (cs U8 b)] w fun e w' => e = .returned (.bool true) ∧ Below w.heap.size w w' := by
  have M0 := Mm.start no w
  go_enter Try.func4, Try.ntmps4
  have M2 := ((M0.alloc (cs U8 a) 23 (by decide)).alloc (cs U8 b) 23 (by decide))
  try simp only [World.size_alloc] at M2
  go_upto_region 1 with fail
  obtain ⟨w1, hw1⟩ : ∃ w1, w1 = ((w.alloc (.cells (cs U8 a) 23)).alloc (.cells (cs U8 b) 23)) := ⟨_, rfl⟩
  rw [← hw1] at M2 ⊢
  clear hw1
  refine wp_region_seqF 2 [5, 6] [] [] [] (.done) (Mm no w _) (by kernel_rfl) (by kernel_rfl) (fun d _ _ _ _ h => by cases d <;> exact h) (by rfl) M2.size (fun _ _ h k => h.sf k) M2 (by kernel_rfl) ?_
  simp only [List.take_succ_cons, List.take_zero]
  refine SeqA.call _ _ _ (fun w' => by go_simp) (fun w' hI _ => alive_c w') M2.size rfl rfl ?_
  refine SeqA.pure (.bool false) (fun w' => by go_simp) rfl rfl ?_
  refine SeqA.nil (fun w3 M4 hz => ?_)
  show wpT _ _ _ _ _ _
  simp only [Act.put, List.setIfInBounds_toArray, List.set_cons_succ, List.set_cons_zero]
  dsimp only [wpT]
  go_upto_region 3 with fail
  refine wp_region_seq 17 [7, 8, 9, 10, 11, 12, 13, 14, 15, 16, 17, 18, 19, 20, 21, 22, 4] [] [] [] (.done) (Mm no w _) (by kernel_rfl) (by kernel_rfl) (by kernel_rfl) (fun d _ _ _ _ h => by cases d <;> exact h) (by rfl) M4.size (fun _ _ h k => h.sf k) M4 ?_
  simp only [List.take_succ_cons, List.take_zero]
  refine SeqA.ld0 Try.underlying23 rfl inf_key (w.heap.size) (cs U8 a) rfl (by go_simp) (fun _ M => M.row (by simp)) (by simp [ha, hb]) rfl ?_
  refine SeqA.ld0 Try.underlying23 rfl inf_key (w.heap.size + 1) (cs U8 b) rfl (by go_simp) (fun _ M => M.row (by simp)) (by simp [ha, hb]) rfl ?_
  refine SeqA.call _ _ _ (fun w' => by go_simp) (fun w' hI _ => fadd_c w' a b (by simp [ha, hb]) (by simp [ha, hb]) (Fk a) (Fk b) (rfl) (rfl)) M4.size rfl rfl ?_
  refine SeqA.ld0 Try.underlying23 rfl inf_key (w.heap.size) (cs U8 a) rfl (by go_simp) (fun _ M => M.row (by simp)) (by simp [ha, hb]) rfl ?_
  refine SeqA.ld0 Try.underlying23 rfl inf_key (w.heap.size + 1) (cs U8 b) rfl (by go_simp) (fun _ M => M.row (by simp)) (by simp [ha, hb]) rfl ?_
  simp only [Act.put, List.setIfInBounds_toArray, List.set_cons_succ, List.set_cons_zero]
  refine SeqA.call _ _ _ (fun w' => by go_simp) (fun w' hI _ => radd_c w' a b (by simp [ha, hb]) (by simp [ha, hb]) (Fk a) (Fk b) (rfl) (rfl)) M4.size rfl rfl ?_
  refine SeqA.pure (.bool true) (fun w' => by have q := eqt w' ((Fk a) + (Fk b)) ((Fk a) + (Fk b)) (rfl); go_simp) rfl rfl ?_
  refine SeqA.pure (.bool true) (fun w' => by go_simp) rfl rfl ?_
  refine SeqA.ld0 Try.underlying23 rfl inf_key (w.heap.size) (cs U8 a) rfl (by go_simp) (fun _ M => M.row (by simp)) (by simp [ha, hb]) (by simp [Region.wanted, yielded, Act.put]) ?_
  refine SeqA.ld0 Try.underlying23 rfl inf_key (w.heap.size + 1) (cs U8 b) rfl (by go_simp) (fun _ M => M.row (by simp)) (by simp [ha, hb]) (by simp [Region.wanted, yielded, Act.put]) ?_
  refine SeqA.call _ _ _ (fun w' => by go_simp) (fun w' hI _ => fsub_c w' a b (by simp [ha, hb]) (by simp [ha, hb]) (Fk a) (Fk b) (rfl) (rfl)) M4.size rfl (by simp [Region.wanted, yielded, Act.put]) ?_
  simp only [Act.put, List.setIfInBounds_toArray, List.set_cons_succ, List.set_cons_zero]
  refine SeqA.ld0 Try.underlying23 rfl inf_key (w.heap.size) (cs U8 a) rfl (by go_simp) (fun _ M => M.row (by simp)) (by simp [ha, hb]) (by simp [Region.wanted, yielded, Act.put]) ?_
  refine SeqA.ld0 Try.underlying23 rfl inf_key (w.heap.size + 1) (cs U8 b) rfl (by go_simp) (fun _ M => M.row (by simp)) (by simp [ha, hb]) (by simp [Region.wanted, yielded, Act.put]) ?_
  refine SeqA.call _ _ _ (fun w' => by go_simp) (fun w' hI _ => rsub_c w' a b (by simp [ha, hb]) (by simp [ha, hb]) (Fk a) (Fk b) (rfl) (rfl)) M4.size rfl (by simp [Region.wanted, yielded, Act.put]) ?_
  refine SeqA.pure (.bool true) (fun w' => by have q := eqt w' ((Fk a) - (Fk b)) ((Fk a) - (Fk b)) (rfl); go_simp) rfl (by simp [Region.wanted, yielded, Act.put]) ?_
  refine SeqA.pure (.bool true) (fun w' => by go_simp) rfl rfl ?_
  refine SeqA.pure (.bool true) (fun w' => by go_simp) rfl rfl ?_
  refine SeqA.nil (fun w5 M6 hz => ?_)
  show wpT _ _ _ _ _ _
  simp only [Act.put, List.setIfInBounds_toArray, List.set_cons_succ, List.set_cons_zero]
  dsimp only [wpT]
  go_wp2_with fail
  go_ret
  exact ⟨rfl, M6.end_⟩
set_option maxRecDepth 100000 in
set_option maxHeartbeats 1000000 in
theorem FieldMuls_w (w : World) (a b : List (BitVec 8)) (ha : a.length = 32) (hb : b.length = 32) :
    Calls Try.prog 5 #[.agg (cs U8 a), .agg (cs U8 b)] w fun e w' => e = .returned (.bool true) ∧ Below w.heap.size w w' := by
  have M0 := Mm.start no w
  go_enter Try.func5, Try.ntmps5
  have M2 := ((M0.alloc (cs U8 a) 23 (by decide)).alloc (cs U8 b) 23 (by decide))
  try simp only [World.size_alloc] at M2
  go_upto_region 1 with fail
  obtain ⟨w1, hw1⟩ : ∃ w1, w1 = ((w.alloc (.cells (cs U8 a) 23)).alloc (.cells (cs U8 b) 23)) := ⟨_, rfl⟩
  rw [← hw1] at M2 ⊢
  clear hw1
  refine wp_region_seq 11 [5, 6, 7, 8, 9, 10, 11, 12, 13, 14, 4] [] [] [] (.done) (Mm no w _) (by kernel_rfl) (by kernel_rfl) (by kernel_rfl) (fun d _ _ _ _ h => by cases d <;> exact h) (by rfl) M2.size (fun _ _ h k => h.sf k) M2 ?_
  simp only [List.take_succ_cons, List.take_zero]
  refine SeqA.ld0 Try.underlying23 rfl inf_key (w.heap.size) (cs U8 a) rfl (by go_simp) (fun _ M => M.row (by simp)) (by simp [ha, hb]) rfl ?_
  refine SeqA.ld0 Try.underlying23 rfl inf_key (w.heap.size + 1) (cs U8 b) rfl (by go_simp) (fun _ M => M.row (by simp)) (by simp [ha, hb]) rfl ?_
  refine SeqA.call _ _ _ (fun w' => by go_simp) (fun w' hI _ => fmul_c w' a b (by simp [ha, hb]) (by simp [ha, hb]) (Fk a) (Fk b) (rfl) (rfl)) M2.size rfl rfl ?_
  refine SeqA.ld0 Try.underlying23 rfl inf_key (w.heap.size) (cs U8 a) rfl (by go_simp) (fun _ M => M.row (by simp)) (by simp [ha, hb]) rfl ?_
  refine SeqA.ld0 Try.underlying23 rfl inf_key (w.heap.size + 1) (cs U8 b) rfl (by go_simp) (fun _ M => M.row (by simp)) (by simp [ha, hb]) rfl ?_
  simp only [Act.put, List.setIfInBounds_toArray, List.set_cons_succ, List.set_cons_zero]
  refine SeqA.call _ _ _ (fun w' => by go_simp) (fun w' hI _ => rmul_c w' a b (by simp [ha, hb]) (by simp [ha, hb]) (Fk a) (Fk b) (rfl) (rfl)) M2.size rfl rfl ?_
  refine SeqA.pure (.bool true) (fun w' => by have q := eqt w' ((Fk a) * (Fk b)) ((Fk a) * (Fk b)) (rfl); go_simp) rfl rfl ?_
  refine SeqA.pure (.bool true) (fun w' => by go_simp) rfl rfl ?_
  refine SeqA.call _ _ _ (fun w' => by go_simp) (fun w' hI _ => alive_c w') M2.size rfl (by simp [Region.wanted, yielded, Act.put]) ?_
  refine SeqA.pure (.bool true) (fun w' => by go_simp) rfl rfl ?_
  refine SeqA.pure (.bool true) (fun w' => by go_simp) rfl rfl ?_
  refine SeqA.nil (fun w3 M4 hz => ?_)
  show wpT _ _ _ _ _ _
  simp only [Act.put, List.setIfInBounds_toArray, List.set_cons_succ, List.set_cons_zero]
  dsimp only [wpT]
  go_wp2_with fail
  go_ret
  exact ⟨rfl, M4.end_⟩
set_option maxRecDepth 100000 in
set_option maxHeartbeats 1000000 in
theorem FieldInvs_w (w : World) (a : List (BitVec 8)) (ha : a.length = 32) :
    Calls Try.prog 6 #[.agg (cs U8 a)] w fun e w' => e = .returned (.bool true) ∧ Below w.heap.size w w' := by
  have M0 := Mm.start no w
  go_enter Try.func6, Try.ntmps6
  have M2 := (M0.alloc (cs U8 a) 23 (by decide))
  try simp only [World.size_alloc] at M2
  go_upto_region 1 with fail
  obtain ⟨w1, hw1⟩ : ∃ w1, w1 = (w.alloc (.cells (cs U8 a) 23)) := ⟨_, rfl⟩
  rw [← hw1] at M2 ⊢
  clear hw1
  refine wp_region_seq 9 [3, 4, 5, 6, 7, 8, 9, 10, 2] [] [] [] (.done) (Mm no w _) (by kernel_rfl) (by kernel_rfl) (by kernel_rfl) (fun d _ _ _ _ h => by cases d <;> exact h) (by rfl) M2.size (fun _ _ h k => h.sf k) M2 ?_
  simp only [List.take_succ_cons, List.take_zero]
  refine SeqA.ld0 Try.underlying23 rfl inf_key (w.heap.size) (cs U8 a) rfl (by go_simp) (fun _ M => M.row (by simp)) (by simp [ha]) rfl ?_
  refine SeqA.call _ _ _ (fun w' => by go_simp) (fun w' hI _ => finv_c w' a (by simp [ha]) (Fk a) (rfl)) M2.size rfl rfl ?_
  refine SeqA.ld0 Try.underlying23 rfl inf_key (w.heap.size) (cs U8 a) rfl (by go_simp) (fun _ M => M.row (by simp)) (by simp [ha]) rfl ?_
  refine SeqA.call _ _ _ (fun w' => by go_simp) (fun w' hI _ => rinv_c w' a (by simp [ha]) (Fk a) (rfl)) M2.size rfl rfl ?_
  refine SeqA.pure (.bool true) (fun w' => by have q := eqt w' (iv (Fk a)) (iv (Fk a)) (rfl); go_simp) rfl rfl ?_
  simp only [Act.put, List.setIfInBounds_toArray, List.set_cons_succ, List.set_cons_zero]
  refine SeqA.pure (.bool true) (fun w' => by go_simp) rfl rfl ?_
  refine SeqA.call _ _ _ (fun w' => by go_simp) (fun w' hI _ => alive_c w') M2.size rfl (by simp [Region.wanted, yielded, Act.put]) ?_
  refine SeqA.pure (.bool true) (fun w' => by go_simp) rfl rfl ?_
  refine SeqA.pure (.bool true) (fun w' => by go_simp) rfl rfl ?_
  refine SeqA.nil (fun w3 M4 hz => ?_)
  show wpT _ _ _ _ _ _
  simp only [Act.put, List.setIfInBounds_toArray, List.set_cons_succ, List.set_cons_zero]
  dsimp only [wpT]
  go_wp2_with fail
  go_ret
  exact ⟨rfl, M4.end_⟩
set_option maxRecDepth 100000 in
set_option maxHeartbeats 1000000 in
theorem FieldLaws_w (w : World) (a b c : List (BitVec 8)) (ha : a.length = 32) (hb : b.length = 32) (hc : c.length = 32) :
    Calls Try.prog 7 #[.agg (cs U8 a), .agg (cs U8 b), .agg (cs U8 c)] w fun e w' => e = .returned (.bool true) ∧ Below w.heap.size w w' := by
  have M0 := Mm.start no w
  go_enter Try.func7, Try.ntmps7
  have M2 := (((M0.alloc (cs U8 a) 23 (by decide)).alloc (cs U8 b) 23 (by decide)).alloc (cs U8 c) 23 (by decide))
  try simp only [World.size_alloc] at M2
  go_upto_region 1 with fail
  obtain ⟨w1, hw1⟩ : ∃ w1, w1 = (((w.alloc (.cells (cs U8 a) 23)).alloc (.cells (cs U8 b) 23)).alloc (.cells (cs U8 c) 23)) := ⟨_, rfl⟩
  rw [← hw1] at M2 ⊢
  clear hw1
  refine wp_region_seqF 2 [8, 9] [] [] [] (.done) (Mm no w _) (by kernel_rfl) (by kernel_rfl) (fun d _ _ _ _ h => by cases d <;> exact h) (by rfl) M2.size (fun _ _ h k => h.sf k) M2 (by kernel_rfl) ?_
  simp only [List.take_succ_cons, List.take_zero]
  refine SeqA.call _ _ _ (fun w' => by go_simp) (fun w' hI _ => alive_c w') M2.size rfl rfl ?_
  refine SeqA.pure (.bool false) (fun w' => by go_simp) rfl rfl ?_
  refine SeqA.nil (fun w3 M4 hz => ?_)
  show wpT _ _ _ _ _ _
  simp only [Act.put, List.setIfInBounds_toArray, List.set_cons_succ, List.set_cons_zero]
  dsimp only [wpT]
  go_upto_region 3 with fail
  refine wp_region_seqF 3 [10, 11, 7] [] [] [] (.op 3 .done) (Mm no w _) (by kernel_rfl) (by kernel_rfl) (fun d _ _ _ _ h => by cases d <;> exact h) (by rfl) M4.size (fun _ _ h k => h.sf k) M4 (by kernel_rfl) ?_
  simp only [List.take_succ_cons, List.take_zero]
  refine SeqA.ld0 Try.underlying23 rfl inf_key (w.heap.size) (cs U8 a) rfl (by go_simp) (fun _ M => M.row (by simp)) (by simp [ha, hb, hc]) rfl ?_
  refine SeqA.call _ _ _ (fun w' => by go_simp) (fun w' hI _ => fcanon_c w' a (by simp [ha, hb, hc]) (Fk a) (rfl)) M4.size rfl rfl ?_
  refine SeqA.var (z := .agg (cs U8 (zs 32))) (by kernel_rfl) rfl rfl (by decide) rfl ?_
  refine SeqA.nil (fun w5 M6 hz => ?_)
  refine news_one (fun b7 hb1 hb2 hb3 => ?_)
  have M8 := M4.in_ (c := cs U8 (zs 32)) M6 hb1 hb2 (by decide) hb3 rfl
  show wpT _ _ _ _ _ _
  simp only [Act.put, List.setIfInBounds_toArray, List.set_cons_succ, List.set_cons_zero]
  refine wpT_st0 M8 0 (cs U8 (K ((Fk a)))) inf_key rfl rfl rfl rfl (by go_simp) (by go_simp) (by simp [ha, hb, hc]) (by simp [ha, hb, hc]) (by simp [go_sem]) rfl (fun w9 M10 => ?_)
  dsimp only [List.set] at M10
  dsimp only [wpT]
  go_upto_region 4 with fail
  refine wp_region_seq 81 [12, 13, 14, 15, 16, 17, 18, 19, 20, 21, 22, 23, 24, 25, 26, 27, 28, 29, 30, 31, 32, 33, 34, 35, 36, 37, 38, 39, 40, 41, 42, 43, 44, 45, 46, 47, 48, 49, 50, 51, 52, 53, 54, 55, 56, 57, 58, 59, 60, 61, 62, 63, 64, 65, 66, 67, 68, 69, 70, 71, 72, 73, 74, 75, 76, 77, 78, 79, 80, 81, 82, 83, 84, 85, 86, 87, 88, 89, 90, 91, 6] [] [] [] (.done) (Mm no w _) (by kernel_rfl) (by kernel_rfl) (by kernel_rfl) (fun d _ _ _ _ h => by cases d <;> exact h) (by rfl) M10.size (fun _ _ h k => h.sf k) M10 ?_
  simp only [List.append_eq, List.cons_append, List.nil_append, List.take_succ_cons, List.take_zero]
  refine SeqA.ld0 Try.underlying23 rfl inf_key (w.heap.size) (cs U8 a) rfl (by go_simp) (fun _ M => M.row (by simp)) (by simp [ha, hb, hc]) rfl ?_
  refine SeqA.ld0 Try.underlying23 rfl inf_key (w.heap.size + 1) (cs U8 b) rfl (by go_simp) (fun _ M => M.row (by simp)) (by simp [ha, hb, hc]) rfl ?_
  refine SeqA.call _ _ _ (fun w' => by go_simp) (fun w' hI _ => fadd_c w' a b (by simp [ha, hb, hc]) (by simp [ha, hb, hc]) (Fk a) (Fk b) (rfl) (rfl)) M10.size rfl rfl ?_
  refine SeqA.ld0 Try.underlying23 rfl inf_key (w.heap.size + 1) (cs U8 b) rfl (by go_simp) (fun _ M => M.row (by simp)) (by simp [ha, hb, hc]) rfl ?_
  refine SeqA.ld0 Try.underlying23 rfl inf_key (w.heap.size) (cs U8 a) rfl (by go_simp) (fun _ M => M.row (by simp)) (by simp [ha, hb, hc]) rfl ?_
  simp only [Act.put, List.setIfInBounds_toArray, List.set_cons_succ, List.set_cons_zero]
  refine SeqA.call _ _ _ (fun w' => by go_simp) (fun w' hI _ => fadd_c w' b a (by simp [ha, hb, hc]) (by simp [ha, hb, hc]) (Fk b) (Fk a) (rfl) (rfl)) M10.size rfl rfl ?_
  refine SeqA.pure (.bool true) (fun w' => by have q := eqt w' ((Fk a) + (Fk b)) ((Fk b) + (Fk a)) (by grind); go_simp) rfl rfl ?_
  refine SeqA.pure (.bool true) (fun w' => by go_simp) rfl rfl ?_
  refine SeqA.ld0 Try.underlying23 rfl inf_key (w.heap.size) (cs U8 a) rfl (by go_simp) (fun _ M => M.row (by simp)) (by simp [ha, hb, hc]) (by simp [Region.wanted, yielded, Act.put]) ?_
  refine SeqA.ld0 Try.underlying23 rfl inf_key (w.heap.size + 1) (cs U8 b) rfl (by go_simp) (fun _ M => M.row (by simp)) (by simp [ha, hb, hc]) (by simp [Region.wanted, yielded, Act.put]) ?_
  refine SeqA.call _ _ _ (fun w' => by go_simp) (fun w' hI _ => fmul_c w' a b (by simp [ha, hb, hc]) (by simp [ha, hb, hc]) (Fk a) (Fk b) (rfl) (rfl)) M10.size rfl (by simp [Region.wanted, yielded, Act.put]) ?_
  simp only [Act.put, List.setIfInBounds_toArray, List.set_cons_succ, List.set_cons_zero]
  refine SeqA.ld0 Try.underlying23 rfl inf_key (w.heap.size + 1) (cs U8 b) rfl (by go_simp) (fun _ M => M.row (by simp)) (by simp [ha, hb, hc]) (by simp [Region.wanted, yielded, Act.put]) ?_
  refine SeqA.ld0 Try.underlying23 rfl inf_key (w.heap.size) (cs U8 a) rfl (by go_simp) (fun _ M => M.row (by simp)) (by simp [ha, hb, hc]) (by simp [Region.wanted, yielded, Act.put]) ?_
  refine SeqA.call _ _ _ (fun w' => by go_simp) (fun w' hI _ => fmul_c w' b a (by simp [ha, hb, hc]) (by simp [ha, hb, hc]) (Fk b) (Fk a) (rfl) (rfl)) M10.size rfl (by simp [Region.wanted, yielded, Act.put]) ?_
  refine SeqA.pure (.bool true) (fun w' => by have q := eqt w' ((Fk a) * (Fk b)) ((Fk b) * (Fk a)) (by grind); go_simp) rfl (by simp [Region.wanted, yielded, Act.put]) ?_
  refine SeqA.pure (.bool true) (fun w' => by go_simp) rfl rfl ?_
  refine SeqA.pure (.bool true) (fun w' => by go_simp) rfl rfl ?_
  simp only [Act.put, List.setIfInBounds_toArray, List.set_cons_succ, List.set_cons_zero]
  refine SeqA.ld0 Try.underlying23 rfl inf_key (w.heap.size) (cs U8 a) rfl (by go_simp) (fun _ M => M.row (by simp)) (by simp [ha, hb, hc]) (by simp [Region.wanted, yielded, Act.put]) ?_
  refine SeqA.ld0 Try.underlying23 rfl inf_key (w.heap.size + 1) (cs U8 b) rfl (by go_simp) (fun _ M => M.row (by simp)) (by simp [ha, hb, hc]) (by simp [Region.wanted, yielded, Act.put]) ?_
  refine SeqA.call _ _ _ (fun w' => by go_simp) (fun w' hI _ => fadd_c w' a b (by simp [ha, hb, hc]) (by simp [ha, hb, hc]) (Fk a) (Fk b) (rfl) (rfl)) M10.size rfl (by simp [Region.wanted, yielded, Act.put]) ?_
  refine SeqA.ld0 Try.underlying23 rfl inf_key (w.heap.size + 1 + 1) (cs U8 c) rfl (by go_simp) (fun _ M => M.row (by simp)) (by simp [ha, hb, hc]) (by simp [Region.wanted, yielded, Act.put]) ?_
  refine SeqA.call _ _ _ (fun w' => by go_simp) (fun w' hI _ => fadd_c w' (K ((Fk a) + (Fk b))) c (by simp [ha, hb, hc]) (by simp [ha, hb, hc]) ((Fk a) + (Fk b)) (Fk c) (Fk_K _) (rfl)) M10.size rfl (by simp [Region.wanted, yielded, Act.put]) ?_
  refine SeqA.ld0 Try.underlying23 rfl inf_key (w.heap.size) (cs U8 a) rfl (by go_simp) (fun _ M => M.row (by simp)) (by simp [ha, hb, hc]) (by simp [Region.wanted, yielded, Act.put]) ?_
  simp only [Act.put, List.setIfInBounds_toArray, List.set_cons_succ, List.set_cons_zero]
  refine SeqA.ld0 Try.underlying23 rfl inf_key (w.heap.size + 1) (cs U8 b) rfl (by go_simp) (fun _ M => M.row (by simp)) (by simp [ha, hb, hc]) (by simp [Region.wanted, yielded, Act.put]) ?_
  refine SeqA.ld0 Try.underlying23 rfl inf_key (w.heap.size + 1 + 1) (cs U8 c) rfl (by go_simp) (fun _ M => M.row (by simp)) (by simp [ha, hb, hc]) (by simp [Region.wanted, yielded, Act.put]) ?_
  refine SeqA.call _ _ _ (fun w' => by go_simp) (fun w' hI _ => fadd_c w' b c (by simp [ha, hb, hc]) (by simp [ha, hb, hc]) (Fk b) (Fk c) (rfl) (rfl)) M10.size rfl (by simp [Region.wanted, yielded, Act.put]) ?_
  refine SeqA.call _ _ _ (fun w' => by go_simp) (fun w' hI _ => fadd_c w' a (K ((Fk b) + (Fk c))) (by simp [ha, hb, hc]) (by simp [ha, hb, hc]) (Fk a) ((Fk b) + (Fk c)) (rfl) (Fk_K _)) M10.size rfl (by simp [Region.wanted, yielded, Act.put]) ?_
  refine SeqA.pure (.bool true) (fun w' => by have q := eqt w' ((((Fk a) + (Fk b)) + (Fk c))) (((Fk a) + ((Fk b) + (Fk c)))) (by grind); go_simp) rfl (by simp [Region.wanted, yielded, Act.put]) ?_
  refine SeqA.pure (.bool true) (fun w' => by go_simp) rfl rfl ?_
  simp only [Act.put, List.setIfInBounds_toArray, List.set_cons_succ, List.set_cons_zero]
  refine SeqA.pure (.bool true) (fun w' => by go_simp) rfl rfl ?_
  refine SeqA.ld0 Try.underlying23 rfl inf_key (w.heap.size) (cs U8 a) rfl (by go_simp) (fun _ M => M.row (by simp)) (by simp [ha, hb, hc]) (by simp [Region.wanted, yielded, Act.put]) ?_
  refine SeqA.ld0 Try.underlying23 rfl inf_key (w.heap.size + 1) (cs U8 b) rfl (by go_simp) (fun _ M => M.row (by simp)) (by simp [ha, hb, hc]) (by simp [Region.wanted, yielded, Act.put]) ?_
  refine SeqA.call _ _ _ (fun w' => by go_simp) (fun w' hI _ => fmul_c w' a b (by simp [ha, hb, hc]) (by simp [ha, hb, hc]) (Fk a) (Fk b) (rfl) (rfl)) M10.size rfl (by simp [Region.wanted, yielded, Act.put]) ?_
  refine SeqA.ld0 Try.underlying23 rfl inf_key (w.heap.size + 1 + 1) (cs U8 c) rfl (by go_simp) (fun _ M => M.row (by simp)) (by simp [ha, hb, hc]) (by simp [Region.wanted, yielded, Act.put]) ?_
  refine SeqA.call _ _ _ (fun w' => by go_simp) (fun w' hI _ => fmul_c w' (K ((Fk a) * (Fk b))) c (by simp [ha, hb, hc]) (by simp [ha, hb, hc]) ((Fk a) * (Fk b)) (Fk c) (Fk_K _) (rfl)) M10.size rfl (by simp [Region.wanted, yielded, Act.put]) ?_
  simp only [Act.put, List.setIfInBounds_toArray, List.set_cons_succ, List.set_cons_zero]
  refine SeqA.ld0 Try.underlying23 rfl inf_key (w.heap.size) (cs U8 a) rfl (by go_simp) (fun _ M => M.row (by simp)) (by simp [ha, hb, hc]) (by simp [Region.wanted, yielded, Act.put]) ?_
  refine SeqA.ld0 Try.underlying23 rfl inf_key (w.heap.size + 1) (cs U8 b) rfl (by go_simp) (fun _ M => M.row (by simp)) (by simp [ha, hb, hc]) (by simp [Region.wanted, yielded, Act.put]) ?_
  refine SeqA.ld0 Try.underlying23 rfl inf_key (w.heap.size + 1 + 1) (cs U8 c) rfl (by go_simp) (fun _ M => M.row (by simp)) (by simp [ha, hb, hc]) (by simp [Region.wanted, yielded, Act.put]) ?_
  refine SeqA.call _ _ _ (fun w' => by go_simp) (fun w' hI _ => fmul_c w' b c (by simp [ha, hb, hc]) (by simp [ha, hb, hc]) (Fk b) (Fk c) (rfl) (rfl)) M10.size rfl (by simp [Region.wanted, yielded, Act.put]) ?_
  refine SeqA.call _ _ _ (fun w' => by go_simp) (fun w' hI _ => fmul_c w' a (K ((Fk b) * (Fk c))) (by simp [ha, hb, hc]) (by simp [ha, hb, hc]) (Fk a) ((Fk b) * (Fk c)) (rfl) (Fk_K _)) M10.size rfl (by simp [Region.wanted, yielded, Act.put]) ?_
  refine SeqA.pure (.bool true) (fun w' => by have q := eqt w' ((((Fk a) * (Fk b)) * (Fk c))) (((Fk a) * ((Fk b) * (Fk c)))) (by grind); go_simp) rfl (by simp [Region.wanted, yielded, Act.put]) ?_
  simp only [Act.put, List.setIfInBounds_toArray, List.set_cons_succ, List.set_cons_zero]
  refine SeqA.pure (.bool true) (fun w' => by go_simp) rfl rfl ?_
  refine SeqA.pure (.bool true) (fun w' => by go_simp) rfl rfl ?_
  refine SeqA.ld0 Try.underlying23 rfl inf_key (w.heap.size) (cs U8 a) rfl (by go_simp) (fun _ M => M.row (by simp)) (by simp [ha, hb, hc]) (by simp [Region.wanted, yielded, Act.put]) ?_
  refine SeqA.ld0 Try.underlying23 rfl inf_key (w.heap.size + 1) (cs U8 b) rfl (by go_simp) (fun _ M => M.row (by simp)) (by simp [ha, hb, hc]) (by simp [Region.wanted, yielded, Act.put]) ?_
  refine SeqA.call _ _ _ (fun w' => by go_simp) (fun w' hI _ => fadd_c w' a b (by simp [ha, hb, hc]) (by simp [ha, hb, hc]) (Fk a) (Fk b) (rfl) (rfl)) M10.size rfl (by simp [Region.wanted, yielded, Act.put]) ?_
  refine SeqA.ld0 Try.underlying23 rfl inf_key (w.heap.size + 1 + 1) (cs U8 c) rfl (by go_simp) (fun _ M => M.row (by simp)) (by simp [ha, hb, hc]) (by simp [Region.wanted, yielded, Act.put]) ?_
  simp only [Act.put, List.setIfInBounds_toArray, List.set_cons_succ, List.set_cons_zero]
  refine SeqA.call _ _ _ (fun w' => by go_simp) (fun w' hI _ => fmul_c w' (K ((Fk a) + (Fk b))) c (by simp [ha, hb, hc]) (by simp [ha, hb, hc]) ((Fk a) + (Fk b)) (Fk c) (Fk_K _) (rfl)) M10.size rfl (by simp [Region.wanted, yielded, Act.put]) ?_
  refine SeqA.ld0 Try.underlying23 rfl inf_key (w.heap.size) (cs U8 a) rfl (by go_simp) (fun _ M => M.row (by simp)) (by simp [ha, hb, hc]) (by simp [Region.wanted, yielded, Act.put]) ?_
  refine SeqA.ld0 Try.underlying23 rfl inf_key (w.heap.size + 1 + 1) (cs U8 c) rfl (by go_simp) (fun _ M => M.row (by simp)) (by simp [ha, hb, hc]) (by simp [Region.wanted, yielded, Act.put]) ?_
  refine SeqA.call _ _ _ (fun w' => by go_simp) (fun w' hI _ => fmul_c w' a c (by simp [ha, hb, hc]) (by simp [ha, hb, hc]) (Fk a) (Fk c) (rfl) (rfl)) M10.size rfl (by simp [Region.wanted, yielded, Act.put]) ?_
  refine SeqA.ld0 Try.underlying23 rfl inf_key (w.heap.size + 1) (cs U8 b) rfl (by go_simp) (fun _ M => M.row (by simp)) (by simp [ha, hb, hc]) (by simp [Region.wanted, yielded, Act.put]) ?_
  refine SeqA.ld0 Try.underlying23 rfl inf_key (w.heap.size + 1 + 1) (cs U8 c) rfl (by go_simp) (fun _ M => M.row (by simp)) (by simp [ha, hb, hc]) (by simp [Region.wanted, yielded, Act.put]) ?_
  simp only [Act.put, List.setIfInBounds_toArray, List.set_cons_succ, List.set_cons_zero]
  refine SeqA.call _ _ _ (fun w' => by go_simp) (fun w' hI _ => fmul_c w' b c (by simp [ha, hb, hc]) (by simp [ha, hb, hc]) (Fk b) (Fk c) (rfl) (rfl)) M10.size rfl (by simp [Region.wanted, yielded, Act.put]) ?_
  refine SeqA.call _ _ _ (fun w' => by go_simp) (fun w' hI _ => fadd_c w' (K ((Fk a) * (Fk c))) (K ((Fk b) * (Fk c))) (by simp [ha, hb, hc]) (by simp [ha, hb, hc]) ((Fk a) * (Fk c)) ((Fk b) * (Fk c)) (Fk_K _) (Fk_K _)) M10.size rfl (by simp [Region.wanted, yielded, Act.put]) ?_
  refine SeqA.pure (.bool true) (fun w' => by have q := eqt w' ((((Fk a) + (Fk b)) * (Fk c))) ((((Fk a) * (Fk c)) + ((Fk b) * (Fk c)))) (by grind); go_simp) rfl (by simp [Region.wanted, yielded, Act.put]) ?_
  refine SeqA.pure (.bool true) (fun w' => by go_simp) rfl rfl ?_
  refine SeqA.pure (.bool true) (fun w' => by go_simp) rfl rfl ?_
  refine SeqA.ld0 Try.underlying23 rfl inf_key (w.heap.size) (cs U8 a) rfl (by go_simp) (fun _ M => M.row (by simp)) (by simp [ha, hb, hc]) (by simp [Region.wanted, yielded, Act.put]) ?_
  simp only [Act.put, List.setIfInBounds_toArray, List.set_cons_succ, List.set_cons_zero]
  refine SeqA.ld0 Try.underlying23 rfl inf_key (w.heap.size + 1) (cs U8 b) rfl (by go_simp) (fun _ M => M.row (by simp)) (by simp [ha, hb, hc]) (by simp [Region.wanted, yielded, Act.put]) ?_
  refine SeqA.call _ _ _ (fun w' => by go_simp) (fun w' hI _ => fsub_c w' a b (by simp [ha, hb, hc]) (by simp [ha, hb, hc]) (Fk a) (Fk b) (rfl) (rfl)) M10.size rfl (by simp [Region.wanted, yielded, Act.put]) ?_
  refine SeqA.ld0 Try.underlying23 rfl inf_key (w.heap.size + 1) (cs U8 b) rfl (by go_simp) (fun _ M => M.row (by simp)) (by simp [ha, hb, hc]) (by simp [Region.wanted, yielded, Act.put]) ?_
  refine SeqA.call _ _ _ (fun w' => by go_simp) (fun w' hI _ => fadd_c w' (K ((Fk a) - (Fk b))) b (by simp [ha, hb, hc]) (by simp [ha, hb, hc]) ((Fk a) - (Fk b)) (Fk b) (Fk_K _) (rfl)) M10.size rfl (by simp [Region.wanted, yielded, Act.put]) ?_
  refine SeqA.ld0 Try.underlying23 rfl inf_key (b7) (cs U8 (K ((Fk a)))) rfl (by go_simp) (fun _ M => M.row (by simp)) (by simp [ha, hb, hc]) (by simp [Region.wanted, yielded, Act.put]) ?_
  refine SeqA.pure (.bool true) (fun w' => by have q := eqt w' ((((Fk a) - (Fk b)) + (Fk b))) ((Fk a)) (by grind); go_simp) rfl (by simp [Region.wanted, yielded, Act.put]) ?_
  simp only [Act.put, List.setIfInBounds_toArray, List.set_cons_succ, List.set_cons_zero]
  refine SeqA.pure (.bool true) (fun w' => by go_simp) rfl rfl ?_
  refine SeqA.pure (.bool true) (fun w' => by go_simp) rfl rfl ?_
  refine SeqA.ld0 Try.underlying23 rfl inf_key (w.heap.size) (cs U8 a) rfl (by go_simp) (fun _ M => M.row (by simp)) (by simp [ha, hb, hc]) (by simp [Region.wanted, yielded, Act.put]) ?_
  refine SeqA.call _ _ _ (fun w' => by go_simp) (fun w' hI _ => num_c w' 1 1 rfl (by decide)) M10.size rfl (by simp [Region.wanted, yielded, Act.put]) ?_
  refine SeqA.call _ _ _ (fun w' => by go_simp) (fun w' hI _ => fmul_c w' a (K (fk 1)) (by simp [ha, hb, hc]) (by simp [ha, hb, hc]) (Fk a) (fk 1) (rfl) (Fk_K _)) M10.size rfl (by simp [Region.wanted, yielded, Act.put]) ?_
  refine SeqA.ld0 Try.underlying23 rfl inf_key (b7) (cs U8 (K ((Fk a)))) rfl (by go_simp) (fun _ M => M.row (by simp)) (by simp [ha, hb, hc]) (by simp [Region.wanted, yielded, Act.put]) ?_
  simp only [Act.put, List.setIfInBounds_toArray, List.set_cons_succ, List.set_cons_zero]
  refine SeqA.pure (.bool true) (fun w' => by have q := eqt w' ((Fk a) * (fk 1)) ((Fk a)) (by simp only [f1e]; grind); go_simp) rfl (by simp [Region.wanted, yielded, Act.put]) ?_
  refine SeqA.pure (.bool true) (fun w' => by go_simp) rfl rfl ?_
  refine SeqA.pure (.bool true) (fun w' => by go_simp) rfl rfl ?_
  refine SeqA.ld0 Try.underlying23 rfl inf_key (w.heap.size) (cs U8 a) rfl (by go_simp) (fun _ M => M.row (by simp)) (by simp [ha, hb, hc]) (by simp [Region.wanted, yielded, Act.put]) ?_
  refine SeqA.ld0 Try.underlying23 rfl inf_key (w.heap.size) (cs U8 a) rfl (by go_simp) (fun _ M => M.row (by simp)) (by simp [ha, hb, hc]) (by simp [Region.wanted, yielded, Act.put]) ?_
  refine SeqA.call _ _ _ (fun w' => by go_simp) (fun w' hI _ => fsub_c w' a a (by simp [ha, hb, hc]) (by simp [ha, hb, hc]) (Fk a) (Fk a) (rfl) (rfl)) M10.size rfl (by simp [Region.wanted, yielded, Act.put]) ?_
  simp only [Act.put, List.setIfInBounds_toArray, List.set_cons_succ, List.set_cons_zero]
  refine SeqA.call _ _ _ (fun w' => by go_simp) (fun w' hI _ => num_c w' 0 0 rfl (by decide)) M10.size rfl (by simp [Region.wanted, yielded, Act.put]) ?_
  refine SeqA.pure (.bool true) (fun w' => by have q := eqt w' 0 (fk 0) rfl; go_simp) rfl (by simp [Region.wanted, yielded, Act.put]) ?_
  refine SeqA.pure (.bool true) (fun w' => by go_simp) rfl rfl ?_
  refine SeqA.pure (.bool true) (fun w' => by go_simp) rfl rfl ?_
  refine SeqA.nil (fun w11 M12 hz => ?_)
  show wpT _ _ _ _ _ _
  simp only [Act.put, List.setIfInBounds_toArray, List.set_cons_succ, List.set_cons_zero]
  dsimp only [wpT]
  go_wp2_with fail
  go_ret
  exact ⟨rfl, M12.end_⟩
set_option maxRecDepth 100000 in
set_option maxHeartbeats 1000000 in
theorem FieldUndone_w (w : World) (a : List (BitVec 8)) (ha : a.length = 32) :
    Calls Try.prog 8 #[.agg (cs U8 a)] w fun e w' => e = .returned (.bool true) ∧ Below w.heap.size w w' := by
  by_cases h0 : Fk a = 0
  · skip
    have M0 := Mm.start no w
    go_enter Try.func8, Try.ntmps8
    have M2 := (M0.alloc (cs U8 a) 23 (by decide))
    try simp only [World.size_alloc] at M2
    go_upto_region 1 with fail
    obtain ⟨w1, hw1⟩ : ∃ w1, w1 = (w.alloc (.cells (cs U8 a) 23)) := ⟨_, rfl⟩
    rw [← hw1] at M2 ⊢
    clear hw1
    refine wp_region_seqF 2 [4, 5] [] [] [] (.done) (Mm no w _) (by kernel_rfl) (by kernel_rfl) (fun d _ _ _ _ h => by cases d <;> exact h) (by rfl) M2.size (fun _ _ h k => h.sf k) M2 (by kernel_rfl) ?_
    simp only [List.take_succ_cons, List.take_zero]
    refine SeqA.call _ _ _ (fun w' => by go_simp) (fun w' hI _ => alive_c w') M2.size rfl rfl ?_
    refine SeqA.pure (.bool false) (fun w' => by go_simp) rfl rfl ?_
    refine SeqA.nil (fun w3 M4 hz => ?_)
    show wpT _ _ _ _ _ _
    simp only [Act.put, List.setIfInBounds_toArray, List.set_cons_succ, List.set_cons_zero]
    dsimp only [wpT]
    go_upto_region 3 with fail
    refine wp_region_seqF 3 [6, 7, 3] [] [] [] (.op 3 .done) (Mm no w _) (by kernel_rfl) (by kernel_rfl) (fun d _ _ _ _ h => by cases d <;> exact h) (by rfl) M4.size (fun _ _ h k => h.sf k) M4 (by kernel_rfl) ?_
    simp only [List.take_succ_cons, List.take_zero]
    refine SeqA.ld0 Try.underlying23 rfl inf_key (w.heap.size) (cs U8 a) rfl (by go_simp) (fun _ M => M.row (by simp)) (by simp [ha]) rfl ?_
    refine SeqA.call _ _ _ (fun w' => by go_simp) (fun w' hI _ => finv_c w' a (by simp [ha]) (Fk a) (rfl)) M4.size rfl rfl ?_
    refine SeqA.var (z := .agg (cs U8 (zs 32))) (by kernel_rfl) rfl rfl (by decide) rfl ?_
    refine SeqA.nil (fun w5 M6 hz => ?_)
    refine news_one (fun b7 hb1 hb2 hb3 => ?_)
    have M8 := M4.in_ (c := cs U8 (zs 32)) M6 hb1 hb2 (by decide) hb3 rfl
    show wpT _ _ _ _ _ _
    simp only [Act.put, List.setIfInBounds_toArray, List.set_cons_succ, List.set_cons_zero]
    refine wpT_st0 M8 0 (cs U8 (K (iv (Fk a)))) inf_key rfl rfl rfl rfl (by go_simp) (by go_simp) (by simp [ha]) (by simp [ha]) (by simp [go_sem]) rfl (fun w9 M10 => ?_)
    dsimp only [List.set] at M10
    dsimp only [wpT]
    go_upto_region 4 with fail
    refine wp_region_seqF 2 [8, 9] [] [] [] (.done) (Mm no w _) (by kernel_rfl) (by kernel_rfl) (fun d _ _ _ _ h => by cases d <;> exact h) (by rfl) M10.size (fun _ _ h k => h.sf k) M10 (by kernel_rfl) ?_
    simp only [List.take_succ_cons, List.take_zero]
    refine SeqA.ld0 Try.underlying23 rfl inf_key (w.heap.size) (cs U8 a) rfl (by go_simp) (fun _ M => M.row (by simp)) (by simp [ha]) rfl ?_
    refine SeqA.call _ _ _ (fun w' => by go_simp) (fun w' hI _ => fzero_t w' a (by simp [ha]) (Fk a) rfl h0) M10.size rfl rfl ?_
    refine SeqA.nil (fun w11 M12 hz => ?_)
    show wpT _ _ _ _ _ _
    simp only [Act.put, List.setIfInBounds_toArray, List.set_cons_succ, List.set_cons_zero]
    dsimp only [wpT]
    go_upto_region 5 with fail
    refine wp_region_seq 4 [10, 11, 12, 2] [] [] [] (.done) (Mm no w _) (by kernel_rfl) (by kernel_rfl) (by kernel_rfl) (fun d _ _ _ _ h => by cases d <;> exact h) (by rfl) M12.size (fun _ _ h k => h.sf k) M12 ?_
    simp only [List.take_succ_cons, List.take_zero]
    refine SeqA.ld0 Try.underlying23 rfl inf_key (b7) (cs U8 (K (iv (Fk a)))) rfl (by go_simp) (fun _ M => M.row (by simp)) (by simp [ha]) rfl ?_
    refine SeqA.call _ _ _ (fun w' => by go_simp) (fun w' hI _ => num_c w' 0 0 rfl (by decide)) M12.size rfl rfl ?_
    refine SeqA.pure (.bool true) (fun w' => by have q := eqt w' (iv 0) (fk 0) iv0; go_simp) rfl rfl ?_
    refine SeqA.pure (.bool true) (fun w' => by go_simp) rfl rfl ?_
    refine SeqA.nil (fun w13 M14 hz => ?_)
    show wpT _ _ _ _ _ _
    simp only [Act.put, List.setIfInBounds_toArray, List.set_cons_succ, List.set_cons_zero]
    dsimp only [wpT]
    go_wp2_with fail
    go_ret
    exact ⟨rfl, M14.end_⟩
  · skip
    have M0 := Mm.start no w
    go_enter Try.func8, Try.ntmps8
    have M2 := (M0.alloc (cs U8 a) 23 (by decide))
    try simp only [World.size_alloc] at M2
    go_upto_region 1 with fail
    obtain ⟨w1, hw1⟩ : ∃ w1, w1 = (w.alloc (.cells (cs U8 a) 23)) := ⟨_, rfl⟩
    rw [← hw1] at M2 ⊢
    clear hw1
    refine wp_region_seqF 2 [4, 5] [] [] [] (.done) (Mm no w _) (by kernel_rfl) (by kernel_rfl) (fun d _ _ _ _ h => by cases d <;> exact h) (by rfl) M2.size (fun _ _ h k => h.sf k) M2 (by kernel_rfl) ?_
    simp only [List.take_succ_cons, List.take_zero]
    refine SeqA.call _ _ _ (fun w' => by go_simp) (fun w' hI _ => alive_c w') M2.size rfl rfl ?_
    refine SeqA.pure (.bool false) (fun w' => by go_simp) rfl rfl ?_
    refine SeqA.nil (fun w3 M4 hz => ?_)
    show wpT _ _ _ _ _ _
    simp only [Act.put, List.setIfInBounds_toArray, List.set_cons_succ, List.set_cons_zero]
    dsimp only [wpT]
    go_upto_region 3 with fail
    refine wp_region_seqF 3 [6, 7, 3] [] [] [] (.op 3 .done) (Mm no w _) (by kernel_rfl) (by kernel_rfl) (fun d _ _ _ _ h => by cases d <;> exact h) (by rfl) M4.size (fun _ _ h k => h.sf k) M4 (by kernel_rfl) ?_
    simp only [List.take_succ_cons, List.take_zero]
    refine SeqA.ld0 Try.underlying23 rfl inf_key (w.heap.size) (cs U8 a) rfl (by go_simp) (fun _ M => M.row (by simp)) (by simp [ha]) rfl ?_
    refine SeqA.call _ _ _ (fun w' => by go_simp) (fun w' hI _ => finv_c w' a (by simp [ha]) (Fk a) (rfl)) M4.size rfl rfl ?_
    refine SeqA.var (z := .agg (cs U8 (zs 32))) (by kernel_rfl) rfl rfl (by decide) rfl ?_
    refine SeqA.nil (fun w5 M6 hz => ?_)
    refine news_one (fun b7 hb1 hb2 hb3 => ?_)
    have M8 := M4.in_ (c := cs U8 (zs 32)) M6 hb1 hb2 (by decide) hb3 rfl
    show wpT _ _ _ _ _ _
    simp only [Act.put, List.setIfInBounds_toArray, List.set_cons_succ, List.set_cons_zero]
    refine wpT_st0 M8 0 (cs U8 (K (iv (Fk a)))) inf_key rfl rfl rfl rfl (by go_simp) (by go_simp) (by simp [ha]) (by simp [ha]) (by simp [go_sem]) rfl (fun w9 M10 => ?_)
    dsimp only [List.set] at M10
    dsimp only [wpT]
    go_upto_region 4 with fail
    refine wp_region_seqF 2 [8, 9] [] [] [] (.done) (Mm no w _) (by kernel_rfl) (by kernel_rfl) (fun d _ _ _ _ h => by cases d <;> exact h) (by rfl) M10.size (fun _ _ h k => h.sf k) M10 (by kernel_rfl) ?_
    simp only [List.take_succ_cons, List.take_zero]
    refine SeqA.ld0 Try.underlying23 rfl inf_key (w.heap.size) (cs U8 a) rfl (by go_simp) (fun _ M => M.row (by simp)) (by simp [ha]) rfl ?_
    refine SeqA.call _ _ _ (fun w' => by go_simp) (fun w' hI _ => fzero_f w' a (by simp [ha]) (Fk a) rfl h0) M10.size rfl rfl ?_
    refine SeqA.nil (fun w11 M12 hz => ?_)
    show wpT _ _ _ _ _ _
    simp only [Act.put, List.setIfInBounds_toArray, List.set_cons_succ, List.set_cons_zero]
    dsimp only [wpT]
    go_upto_region 6 with fail
    refine wp_region_seq 13 [13, 14, 15, 16, 17, 18, 19, 20, 21, 22, 23, 24, 2] [] [] [] (.done) (Mm no w _) (by kernel_rfl) (by kernel_rfl) (by kernel_rfl) (fun d _ _ _ _ h => by cases d <;> exact h) (by rfl) M12.size (fun _ _ h k => h.sf k) M12 ?_
    simp only [List.take_succ_cons, List.take_zero]
    refine SeqA.ld0 Try.underlying23 rfl inf_key (w.heap.size) (cs U8 a) rfl (by go_simp) (fun _ M => M.row (by simp)) (by simp [ha]) rfl ?_
    refine SeqA.ld0 Try.underlying23 rfl inf_key (b7) (cs U8 (K (iv (Fk a)))) rfl (by go_simp) (fun _ M => M.row (by simp)) (by simp [ha]) rfl ?_
    refine SeqA.call _ _ _ (fun w' => by go_simp) (fun w' hI _ => fmul_c w' a (K (iv (Fk a))) (by simp [ha]) (by simp [ha]) (Fk a) (iv (Fk a)) (rfl) (Fk_K _)) M12.size rfl rfl ?_
    refine SeqA.call _ _ _ (fun w' => by go_simp) (fun w' hI _ => num_c w' 1 1 rfl (by decide)) M12.size rfl rfl ?_
    refine SeqA.pure (.bool true) (fun w' => by have q := eqt w' (((Fk a) * (iv (Fk a)))) (fk 1) (miv h0); go_simp) rfl rfl ?_
    simp only [Act.put, List.setIfInBounds_toArray, List.set_cons_succ, List.set_cons_zero]
    refine SeqA.pure (.bool true) (fun w' => by go_simp) rfl rfl ?_
    refine SeqA.ld0 Try.underlying23 rfl inf_key (b7) (cs U8 (K (iv (Fk a)))) rfl (by go_simp) (fun _ M => M.row (by simp)) (by simp [ha]) (by simp [Region.wanted, yielded, Act.put]) ?_
    refine SeqA.call _ _ _ (fun w' => by go_simp) (fun w' hI _ => finv_c w' (K (iv (Fk a))) (by simp [ha]) (iv (Fk a)) (Fk_K _)) M12.size rfl (by simp [Region.wanted, yielded, Act.put]) ?_
    refine SeqA.ld0 Try.underlying23 rfl inf_key (w.heap.size) (cs U8 a) rfl (by go_simp) (fun _ M => M.row (by simp)) (by simp [ha]) (by simp [Region.wanted, yielded, Act.put]) ?_
    refine SeqA.call _ _ _ (fun w' => by go_simp) (fun w' hI _ => fcanon_c w' a (by simp [ha]) (Fk a) (rfl)) M12.size rfl (by simp [Region.wanted, yielded, Act.put]) ?_
    refine SeqA.pure (.bool true) (fun w' => by have q := eqt w' ((iv (iv (Fk a)))) ((Fk a)) (iv_iv h0); go_simp) rfl (by simp [Region.wanted, yielded, Act.put]) ?_
    simp only [Act.put, List.setIfInBounds_toArray, List.set_cons_succ, List.set_cons_zero]
    refine SeqA.pure (.bool true) (fun w' => by go_simp) rfl rfl ?_
    refine SeqA.pure (.bool true) (fun w' => by go_simp) rfl rfl ?_
    refine SeqA.nil (fun w13 M14 hz => ?_)
    show wpT _ _ _ _ _ _
    simp only [Act.put, List.setIfInBounds_toArray, List.set_cons_succ, List.set_cons_zero]
    dsimp only [wpT]
    go_wp2_with fail
    go_ret
    exact ⟨rfl, M14.end_⟩
set_option maxRecDepth 100000 in
set_option maxHeartbeats 1000000 in
theorem FieldSame_w (w : World) (a b : List (BitVec 8)) (ha : a.length = 32) (hb : b.length = 32) :
    Calls Try.prog 9 #[.agg (cs U8 a), .agg (cs U8 b)] w fun e w' => e = .returned (.bool true) ∧ Below w.heap.size w w' := by
  have M0 := Mm.start no w
  go_enter Try.func9, Try.ntmps9
  have M2 := ((M0.alloc (cs U8 a) 23 (by decide)).alloc (cs U8 b) 23 (by decide))
  try simp only [World.size_alloc] at M2
  go_upto_region 1 with fail
  obtain ⟨w1, hw1⟩ : ∃ w1, w1 = ((w.alloc (.cells (cs U8 a) 23)).alloc (.cells (cs U8 b) 23)) := ⟨_, rfl⟩
  rw [← hw1] at M2 ⊢
  clear hw1
  refine wp_region_seqF 2 [10, 11] [] [] [] (.done) (Mm no w _) (by kernel_rfl) (by kernel_rfl) (fun d _ _ _ _ h => by cases d <;> exact h) (by rfl) M2.size (fun _ _ h k => h.sf k) M2 (by kernel_rfl) ?_
  simp only [List.take_succ_cons, List.take_zero]
  refine SeqA.call _ _ _ (fun w' => by go_simp) (fun w' hI _ => alive_c w') M2.size rfl rfl ?_
  refine SeqA.pure (.bool false) (fun w' => by go_simp) rfl rfl ?_
  refine SeqA.nil (fun w3 M4 hz => ?_)
  show wpT _ _ _ _ _ _
  simp only [Act.put, List.setIfInBounds_toArray, List.set_cons_succ, List.set_cons_zero]
  dsimp only [wpT]
  go_upto_region 3 with fail
  refine wp_region_seq 6 [12, 13, 14, 15, 5, 6] [] [] [] (.op 6 (.op 7 .done)) (Mm no w _) (by kernel_rfl) (by kernel_rfl) (by kernel_rfl) (fun d _ _ _ _ h => by cases d <;> exact h) (by rfl) M4.size (fun _ _ h k => h.sf k) M4 ?_
  simp only [List.take_succ_cons, List.take_zero]
  refine SeqA.ld0 Try.underlying23 rfl inf_key (w.heap.size) (cs U8 a) rfl (by go_simp) (fun _ M => M.row (by simp)) (by simp [ha, hb]) rfl ?_
  refine SeqA.call _ _ _ (fun w' => by go_simp) (fun w' hI _ => fcanon_c w' a (by simp [ha, hb]) (Fk a) (rfl)) M4.size rfl rfl ?_
  refine SeqA.ld0 Try.underlying23 rfl inf_key (w.heap.size + 1) (cs U8 b) rfl (by go_simp) (fun _ M => M.row (by simp)) (by simp [ha, hb]) rfl ?_
  refine SeqA.call _ _ _ (fun w' => by go_simp) (fun w' hI _ => fcanon_c w' b (by simp [ha, hb]) (Fk b) (rfl)) M4.size rfl rfl ?_
  refine SeqA.var (z := .agg (cs U8 (zs 32))) (by kernel_rfl) rfl rfl (by decide) rfl ?_
  simp only [Act.put, List.setIfInBounds_toArray, List.set_cons_succ, List.set_cons_zero]
  refine SeqA.var (z := .agg (cs U8 (zs 32))) (by kernel_rfl) rfl rfl (by decide) rfl ?_
  refine SeqA.nil (fun w5 M6 hz => ?_)
  refine news_one (fun b7 hb1 hb2 hb3 => ?_)
  have M8 := M4.in_ (c := cs U8 (zs 32)) M6 hb1 hb2 (by decide) hb3 rfl
  refine news_one (fun b9 hb1 hb2 hb3 => ?_)
  have M10 := M4.in_ (c := cs U8 (zs 32)) M8 hb1 hb2 (by decide) hb3 rfl
  show wpT _ _ _ _ _ _
  simp only [Act.put, List.setIfInBounds_toArray, List.set_cons_succ, List.set_cons_zero]
  refine wpT_st0 M10 0 (cs U8 (K ((Fk a)))) inf_key rfl rfl rfl rfl (by go_simp) (by go_simp) (by simp [ha, hb]) (by simp [ha, hb]) (by simp [go_sem]) rfl (fun w11 M12 => ?_)
  dsimp only [List.set] at M12
  refine wpT_st0 M12 1 (cs U8 (K ((Fk b)))) inf_key rfl rfl rfl rfl (by go_simp) (by go_simp) (by simp [ha, hb]) (by simp [ha, hb]) (by simp [go_sem]) rfl (fun w13 M14 => ?_)
  dsimp only [List.set] at M14
  dsimp only [wpT]
  go_upto_region 4 with fail
  refine wp_region_seq 12 [16, 17, 18, 19, 20, 21, 22, 23, 24, 7, 8, 9] [] [] [] (.op 12 (.op 13 (.op 14 .done))) (Mm no w _) (by kernel_rfl) (by kernel_rfl) (by kernel_rfl) (fun d _ _ _ _ h => by cases d <;> exact h) (by rfl) M14.size (fun _ _ h k => h.sf k) M14 ?_
  simp only [List.take_succ_cons, List.take_zero]
  refine SeqA.ld0 Try.underlying23 rfl inf_key (w.heap.size) (cs U8 a) rfl (by go_simp) (fun _ M => M.row (by simp)) (by simp [ha, hb]) rfl ?_
  refine SeqA.ld0 Try.underlying23 rfl inf_key (w.heap.size + 1) (cs U8 b) rfl (by go_simp) (fun _ M => M.row (by simp)) (by simp [ha, hb]) rfl ?_
  refine SeqA.call _ _ _ (fun w' => by go_simp) (fun w' hI _ => fadd_c w' a b (by simp [ha, hb]) (by simp [ha, hb]) (Fk a) (Fk b) (rfl) (rfl)) M14.size rfl rfl ?_
  refine SeqA.ld0 Try.underlying23 rfl inf_key (w.heap.size) (cs U8 a) rfl (by go_simp) (fun _ M => M.row (by simp)) (by simp [ha, hb]) rfl ?_
  refine SeqA.ld0 Try.underlying23 rfl inf_key (w.heap.size + 1) (cs U8 b) rfl (by go_simp) (fun _ M => M.row (by simp)) (by simp [ha, hb]) rfl ?_
  simp only [Act.put, List.setIfInBounds_toArray, List.set_cons_succ, List.set_cons_zero]
  refine SeqA.call _ _ _ (fun w' => by go_simp) (fun w' hI _ => fsub_c w' a b (by simp [ha, hb]) (by simp [ha, hb]) (Fk a) (Fk b) (rfl) (rfl)) M14.size rfl rfl ?_
  refine SeqA.ld0 Try.underlying23 rfl inf_key (w.heap.size) (cs U8 a) rfl (by go_simp) (fun _ M => M.row (by simp)) (by simp [ha, hb]) rfl ?_
  refine SeqA.ld0 Try.underlying23 rfl inf_key (w.heap.size + 1) (cs U8 b) rfl (by go_simp) (fun _ M => M.row (by simp)) (by simp [ha, hb]) rfl ?_
  refine SeqA.call _ _ _ (fun w' => by go_simp) (fun w' hI _ => fmul_c w' a b (by simp [ha, hb]) (by simp [ha, hb]) (Fk a) (Fk b) (rfl) (rfl)) M14.size rfl rfl ?_
  refine SeqA.var (z := .agg (cs U8 (zs 32))) (by kernel_rfl) rfl rfl (by decide) rfl ?_
  refine SeqA.var (z := .agg (cs U8 (zs 32))) (by kernel_rfl) rfl rfl (by decide) rfl ?_
  simp only [Act.put, List.setIfInBounds_toArray, List.set_cons_succ, List.set_cons_zero]
  refine SeqA.var (z := .agg (cs U8 (zs 32))) (by kernel_rfl) rfl rfl (by decide) rfl ?_
  refine SeqA.nil (fun w15 M16 hz => ?_)
  refine news_one (fun b17 hb1 hb2 hb3 => ?_)
  have M18 := M14.in_ (c := cs U8 (zs 32)) M16 hb1 hb2 (by decide) hb3 rfl
  refine news_one (fun b19 hb1 hb2 hb3 => ?_)
  have M20 := M14.in_ (c := cs U8 (zs 32)) M18 hb1 hb2 (by decide) hb3 rfl
  refine news_one (fun b21 hb1 hb2 hb3 => ?_)
  have M22 := M14.in_ (c := cs U8 (zs 32)) M20 hb1 hb2 (by decide) hb3 rfl
  show wpT _ _ _ _ _ _
  simp only [Act.put, List.setIfInBounds_toArray, List.set_cons_succ, List.set_cons_zero]
  refine wpT_st0 M22 0 (cs U8 (K ((Fk a) + (Fk b)))) inf_key rfl rfl rfl rfl (by go_simp) (by go_simp) (by simp [ha, hb]) (by simp [ha, hb]) (by simp [go_sem]) rfl (fun w23 M24 => ?_)
  dsimp only [List.set] at M24
  refine wpT_st0 M24 1 (cs U8 (K ((Fk a) - (Fk b)))) inf_key rfl rfl rfl rfl (by go_simp) (by go_simp) (by simp [ha, hb]) (by simp [ha, hb]) (by simp [go_sem]) rfl (fun w25 M26 => ?_)
  dsimp only [List.set] at M26
  refine wpT_st0 M26 2 (cs U8 (K ((Fk a) * (Fk b)))) inf_key rfl rfl rfl rfl (by go_simp) (by go_simp) (by simp [ha, hb]) (by simp [ha, hb]) (by simp [go_sem]) rfl (fun w27 M28 => ?_)
  dsimp only [List.set] at M28
  dsimp only [wpT]
  go_upto_region 5 with fail
  refine wp_region_seq 45 [25, 26, 27, 28, 29, 30, 31, 32, 33, 34, 35, 36, 37, 38, 39, 40, 41, 42, 43, 44, 45, 46, 47, 48, 49, 50, 51, 52, 53, 54, 55, 56, 57, 58, 59, 60, 61, 62, 63, 64, 65, 66, 67, 68, 4] [] [] [] (.done) (Mm no w _) (by kernel_rfl) (by kernel_rfl) (by kernel_rfl) (fun d _ _ _ _ h => by cases d <;> exact h) (by rfl) M28.size (fun _ _ h k => h.sf k) M28 ?_
  simp only [List.append_eq, List.cons_append, List.nil_append, List.take_succ_cons, List.take_zero]
  refine SeqA.ld0 Try.underlying23 rfl inf_key (b21) (cs U8 (K ((Fk a) + (Fk b)))) rfl (by go_simp) (fun _ M => M.row (by simp)) (by simp [ha, hb]) rfl ?_
  refine SeqA.ld0 Try.underlying23 rfl inf_key (b9) (cs U8 (K ((Fk a)))) rfl (by go_simp) (fun _ M => M.row (by simp)) (by simp [ha, hb]) rfl ?_
  refine SeqA.ld0 Try.underlying23 rfl inf_key (b7) (cs U8 (K ((Fk b)))) rfl (by go_simp) (fun _ M => M.row (by simp)) (by simp [ha, hb]) rfl ?_
  refine SeqA.call _ _ _ (fun w' => by go_simp) (fun w' hI _ => fadd_c w' (K ((Fk a))) (K ((Fk b))) (by simp [ha, hb]) (by simp [ha, hb]) ((Fk a)) ((Fk b)) (Fk_K _) (Fk_K _)) M28.size rfl rfl ?_
  refine SeqA.pure (.bool true) (fun w' => by have q := eqt w' ((Fk a) + (Fk b)) ((((Fk a)) + ((Fk b)))) (by grind); go_simp) rfl rfl ?_
  simp only [Act.put, List.setIfInBounds_toArray, List.set_cons_succ, List.set_cons_zero]
  refine SeqA.pure (.bool true) (fun w' => by go_simp) rfl rfl ?_
  refine SeqA.ld0 Try.underlying23 rfl inf_key (b19) (cs U8 (K ((Fk a) - (Fk b)))) rfl (by go_simp) (fun _ M => M.row (by simp)) (by simp [ha, hb]) (by simp [Region.wanted, yielded, Act.put]) ?_
  refine SeqA.ld0 Try.underlying23 rfl inf_key (b9) (cs U8 (K ((Fk a)))) rfl (by go_simp) (fun _ M => M.row (by simp)) (by simp [ha, hb]) (by simp [Region.wanted, yielded, Act.put]) ?_
  refine SeqA.ld0 Try.underlying23 rfl inf_key (b7) (cs U8 (K ((Fk b)))) rfl (by go_simp) (fun _ M => M.row (by simp)) (by simp [ha, hb]) (by simp [Region.wanted, yielded, Act.put]) ?_
  refine SeqA.call _ _ _ (fun w' => by go_simp) (fun w' hI _ => fsub_c w' (K ((Fk a))) (K ((Fk b))) (by simp [ha, hb]) (by simp [ha, hb]) ((Fk a)) ((Fk b)) (Fk_K _) (Fk_K _)) M28.size rfl (by simp [Region.wanted, yielded, Act.put]) ?_
  refine SeqA.pure (.bool true) (fun w' => by have q := eqt w' ((Fk a) - (Fk b)) ((((Fk a)) - ((Fk b)))) (by grind); go_simp) rfl (by simp [Region.wanted, yielded, Act.put]) ?_
  simp only [Act.put, List.setIfInBounds_toArray, List.set_cons_succ, List.set_cons_zero]
  refine SeqA.pure (.bool true) (fun w' => by go_simp) rfl rfl ?_
  refine SeqA.pure (.bool true) (fun w' => by go_simp) rfl rfl ?_
  refine SeqA.ld0 Try.underlying23 rfl inf_key (b17) (cs U8 (K ((Fk a) * (Fk b)))) rfl (by go_simp) (fun _ M => M.row (by simp)) (by simp [ha, hb]) (by simp [Region.wanted, yielded, Act.put]) ?_
  refine SeqA.ld0 Try.underlying23 rfl inf_key (b9) (cs U8 (K ((Fk a)))) rfl (by go_simp) (fun _ M => M.row (by simp)) (by simp [ha, hb]) (by simp [Region.wanted, yielded, Act.put]) ?_
  refine SeqA.ld0 Try.underlying23 rfl inf_key (b7) (cs U8 (K ((Fk b)))) rfl (by go_simp) (fun _ M => M.row (by simp)) (by simp [ha, hb]) (by simp [Region.wanted, yielded, Act.put]) ?_
  refine SeqA.call _ _ _ (fun w' => by go_simp) (fun w' hI _ => fmul_c w' (K ((Fk a))) (K ((Fk b))) (by simp [ha, hb]) (by simp [ha, hb]) ((Fk a)) ((Fk b)) (Fk_K _) (Fk_K _)) M28.size rfl (by simp [Region.wanted, yielded, Act.put]) ?_
  simp only [Act.put, List.setIfInBounds_toArray, List.set_cons_succ, List.set_cons_zero]
  refine SeqA.pure (.bool true) (fun w' => by have q := eqt w' ((Fk a) * (Fk b)) ((((Fk a)) * ((Fk b)))) (by grind); go_simp) rfl (by simp [Region.wanted, yielded, Act.put]) ?_
  refine SeqA.pure (.bool true) (fun w' => by go_simp) rfl rfl ?_
  refine SeqA.pure (.bool true) (fun w' => by go_simp) rfl rfl ?_
  refine SeqA.ld0 Try.underlying23 rfl inf_key (b21) (cs U8 (K ((Fk a) + (Fk b)))) rfl (by go_simp) (fun _ M => M.row (by simp)) (by simp [ha, hb]) (by simp [Region.wanted, yielded, Act.put]) ?_
  refine SeqA.call _ _ _ (fun w' => by go_simp) (fun w' hI _ => fcanon_c w' (K ((Fk a) + (Fk b))) (by simp [ha, hb]) ((Fk a) + (Fk b)) (Fk_K _)) M28.size rfl (by simp [Region.wanted, yielded, Act.put]) ?_
  refine SeqA.ld0 Try.underlying23 rfl inf_key (b21) (cs U8 (K ((Fk a) + (Fk b)))) rfl (by go_simp) (fun _ M => M.row (by simp)) (by simp [ha, hb]) (by simp [Region.wanted, yielded, Act.put]) ?_
  simp only [Act.put, List.setIfInBounds_toArray, List.set_cons_succ, List.set_cons_zero]
  refine SeqA.pure (.bool true) (fun w' => by have q := eqt w' ((((Fk a) + (Fk b)))) ((Fk a) + (Fk b)) (by grind); go_simp) rfl (by simp [Region.wanted, yielded, Act.put]) ?_
  refine SeqA.pure (.bool true) (fun w' => by go_simp) rfl rfl ?_
  refine SeqA.pure (.bool true) (fun w' => by go_simp) rfl rfl ?_
  refine SeqA.ld0 Try.underlying23 rfl inf_key (b19) (cs U8 (K ((Fk a) - (Fk b)))) rfl (by go_simp) (fun _ M => M.row (by simp)) (by simp [ha, hb]) (by simp [Region.wanted, yielded, Act.put]) ?_
  refine SeqA.call _ _ _ (fun w' => by go_simp) (fun w' hI _ => fcanon_c w' (K ((Fk a) - (Fk b))) (by simp [ha, hb]) ((Fk a) - (Fk b)) (Fk_K _)) M28.size rfl (by simp [Region.wanted, yielded, Act.put]) ?_
  refine SeqA.ld0 Try.underlying23 rfl inf_key (b19) (cs U8 (K ((Fk a) - (Fk b)))) rfl (by go_simp) (fun _ M => M.row (by simp)) (by simp [ha, hb]) (by simp [Region.wanted, yielded, Act.put]) ?_
  simp only [Act.put, List.setIfInBounds_toArray, List.set_cons_succ, List.set_cons_zero]
  refine SeqA.pure (.bool true) (fun w' => by have q := eqt w' ((((Fk a) - (Fk b)))) ((Fk a) - (Fk b)) (by grind); go_simp) rfl (by simp [Region.wanted, yielded, Act.put]) ?_
  refine SeqA.pure (.bool true) (fun w' => by go_simp) rfl rfl ?_
  refine SeqA.pure (.bool true) (fun w' => by go_simp) rfl rfl ?_
  refine SeqA.ld0 Try.underlying23 rfl inf_key (b17) (cs U8 (K ((Fk a) * (Fk b)))) rfl (by go_simp) (fun _ M => M.row (by simp)) (by simp [ha, hb]) (by simp [Region.wanted, yielded, Act.put]) ?_
  refine SeqA.call _ _ _ (fun w' => by go_simp) (fun w' hI _ => fcanon_c w' (K ((Fk a) * (Fk b))) (by simp [ha, hb]) ((Fk a) * (Fk b)) (Fk_K _)) M28.size rfl (by simp [Region.wanted, yielded, Act.put]) ?_
  refine SeqA.ld0 Try.underlying23 rfl inf_key (b17) (cs U8 (K ((Fk a) * (Fk b)))) rfl (by go_simp) (fun _ M => M.row (by simp)) (by simp [ha, hb]) (by simp [Region.wanted, yielded, Act.put]) ?_
  simp only [Act.put, List.setIfInBounds_toArray, List.set_cons_succ, List.set_cons_zero]
  refine SeqA.pure (.bool true) (fun w' => by have q := eqt w' ((((Fk a) * (Fk b)))) ((Fk a) * (Fk b)) (by grind); go_simp) rfl (by simp [Region.wanted, yielded, Act.put]) ?_
  refine SeqA.pure (.bool true) (fun w' => by go_simp) rfl rfl ?_
  refine SeqA.pure (.bool true) (fun w' => by go_simp) rfl rfl ?_
  refine SeqA.ld0 Try.underlying23 rfl inf_key (w.heap.size) (cs U8 a) rfl (by go_simp) (fun _ M => M.row (by simp)) (by simp [ha, hb]) (by simp [Region.wanted, yielded, Act.put]) ?_
  refine SeqA.call _ _ _ (fun w' => by go_simp) (fun w' hI _ => finv_c w' a (by simp [ha, hb]) (Fk a) (rfl)) M28.size rfl (by simp [Region.wanted, yielded, Act.put]) ?_
  refine SeqA.ld0 Try.underlying23 rfl inf_key (b9) (cs U8 (K ((Fk a)))) rfl (by go_simp) (fun _ M => M.row (by simp)) (by simp [ha, hb]) (by simp [Region.wanted, yielded, Act.put]) ?_
  simp only [Act.put, List.setIfInBounds_toArray, List.set_cons_succ, List.set_cons_zero]
  refine SeqA.call _ _ _ (fun w' => by go_simp) (fun w' hI _ => finv_c w' (K ((Fk a))) (by simp [ha, hb]) ((Fk a)) (Fk_K _)) M28.size rfl (by simp [Region.wanted, yielded, Act.put]) ?_
  refine SeqA.pure (.bool true) (fun w' => by have q := eqt w' (iv (Fk a)) ((iv ((Fk a)))) (by grind); go_simp) rfl (by simp [Region.wanted, yielded, Act.put]) ?_
  refine SeqA.pure (.bool true) (fun w' => by go_simp) rfl rfl ?_
  refine SeqA.pure (.bool true) (fun w' => by go_simp) rfl rfl ?_
  refine SeqA.nil (fun w29 M30 hz => ?_)
  show wpT _ _ _ _ _ _
  simp only [Act.put, List.setIfInBounds_toArray, List.set_cons_succ, List.set_cons_zero]
  dsimp only [wpT]
  go_wp2_with fail
  go_ret
  exact ⟨rfl, M30.end_⟩
set_option maxRecDepth 100000 in
set_option maxHeartbeats 1000000 in
theorem FieldPowers_w (w : World) (a b : List (BitVec 8)) (ha : a.length = 32) (hb : b.length = 32) :
    Calls Try.prog 10 #[.agg (cs U8 a), .agg (cs U8 b)] w fun e w' => e = .returned (.bool true) ∧ Below w.heap.size w w' := by
  have M0 := Mm.start no w
  go_enter Try.func10, Try.ntmps10
  have M2 := ((M0.alloc (cs U8 a) 23 (by decide)).alloc (cs U8 b) 23 (by decide))
  try simp only [World.size_alloc] at M2
  go_upto_region 1 with fail
  obtain ⟨w1, hw1⟩ : ∃ w1, w1 = ((w.alloc (.cells (cs U8 a) 23)).alloc (.cells (cs U8 b) 23)) := ⟨_, rfl⟩
  rw [← hw1] at M2 ⊢
  clear hw1
  refine wp_region_seqF 2 [7, 8] [] [] [] (.done) (Mm no w _) (by kernel_rfl) (by kernel_rfl) (fun d _ _ _ _ h => by cases d <;> exact h) (by rfl) M2.size (fun _ _ h k => h.sf k) M2 (by kernel_rfl) ?_
  simp only [List.take_succ_cons, List.take_zero]
  refine SeqA.call _ _ _ (fun w' => by go_simp) (fun w' hI _ => alive_c w') M2.size rfl rfl ?_
  refine SeqA.pure (.bool false) (fun w' => by go_simp) rfl rfl ?_
  refine SeqA.nil (fun w3 M4 hz => ?_)
  show wpT _ _ _ _ _ _
  simp only [Act.put, List.setIfInBounds_toArray, List.set_cons_succ, List.set_cons_zero]
  dsimp only [wpT]
  go_upto_region 3 with fail
  refine wp_region_seq 8 [9, 10, 11, 12, 13, 14, 15, 5] [] [] [] (.op 8 .done) (Mm no w _) (by kernel_rfl) (by kernel_rfl) (by kernel_rfl) (fun d _ _ _ _ h => by cases d <;> exact h) (by rfl) M4.size (fun _ _ h k => h.sf k) M4 ?_
  simp only [List.take_succ_cons, List.take_zero]
  refine SeqA.ld0 Try.underlying23 rfl inf_key (w.heap.size) (cs U8 a) rfl (by go_simp) (fun _ M => M.row (by simp)) (by simp [ha, hb]) rfl ?_
  refine SeqA.ld0 Try.underlying23 rfl inf_key (w.heap.size + 1) (cs U8 b) rfl (by go_simp) (fun _ M => M.row (by simp)) (by simp [ha, hb]) rfl ?_
  refine SeqA.call _ _ _ (fun w' => by go_simp) (fun w' hI _ => fadd_c w' a b (by simp [ha, hb]) (by simp [ha, hb]) (Fk a) (Fk b) (rfl) (rfl)) M4.size rfl rfl ?_
  refine SeqA.ld0 Try.underlying23 rfl inf_key (w.heap.size) (cs U8 a) rfl (by go_simp) (fun _ M => M.row (by simp)) (by simp [ha, hb]) rfl ?_
  refine SeqA.ld0 Try.underlying23 rfl inf_key (w.heap.size + 1) (cs U8 b) rfl (by go_simp) (fun _ M => M.row (by simp)) (by simp [ha, hb]) rfl ?_
  simp only [Act.put, List.setIfInBounds_toArray, List.set_cons_succ, List.set_cons_zero]
  refine SeqA.call _ _ _ (fun w' => by go_simp) (fun w' hI _ => fsub_c w' a b (by simp [ha, hb]) (by simp [ha, hb]) (Fk a) (Fk b) (rfl) (rfl)) M4.size rfl rfl ?_
  refine SeqA.call _ _ _ (fun w' => by go_simp) (fun w' hI _ => fmul_c w' (K ((Fk a) + (Fk b))) (K ((Fk a) - (Fk b))) (by simp [ha, hb]) (by simp [ha, hb]) ((Fk a) + (Fk b)) ((Fk a) - (Fk b)) (Fk_K _) (Fk_K _)) M4.size rfl rfl ?_
  refine SeqA.var (z := .agg (cs U8 (zs 32))) (by kernel_rfl) rfl rfl (by decide) rfl ?_
  refine SeqA.nil (fun w5 M6 hz => ?_)
  refine news_one (fun b7 hb1 hb2 hb3 => ?_)
  have M8 := M4.in_ (c := cs U8 (zs 32)) M6 hb1 hb2 (by decide) hb3 rfl
  show wpT _ _ _ _ _ _
  simp only [Act.put, List.setIfInBounds_toArray, List.set_cons_succ, List.set_cons_zero]
  refine wpT_st0 M8 0 (cs U8 (K (((Fk a) + (Fk b)) * ((Fk a) - (Fk b))))) inf_key rfl rfl rfl rfl (by go_simp) (by go_simp) (by simp [ha, hb]) (by simp [ha, hb]) (by simp [go_sem]) rfl (fun w9 M10 => ?_)
  dsimp only [List.set] at M10
  dsimp only [wpT]
  go_upto_region 4 with fail
  refine wp_region_seq 8 [16, 17, 18, 19, 20, 21, 22, 6] [] [] [] (.op 8 .done) (Mm no w _) (by kernel_rfl) (by kernel_rfl) (by kernel_rfl) (fun d _ _ _ _ h => by cases d <;> exact h) (by rfl) M10.size (fun _ _ h k => h.sf k) M10 ?_
  simp only [List.take_succ_cons, List.take_zero]
  refine SeqA.ld0 Try.underlying23 rfl inf_key (w.heap.size) (cs U8 a) rfl (by go_simp) (fun _ M => M.row (by simp)) (by simp [ha, hb]) rfl ?_
  refine SeqA.ld0 Try.underlying23 rfl inf_key (w.heap.size) (cs U8 a) rfl (by go_simp) (fun _ M => M.row (by simp)) (by simp [ha, hb]) rfl ?_
  refine SeqA.call _ _ _ (fun w' => by go_simp) (fun w' hI _ => fmul_c w' a a (by simp [ha, hb]) (by simp [ha, hb]) (Fk a) (Fk a) (rfl) (rfl)) M10.size rfl rfl ?_
  refine SeqA.ld0 Try.underlying23 rfl inf_key (w.heap.size + 1) (cs U8 b) rfl (by go_simp) (fun _ M => M.row (by simp)) (by simp [ha, hb]) rfl ?_
  refine SeqA.ld0 Try.underlying23 rfl inf_key (w.heap.size + 1) (cs U8 b) rfl (by go_simp) (fun _ M => M.row (by simp)) (by simp [ha, hb]) rfl ?_
  simp only [Act.put, List.setIfInBounds_toArray, List.set_cons_succ, List.set_cons_zero]
  refine SeqA.call _ _ _ (fun w' => by go_simp) (fun w' hI _ => fmul_c w' b b (by simp [ha, hb]) (by simp [ha, hb]) (Fk b) (Fk b) (rfl) (rfl)) M10.size rfl rfl ?_
  refine SeqA.call _ _ _ (fun w' => by go_simp) (fun w' hI _ => fsub_c w' (K ((Fk a) * (Fk a))) (K ((Fk b) * (Fk b))) (by simp [ha, hb]) (by simp [ha, hb]) ((Fk a) * (Fk a)) ((Fk b) * (Fk b)) (Fk_K _) (Fk_K _)) M10.size rfl rfl ?_
  refine SeqA.var (z := .agg (cs U8 (zs 32))) (by kernel_rfl) rfl rfl (by decide) rfl ?_
  refine SeqA.nil (fun w11 M12 hz => ?_)
  refine news_one (fun b13 hb1 hb2 hb3 => ?_)
  have M14 := M10.in_ (c := cs U8 (zs 32)) M12 hb1 hb2 (by decide) hb3 rfl
  show wpT _ _ _ _ _ _
  simp only [Act.put, List.setIfInBounds_toArray, List.set_cons_succ, List.set_cons_zero]
  refine wpT_st0 M14 0 (cs U8 (K (((Fk a) * (Fk a)) - ((Fk b) * (Fk b))))) inf_key rfl rfl rfl rfl (by go_simp) (by go_simp) (by simp [ha, hb]) (by simp [ha, hb]) (by simp [go_sem]) rfl (fun w15 M16 => ?_)
  dsimp only [List.set] at M16
  dsimp only [wpT]
  go_upto_region 5 with fail
  refine wp_region_seq 16 [23, 24, 25, 26, 27, 28, 29, 30, 31, 32, 33, 34, 35, 36, 37, 4] [] [] [] (.done) (Mm no w _) (by kernel_rfl) (by kernel_rfl) (by kernel_rfl) (fun d _ _ _ _ h => by cases d <;> exact h) (by rfl) M16.size (fun _ _ h k => h.sf k) M16 ?_
  simp only [List.take_succ_cons, List.take_zero]
  refine SeqA.ld0 Try.underlying23 rfl inf_key (b7) (cs U8 (K (((Fk a) + (Fk b)) * ((Fk a) - (Fk b))))) rfl (by go_simp) (fun _ M => M.row (by simp)) (by simp [ha, hb]) rfl ?_
  refine SeqA.ld0 Try.underlying23 rfl inf_key (b13) (cs U8 (K (((Fk a) * (Fk a)) - ((Fk b) * (Fk b))))) rfl (by go_simp) (fun _ M => M.row (by simp)) (by simp [ha, hb]) rfl ?_
  refine SeqA.pure (.bool true) (fun w' => by have q := eqt w' ((((Fk a) + (Fk b)) * ((Fk a) - (Fk b)))) ((((Fk a) * (Fk a)) - ((Fk b) * (Fk b)))) (by grind); go_simp) rfl rfl ?_
  refine SeqA.pure (.bool true) (fun w' => by go_simp) rfl rfl ?_
  refine SeqA.ld0 Try.underlying23 rfl inf_key (w.heap.size) (cs U8 a) rfl (by go_simp) (fun _ M => M.row (by simp)) (by simp [ha, hb]) (by simp [Region.wanted, yielded, Act.put]) ?_
  simp only [Act.put, List.setIfInBounds_toArray, List.set_cons_succ, List.set_cons_zero]
  refine SeqA.ld0 Try.underlying23 rfl inf_key (w.heap.size + 1) (cs U8 b) rfl (by go_simp) (fun _ M => M.row (by simp)) (by simp [ha, hb]) (by simp [Region.wanted, yielded, Act.put]) ?_
  refine SeqA.call _ _ _ (fun w' => by go_simp) (fun w' hI _ => fmul_c w' a b (by simp [ha, hb]) (by simp [ha, hb]) (Fk a) (Fk b) (rfl) (rfl)) M16.size rfl (by simp [Region.wanted, yielded, Act.put]) ?_
  refine SeqA.call _ _ _ (fun w' => by go_simp) (fun w' hI _ => finv_c w' (K ((Fk a) * (Fk b))) (by simp [ha, hb]) ((Fk a) * (Fk b)) (Fk_K _)) M16.size rfl (by simp [Region.wanted, yielded, Act.put]) ?_
  refine SeqA.ld0 Try.underlying23 rfl inf_key (w.heap.size) (cs U8 a) rfl (by go_simp) (fun _ M => M.row (by simp)) (by simp [ha, hb]) (by simp [Region.wanted, yielded, Act.put]) ?_
  refine SeqA.call _ _ _ (fun w' => by go_simp) (fun w' hI _ => finv_c w' a (by simp [ha, hb]) (Fk a) (rfl)) M16.size rfl (by simp [Region.wanted, yielded, Act.put]) ?_
  refine SeqA.ld0 Try.underlying23 rfl inf_key (w.heap.size + 1) (cs U8 b) rfl (by go_simp) (fun _ M => M.row (by simp)) (by simp [ha, hb]) (by simp [Region.wanted, yielded, Act.put]) ?_
  simp only [Act.put, List.setIfInBounds_toArray, List.set_cons_succ, List.set_cons_zero]
  refine SeqA.call _ _ _ (fun w' => by go_simp) (fun w' hI _ => finv_c w' b (by simp [ha, hb]) (Fk b) (rfl)) M16.size rfl (by simp [Region.wanted, yielded, Act.put]) ?_
  refine SeqA.call _ _ _ (fun w' => by go_simp) (fun w' hI _ => fmul_c w' (K (iv (Fk a))) (K (iv (Fk b))) (by simp [ha, hb]) (by simp [ha, hb]) (iv (Fk a)) (iv (Fk b)) (Fk_K _) (Fk_K _)) M16.size rfl (by simp [Region.wanted, yielded, Act.put]) ?_
  refine SeqA.pure (.bool true) (fun w' => by have q := eqt w' ((iv ((Fk a) * (Fk b)))) (((iv (Fk a)) * (iv (Fk b)))) (iv_mul _ _); go_simp) rfl (by simp [Region.wanted, yielded, Act.put]) ?_
  refine SeqA.pure (.bool true) (fun w' => by go_simp) rfl rfl ?_
  refine SeqA.pure (.bool true) (fun w' => by go_simp) rfl rfl ?_
  refine SeqA.nil (fun w17 M18 hz => ?_)
  show wpT _ _ _ _ _ _
  simp only [Act.put, List.setIfInBounds_toArray, List.set_cons_succ, List.set_cons_zero]
  dsimp only [wpT]
  go_wp2_with fail
  go_ret
  exact ⟨rfl, M18.end_⟩
end Go.Proofs.Ytgneclfnfnpmkaa
