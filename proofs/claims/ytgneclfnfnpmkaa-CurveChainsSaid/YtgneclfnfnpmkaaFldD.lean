/-
  What package field and reference 01 answer: contracts; own work.
-/
import Derived.Test.YtgneclfnfnpmkaaFldC
import Derived.Test.YtgneclfnfnpmkaaEqK
set_option linter.unusedSimpArgs false
set_option linter.unusedVariables false
namespace Go.Proofs.Ytgneclfnfnpmkaa
open Go.RowKit Fp
/-- the inverse, hid from the kernel (it would reckon the power) -/
theorem iv_ex : ∃ f : F → F, f = inv := ⟨_, rfl⟩
noncomputable def iv : F → F := Classical.choose iv_ex
theorem iv_eq (x : F) : iv x = inv x := congrFun (Classical.choose_spec iv_ex) x
theorem u8_cellv : (fun x : BitVec 8 => U8 x) = fun x => Value.int .u8 (((UInt8.ofBitVec x).toNat : Nat) : Int) := rfl
theorem fadd_c (w : World) (a b : List (BitVec 8)) (ha : a.length = 32) (hb : b.length = 32) (x y : F) (hx : Fk a = x) (hy : Fk b = y) :
    Calls Try.prog 22 #[.agg (cs U8 a), .agg (cs U8 b)] w fun e w' => e = .returned (.agg (cs U8 (K (x + y)))) ∧ Below w.heap.size w w' :=
  (fadd_any w a b ha hb).mono fun e w' ⟨h, h2⟩ => ⟨by rw [h, ← hx, ← hy, ← fv_leN ha, ← fv_leN hb, ← fv_add]; rfl, h2⟩
theorem fsub_c (w : World) (a b : List (BitVec 8)) (ha : a.length = 32) (hb : b.length = 32) (x y : F) (hx : Fk a = x) (hy : Fk b = y) :
    Calls Try.prog 24 #[.agg (cs U8 a), .agg (cs U8 b)] w fun e w' => e = .returned (.agg (cs U8 (K (x - y)))) ∧ Below w.heap.size w w' :=
  (fsub_any w a b ha hb).mono fun e w' ⟨h, h2⟩ => ⟨by rw [h, ← hx, ← hy, ← fv_leN ha, ← fv_leN hb, ← fv_sub]; rfl, h2⟩
theorem fmul_c (w : World) (a b : List (BitVec 8)) (ha : a.length = 32) (hb : b.length = 32) (x y : F) (hx : Fk a = x) (hy : Fk b = y) :
    Calls Try.prog 26 #[.agg (cs U8 a), .agg (cs U8 b)] w fun e w' => e = .returned (.agg (cs U8 (K (x * y)))) ∧ Below w.heap.size w w' :=
  (fmul_any w a b ha hb).mono fun e w' ⟨h, h2⟩ => ⟨by rw [h, ← hx, ← hy, ← fv_leN ha, ← fv_leN hb, ← fv_mul]; rfl, h2⟩
theorem finv_c (w : World) (a : List (BitVec 8)) (ha : a.length = 32) (x : F) (hx : Fk a = x) :
    Calls Try.prog 28 #[.agg (cs U8 a)] w fun e w' => e = .returned (.agg (cs U8 (K (iv x)))) ∧ Below w.heap.size w w' :=
  (finv_any w a ha).mono fun e w' ⟨h, h2⟩ => ⟨by rw [h, ← hx, iv_eq, ← fv_leN ha, ← fv_inv]; rfl, h2⟩
theorem fcanon_c (w : World) (a : List (BitVec 8)) (ha : a.length = 32) (x : F) (hx : Fk a = x) :
    Calls Try.prog 18 #[.agg (cs U8 a)] w fun e w' => e = .returned (.agg (cs U8 (K x))) ∧ Below w.heap.size w w' :=
  (fcanon_any w a ha).mono fun e w' ⟨h, h2⟩ => ⟨by rw [h, ← hx, ← fv_leN ha]; rfl, h2⟩
theorem radd_c (w : World) (a b : List (BitVec 8)) (ha : a.length = 32) (hb : b.length = 32) (x y : F) (hx : Fk a = x) (hy : Fk b = y) :
    Calls Try.prog 23 #[.agg (cs U8 a), .agg (cs U8 b)] w fun e w' => e = .returned (.agg (cs U8 (K (x + y)))) ∧ Below w.heap.size w w' :=
  (radd_any w a b ha hb).mono fun e w' ⟨h, h2⟩ => ⟨by rw [h, ← hx, ← hy]; unfold Fk; rw [← fk_add]; rfl, h2⟩
theorem rsub_c (w : World) (a b : List (BitVec 8)) (ha : a.length = 32) (hb : b.length = 32) (x y : F) (hx : Fk a = x) (hy : Fk b = y) :
    Calls Try.prog 25 #[.agg (cs U8 a), .agg (cs U8 b)] w fun e w' => e = .returned (.agg (cs U8 (K (x - y)))) ∧ Below w.heap.size w w' :=
  (rsub_any w a b ha hb).mono fun e w' ⟨h, h2⟩ => ⟨by rw [h, ← hx, ← hy]; unfold Fk; rw [← fk_sub (leN_lt32 hb)]; rfl, h2⟩
theorem rmul_c (w : World) (a b : List (BitVec 8)) (ha : a.length = 32) (hb : b.length = 32) (x y : F) (hx : Fk a = x) (hy : Fk b = y) :
    Calls Try.prog 27 #[.agg (cs U8 a), .agg (cs U8 b)] w fun e w' => e = .returned (.agg (cs U8 (K (x * y)))) ∧ Below w.heap.size w w' :=
  (rmul_any w a b ha hb).mono fun e w' ⟨h, h2⟩ => ⟨by rw [h, ← hx, ← hy]; unfold Fk; rw [← fk_mul]; rfl, h2⟩
theorem rinv_c (w : World) (a : List (BitVec 8)) (ha : a.length = 32) (x : F) (hx : Fk a = x) :
    Calls Try.prog 29 #[.agg (cs U8 a)] w fun e w' => e = .returned (.agg (cs U8 (K (iv x)))) ∧ Below w.heap.size w w' :=
  (rinv_any w a ha).mono fun e w' ⟨h, h2⟩ => ⟨by rw [h, ← hx, iv_eq]; unfold Fk inv; rw [← fk_pow]; rfl, h2⟩
theorem rcanon_c (w : World) (a : List (BitVec 8)) (ha : a.length = 32) (x : F) (hx : Fk a = x) :
    Calls Try.prog 19 #[.agg (cs U8 a)] w fun e w' => e = .returned (.agg (cs U8 (K x))) ∧ Below w.heap.size w w' :=
  (rcanon_any w a ha).mono fun e w' ⟨h, h2⟩ => ⟨by rw [h, ← hx]; rfl, h2⟩
theorem K_zero : K 0 = zs 32 := by decide +kernel
theorem eqk (w : World) (x y : F) (b : Bool) (h : decide (x = y) = b) : (Op.equalIn 10000 23 (.agg (cs U8 (K x))) (.agg (cs U8 (K y)))).run Try.prog w = .ok b w := by
  rw [eqin_key w _ _ (K_len x) (K_len y), ← h]
  congr 1
  rw [Bool.eq_iff_iff, beq_iff_eq, decide_eq_true_eq]
  exact ⟨K_inj, fun e => by rw [e]⟩
theorem eq0 (w : World) (x : F) : (Op.equalIn 10000 23 (.agg (cs U8 (K x))) (.agg (cs U8 (zs 32)))).run Try.prog w = .ok (decide (x = 0)) w := by
  rw [← K_zero]; exact eqk w x 0 _ rfl
set_option maxRecDepth 100000 in
set_option maxHeartbeats 1000000 in
theorem fzero_c (w : World) (a : List (BitVec 8)) (ha : a.length = 32) (x : F) (hx : Fk a = x) :
    Calls Try.prog 20 #[.agg (cs U8 a)] w fun e w' => e = .returned (.bool (decide (x = 0))) ∧ Below w.heap.size w w' := by
  subst hx
  have M0 := Mm.start no w
  go_enter Try.func20, Try.ntmps20
  have M2 := (M0.alloc (cs U8 a) 23 (by decide))
  try simp only [World.size_alloc] at M2
  go_upto_region 1 with fail
  obtain ⟨w1, hw1⟩ : ∃ w1, w1 = (w.alloc (.cells (cs U8 a) 23)) := ⟨_, rfl⟩
  rw [← hw1] at M2 ⊢
  clear hw1
  refine wp_region_seqF 5 [3, 4, 5, 6, 2] [] [] [] (.done) (Mm no w _) (by kernel_rfl) (by kernel_rfl) (fun d _ _ _ _ h => by cases d <;> exact h) (by rfl) M2.size (fun _ _ h k => h.sf k) M2 (by kernel_rfl) ?_
  simp only [List.take_succ_cons, List.take_zero]
  refine SeqA.ld0 Try.underlying23 rfl inf_key (w.heap.size) (cs U8 a) rfl (by go_simp) (fun _ M => M.row (by simp)) (by simp [ha]) rfl ?_
  refine SeqA.call _ _ _ (fun w' => by go_simp) (fun w' hI _ => fcanon_c w' a (by simp [ha]) (Fk a) (rfl)) M2.size rfl rfl ?_
  refine SeqA.pure (.agg (cs U8 (zs 32))) (fun w' => by go_simp) rfl rfl ?_
  refine SeqA.pure (.bool (decide (Fk a = 0))) (fun w' => by have q := eq0 w' (Fk a); go_simp) rfl rfl ?_
  refine SeqA.pure (.bool (decide (Fk a = 0))) (fun w' => by go_simp) rfl rfl ?_
  refine SeqA.nil (fun w3 M4 hz => ?_)
  show wpT _ _ _ _ _ _
  simp only [Act.put, List.setIfInBounds_toArray, List.set_cons_succ, List.set_cons_zero]
  dsimp only [wpT]
  go_wp2_with fail
  go_ret
  exact ⟨rfl, M4.end_⟩
set_option maxRecDepth 100000 in
set_option maxHeartbeats 1000000 in
theorem rzero_c (w : World) (a : List (BitVec 8)) (ha : a.length = 32) (x : F) (hx : Fk a = x) :
    Calls Try.prog 21 #[.agg (cs U8 a)] w fun e w' => e = .returned (.bool (decide (x = 0))) ∧ Below w.heap.size w w' := by
  subst hx
  have M0 := Mm.start no w
  go_enter Try.func21, Try.ntmps21
  have M2 := (M0.alloc (cs U8 a) 23 (by decide))
  try simp only [World.size_alloc] at M2
  go_upto_region 1 with fail
  obtain ⟨w1, hw1⟩ : ∃ w1, w1 = (w.alloc (.cells (cs U8 a) 23)) := ⟨_, rfl⟩
  rw [← hw1] at M2 ⊢
  clear hw1
  refine wp_region_seqF 5 [3, 4, 5, 6, 2] [] [] [] (.done) (Mm no w _) (by kernel_rfl) (by kernel_rfl) (fun d _ _ _ _ h => by cases d <;> exact h) (by rfl) M2.size (fun _ _ h k => h.sf k) M2 (by kernel_rfl) ?_
  simp only [List.take_succ_cons, List.take_zero]
  refine SeqA.ld0 Try.underlying23 rfl inf_key (w.heap.size) (cs U8 a) rfl (by go_simp) (fun _ M => M.row (by simp)) (by simp [ha]) rfl ?_
  refine SeqA.call _ _ _ (fun w' => by go_simp) (fun w' hI _ => rcanon_c w' a (by simp [ha]) (Fk a) (rfl)) M2.size rfl rfl ?_
  refine SeqA.pure (.agg (cs U8 (zs 32))) (fun w' => by go_simp) rfl rfl ?_
  refine SeqA.pure (.bool (decide (Fk a = 0))) (fun w' => by have q := eq0 w' (Fk a); go_simp) rfl rfl ?_
  refine SeqA.pure (.bool (decide (Fk a = 0))) (fun w' => by go_simp) rfl rfl ?_
  refine SeqA.nil (fun w3 M4 hz => ?_)
  show wpT _ _ _ _ _ _
  simp only [Act.put, List.setIfInBounds_toArray, List.set_cons_succ, List.set_cons_zero]
  dsimp only [wpT]
  go_wp2_with fail
  go_ret
  exact ⟨rfl, M4.end_⟩
end Go.Proofs.Ytgneclfnfnpmkaa
