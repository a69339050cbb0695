/-
  Walks of package curve: secrets and points made whole, a step of the ladder; own work.
-/
import Derived.Test.YtgneclfnfnpmkaaFldD
import Derived.Test.YtgneclfnfnpmkaaDh
import Derived.Test.YtgneclfnfnpmkaaStep
set_option linter.unusedSimpArgs false
set_option linter.unusedVariables false
namespace Go.Proofs.Ytgneclfnfnpmkaa
open Go.RowKit Fp
def cl0 (x : BitVec 8) : BitVec 8 := x &&& 248#8
def cl31 (x : BitVec 8) : BitVec 8 := (x &&& 127#8) ||| 64#8
def hi0 (x : BitVec 8) : BitVec 8 := x &&& 127#8
section
variable {t : TypeId}
theorem cl0_eq (x : BitVec 8) : x &&& 248#8 = cl0 x := rfl
theorem cl31_eq (x : BitVec 8) : (x &&& 127#8) ||| 64#8 = cl31 x := rfl
theorem hi0_eq (x : BitVec 8) : x &&& 127#8 = hi0 x := rfl
theorem cl0_eq2 : ∀ x : BitVec 8, x / 8#8 * 8#8 = cl0 x := by decide +kernel
theorem cl31_eq2 : ∀ x : BitVec 8, x % 64#8 + 64#8 = cl31 x := by decide +kernel
theorem quo8 (x : BitVec 8) : binOp .quo t (U8 x) (.int .u8 8) = pure (U8 (x / 8#8)) := by
  show Sem.pure (Value.int .u8 (IntKind.u8.wrap ((x.toNat : Int).tdiv 8))) = Sem.pure (Value.int .u8 ((x / 8#8).toNat : Int))
  have e : (x.toNat : Int).tdiv 8 = ((x.toNat / 8 : Nat) : Int) := rfl
  have := x.isLt
  rw [e, IntKind.wrap_u8, BitVec.toNat_udiv, Int.emod_eq_of_lt (by omega) (by omega)]; rfl
theorem rem64 (x : BitVec 8) : binOp .rem t (U8 x) (.int .u8 64) = pure (U8 (x % 64#8)) := by
  show Sem.pure (Value.int .u8 ((x.toNat : Int).tmod 64)) = Sem.pure (Value.int .u8 ((x % 64#8).toNat : Int))
  rw [BitVec.toNat_umod]; rfl
theorem hi0_mod : ∀ x : BitVec 8, x % 128#8 = hi0 x := by decide +kernel
theorem rem128 (x : BitVec 8) : binOp .rem t (U8 x) (.int .u8 128) = pure (U8 (hi0 x)) := by
  rw [← hi0_mod]
  show Sem.pure (Value.int .u8 ((x.toNat : Int).tmod 128)) = Sem.pure (Value.int .u8 ((x % 128#8).toNat : Int))
  rw [BitVec.toNat_umod]; rfl
end
attribute [local irreducible] cl0 cl31 hi0
/-- a secret made whole -/
def clampB (a : List (BitVec 8)) : List (BitVec 8) := (a.set 0 (cl0 (g8 a 0))).set 31 (cl31 (g8 (a.set 0 (cl0 (g8 a 0))) 31))
def maskB (a : List (BitVec 8)) : List (BitVec 8) := a.set 31 (hi0 (g8 a 31))
@[simp] theorem clampB_len (a : List (BitVec 8)) : (clampB a).length = a.length := by unfold clampB; simp
@[simp] theorem maskB_len (a : List (BitVec 8)) : (maskB a).length = a.length := by unfold maskB; simp
set_option maxRecDepth 100000 in
set_option maxHeartbeats 1000000 in
theorem clamp_any (w : World) (a : List (BitVec 8)) (ha : a.length = 32) :
    Calls Try.prog 34 #[.agg (cs U8 a)] w fun e w' => e = .returned (.agg (cs U8 (clampB a))) ∧ Below w.heap.size w w' := by
  have M0 := Mm.start no w
  go_enter Try.func34, Try.ntmps34
  have M2 := ((M0.alloc (cs U8 a) 23 (by decide)).alloc (cs U8 (zs 32)) 23 (by decide))
  try simp only [World.size_alloc] at M2
  go_upto_region 1 with fail
  obtain ⟨w1, hw1⟩ : ∃ w1, w1 = ((w.alloc (.cells (cs U8 a) 23)).alloc (.cells (cs U8 (zs 32)) 23)) := ⟨_, rfl⟩
  rw [← hw1] at M2 ⊢
  clear hw1
  refine wp_region_seqF 4 [3, 4, 5, 6] [] [] [] (.op 4 .done) (Mm no w _) (by kernel_rfl) (by kernel_rfl) (fun d _ _ _ _ h => by cases d <;> exact h) (by rfl) M2.size (fun _ _ h k => h.sf k) M2 (by kernel_rfl) ?_
  simp only [List.take_succ_cons, List.take_zero]
  refine SeqA.pure (.pointer (some ⟨w.heap.size, 0, none⟩)) (fun w' => by go_simp) rfl rfl ?_
  refine SeqA.read (U8 (g8 a 0)) (fun w' M => by have c0 := cell_g8 (M.row (b := w.heap.size) (c := cs U8 a) (by simp)) (i := 0) (by rw [ha]; decide); go_simp) rfl rfl ?_
  refine SeqA.pure (U8 (cl0 (g8 a 0))) (fun w' => by have q := cl0_eq (g8 a 0); go_simp) rfl rfl ?_
  refine SeqA.pure (.pointer (some ⟨w.heap.size, 0, none⟩)) (fun w' => by go_simp) rfl rfl ?_
  refine SeqA.nil (fun w3 M4 hz => ?_)
  show wpT _ _ _ _ _ _
  simp only [Act.put, List.setIfInBounds_toArray, List.set_cons_succ, List.set_cons_zero]
  refine wpT_stc M4 1 (U8 (cl0 (g8 a 0))) (cs U8 (a.set 0 (cl0 (g8 a 0)))) inf_u8 rfl rfl rfl rfl (by go_simp) (by go_simp) (by have := (by rw [ha]; decide : 0 < a.length); first | (simp; done) | (simpa using this) | (simp; omega)) (by simp [go_sem]) (cs_set _ _) rfl (fun w5 M6 => ?_)
  dsimp only [List.set] at M6
  dsimp only [wpT]
  go_upto_region 2 with fail
  refine wp_region_seqF 5 [7, 8, 9, 10, 11] [] [] [] (.op 5 .done) (Mm no w _) (by kernel_rfl) (by kernel_rfl) (fun d _ _ _ _ h => by cases d <;> exact h) (by rfl) M6.size (fun _ _ h k => h.sf k) M6 (by kernel_rfl) ?_
  simp only [List.take_succ_cons, List.take_zero]
  refine SeqA.pure (.pointer (some ⟨w.heap.size, 31, none⟩)) (fun w' => by go_simp) rfl rfl ?_
  refine SeqA.read (U8 (g8 ((a.set 0 (cl0 (g8 a 0)))) 31)) (fun w' M => by have c0 := cell_g8 (M.row (b := w.heap.size) (c := cs U8 (a.set 0 (cl0 (g8 a 0)))) (by simp)) (i := 31) (by rw [List.length_set, ha]; decide); go_simp) rfl rfl ?_
  refine SeqA.pure (U8 ((g8 (a.set 0 (cl0 (g8 a 0))) 31) &&& 127#8)) (fun w' => by go_simp) rfl rfl ?_
  refine SeqA.pure (U8 (cl31 (g8 (a.set 0 (cl0 (g8 a 0))) 31))) (fun w' => by have q := cl31_eq (g8 (a.set 0 (cl0 (g8 a 0))) 31); go_simp) rfl rfl ?_
  refine SeqA.pure (.pointer (some ⟨w.heap.size, 31, none⟩)) (fun w' => by go_simp) rfl rfl ?_
  refine SeqA.nil (fun w7 M8 hz => ?_)
  show wpT _ _ _ _ _ _
  simp only [Act.put, List.setIfInBounds_toArray, List.set_cons_succ, List.set_cons_zero]
  refine wpT_stc M8 1 (U8 (cl31 (g8 (a.set 0 (cl0 (g8 a 0))) 31))) (cs U8 (((a.set 0 (cl0 (g8 a 0)))).set 31 (cl31 (g8 (a.set 0 (cl0 (g8 a 0))) 31)))) inf_u8 rfl rfl rfl rfl (by go_simp) (by go_simp) (by have := (by rw [List.length_set, ha]; decide : 31 < ((a.set 0 (cl0 (g8 a 0)))).length); first | (simp; done) | (simpa using this) | (simp; omega)) (by simp [go_sem]) (cs_set _ _) rfl (fun w9 M10 => ?_)
  dsimp only [List.set] at M10
  dsimp only [wpT]
  go_upto_region 3 with fail
  refine wp_region_seqF 1 [12] [] [] [] (.op 1 .done) (Mm no w _) (by kernel_rfl) (by kernel_rfl) (fun d _ _ _ _ h => by cases d <;> exact h) (by rfl) M10.size (fun _ _ h k => h.sf k) M10 (by kernel_rfl) ?_
  simp only [List.take_succ_cons, List.take_zero]
  refine SeqA.ld0 Try.underlying23 rfl inf_key (w.heap.size) (cs U8 (((a.set 0 (cl0 (g8 a 0)))).set 31 (cl31 (g8 (a.set 0 (cl0 (g8 a 0))) 31)))) rfl (by go_simp) (fun _ M => M.row (by simp)) (by simp [ha]) rfl ?_
  refine SeqA.nil (fun w11 M12 hz => ?_)
  show wpT _ _ _ _ _ _
  simp only [Act.put, List.setIfInBounds_toArray, List.set_cons_succ, List.set_cons_zero]
  refine wpT_st0 M12 0 (cs U8 (((a.set 0 (cl0 (g8 a 0)))).set 31 (cl31 (g8 (a.set 0 (cl0 (g8 a 0))) 31)))) inf_key rfl rfl rfl rfl (by go_simp) (by go_simp) (by simp [ha]) (by simp [ha]) (by simp [go_sem]) rfl (fun w13 M14 => ?_)
  dsimp only [List.set] at M14
  dsimp only [wpT]
  go_wp2_with fail
  have r15 := M14.row (b := w.heap.size + 1) (c := cs U8 (((a.set 0 (cl0 (g8 a 0)))).set 31 (cl31 (g8 (a.set 0 (cl0 (g8 a 0))) 31)))) (by simp)
  refine bodyPost_ret (res_row (b := w.heap.size + 1) rfl Try.underlying23 rfl inf_key _ _ rfl (by rw [r15]; simp [ha])) rfl ?_
  rw [r15]
  exact ⟨rfl, M14.end_⟩
set_option maxRecDepth 100000 in
set_option maxHeartbeats 1000000 in
theorem rclamp_any (w : World) (a : List (BitVec 8)) (ha : a.length = 32) :
    Calls Try.prog 35 #[.agg (cs U8 a)] w fun e w' => e = .returned (.agg (cs U8 (clampB a))) ∧ Below w.heap.size w w' := by
  have M0 := Mm.start no w
  go_enter Try.func35, Try.ntmps35
  have M2 := ((M0.alloc (cs U8 a) 23 (by decide)).alloc (cs U8 (zs 32)) 23 (by decide))
  try simp only [World.size_alloc] at M2
  go_upto_region 1 with fail
  obtain ⟨w1, hw1⟩ : ∃ w1, w1 = ((w.alloc (.cells (cs U8 a) 23)).alloc (.cells (cs U8 (zs 32)) 23)) := ⟨_, rfl⟩
  rw [← hw1] at M2 ⊢
  clear hw1
  refine wp_region_seqF 5 [3, 4, 5, 6, 7] [] [] [] (.op 5 .done) (Mm no w _) (by kernel_rfl) (by kernel_rfl) (fun d _ _ _ _ h => by cases d <;> exact h) (by rfl) M2.size (fun _ _ h k => h.sf k) M2 (by kernel_rfl) ?_
  simp only [List.take_succ_cons, List.take_zero]
  refine SeqA.pure (.pointer (some ⟨w.heap.size, 0, none⟩)) (fun w' => by go_simp) rfl rfl ?_
  refine SeqA.read (U8 (g8 a 0)) (fun w' M => by have c0 := cell_g8 (M.row (b := w.heap.size) (c := cs U8 a) (by simp)) (i := 0) (by rw [ha]; decide); go_simp) rfl rfl ?_
  refine SeqA.pure (U8 ((g8 a 0) / 8#8)) (fun w' => by have q := quo8 (t := 5) (g8 a 0); go_simp) rfl rfl ?_
  refine SeqA.pure (U8 (cl0 (g8 a 0))) (fun w' => by have q := cl0_eq2 (g8 a 0); go_simp) rfl rfl ?_
  refine SeqA.pure (.pointer (some ⟨w.heap.size, 0, none⟩)) (fun w' => by go_simp) rfl rfl ?_
  refine SeqA.nil (fun w3 M4 hz => ?_)
  show wpT _ _ _ _ _ _
  simp only [Act.put, List.setIfInBounds_toArray, List.set_cons_succ, List.set_cons_zero]
  refine wpT_stc M4 1 (U8 (cl0 (g8 a 0))) (cs U8 (a.set 0 (cl0 (g8 a 0)))) inf_u8 rfl rfl rfl rfl (by go_simp) (by go_simp) (by have := (by rw [ha]; decide : 0 < a.length); first | (simp; done) | (simpa using this) | (simp; omega)) (by simp [go_sem]) (cs_set _ _) rfl (fun w5 M6 => ?_)
  dsimp only [List.set] at M6
  dsimp only [wpT]
  go_upto_region 2 with fail
  refine wp_region_seqF 5 [8, 9, 10, 11, 12] [] [] [] (.op 5 .done) (Mm no w _) (by kernel_rfl) (by kernel_rfl) (fun d _ _ _ _ h => by cases d <;> exact h) (by rfl) M6.size (fun _ _ h k => h.sf k) M6 (by kernel_rfl) ?_
  simp only [List.take_succ_cons, List.take_zero]
  refine SeqA.pure (.pointer (some ⟨w.heap.size, 31, none⟩)) (fun w' => by go_simp) rfl rfl ?_
  refine SeqA.read (U8 (g8 ((a.set 0 (cl0 (g8 a 0)))) 31)) (fun w' M => by have c0 := cell_g8 (M.row (b := w.heap.size) (c := cs U8 (a.set 0 (cl0 (g8 a 0)))) (by simp)) (i := 31) (by rw [List.length_set, ha]; decide); go_simp) rfl rfl ?_
  refine SeqA.pure (U8 ((g8 (a.set 0 (cl0 (g8 a 0))) 31) % 64#8)) (fun w' => by have q := rem64 (t := 5) (g8 (a.set 0 (cl0 (g8 a 0))) 31); go_simp) rfl rfl ?_
  refine SeqA.pure (U8 (cl31 (g8 (a.set 0 (cl0 (g8 a 0))) 31))) (fun w' => by have q := cl31_eq2 (g8 (a.set 0 (cl0 (g8 a 0))) 31); go_simp) rfl rfl ?_
  refine SeqA.pure (.pointer (some ⟨w.heap.size, 31, none⟩)) (fun w' => by go_simp) rfl rfl ?_
  refine SeqA.nil (fun w7 M8 hz => ?_)
  show wpT _ _ _ _ _ _
  simp only [Act.put, List.setIfInBounds_toArray, List.set_cons_succ, List.set_cons_zero]
  refine wpT_stc M8 1 (U8 (cl31 (g8 (a.set 0 (cl0 (g8 a 0))) 31))) (cs U8 (((a.set 0 (cl0 (g8 a 0)))).set 31 (cl31 (g8 (a.set 0 (cl0 (g8 a 0))) 31)))) inf_u8 rfl rfl rfl rfl (by go_simp) (by go_simp) (by have := (by rw [List.length_set, ha]; decide : 31 < ((a.set 0 (cl0 (g8 a 0)))).length); first | (simp; done) | (simpa using this) | (simp; omega)) (by simp [go_sem]) (cs_set _ _) rfl (fun w9 M10 => ?_)
  dsimp only [List.set] at M10
  dsimp only [wpT]
  go_upto_region 3 with fail
  refine wp_region_seqF 1 [13] [] [] [] (.op 1 .done) (Mm no w _) (by kernel_rfl) (by kernel_rfl) (fun d _ _ _ _ h => by cases d <;> exact h) (by rfl) M10.size (fun _ _ h k => h.sf k) M10 (by kernel_rfl) ?_
  simp only [List.take_succ_cons, List.take_zero]
  refine SeqA.ld0 Try.underlying23 rfl inf_key (w.heap.size) (cs U8 (((a.set 0 (cl0 (g8 a 0)))).set 31 (cl31 (g8 (a.set 0 (cl0 (g8 a 0))) 31)))) rfl (by go_simp) (fun _ M => M.row (by simp)) (by simp [ha]) rfl ?_
  refine SeqA.nil (fun w11 M12 hz => ?_)
  show wpT _ _ _ _ _ _
  simp only [Act.put, List.setIfInBounds_toArray, List.set_cons_succ, List.set_cons_zero]
  refine wpT_st0 M12 0 (cs U8 (((a.set 0 (cl0 (g8 a 0)))).set 31 (cl31 (g8 (a.set 0 (cl0 (g8 a 0))) 31)))) inf_key rfl rfl rfl rfl (by go_simp) (by go_simp) (by simp [ha]) (by simp [ha]) (by simp [go_sem]) rfl (fun w13 M14 => ?_)
  dsimp only [List.set] at M14
  dsimp only [wpT]
  go_wp2_with fail
  have r15 := M14.row (b := w.heap.size + 1) (c := cs U8 (((a.set 0 (cl0 (g8 a 0)))).set 31 (cl31 (g8 (a.set 0 (cl0 (g8 a 0))) 31)))) (by simp)
  refine bodyPost_ret (res_row (b := w.heap.size + 1) rfl Try.underlying23 rfl inf_key _ _ rfl (by rw [r15]; simp [ha])) rfl ?_
  rw [r15]
  exact ⟨rfl, M14.end_⟩
set_option maxRecDepth 100000 in
set_option maxHeartbeats 1000000 in
theorem point_any (w : World) (a : List (BitVec 8)) (ha : a.length = 32) :
    Calls Try.prog 52 #[.agg (cs U8 a)] w fun e w' => e = .returned (.agg (cs U8 (K (Fk (maskB a))))) ∧ Below w.heap.size w w' := by
  have M0 := Mm.start no w
  go_enter Try.func52, Try.ntmps52
  have M2 := ((M0.alloc (cs U8 a) 23 (by decide)).alloc (cs U8 (zs 32)) 23 (by decide))
  try simp only [World.size_alloc] at M2
  go_upto_region 1 with fail
  obtain ⟨w1, hw1⟩ : ∃ w1, w1 = ((w.alloc (.cells (cs U8 a) 23)).alloc (.cells (cs U8 (zs 32)) 23)) := ⟨_, rfl⟩
  rw [← hw1] at M2 ⊢
  clear hw1
  refine wp_region_seqF 4 [3, 4, 5, 6] [] [] [] (.op 4 .done) (Mm no w _) (by kernel_rfl) (by kernel_rfl) (fun d _ _ _ _ h => by cases d <;> exact h) (by rfl) M2.size (fun _ _ h k => h.sf k) M2 (by kernel_rfl) ?_
  simp only [List.take_succ_cons, List.take_zero]
  refine SeqA.pure (.pointer (some ⟨w.heap.size, 31, none⟩)) (fun w' => by go_simp) rfl rfl ?_
  refine SeqA.read (U8 (g8 a 31)) (fun w' M => by have c0 := cell_g8 (M.row (b := w.heap.size) (c := cs U8 a) (by simp)) (i := 31) (by rw [ha]; decide); go_simp) rfl rfl ?_
  refine SeqA.pure (U8 (hi0 (g8 a 31))) (fun w' => by have q := hi0_eq (g8 a 31); go_simp) rfl rfl ?_
  refine SeqA.pure (.pointer (some ⟨w.heap.size, 31, none⟩)) (fun w' => by go_simp) rfl rfl ?_
  refine SeqA.nil (fun w3 M4 hz => ?_)
  show wpT _ _ _ _ _ _
  simp only [Act.put, List.setIfInBounds_toArray, List.set_cons_succ, List.set_cons_zero]
  refine wpT_stc M4 1 (U8 (hi0 (g8 a 31))) (cs U8 (a.set 31 (hi0 (g8 a 31)))) inf_u8 rfl rfl rfl rfl (by go_simp) (by go_simp) (by have := (by rw [ha]; decide : 31 < a.length); first | (simp; done) | (simpa using this) | (simp; omega)) (by simp [go_sem]) (cs_set _ _) rfl (fun w5 M6 => ?_)
  dsimp only [List.set] at M6
  dsimp only [wpT]
  go_upto_region 2 with fail
  refine wp_region_seqF 2 [7, 8] [] [] [] (.op 2 .done) (Mm no w _) (by kernel_rfl) (by kernel_rfl) (fun d _ _ _ _ h => by cases d <;> exact h) (by rfl) M6.size (fun _ _ h k => h.sf k) M6 (by kernel_rfl) ?_
  simp only [List.take_succ_cons, List.take_zero]
  refine SeqA.ld0 Try.underlying23 rfl inf_key (w.heap.size) (cs U8 (a.set 31 (hi0 (g8 a 31)))) rfl (by go_simp) (fun _ M => M.row (by simp)) (by simp [ha]) rfl ?_
  refine SeqA.call _ _ _ (fun w' => by go_simp) (fun w' hI _ => fcanon_c w' (a.set 31 (hi0 (g8 a 31))) (by simp [ha]) (Fk (a.set 31 (hi0 (g8 a 31)))) (rfl)) M6.size rfl rfl ?_
  refine SeqA.nil (fun w7 M8 hz => ?_)
  show wpT _ _ _ _ _ _
  simp only [Act.put, List.setIfInBounds_toArray, List.set_cons_succ, List.set_cons_zero]
  refine wpT_st0 M8 0 (cs U8 (K ((Fk (a.set 31 (hi0 (g8 a 31))))))) inf_key rfl rfl rfl rfl (by go_simp) (by go_simp) (by simp [ha]) (by simp [ha]) (by simp [go_sem]) rfl (fun w9 M10 => ?_)
  dsimp only [List.set] at M10
  dsimp only [wpT]
  go_wp2_with fail
  have r11 := M10.row (b := w.heap.size + 1) (c := cs U8 (K ((Fk (a.set 31 (hi0 (g8 a 31))))))) (by simp)
  refine bodyPost_ret (res_row (b := w.heap.size + 1) rfl Try.underlying23 rfl inf_key _ _ rfl (by rw [r11]; simp [ha])) rfl ?_
  rw [r11]
  exact ⟨rfl, M10.end_⟩
set_option maxRecDepth 100000 in
set_option maxHeartbeats 1000000 in
theorem rpoint_any (w : World) (a : List (BitVec 8)) (ha : a.length = 32) :
    Calls Try.prog 54 #[.agg (cs U8 a)] w fun e w' => e = .returned (.agg (cs U8 (K (Fk (maskB a))))) ∧ Below w.heap.size w w' := by
  have M0 := Mm.start no w
  go_enter Try.func54, Try.ntmps54
  have M2 := ((M0.alloc (cs U8 a) 23 (by decide)).alloc (cs U8 (zs 32)) 23 (by decide))
  try simp only [World.size_alloc] at M2
  go_upto_region 1 with fail
  obtain ⟨w1, hw1⟩ : ∃ w1, w1 = ((w.alloc (.cells (cs U8 a) 23)).alloc (.cells (cs U8 (zs 32)) 23)) := ⟨_, rfl⟩
  rw [← hw1] at M2 ⊢
  clear hw1
  refine wp_region_seqF 4 [3, 4, 5, 6] [] [] [] (.op 4 .done) (Mm no w _) (by kernel_rfl) (by kernel_rfl) (fun d _ _ _ _ h => by cases d <;> exact h) (by rfl) M2.size (fun _ _ h k => h.sf k) M2 (by kernel_rfl) ?_
  simp only [List.take_succ_cons, List.take_zero]
  refine SeqA.pure (.pointer (some ⟨w.heap.size, 31, none⟩)) (fun w' => by go_simp) rfl rfl ?_
  refine SeqA.read (U8 (g8 a 31)) (fun w' M => by have c0 := cell_g8 (M.row (b := w.heap.size) (c := cs U8 a) (by simp)) (i := 31) (by rw [ha]; decide); go_simp) rfl rfl ?_
  refine SeqA.pure (U8 (hi0 (g8 a 31))) (fun w' => by have q := rem128 (t := 5) (g8 a 31); go_simp) rfl rfl ?_
  refine SeqA.pure (.pointer (some ⟨w.heap.size, 31, none⟩)) (fun w' => by go_simp) rfl rfl ?_
  refine SeqA.nil (fun w3 M4 hz => ?_)
  show wpT _ _ _ _ _ _
  simp only [Act.put, List.setIfInBounds_toArray, List.set_cons_succ, List.set_cons_zero]
  refine wpT_stc M4 1 (U8 (hi0 (g8 a 31))) (cs U8 (a.set 31 (hi0 (g8 a 31)))) inf_u8 rfl rfl rfl rfl (by go_simp) (by go_simp) (by have := (by rw [ha]; decide : 31 < a.length); first | (simp; done) | (simpa using this) | (simp; omega)) (by simp [go_sem]) (cs_set _ _) rfl (fun w5 M6 => ?_)
  dsimp only [List.set] at M6
  dsimp only [wpT]
  go_upto_region 2 with fail
  refine wp_region_seqF 2 [7, 8] [] [] [] (.op 2 .done) (Mm no w _) (by kernel_rfl) (by kernel_rfl) (fun d _ _ _ _ h => by cases d <;> exact h) (by rfl) M6.size (fun _ _ h k => h.sf k) M6 (by kernel_rfl) ?_
  simp only [List.take_succ_cons, List.take_zero]
  refine SeqA.ld0 Try.underlying23 rfl inf_key (w.heap.size) (cs U8 (a.set 31 (hi0 (g8 a 31)))) rfl (by go_simp) (fun _ M => M.row (by simp)) (by simp [ha]) rfl ?_
  refine SeqA.call _ _ _ (fun w' => by go_simp) (fun w' hI _ => rcanon_c w' (a.set 31 (hi0 (g8 a 31))) (by simp [ha]) (Fk (a.set 31 (hi0 (g8 a 31)))) (rfl)) M6.size rfl rfl ?_
  refine SeqA.nil (fun w7 M8 hz => ?_)
  show wpT _ _ _ _ _ _
  simp only [Act.put, List.setIfInBounds_toArray, List.set_cons_succ, List.set_cons_zero]
  refine wpT_st0 M8 0 (cs U8 (K ((Fk (a.set 31 (hi0 (g8 a 31))))))) inf_key rfl rfl rfl rfl (by go_simp) (by go_simp) (by simp [ha]) (by simp [ha]) (by simp [go_sem]) rfl (fun w9 M10 => ?_)
  dsimp only [List.set] at M10
  dsimp only [wpT]
  go_wp2_with fail
  have r11 := M10.row (b := w.heap.size + 1) (c := cs U8 (K ((Fk (a.set 31 (hi0 (g8 a 31))))))) (by simp)
  refine bodyPost_ret (res_row (b := w.heap.size + 1) rfl Try.underlying23 rfl inf_key _ _ rfl (by rw [r11]; simp [ha])) rfl ?_
  rw [r11]
  exact ⟨rfl, M10.end_⟩
@[go_sem] theorem xb_num121665 (w : World) : exBuild Try.prog 42 #[(0, .int .u64 121665)] w = .ok (.value (.agg (cs N64 (limbs 121665)))) w := by
  unfold exBuild; rw [run_build w _ _ (cs N64 (limbs 121665)) (by kernel_rfl)]; rfl
@[go_sem] theorem xb_num1 (w : World) : exBuild Try.prog 42 #[(0, .int .u64 1)] w = .ok (.value (.agg (cs N64 (limbs 1)))) w := by
  unfold exBuild; rw [run_build w _ _ (cs N64 (limbs 1)) (by kernel_rfl)]; rfl
@[go_sem ↓] theorem rb_num (ρ : Operand → Value) (dst : Option Tmp) (ty : TypeId) (pos : String) (after : Array Edge) (guard : Option (Nat × Bool)) (w : World) (ps : Array (Nat × Operand)) :
    (execOp ρ { dst, op := .build 42 ps, type := ty, pos, after, guard }).run Try.prog w = exBuild Try.prog 42 (ps.map fun p => (p.1, ρ p.2)) w := x_build ..
set_option maxRecDepth 100000 in
set_option maxHeartbeats 2000000 in
theorem step_any (w : World) (b u x z X Z : Nat) (M : Mm (fun g => g = b) w [(b, cs N64 (limbs u ++ limbs x ++ limbs z ++ limbs X ++ limbs Z))] w) :
    Calls Try.prog 63 #[.pointer (some ⟨b, 0, none⟩)] w fun e w' => e = .returned (.tuple #[]) ∧ Mm (fun g => g = b) w [(b, cs N64 (limbs u ++ limbs (mulV (mulV (addV x z) (addV x z)) (mulV (subV x z) (subV x z))) ++ limbs (mulV (subV (mulV (addV x z) (addV x z)) (mulV (subV x z) (subV x z))) (addV (mulV (addV x z) (addV x z)) (mulV (subV (mulV (addV x z) (addV x z)) (mulV (subV x z) (subV x z))) 121665))) ++ limbs (mulV (addV (mulV (subV X Z) (addV x z)) (mulV (addV X Z) (subV x z))) (addV (mulV (subV X Z) (addV x z)) (mulV (addV X Z) (subV x z)))) ++ limbs (mulV u (mulV (subV (mulV (subV X Z) (addV x z)) (mulV (addV X Z) (subV x z))) (subV (mulV (subV X Z) (addV x z)) (mulV (addV X Z) (subV x z)))))))] w' := by
  go_enter Try.func63, Try.ntmps63
  go_upto_region 0 with fail
  refine wp_region_seq 20 [11, 12, 13, 14, 15, 16, 17, 18, 19, 20, 21, 22, 23, 24, 25, 26, 27, 28, 2, 3] [] [] [] (.op 20 (.op 21 .done)) (Mm (fun g => g = b) w _) (by kernel_rfl) (by kernel_rfl) (by kernel_rfl) (fun d _ _ _ _ h => by cases d <;> exact h) (by rfl) M.size (fun _ _ h k => h.sf k) M ?_
  simp only [List.take_succ_cons, List.take_zero]
  refine SeqA.pure (.pointer (some ⟨b, 0, none⟩)) (fun w' => by go_simp) rfl rfl ?_
  refine SeqA.pure (.pointer (some ⟨b, 0, none⟩)) (fun w' => by go_simp) rfl rfl ?_
  refine SeqA.pure (.pointer (some ⟨b, 4, none⟩)) (fun w' => by go_simp) rfl rfl ?_
  refine SeqA.ldm Try.underlying42 rfl inf_num (b) 4 (cs N64 (limbs u ++ limbs x ++ limbs z ++ limbs X ++ limbs Z)) (cs N64 (limbs x)) rfl (by go_simp) (fun _ M => M.row (by simp)) (by simp []) (by rw [cs_extract] <;> congr 1 <;> first | (simp []; done) | simp [List.take_append, List.drop_append, List.take_of_length_le, ]) rfl ?_
  refine SeqA.pure (.pointer (some ⟨b, 0, none⟩)) (fun w' => by go_simp) rfl rfl ?_
  simp only [Act.put, List.setIfInBounds_toArray, List.set_cons_succ, List.set_cons_zero]
  refine SeqA.pure (.pointer (some ⟨b, 0, none⟩)) (fun w' => by go_simp) rfl rfl ?_
  refine SeqA.pure (.pointer (some ⟨b, 8, none⟩)) (fun w' => by go_simp) rfl rfl ?_
  refine SeqA.ldm Try.underlying42 rfl inf_num (b) 8 (cs N64 (limbs u ++ limbs x ++ limbs z ++ limbs X ++ limbs Z)) (cs N64 (limbs z)) rfl (by go_simp) (fun _ M => M.row (by simp)) (by simp []) (by rw [cs_extract] <;> congr 1 <;> first | (simp []; done) | simp [List.take_append, List.drop_append, List.take_of_length_le, ]) rfl ?_
  refine SeqA.call _ _ _ (fun w' => by go_simp) (fun w' hI _ => nadd_any w' x z) M.size rfl rfl ?_
  refine SeqA.pure (.pointer (some ⟨b, 0, none⟩)) (fun w' => by go_simp) rfl rfl ?_
  refine SeqA.pure (.pointer (some ⟨b, 0, none⟩)) (fun w' => by go_simp) rfl rfl ?_
  simp only [Act.put, List.setIfInBounds_toArray, List.set_cons_succ, List.set_cons_zero]
  refine SeqA.pure (.pointer (some ⟨b, 4, none⟩)) (fun w' => by go_simp) rfl rfl ?_
  refine SeqA.ldm Try.underlying42 rfl inf_num (b) 4 (cs N64 (limbs u ++ limbs x ++ limbs z ++ limbs X ++ limbs Z)) (cs N64 (limbs x)) rfl (by go_simp) (fun _ M => M.row (by simp)) (by simp []) (by rw [cs_extract] <;> congr 1 <;> first | (simp []; done) | simp [List.take_append, List.drop_append, List.take_of_length_le, ]) rfl ?_
  refine SeqA.pure (.pointer (some ⟨b, 0, none⟩)) (fun w' => by go_simp) rfl rfl ?_
  refine SeqA.pure (.pointer (some ⟨b, 0, none⟩)) (fun w' => by go_simp) rfl rfl ?_
  refine SeqA.pure (.pointer (some ⟨b, 8, none⟩)) (fun w' => by go_simp) rfl rfl ?_
  refine SeqA.ldm Try.underlying42 rfl inf_num (b) 8 (cs N64 (limbs u ++ limbs x ++ limbs z ++ limbs X ++ limbs Z)) (cs N64 (limbs z)) rfl (by go_simp) (fun _ M => M.row (by simp)) (by simp []) (by rw [cs_extract] <;> congr 1 <;> first | (simp []; done) | simp [List.take_append, List.drop_append, List.take_of_length_le, ]) rfl ?_
  simp only [Act.put, List.setIfInBounds_toArray, List.set_cons_succ, List.set_cons_zero]
  refine SeqA.call _ _ _ (fun w' => by go_simp) (fun w' hI _ => nsub_any w' x z) M.size rfl rfl ?_
  refine SeqA.var (z := .agg (cs N64 (limbs 0))) (by kernel_rfl) rfl rfl (by decide) rfl ?_
  refine SeqA.var (z := .agg (cs N64 (limbs 0))) (by kernel_rfl) rfl rfl (by decide) rfl ?_
  refine SeqA.nil (fun w1 M2 hz => ?_)
  refine news_one (fun b3 hb1 hb2 hb3 => ?_)
  have M4 := M.in_ (c := cs N64 (limbs 0)) M2 hb1 hb2 (by decide) hb3 rfl
  refine news_one (fun b5 hb1 hb2 hb3 => ?_)
  have M6 := M.in_ (c := cs N64 (limbs 0)) M4 hb1 hb2 (by decide) hb3 rfl
  show wpT _ _ _ _ _ _
  simp only [Act.put, List.setIfInBounds_toArray, List.set_cons_succ, List.set_cons_zero]
  refine wpT_st0 M6 0 (cs N64 (limbs (addV x z))) inf_num rfl rfl rfl rfl (by go_simp) (by go_simp) (by simp []) (by simp []) (by simp [go_sem]) rfl (fun w7 M8 => ?_)
  dsimp only [List.set] at M8
  refine wpT_st0 M8 1 (cs N64 (limbs (subV x z))) inf_num rfl rfl rfl rfl (by go_simp) (by go_simp) (by simp []) (by simp []) (by simp [go_sem]) rfl (fun w9 M10 => ?_)
  dsimp only [List.set] at M10
  dsimp only [wpT]
  go_upto_region 1 with fail
  refine wp_region_seq 8 [29, 30, 31, 32, 33, 34, 4, 5] [] [] [] (.op 8 (.op 9 .done)) (Mm (fun g => g = b) w _) (by kernel_rfl) (by kernel_rfl) (by kernel_rfl) (fun d _ _ _ _ h => by cases d <;> exact h) (by rfl) M10.size (fun _ _ h k => h.sf k) M10 ?_
  simp only [List.take_succ_cons, List.take_zero]
  refine SeqA.ld0 Try.underlying42 rfl inf_num (b5) (cs N64 (limbs (addV x z))) rfl (by go_simp) (fun _ M => M.row (by simp)) (by simp []) rfl ?_
  refine SeqA.ld0 Try.underlying42 rfl inf_num (b5) (cs N64 (limbs (addV x z))) rfl (by go_simp) (fun _ M => M.row (by simp)) (by simp []) rfl ?_
  refine SeqA.call _ _ _ (fun w' => by go_simp) (fun w' hI _ => nmul_any w' (addV x z) (addV x z)) M10.size rfl rfl ?_
  refine SeqA.ld0 Try.underlying42 rfl inf_num (b3) (cs N64 (limbs (subV x z))) rfl (by go_simp) (fun _ M => M.row (by simp)) (by simp []) rfl ?_
  refine SeqA.ld0 Try.underlying42 rfl inf_num (b3) (cs N64 (limbs (subV x z))) rfl (by go_simp) (fun _ M => M.row (by simp)) (by simp []) rfl ?_
  simp only [Act.put, List.setIfInBounds_toArray, List.set_cons_succ, List.set_cons_zero]
  refine SeqA.call _ _ _ (fun w' => by go_simp) (fun w' hI _ => nmul_any w' (subV x z) (subV x z)) M10.size rfl rfl ?_
  refine SeqA.var (z := .agg (cs N64 (limbs 0))) (by kernel_rfl) rfl rfl (by decide) rfl ?_
  refine SeqA.var (z := .agg (cs N64 (limbs 0))) (by kernel_rfl) rfl rfl (by decide) rfl ?_
  refine SeqA.nil (fun w11 M12 hz => ?_)
  refine news_one (fun b13 hb1 hb2 hb3 => ?_)
  have M14 := M10.in_ (c := cs N64 (limbs 0)) M12 hb1 hb2 (by decide) hb3 rfl
  refine news_one (fun b15 hb1 hb2 hb3 => ?_)
  have M16 := M10.in_ (c := cs N64 (limbs 0)) M14 hb1 hb2 (by decide) hb3 rfl
  show wpT _ _ _ _ _ _
  simp only [Act.put, List.setIfInBounds_toArray, List.set_cons_succ, List.set_cons_zero]
  refine wpT_st0 M16 0 (cs N64 (limbs (mulV (addV x z) (addV x z)))) inf_num rfl rfl rfl rfl (by go_simp) (by go_simp) (by simp []) (by simp []) (by simp [go_sem]) rfl (fun w17 M18 => ?_)
  dsimp only [List.set] at M18
  refine wpT_st0 M18 1 (cs N64 (limbs (mulV (subV x z) (subV x z)))) inf_num rfl rfl rfl rfl (by go_simp) (by go_simp) (by simp []) (by simp []) (by simp [go_sem]) rfl (fun w19 M20 => ?_)
  dsimp only [List.set] at M20
  dsimp only [wpT]
  go_upto_region 2 with fail
  refine wp_region_seqF 4 [35, 36, 37, 6] [] [] [] (.op 4 .done) (Mm (fun g => g = b) w _) (by kernel_rfl) (by kernel_rfl) (fun d _ _ _ _ h => by cases d <;> exact h) (by rfl) M20.size (fun _ _ h k => h.sf k) M20 (by kernel_rfl) ?_
  simp only [List.take_succ_cons, List.take_zero]
  refine SeqA.ld0 Try.underlying42 rfl inf_num (b15) (cs N64 (limbs (mulV (addV x z) (addV x z)))) rfl (by go_simp) (fun _ M => M.row (by simp)) (by simp []) rfl ?_
  refine SeqA.ld0 Try.underlying42 rfl inf_num (b13) (cs N64 (limbs (mulV (subV x z) (subV x z)))) rfl (by go_simp) (fun _ M => M.row (by simp)) (by simp []) rfl ?_
  refine SeqA.call _ _ _ (fun w' => by go_simp) (fun w' hI _ => nsub_any w' (mulV (addV x z) (addV x z)) (mulV (subV x z) (subV x z))) M20.size rfl rfl ?_
  refine SeqA.var (z := .agg (cs N64 (limbs 0))) (by kernel_rfl) rfl rfl (by decide) rfl ?_
  refine SeqA.nil (fun w21 M22 hz => ?_)
  refine news_one (fun b23 hb1 hb2 hb3 => ?_)
  have M24 := M20.in_ (c := cs N64 (limbs 0)) M22 hb1 hb2 (by decide) hb3 rfl
  show wpT _ _ _ _ _ _
  simp only [Act.put, List.setIfInBounds_toArray, List.set_cons_succ, List.set_cons_zero]
  refine wpT_st0 M24 0 (cs N64 (limbs (subV (mulV (addV x z) (addV x z)) (mulV (subV x z) (subV x z))))) inf_num rfl rfl rfl rfl (by go_simp) (by go_simp) (by simp []) (by simp []) (by simp [go_sem]) rfl (fun w25 M26 => ?_)
  dsimp only [List.set] at M26
  dsimp only [wpT]
  go_upto_region 3 with fail
  refine wp_region_seq 12 [38, 39, 40, 41, 42, 43, 44, 45, 46, 47, 48, 7] [] [] [] (.op 12 .done) (Mm (fun g => g = b) w _) (by kernel_rfl) (by kernel_rfl) (by kernel_rfl) (fun d _ _ _ _ h => by cases d <;> exact h) (by rfl) M26.size (fun _ _ h k => h.sf k) M26 ?_
  simp only [List.take_succ_cons, List.take_zero]
  refine SeqA.pure (.pointer (some ⟨b, 0, none⟩)) (fun w' => by go_simp) rfl rfl ?_
  refine SeqA.pure (.pointer (some ⟨b, 0, none⟩)) (fun w' => by go_simp) rfl rfl ?_
  refine SeqA.pure (.pointer (some ⟨b, 12, none⟩)) (fun w' => by go_simp) rfl rfl ?_
  refine SeqA.ldm Try.underlying42 rfl inf_num (b) 12 (cs N64 (limbs u ++ limbs x ++ limbs z ++ limbs X ++ limbs Z)) (cs N64 (limbs X)) rfl (by go_simp) (fun _ M => M.row (by simp)) (by simp []) (by rw [cs_extract] <;> congr 1 <;> first | (simp []; done) | simp [List.take_append, List.drop_append, List.take_of_length_le, ]) rfl ?_
  refine SeqA.pure (.pointer (some ⟨b, 0, none⟩)) (fun w' => by go_simp) rfl rfl ?_
  simp only [Act.put, List.setIfInBounds_toArray, List.set_cons_succ, List.set_cons_zero]
  refine SeqA.pure (.pointer (some ⟨b, 0, none⟩)) (fun w' => by go_simp) rfl rfl ?_
  refine SeqA.pure (.pointer (some ⟨b, 16, none⟩)) (fun w' => by go_simp) rfl rfl ?_
  refine SeqA.ldm Try.underlying42 rfl inf_num (b) 16 (cs N64 (limbs u ++ limbs x ++ limbs z ++ limbs X ++ limbs Z)) (cs N64 (limbs Z)) rfl (by go_simp) (fun _ M => M.row (by simp)) (by simp []) (by rw [cs_extract] <;> congr 1 <;> first | (simp []; done) | simp [List.take_append, List.drop_append, List.take_of_length_le, ]) rfl ?_
  refine SeqA.call _ _ _ (fun w' => by go_simp) (fun w' hI _ => nsub_any w' X Z) M26.size rfl rfl ?_
  refine SeqA.ld0 Try.underlying42 rfl inf_num (b5) (cs N64 (limbs (addV x z))) rfl (by go_simp) (fun _ M => M.row (by simp)) (by simp []) rfl ?_
  refine SeqA.call _ _ _ (fun w' => by go_simp) (fun w' hI _ => nmul_any w' (subV X Z) (addV x z)) M26.size rfl rfl ?_
  simp only [Act.put, List.setIfInBounds_toArray, List.set_cons_succ, List.set_cons_zero]
  refine SeqA.var (z := .agg (cs N64 (limbs 0))) (by kernel_rfl) rfl rfl (by decide) rfl ?_
  refine SeqA.nil (fun w27 M28 hz => ?_)
  refine news_one (fun b29 hb1 hb2 hb3 => ?_)
  have M30 := M26.in_ (c := cs N64 (limbs 0)) M28 hb1 hb2 (by decide) hb3 rfl
  show wpT _ _ _ _ _ _
  simp only [Act.put, List.setIfInBounds_toArray, List.set_cons_succ, List.set_cons_zero]
  refine wpT_st0 M30 0 (cs N64 (limbs (mulV (subV X Z) (addV x z)))) inf_num rfl rfl rfl rfl (by go_simp) (by go_simp) (by simp []) (by simp []) (by simp [go_sem]) rfl (fun w31 M32 => ?_)
  dsimp only [List.set] at M32
  dsimp only [wpT]
  go_upto_region 4 with fail
  refine wp_region_seq 12 [49, 50, 51, 52, 53, 54, 55, 56, 57, 58, 59, 8] [] [] [] (.op 12 .done) (Mm (fun g => g = b) w _) (by kernel_rfl) (by kernel_rfl) (by kernel_rfl) (fun d _ _ _ _ h => by cases d <;> exact h) (by rfl) M32.size (fun _ _ h k => h.sf k) M32 ?_
  simp only [List.take_succ_cons, List.take_zero]
  refine SeqA.pure (.pointer (some ⟨b, 0, none⟩)) (fun w' => by go_simp) rfl rfl ?_
  refine SeqA.pure (.pointer (some ⟨b, 0, none⟩)) (fun w' => by go_simp) rfl rfl ?_
  refine SeqA.pure (.pointer (some ⟨b, 12, none⟩)) (fun w' => by go_simp) rfl rfl ?_
  refine SeqA.ldm Try.underlying42 rfl inf_num (b) 12 (cs N64 (limbs u ++ limbs x ++ limbs z ++ limbs X ++ limbs Z)) (cs N64 (limbs X)) rfl (by go_simp) (fun _ M => M.row (by simp)) (by simp []) (by rw [cs_extract] <;> congr 1 <;> first | (simp []; done) | simp [List.take_append, List.drop_append, List.take_of_length_le, ]) rfl ?_
  refine SeqA.pure (.pointer (some ⟨b, 0, none⟩)) (fun w' => by go_simp) rfl rfl ?_
  simp only [Act.put, List.setIfInBounds_toArray, List.set_cons_succ, List.set_cons_zero]
  refine SeqA.pure (.pointer (some ⟨b, 0, none⟩)) (fun w' => by go_simp) rfl rfl ?_
  refine SeqA.pure (.pointer (some ⟨b, 16, none⟩)) (fun w' => by go_simp) rfl rfl ?_
  refine SeqA.ldm Try.underlying42 rfl inf_num (b) 16 (cs N64 (limbs u ++ limbs x ++ limbs z ++ limbs X ++ limbs Z)) (cs N64 (limbs Z)) rfl (by go_simp) (fun _ M => M.row (by simp)) (by simp []) (by rw [cs_extract] <;> congr 1 <;> first | (simp []; done) | simp [List.take_append, List.drop_append, List.take_of_length_le, ]) rfl ?_
  refine SeqA.call _ _ _ (fun w' => by go_simp) (fun w' hI _ => nadd_any w' X Z) M32.size rfl rfl ?_
  refine SeqA.ld0 Try.underlying42 rfl inf_num (b3) (cs N64 (limbs (subV x z))) rfl (by go_simp) (fun _ M => M.row (by simp)) (by simp []) rfl ?_
  refine SeqA.call _ _ _ (fun w' => by go_simp) (fun w' hI _ => nmul_any w' (addV X Z) (subV x z)) M32.size rfl rfl ?_
  simp only [Act.put, List.setIfInBounds_toArray, List.set_cons_succ, List.set_cons_zero]
  refine SeqA.var (z := .agg (cs N64 (limbs 0))) (by kernel_rfl) rfl rfl (by decide) rfl ?_
  refine SeqA.nil (fun w33 M34 hz => ?_)
  refine news_one (fun b35 hb1 hb2 hb3 => ?_)
  have M36 := M32.in_ (c := cs N64 (limbs 0)) M34 hb1 hb2 (by decide) hb3 rfl
  show wpT _ _ _ _ _ _
  simp only [Act.put, List.setIfInBounds_toArray, List.set_cons_succ, List.set_cons_zero]
  refine wpT_st0 M36 0 (cs N64 (limbs (mulV (addV X Z) (subV x z)))) inf_num rfl rfl rfl rfl (by go_simp) (by go_simp) (by simp []) (by simp []) (by simp [go_sem]) rfl (fun w37 M38 => ?_)
  dsimp only [List.set] at M38
  dsimp only [wpT]
  go_upto_region 5 with fail
  refine wp_region_seq 8 [60, 61, 62, 63, 64, 65, 9, 10] [] [] [] (.op 8 (.op 9 .done)) (Mm (fun g => g = b) w _) (by kernel_rfl) (by kernel_rfl) (by kernel_rfl) (fun d _ _ _ _ h => by cases d <;> exact h) (by rfl) M38.size (fun _ _ h k => h.sf k) M38 ?_
  simp only [List.take_succ_cons, List.take_zero]
  refine SeqA.ld0 Try.underlying42 rfl inf_num (b29) (cs N64 (limbs (mulV (subV X Z) (addV x z)))) rfl (by go_simp) (fun _ M => M.row (by simp)) (by simp []) rfl ?_
  refine SeqA.ld0 Try.underlying42 rfl inf_num (b35) (cs N64 (limbs (mulV (addV X Z) (subV x z)))) rfl (by go_simp) (fun _ M => M.row (by simp)) (by simp []) rfl ?_
  refine SeqA.call _ _ _ (fun w' => by go_simp) (fun w' hI _ => nadd_any w' (mulV (subV X Z) (addV x z)) (mulV (addV X Z) (subV x z))) M38.size rfl rfl ?_
  refine SeqA.ld0 Try.underlying42 rfl inf_num (b29) (cs N64 (limbs (mulV (subV X Z) (addV x z)))) rfl (by go_simp) (fun _ M => M.row (by simp)) (by simp []) rfl ?_
  refine SeqA.ld0 Try.underlying42 rfl inf_num (b35) (cs N64 (limbs (mulV (addV X Z) (subV x z)))) rfl (by go_simp) (fun _ M => M.row (by simp)) (by simp []) rfl ?_
  simp only [Act.put, List.setIfInBounds_toArray, List.set_cons_succ, List.set_cons_zero]
  refine SeqA.call _ _ _ (fun w' => by go_simp) (fun w' hI _ => nsub_any w' (mulV (subV X Z) (addV x z)) (mulV (addV X Z) (subV x z))) M38.size rfl rfl ?_
  refine SeqA.var (z := .agg (cs N64 (limbs 0))) (by kernel_rfl) rfl rfl (by decide) rfl ?_
  refine SeqA.var (z := .agg (cs N64 (limbs 0))) (by kernel_rfl) rfl rfl (by decide) rfl ?_
  refine SeqA.nil (fun w39 M40 hz => ?_)
  refine news_one (fun b41 hb1 hb2 hb3 => ?_)
  have M42 := M38.in_ (c := cs N64 (limbs 0)) M40 hb1 hb2 (by decide) hb3 rfl
  refine news_one (fun b43 hb1 hb2 hb3 => ?_)
  have M44 := M38.in_ (c := cs N64 (limbs 0)) M42 hb1 hb2 (by decide) hb3 rfl
  show wpT _ _ _ _ _ _
  simp only [Act.put, List.setIfInBounds_toArray, List.set_cons_succ, List.set_cons_zero]
  refine wpT_st0 M44 0 (cs N64 (limbs (addV (mulV (subV X Z) (addV x z)) (mulV (addV X Z) (subV x z))))) inf_num rfl rfl rfl rfl (by go_simp) (by go_simp) (by simp []) (by simp []) (by simp [go_sem]) rfl (fun w45 M46 => ?_)
  dsimp only [List.set] at M46
  refine wpT_st0 M46 1 (cs N64 (limbs (subV (mulV (subV X Z) (addV x z)) (mulV (addV X Z) (subV x z))))) inf_num rfl rfl rfl rfl (by go_simp) (by go_simp) (by simp []) (by simp []) (by simp [go_sem]) rfl (fun w47 M48 => ?_)
  dsimp only [List.set] at M48
  dsimp only [wpT]
  go_upto_region 6 with fail
  refine wp_region_seqF 6 [66, 67, 68, 69, 70, 71] [] [] [] (.op 6 .done) (Mm (fun g => g = b) w _) (by kernel_rfl) (by kernel_rfl) (fun d _ _ _ _ h => by cases d <;> exact h) (by rfl) M48.size (fun _ _ h k => h.sf k) M48 (by kernel_rfl) ?_
  simp only [List.take_succ_cons, List.take_zero]
  refine SeqA.pure (.pointer (some ⟨b, 0, none⟩)) (fun w' => by go_simp) rfl rfl ?_
  refine SeqA.ld0 Try.underlying42 rfl inf_num (b43) (cs N64 (limbs (addV (mulV (subV X Z) (addV x z)) (mulV (addV X Z) (subV x z))))) rfl (by go_simp) (fun _ M => M.row (by simp)) (by simp []) rfl ?_
  refine SeqA.ld0 Try.underlying42 rfl inf_num (b43) (cs N64 (limbs (addV (mulV (subV X Z) (addV x z)) (mulV (addV X Z) (subV x z))))) rfl (by go_simp) (fun _ M => M.row (by simp)) (by simp []) rfl ?_
  refine SeqA.call _ _ _ (fun w' => by go_simp) (fun w' hI _ => nmul_any w' (addV (mulV (subV X Z) (addV x z)) (mulV (addV X Z) (subV x z))) (addV (mulV (subV X Z) (addV x z)) (mulV (addV X Z) (subV x z)))) M48.size rfl rfl ?_
  refine SeqA.pure (.pointer (some ⟨b, 0, none⟩)) (fun w' => by go_simp) rfl rfl ?_
  simp only [Act.put, List.setIfInBounds_toArray, List.set_cons_succ, List.set_cons_zero]
  refine SeqA.pure (.pointer (some ⟨b, 12, none⟩)) (fun w' => by go_simp) rfl rfl ?_
  refine SeqA.nil (fun w49 M50 hz => ?_)
  show wpT _ _ _ _ _ _
  simp only [Act.put, List.setIfInBounds_toArray, List.set_cons_succ, List.set_cons_zero]
  refine wpT_stm (off := 12) M50 9 (cs N64 (limbs (mulV (addV (mulV (subV X Z) (addV x z)) (mulV (addV X Z) (subV x z))) (addV (mulV (subV X Z) (addV x z)) (mulV (addV X Z) (subV x z)))))) (cs N64 (limbs u ++ limbs x ++ limbs z ++ (limbs (mulV (addV (mulV (subV X Z) (addV x z)) (mulV (addV X Z) (subV x z))) (addV (mulV (subV X Z) (addV x z)) (mulV (addV X Z) (subV x z))))) ++ limbs Z)) inf_num rfl rfl rfl rfl (by go_simp) (by go_simp) (by simp []) (by simp []) (by simp [go_sem]) (by rw [cs_extract, cs_extract, ← cs_append, ← cs_append] <;> congr 1 <;> simp []) rfl (fun w51 M52 => ?_)
  dsimp only [List.set] at M52
  dsimp only [wpT]
  go_upto_region 7 with fail
  refine wp_region_seq 11 [72, 73, 74, 75, 76, 77, 78, 79, 80, 81, 82] [] [] [] (.op 11 .done) (Mm (fun g => g = b) w _) (by kernel_rfl) (by kernel_rfl) (by kernel_rfl) (fun d _ _ _ _ h => by cases d <;> exact h) (by rfl) M52.size (fun _ _ h k => h.sf k) M52 ?_
  simp only [List.take_succ_cons, List.take_zero]
  refine SeqA.pure (.pointer (some ⟨b, 0, none⟩)) (fun w' => by go_simp) rfl rfl ?_
  refine SeqA.pure (.pointer (some ⟨b, 0, none⟩)) (fun w' => by go_simp) rfl rfl ?_
  refine SeqA.pure (.pointer (some ⟨b, 0, none⟩)) (fun w' => by go_simp) rfl rfl ?_
  refine SeqA.pure (.pointer (some ⟨b, 0, none⟩)) (fun w' => by go_simp) rfl rfl ?_
  refine SeqA.ldm Try.underlying42 rfl inf_num (b) 0 (cs N64 (limbs u ++ limbs x ++ limbs z ++ (limbs (mulV (addV (mulV (subV X Z) (addV x z)) (mulV (addV X Z) (subV x z))) (addV (mulV (subV X Z) (addV x z)) (mulV (addV X Z) (subV x z))))) ++ limbs Z)) (cs N64 (limbs u)) rfl (by go_simp) (fun _ M => M.row (by simp)) (by simp []) (by rw [cs_extract] <;> congr 1 <;> first | (simp []; done) | simp [List.take_append, List.drop_append, List.take_of_length_le, ]) rfl ?_
  simp only [Act.put, List.setIfInBounds_toArray, List.set_cons_succ, List.set_cons_zero]
  refine SeqA.ld0 Try.underlying42 rfl inf_num (b41) (cs N64 (limbs (subV (mulV (subV X Z) (addV x z)) (mulV (addV X Z) (subV x z))))) rfl (by go_simp) (fun _ M => M.row (by simp)) (by simp []) rfl ?_
  refine SeqA.ld0 Try.underlying42 rfl inf_num (b41) (cs N64 (limbs (subV (mulV (subV X Z) (addV x z)) (mulV (addV X Z) (subV x z))))) rfl (by go_simp) (fun _ M => M.row (by simp)) (by simp []) rfl ?_
  refine SeqA.call _ _ _ (fun w' => by go_simp) (fun w' hI _ => nmul_any w' (subV (mulV (subV X Z) (addV x z)) (mulV (addV X Z) (subV x z))) (subV (mulV (subV X Z) (addV x z)) (mulV (addV X Z) (subV x z)))) M52.size rfl rfl ?_
  refine SeqA.call _ _ _ (fun w' => by go_simp) (fun w' hI _ => nmul_any w' u (mulV (subV (mulV (subV X Z) (addV x z)) (mulV (addV X Z) (subV x z))) (subV (mulV (subV X Z) (addV x z)) (mulV (addV X Z) (subV x z))))) M52.size rfl rfl ?_
  refine SeqA.pure (.pointer (some ⟨b, 0, none⟩)) (fun w' => by go_simp) rfl rfl ?_
  refine SeqA.pure (.pointer (some ⟨b, 16, none⟩)) (fun w' => by go_simp) rfl rfl ?_
  refine SeqA.nil (fun w53 M54 hz => ?_)
  show wpT _ _ _ _ _ _
  simp only [Act.put, List.setIfInBounds_toArray, List.set_cons_succ, List.set_cons_zero]
  refine wpT_stm (off := 16) M54 9 (cs N64 (limbs (mulV u (mulV (subV (mulV (subV X Z) (addV x z)) (mulV (addV X Z) (subV x z))) (subV (mulV (subV X Z) (addV x z)) (mulV (addV X Z) (subV x z))))))) (cs N64 (limbs u ++ limbs x ++ limbs z ++ (limbs (mulV (addV (mulV (subV X Z) (addV x z)) (mulV (addV X Z) (subV x z))) (addV (mulV (subV X Z) (addV x z)) (mulV (addV X Z) (subV x z))))) ++ (limbs (mulV u (mulV (subV (mulV (subV X Z) (addV x z)) (mulV (addV X Z) (subV x z))) (subV (mulV (subV X Z) (addV x z)) (mulV (addV X Z) (subV x z)))))))) inf_num rfl rfl rfl rfl (by go_simp) (by go_simp) (by simp []) (by simp []) (by simp [go_sem]) (by rw [cs_extract, cs_extract, ← cs_append, ← cs_append] <;> congr 1 <;> simp []) rfl (fun w55 M56 => ?_)
  dsimp only [List.set] at M56
  dsimp only [wpT]
  go_upto_region 8 with fail
  refine wp_region_seqF 6 [83, 84, 85, 86, 87, 88] [] [] [] (.op 6 .done) (Mm (fun g => g = b) w _) (by kernel_rfl) (by kernel_rfl) (fun d _ _ _ _ h => by cases d <;> exact h) (by rfl) M56.size (fun _ _ h k => h.sf k) M56 (by kernel_rfl) ?_
  simp only [List.take_succ_cons, List.take_zero]
  refine SeqA.pure (.pointer (some ⟨b, 0, none⟩)) (fun w' => by go_simp) rfl rfl ?_
  refine SeqA.ld0 Try.underlying42 rfl inf_num (b15) (cs N64 (limbs (mulV (addV x z) (addV x z)))) rfl (by go_simp) (fun _ M => M.row (by simp)) (by simp []) rfl ?_
  refine SeqA.ld0 Try.underlying42 rfl inf_num (b13) (cs N64 (limbs (mulV (subV x z) (subV x z)))) rfl (by go_simp) (fun _ M => M.row (by simp)) (by simp []) rfl ?_
  refine SeqA.call _ _ _ (fun w' => by go_simp) (fun w' hI _ => nmul_any w' (mulV (addV x z) (addV x z)) (mulV (subV x z) (subV x z))) M56.size rfl rfl ?_
  refine SeqA.pure (.pointer (some ⟨b, 0, none⟩)) (fun w' => by go_simp) rfl rfl ?_
  simp only [Act.put, List.setIfInBounds_toArray, List.set_cons_succ, List.set_cons_zero]
  refine SeqA.pure (.pointer (some ⟨b, 4, none⟩)) (fun w' => by go_simp) rfl rfl ?_
  refine SeqA.nil (fun w57 M58 hz => ?_)
  show wpT _ _ _ _ _ _
  simp only [Act.put, List.setIfInBounds_toArray, List.set_cons_succ, List.set_cons_zero]
  refine wpT_stm (off := 4) M58 9 (cs N64 (limbs (mulV (mulV (addV x z) (addV x z)) (mulV (subV x z) (subV x z))))) (cs N64 (limbs u ++ (limbs (mulV (mulV (addV x z) (addV x z)) (mulV (subV x z) (subV x z)))) ++ limbs z ++ (limbs (mulV (addV (mulV (subV X Z) (addV x z)) (mulV (addV X Z) (subV x z))) (addV (mulV (subV X Z) (addV x z)) (mulV (addV X Z) (subV x z))))) ++ (limbs (mulV u (mulV (subV (mulV (subV X Z) (addV x z)) (mulV (addV X Z) (subV x z))) (subV (mulV (subV X Z) (addV x z)) (mulV (addV X Z) (subV x z)))))))) inf_num rfl rfl rfl rfl (by go_simp) (by go_simp) (by simp []) (by simp []) (by simp [go_sem]) (by rw [cs_extract, cs_extract, ← cs_append, ← cs_append] <;> congr 1 <;> simp []) rfl (fun w59 M60 => ?_)
  dsimp only [List.set] at M60
  dsimp only [wpT]
  go_upto_region 9 with fail
  refine wp_region_seq 10 [89, 90, 91, 92, 93, 94, 95, 96, 97, 98] [] [] [] (.op 10 .done) (Mm (fun g => g = b) w _) (by kernel_rfl) (by kernel_rfl) (by kernel_rfl) (fun d _ _ _ _ h => by cases d <;> exact h) (by rfl) M60.size (fun _ _ h k => h.sf k) M60 ?_
  simp only [List.take_succ_cons, List.take_zero]
  refine SeqA.pure (.pointer (some ⟨b, 0, none⟩)) (fun w' => by go_simp) rfl rfl ?_
  refine SeqA.ld0 Try.underlying42 rfl inf_num (b23) (cs N64 (limbs (subV (mulV (addV x z) (addV x z)) (mulV (subV x z) (subV x z))))) rfl (by go_simp) (fun _ M => M.row (by simp)) (by simp []) rfl ?_
  refine SeqA.ld0 Try.underlying42 rfl inf_num (b15) (cs N64 (limbs (mulV (addV x z) (addV x z)))) rfl (by go_simp) (fun _ M => M.row (by simp)) (by simp []) rfl ?_
  refine SeqA.ld0 Try.underlying42 rfl inf_num (b23) (cs N64 (limbs (subV (mulV (addV x z) (addV x z)) (mulV (subV x z) (subV x z))))) rfl (by go_simp) (fun _ M => M.row (by simp)) (by simp []) rfl ?_
  refine SeqA.pure (.agg (cs N64 (limbs 121665))) (fun w' => by go_simp) rfl rfl ?_
  simp only [Act.put, List.setIfInBounds_toArray, List.set_cons_succ, List.set_cons_zero]
  refine SeqA.call _ _ _ (fun w' => by go_simp) (fun w' hI _ => nmul_any w' (subV (mulV (addV x z) (addV x z)) (mulV (subV x z) (subV x z))) 121665) M60.size rfl rfl ?_
  refine SeqA.call _ _ _ (fun w' => by go_simp) (fun w' hI _ => nadd_any w' (mulV (addV x z) (addV x z)) (mulV (subV (mulV (addV x z) (addV x z)) (mulV (subV x z) (subV x z))) 121665)) M60.size rfl rfl ?_
  refine SeqA.call _ _ _ (fun w' => by go_simp) (fun w' hI _ => nmul_any w' (subV (mulV (addV x z) (addV x z)) (mulV (subV x z) (subV x z))) (addV (mulV (addV x z) (addV x z)) (mulV (subV (mulV (addV x z) (addV x z)) (mulV (subV x z) (subV x z))) 121665))) M60.size rfl rfl ?_
  refine SeqA.pure (.pointer (some ⟨b, 0, none⟩)) (fun w' => by go_simp) rfl rfl ?_
  refine SeqA.pure (.pointer (some ⟨b, 8, none⟩)) (fun w' => by go_simp) rfl rfl ?_
  refine SeqA.nil (fun w61 M62 hz => ?_)
  show wpT _ _ _ _ _ _
  simp only [Act.put, List.setIfInBounds_toArray, List.set_cons_succ, List.set_cons_zero]
  refine wpT_stm (off := 8) M62 9 (cs N64 (limbs (mulV (subV (mulV (addV x z) (addV x z)) (mulV (subV x z) (subV x z))) (addV (mulV (addV x z) (addV x z)) (mulV (subV (mulV (addV x z) (addV x z)) (mulV (subV x z) (subV x z))) 121665))))) (cs N64 (limbs u ++ (limbs (mulV (mulV (addV x z) (addV x z)) (mulV (subV x z) (subV x z)))) ++ (limbs (mulV (subV (mulV (addV x z) (addV x z)) (mulV (subV x z) (subV x z))) (addV (mulV (addV x z) (addV x z)) (mulV (subV (mulV (addV x z) (addV x z)) (mulV (subV x z) (subV x z))) 121665)))) ++ (limbs (mulV (addV (mulV (subV X Z) (addV x z)) (mulV (addV X Z) (subV x z))) (addV (mulV (subV X Z) (addV x z)) (mulV (addV X Z) (subV x z))))) ++ (limbs (mulV u (mulV (subV (mulV (subV X Z) (addV x z)) (mulV (addV X Z) (subV x z))) (subV (mulV (subV X Z) (addV x z)) (mulV (addV X Z) (subV x z)))))))) inf_num rfl rfl rfl rfl (by go_simp) (by go_simp) (by simp []) (by simp []) (by simp [go_sem]) (by rw [cs_extract, cs_extract, ← cs_append, ← cs_append] <;> congr 1 <;> simp []) rfl (fun w63 M64 => ?_)
  dsimp only [List.set] at M64
  dsimp only [wpT]
  go_wp2_with fail
  go_end0
  exact ⟨rfl, M64.sub (List.singleton_sublist.2 (by simp))⟩
end Go.Proofs.Ytgneclfnfnpmkaa
