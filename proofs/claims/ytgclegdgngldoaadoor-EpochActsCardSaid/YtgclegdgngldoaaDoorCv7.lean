/-
  Walks of package curve: secrets and points made whole, a step of the ladder; own work.
  Walks of package curve's swap and of reference 02's sum and double; own work.
  Bits of a secret, and the swap of two parts of the ladder; own work.
  The walk of package curve's ladder; own work.
  Walks of package curve: Shared, Public; own work.
  What a secret made whole is, as a number; own work.
  A clamped secret is no multiple of the order; own work.
  Secrets as numbers: what two of them share, and that they may change places; own work.
-/
import Derived.Test.YtgclegdgngldoaaDoorFldD
import Derived.Test.YtgclegdgngldoaaDoorEdw
import Derived.Test.YtgclegdgngldoaaDoorStep
set_option linter.unusedSimpArgs false
set_option linter.unusedVariables false
namespace Go.Proofs.YtgclegdgngldoaaDoor
open Go.RowKit Fp
def cl0 (x : BitVec 8) : BitVec 8 := x &&& 248#8
def cl31 (x : BitVec 8) : BitVec 8 := (x &&& 127#8) ||| 64#8
def hi0 (x : BitVec 8) : BitVec 8 := x &&& 127#8
section
variable {t : TypeId}
theorem cl0_eq (x : BitVec 8) : x &&& 248#8 = cl0 x := rfl
theorem cl31_eq (x : BitVec 8) : (x &&& 127#8) ||| 64#8 = cl31 x := rfl
end
attribute [local irreducible] cl0 cl31 hi0
/-- a secret made whole -/
def clampB (a : List (BitVec 8)) : List (BitVec 8) := (a.set 0 (cl0 (g8 a 0))).set 31 (cl31 (g8 (a.set 0 (cl0 (g8 a 0))) 31))
def maskB (a : List (BitVec 8)) : List (BitVec 8) := a.set 31 (hi0 (g8 a 31))
@[simp] theorem clampB_len (a : List (BitVec 8)) : (clampB a).length = a.length := by unfold clampB; simp
@[simp] theorem maskB_len (a : List (BitVec 8)) : (maskB a).length = a.length := by unfold maskB; simp
set_option maxRecDepth 100000 in
set_option maxHeartbeats 1000000 in
theorem clamp_any (w : World) (a : List (BitVec 8)) (ha : a.length = 32) :
    Calls Tryd.prog 37 #[.agg (cs U8 a)] w fun e w' => e = .returned (.agg (cs U8 (clampB a))) ∧ Below w.heap.size w w' := by
  have M0 := Mm.start no w
  go_enter Tryd.func37, Tryd.ntmps37
  have M2 := ((M0.alloc (cs U8 a) 23 (by decide)).alloc (cs U8 (zs 32)) 23 (by decide))
  try simp only [World.size_alloc] at M2
  go_upto_region 1 with fail
  obtain ⟨w1, hw1⟩ : ∃ w1, w1 = ((w.alloc (.cells (cs U8 a) 23)).alloc (.cells (cs U8 (zs 32)) 23)) := ⟨_, rfl⟩
  rw [← hw1] at M2 ⊢
  clear hw1
  refine wp_region_seqF 4 [3, 4, 5, 6] [] [] [] (.op 4 .done) (Mm no w _) (by kernel_rfl) (by kernel_rfl) (fun d _ _ _ _ h => by cases d <;> exact h) (by rfl) M2.size (fun _ _ h k => h.sf k) M2 (by kernel_rfl) ?_
  simp only [List.take_succ_cons, List.take_zero]
  refine SeqA.pure (.pointer (some ⟨w.heap.size, 0, none⟩)) (fun w' => by go_simp) rfl rfl ?_
  refine SeqA.read (U8 (g8 a 0)) (fun w' M => by have c0 := cell_g8 (M.row (b := w.heap.size) (c := cs U8 a) (by simp)) (i := 0) (by rw [ha]; decide); go_simp) rfl rfl ?_
  refine SeqA.pure (U8 (cl0 (g8 a 0))) (fun w' => by have q := cl0_eq (g8 a 0); go_simp) rfl rfl ?_
  refine SeqA.pure (.pointer (some ⟨w.heap.size, 0, none⟩)) (fun w' => by go_simp) rfl rfl ?_
  refine SeqA.nil (fun w3 M4 hz => ?_)
  show wpT _ _ _ _ _ _
  simp only [Act.put, List.setIfInBounds_toArray, List.set_cons_succ, List.set_cons_zero]
  refine wpT_stc M4 1 (U8 (cl0 (g8 a 0))) (cs U8 (a.set 0 (cl0 (g8 a 0)))) inf_u8 rfl rfl rfl rfl (by go_simp) (by go_simp) (by have := (by rw [ha]; decide : 0 < a.length); first | (simp; done) | (simpa using this) | (simp; omega)) (by simp [go_sem]) (cs_set _ _) rfl (fun w5 M6 => ?_)
  dsimp only [List.set] at M6
  dsimp only [wpT]
  go_upto_region 2 with fail
  refine wp_region_seqF 5 [7, 8, 9, 10, 11] [] [] [] (.op 5 .done) (Mm no w _) (by kernel_rfl) (by kernel_rfl) (fun d _ _ _ _ h => by cases d <;> exact h) (by rfl) M6.size (fun _ _ h k => h.sf k) M6 (by kernel_rfl) ?_
  simp only [List.take_succ_cons, List.take_zero]
  refine SeqA.pure (.pointer (some ⟨w.heap.size, 31, none⟩)) (fun w' => by go_simp) rfl rfl ?_
  refine SeqA.read (U8 (g8 ((a.set 0 (cl0 (g8 a 0)))) 31)) (fun w' M => by have c0 := cell_g8 (M.row (b := w.heap.size) (c := cs U8 (a.set 0 (cl0 (g8 a 0)))) (by simp)) (i := 31) (by rw [List.length_set, ha]; decide); go_simp) rfl rfl ?_
  refine SeqA.pure (U8 ((g8 (a.set 0 (cl0 (g8 a 0))) 31) &&& 127#8)) (fun w' => by go_simp) rfl rfl ?_
  refine SeqA.pure (U8 (cl31 (g8 (a.set 0 (cl0 (g8 a 0))) 31))) (fun w' => by have q := cl31_eq (g8 (a.set 0 (cl0 (g8 a 0))) 31); go_simp) rfl rfl ?_
  refine SeqA.pure (.pointer (some ⟨w.heap.size, 31, none⟩)) (fun w' => by go_simp) rfl rfl ?_
  refine SeqA.nil (fun w7 M8 hz => ?_)
  show wpT _ _ _ _ _ _
  simp only [Act.put, List.setIfInBounds_toArray, List.set_cons_succ, List.set_cons_zero]
  refine wpT_stc M8 1 (U8 (cl31 (g8 (a.set 0 (cl0 (g8 a 0))) 31))) (cs U8 (((a.set 0 (cl0 (g8 a 0)))).set 31 (cl31 (g8 (a.set 0 (cl0 (g8 a 0))) 31)))) inf_u8 rfl rfl rfl rfl (by go_simp) (by go_simp) (by have := (by rw [List.length_set, ha]; decide : 31 < ((a.set 0 (cl0 (g8 a 0)))).length); first | (simp; done) | (simpa using this) | (simp; omega)) (by simp [go_sem]) (cs_set _ _) rfl (fun w9 M10 => ?_)
  dsimp only [List.set] at M10
  dsimp only [wpT]
  go_upto_region 3 with fail
  refine wp_region_seqF 1 [12] [] [] [] (.op 1 .done) (Mm no w _) (by kernel_rfl) (by kernel_rfl) (fun d _ _ _ _ h => by cases d <;> exact h) (by rfl) M10.size (fun _ _ h k => h.sf k) M10 (by kernel_rfl) ?_
  simp only [List.take_succ_cons, List.take_zero]
  refine SeqA.ld0 Tryd.underlying23 rfl inf_key (w.heap.size) (cs U8 (((a.set 0 (cl0 (g8 a 0)))).set 31 (cl31 (g8 (a.set 0 (cl0 (g8 a 0))) 31)))) rfl (by go_simp) (fun _ M => M.row (by simp)) (by simp [ha]) rfl ?_
  refine SeqA.nil (fun w11 M12 hz => ?_)
  show wpT _ _ _ _ _ _
  simp only [Act.put, List.setIfInBounds_toArray, List.set_cons_succ, List.set_cons_zero]
  refine wpT_st0 M12 0 (cs U8 (((a.set 0 (cl0 (g8 a 0)))).set 31 (cl31 (g8 (a.set 0 (cl0 (g8 a 0))) 31)))) inf_key rfl rfl rfl rfl (by go_simp) (by go_simp) (by simp [ha]) (by simp [ha]) (by simp [go_sem]) rfl (fun w13 M14 => ?_)
  dsimp only [List.set] at M14
  dsimp only [wpT]
  go_wp2_with fail
  have r15 := M14.row (b := w.heap.size + 1) (c := cs U8 (((a.set 0 (cl0 (g8 a 0)))).set 31 (cl31 (g8 (a.set 0 (cl0 (g8 a 0))) 31)))) (by simp)
  refine bodyPost_ret (res_row (b := w.heap.size + 1) rfl Tryd.underlying23 rfl inf_key _ _ rfl (by rw [r15]; simp [ha])) rfl ?_
  rw [r15]
  exact ⟨rfl, M14.end_⟩
@[go_sem] theorem xb_num121665 (w : World) : exBuild Tryd.prog 97 #[(0, .int .u64 121665)] w = .ok (.value (.agg (cs N64 (limbs 121665)))) w := by
  unfold exBuild; rw [run_build w _ _ (cs N64 (limbs 121665)) (by kernel_rfl)]; rfl
@[go_sem] theorem xb_num1 (w : World) : exBuild Tryd.prog 97 #[(0, .int .u64 1)] w = .ok (.value (.agg (cs N64 (limbs 1)))) w := by
  unfold exBuild; rw [run_build w _ _ (cs N64 (limbs 1)) (by kernel_rfl)]; rfl
@[go_sem ↓] theorem rb_num (ρ : Operand → Value) (dst : Option Tmp) (ty : TypeId) (pos : String) (after : Array Edge) (guard : Option (Nat × Bool)) (w : World) (ps : Array (Nat × Operand)) :
    (execOp ρ { dst, op := .build 97 ps, type := ty, pos, after, guard }).run Tryd.prog w = exBuild Tryd.prog 97 (ps.map fun p => (p.1, ρ p.2)) w := x_build ..
set_option maxRecDepth 100000 in
set_option maxHeartbeats 2000000 in
theorem step_any (w : World) (b u x z X Z : Nat) (M : Mm (fun g => g = b) w [(b, cs N64 (limbs u ++ limbs x ++ limbs z ++ limbs X ++ limbs Z))] w) :
    Calls Tryd.prog 60 #[.pointer (some ⟨b, 0, none⟩)] w fun e w' => e = .returned (.tuple #[]) ∧ Mm (fun g => g = b) w [(b, cs N64 (limbs u ++ limbs (mulV (mulV (addV x z) (addV x z)) (mulV (subV x z) (subV x z))) ++ limbs (mulV (subV (mulV (addV x z) (addV x z)) (mulV (subV x z) (subV x z))) (addV (mulV (addV x z) (addV x z)) (mulV (subV (mulV (addV x z) (addV x z)) (mulV (subV x z) (subV x z))) 121665))) ++ limbs (mulV (addV (mulV (subV X Z) (addV x z)) (mulV (addV X Z) (subV x z))) (addV (mulV (subV X Z) (addV x z)) (mulV (addV X Z) (subV x z)))) ++ limbs (mulV u (mulV (subV (mulV (subV X Z) (addV x z)) (mulV (addV X Z) (subV x z))) (subV (mulV (subV X Z) (addV x z)) (mulV (addV X Z) (subV x z)))))))] w' := by
  go_enter Tryd.func60, Tryd.ntmps60
  go_upto_region 0 with fail
  refine wp_region_seq 20 [11, 12, 13, 14, 15, 16, 17, 18, 19, 20, 21, 22, 23, 24, 25, 26, 27, 28, 2, 3] [] [] [] (.op 20 (.op 21 .done)) (Mm (fun g => g = b) w _) (by kernel_rfl) (by kernel_rfl) (by kernel_rfl) (fun d _ _ _ _ h => by cases d <;> exact h) (by rfl) M.size (fun _ _ h k => h.sf k) M ?_
  simp only [List.take_succ_cons, List.take_zero]
  refine SeqA.pure (.pointer (some ⟨b, 0, none⟩)) (fun w' => by go_simp) rfl rfl ?_
  refine SeqA.pure (.pointer (some ⟨b, 0, none⟩)) (fun w' => by go_simp) rfl rfl ?_
  refine SeqA.pure (.pointer (some ⟨b, 4, none⟩)) (fun w' => by go_simp) rfl rfl ?_
  refine SeqA.ldm Tryd.underlying97 rfl inf_num (b) 4 (cs N64 (limbs u ++ limbs x ++ limbs z ++ limbs X ++ limbs Z)) (cs N64 (limbs x)) rfl (by go_simp) (fun _ M => M.row (by simp)) (by simp []) (by rw [cs_extract] <;> congr 1 <;> first | (simp []; done) | simp [List.take_append, List.drop_append, List.take_of_length_le, ]) rfl ?_
  refine SeqA.pure (.pointer (some ⟨b, 0, none⟩)) (fun w' => by go_simp) rfl rfl ?_
  simp only [Act.put, List.setIfInBounds_toArray, List.set_cons_succ, List.set_cons_zero]
  refine SeqA.pure (.pointer (some ⟨b, 0, none⟩)) (fun w' => by go_simp) rfl rfl ?_
  refine SeqA.pure (.pointer (some ⟨b, 8, none⟩)) (fun w' => by go_simp) rfl rfl ?_
  refine SeqA.ldm Tryd.underlying97 rfl inf_num (b) 8 (cs N64 (limbs u ++ limbs x ++ limbs z ++ limbs X ++ limbs Z)) (cs N64 (limbs z)) rfl (by go_simp) (fun _ M => M.row (by simp)) (by simp []) (by rw [cs_extract] <;> congr 1 <;> first | (simp []; done) | simp [List.take_append, List.drop_append, List.take_of_length_le, ]) rfl ?_
  refine SeqA.call _ _ _ (fun w' => by go_simp) (fun w' hI _ => nadd_any w' x z) M.size rfl rfl ?_
  refine SeqA.pure (.pointer (some ⟨b, 0, none⟩)) (fun w' => by go_simp) rfl rfl ?_
  refine SeqA.pure (.pointer (some ⟨b, 0, none⟩)) (fun w' => by go_simp) rfl rfl ?_
  simp only [Act.put, List.setIfInBounds_toArray, List.set_cons_succ, List.set_cons_zero]
  refine SeqA.pure (.pointer (some ⟨b, 4, none⟩)) (fun w' => by go_simp) rfl rfl ?_
  refine SeqA.ldm Tryd.underlying97 rfl inf_num (b) 4 (cs N64 (limbs u ++ limbs x ++ limbs z ++ limbs X ++ limbs Z)) (cs N64 (limbs x)) rfl (by go_simp) (fun _ M => M.row (by simp)) (by simp []) (by rw [cs_extract] <;> congr 1 <;> first | (simp []; done) | simp [List.take_append, List.drop_append, List.take_of_length_le, ]) rfl ?_
  refine SeqA.pure (.pointer (some ⟨b, 0, none⟩)) (fun w' => by go_simp) rfl rfl ?_
  refine SeqA.pure (.pointer (some ⟨b, 0, none⟩)) (fun w' => by go_simp) rfl rfl ?_
  refine SeqA.pure (.pointer (some ⟨b, 8, none⟩)) (fun w' => by go_simp) rfl rfl ?_
  refine SeqA.ldm Tryd.underlying97 rfl inf_num (b) 8 (cs N64 (limbs u ++ limbs x ++ limbs z ++ limbs X ++ limbs Z)) (cs N64 (limbs z)) rfl (by go_simp) (fun _ M => M.row (by simp)) (by simp []) (by rw [cs_extract] <;> congr 1 <;> first | (simp []; done) | simp [List.take_append, List.drop_append, List.take_of_length_le, ]) rfl ?_
  simp only [Act.put, List.setIfInBounds_toArray, List.set_cons_succ, List.set_cons_zero]
  refine SeqA.call _ _ _ (fun w' => by go_simp) (fun w' hI _ => nsub_any w' x z) M.size rfl rfl ?_
  refine SeqA.var (z := .agg (cs N64 (limbs 0))) (by kernel_rfl) rfl rfl (by decide) rfl ?_
  refine SeqA.var (z := .agg (cs N64 (limbs 0))) (by kernel_rfl) rfl rfl (by decide) rfl ?_
  refine SeqA.nil (fun w1 M2 hz => ?_)
  refine news_one (fun b3 hb1 hb2 hb3 => ?_)
  have M4 := M.in_ (c := cs N64 (limbs 0)) M2 hb1 hb2 (by decide) hb3 rfl
  refine news_one (fun b5 hb1 hb2 hb3 => ?_)
  have M6 := M.in_ (c := cs N64 (limbs 0)) M4 hb1 hb2 (by decide) hb3 rfl
  show wpT _ _ _ _ _ _
  simp only [Act.put, List.setIfInBounds_toArray, List.set_cons_succ, List.set_cons_zero]
  refine wpT_st0 M6 0 (cs N64 (limbs (addV x z))) inf_num rfl rfl rfl rfl (by go_simp) (by go_simp) (by simp []) (by simp []) (by simp [go_sem]) rfl (fun w7 M8 => ?_)
  dsimp only [List.set] at M8
  refine wpT_st0 M8 1 (cs N64 (limbs (subV x z))) inf_num rfl rfl rfl rfl (by go_simp) (by go_simp) (by simp []) (by simp []) (by simp [go_sem]) rfl (fun w9 M10 => ?_)
  dsimp only [List.set] at M10
  dsimp only [wpT]
  go_upto_region 1 with fail
  refine wp_region_seq 8 [29, 30, 31, 32, 33, 34, 4, 5] [] [] [] (.op 8 (.op 9 .done)) (Mm (fun g => g = b) w _) (by kernel_rfl) (by kernel_rfl) (by kernel_rfl) (fun d _ _ _ _ h => by cases d <;> exact h) (by rfl) M10.size (fun _ _ h k => h.sf k) M10 ?_
  simp only [List.take_succ_cons, List.take_zero]
  refine SeqA.ld0 Tryd.underlying97 rfl inf_num (b5) (cs N64 (limbs (addV x z))) rfl (by go_simp) (fun _ M => M.row (by simp)) (by simp []) rfl ?_
  refine SeqA.ld0 Tryd.underlying97 rfl inf_num (b5) (cs N64 (limbs (addV x z))) rfl (by go_simp) (fun _ M => M.row (by simp)) (by simp []) rfl ?_
  refine SeqA.call _ _ _ (fun w' => by go_simp) (fun w' hI _ => nmul_any w' (addV x z) (addV x z)) M10.size rfl rfl ?_
  refine SeqA.ld0 Tryd.underlying97 rfl inf_num (b3) (cs N64 (limbs (subV x z))) rfl (by go_simp) (fun _ M => M.row (by simp)) (by simp []) rfl ?_
  refine SeqA.ld0 Tryd.underlying97 rfl inf_num (b3) (cs N64 (limbs (subV x z))) rfl (by go_simp) (fun _ M => M.row (by simp)) (by simp []) rfl ?_
  simp only [Act.put, List.setIfInBounds_toArray, List.set_cons_succ, List.set_cons_zero]
  refine SeqA.call _ _ _ (fun w' => by go_simp) (fun w' hI _ => nmul_any w' (subV x z) (subV x z)) M10.size rfl rfl ?_
  refine SeqA.var (z := .agg (cs N64 (limbs 0))) (by kernel_rfl) rfl rfl (by decide) rfl ?_
  refine SeqA.var (z := .agg (cs N64 (limbs 0))) (by kernel_rfl) rfl rfl (by decide) rfl ?_
  refine SeqA.nil (fun w11 M12 hz => ?_)
  refine news_one (fun b13 hb1 hb2 hb3 => ?_)
  have M14 := M10.in_ (c := cs N64 (limbs 0)) M12 hb1 hb2 (by decide) hb3 rfl
  refine news_one (fun b15 hb1 hb2 hb3 => ?_)
  have M16 := M10.in_ (c := cs N64 (limbs 0)) M14 hb1 hb2 (by decide) hb3 rfl
  show wpT _ _ _ _ _ _
  simp only [Act.put, List.setIfInBounds_toArray, List.set_cons_succ, List.set_cons_zero]
  refine wpT_st0 M16 0 (cs N64 (limbs (mulV (addV x z) (addV x z)))) inf_num rfl rfl rfl rfl (by go_simp) (by go_simp) (by simp []) (by simp []) (by simp [go_sem]) rfl (fun w17 M18 => ?_)
  dsimp only [List.set] at M18
  refine wpT_st0 M18 1 (cs N64 (limbs (mulV (subV x z) (subV x z)))) inf_num rfl rfl rfl rfl (by go_simp) (by go_simp) (by simp []) (by simp []) (by simp [go_sem]) rfl (fun w19 M20 => ?_)
  dsimp only [List.set] at M20
  dsimp only [wpT]
  go_upto_region 2 with fail
  refine wp_region_seqF 4 [35, 36, 37, 6] [] [] [] (.op 4 .done) (Mm (fun g => g = b) w _) (by kernel_rfl) (by kernel_rfl) (fun d _ _ _ _ h => by cases d <;> exact h) (by rfl) M20.size (fun _ _ h k => h.sf k) M20 (by kernel_rfl) ?_
  simp only [List.take_succ_cons, List.take_zero]
  refine SeqA.ld0 Tryd.underlying97 rfl inf_num (b15) (cs N64 (limbs (mulV (addV x z) (addV x z)))) rfl (by go_simp) (fun _ M => M.row (by simp)) (by simp []) rfl ?_
  refine SeqA.ld0 Tryd.underlying97 rfl inf_num (b13) (cs N64 (limbs (mulV (subV x z) (subV x z)))) rfl (by go_simp) (fun _ M => M.row (by simp)) (by simp []) rfl ?_
  refine SeqA.call _ _ _ (fun w' => by go_simp) (fun w' hI _ => nsub_any w' (mulV (addV x z) (addV x z)) (mulV (subV x z) (subV x z))) M20.size rfl rfl ?_
  refine SeqA.var (z := .agg (cs N64 (limbs 0))) (by kernel_rfl) rfl rfl (by decide) rfl ?_
  refine SeqA.nil (fun w21 M22 hz => ?_)
  refine news_one (fun b23 hb1 hb2 hb3 => ?_)
  have M24 := M20.in_ (c := cs N64 (limbs 0)) M22 hb1 hb2 (by decide) hb3 rfl
  show wpT _ _ _ _ _ _
  simp only [Act.put, List.setIfInBounds_toArray, List.set_cons_succ, List.set_cons_zero]
  refine wpT_st0 M24 0 (cs N64 (limbs (subV (mulV (addV x z) (addV x z)) (mulV (subV x z) (subV x z))))) inf_num rfl rfl rfl rfl (by go_simp) (by go_simp) (by simp []) (by simp []) (by simp [go_sem]) rfl (fun w25 M26 => ?_)
  dsimp only [List.set] at M26
  dsimp only [wpT]
  go_upto_region 3 with fail
  refine wp_region_seq 12 [38, 39, 40, 41, 42, 43, 44, 45, 46, 47, 48, 7] [] [] [] (.op 12 .done) (Mm (fun g => g = b) w _) (by kernel_rfl) (by kernel_rfl) (by kernel_rfl) (fun d _ _ _ _ h => by cases d <;> exact h) (by rfl) M26.size (fun _ _ h k => h.sf k) M26 ?_
  simp only [List.take_succ_cons, List.take_zero]
  refine SeqA.pure (.pointer (some ⟨b, 0, none⟩)) (fun w' => by go_simp) rfl rfl ?_
  refine SeqA.pure (.pointer (some ⟨b, 0, none⟩)) (fun w' => by go_simp) rfl rfl ?_
  refine SeqA.pure (.pointer (some ⟨b, 12, none⟩)) (fun w' => by go_simp) rfl rfl ?_
  refine SeqA.ldm Tryd.underlying97 rfl inf_num (b) 12 (cs N64 (limbs u ++ limbs x ++ limbs z ++ limbs X ++ limbs Z)) (cs N64 (limbs X)) rfl (by go_simp) (fun _ M => M.row (by simp)) (by simp []) (by rw [cs_extract] <;> congr 1 <;> first | (simp []; done) | simp [List.take_append, List.drop_append, List.take_of_length_le, ]) rfl ?_
  refine SeqA.pure (.pointer (some ⟨b, 0, none⟩)) (fun w' => by go_simp) rfl rfl ?_
  simp only [Act.put, List.setIfInBounds_toArray, List.set_cons_succ, List.set_cons_zero]
  refine SeqA.pure (.pointer (some ⟨b, 0, none⟩)) (fun w' => by go_simp) rfl rfl ?_
  refine SeqA.pure (.pointer (some ⟨b, 16, none⟩)) (fun w' => by go_simp) rfl rfl ?_
  refine SeqA.ldm Tryd.underlying97 rfl inf_num (b) 16 (cs N64 (limbs u ++ limbs x ++ limbs z ++ limbs X ++ limbs Z)) (cs N64 (limbs Z)) rfl (by go_simp) (fun _ M => M.row (by simp)) (by simp []) (by rw [cs_extract] <;> congr 1 <;> first | (simp []; done) | simp [List.take_append, List.drop_append, List.take_of_length_le, ]) rfl ?_
  refine SeqA.call _ _ _ (fun w' => by go_simp) (fun w' hI _ => nsub_any w' X Z) M26.size rfl rfl ?_
  refine SeqA.ld0 Tryd.underlying97 rfl inf_num (b5) (cs N64 (limbs (addV x z))) rfl (by go_simp) (fun _ M => M.row (by simp)) (by simp []) rfl ?_
  refine SeqA.call _ _ _ (fun w' => by go_simp) (fun w' hI _ => nmul_any w' (subV X Z) (addV x z)) M26.size rfl rfl ?_
  simp only [Act.put, List.setIfInBounds_toArray, List.set_cons_succ, List.set_cons_zero]
  refine SeqA.var (z := .agg (cs N64 (limbs 0))) (by kernel_rfl) rfl rfl (by decide) rfl ?_
  refine SeqA.nil (fun w27 M28 hz => ?_)
  refine news_one (fun b29 hb1 hb2 hb3 => ?_)
  have M30 := M26.in_ (c := cs N64 (limbs 0)) M28 hb1 hb2 (by decide) hb3 rfl
  show wpT _ _ _ _ _ _
  simp only [Act.put, List.setIfInBounds_toArray, List.set_cons_succ, List.set_cons_zero]
  refine wpT_st0 M30 0 (cs N64 (limbs (mulV (subV X Z) (addV x z)))) inf_num rfl rfl rfl rfl (by go_simp) (by go_simp) (by simp []) (by simp []) (by simp [go_sem]) rfl (fun w31 M32 => ?_)
  dsimp only [List.set] at M32
  dsimp only [wpT]
  go_upto_region 4 with fail
  refine wp_region_seq 12 [49, 50, 51, 52, 53, 54, 55, 56, 57, 58, 59, 8] [] [] [] (.op 12 .done) (Mm (fun g => g = b) w _) (by kernel_rfl) (by kernel_rfl) (by kernel_rfl) (fun d _ _ _ _ h => by cases d <;> exact h) (by rfl) M32.size (fun _ _ h k => h.sf k) M32 ?_
  simp only [List.take_succ_cons, List.take_zero]
  refine SeqA.pure (.pointer (some ⟨b, 0, none⟩)) (fun w' => by go_simp) rfl rfl ?_
  refine SeqA.pure (.pointer (some ⟨b, 0, none⟩)) (fun w' => by go_simp) rfl rfl ?_
  refine SeqA.pure (.pointer (some ⟨b, 12, none⟩)) (fun w' => by go_simp) rfl rfl ?_
  refine SeqA.ldm Tryd.underlying97 rfl inf_num (b) 12 (cs N64 (limbs u ++ limbs x ++ limbs z ++ limbs X ++ limbs Z)) (cs N64 (limbs X)) rfl (by go_simp) (fun _ M => M.row (by simp)) (by simp []) (by rw [cs_extract] <;> congr 1 <;> first | (simp []; done) | simp [List.take_append, List.drop_append, List.take_of_length_le, ]) rfl ?_
  refine SeqA.pure (.pointer (some ⟨b, 0, none⟩)) (fun w' => by go_simp) rfl rfl ?_
  simp only [Act.put, List.setIfInBounds_toArray, List.set_cons_succ, List.set_cons_zero]
  refine SeqA.pure (.pointer (some ⟨b, 0, none⟩)) (fun w' => by go_simp) rfl rfl ?_
  refine SeqA.pure (.pointer (some ⟨b, 16, none⟩)) (fun w' => by go_simp) rfl rfl ?_
  refine SeqA.ldm Tryd.underlying97 rfl inf_num (b) 16 (cs N64 (limbs u ++ limbs x ++ limbs z ++ limbs X ++ limbs Z)) (cs N64 (limbs Z)) rfl (by go_simp) (fun _ M => M.row (by simp)) (by simp []) (by rw [cs_extract] <;> congr 1 <;> first | (simp []; done) | simp [List.take_append, List.drop_append, List.take_of_length_le, ]) rfl ?_
  refine SeqA.call _ _ _ (fun w' => by go_simp) (fun w' hI _ => nadd_any w' X Z) M32.size rfl rfl ?_
  refine SeqA.ld0 Tryd.underlying97 rfl inf_num (b3) (cs N64 (limbs (subV x z))) rfl (by go_simp) (fun _ M => M.row (by simp)) (by simp []) rfl ?_
  refine SeqA.call _ _ _ (fun w' => by go_simp) (fun w' hI _ => nmul_any w' (addV X Z) (subV x z)) M32.size rfl rfl ?_
  simp only [Act.put, List.setIfInBounds_toArray, List.set_cons_succ, List.set_cons_zero]
  refine SeqA.var (z := .agg (cs N64 (limbs 0))) (by kernel_rfl) rfl rfl (by decide) rfl ?_
  refine SeqA.nil (fun w33 M34 hz => ?_)
  refine news_one (fun b35 hb1 hb2 hb3 => ?_)
  have M36 := M32.in_ (c := cs N64 (limbs 0)) M34 hb1 hb2 (by decide) hb3 rfl
  show wpT _ _ _ _ _ _
  simp only [Act.put, List.setIfInBounds_toArray, List.set_cons_succ, List.set_cons_zero]
  refine wpT_st0 M36 0 (cs N64 (limbs (mulV (addV X Z) (subV x z)))) inf_num rfl rfl rfl rfl (by go_simp) (by go_simp) (by simp []) (by simp []) (by simp [go_sem]) rfl (fun w37 M38 => ?_)
  dsimp only [List.set] at M38
  dsimp only [wpT]
  go_upto_region 5 with fail
  refine wp_region_seq 8 [60, 61, 62, 63, 64, 65, 9, 10] [] [] [] (.op 8 (.op 9 .done)) (Mm (fun g => g = b) w _) (by kernel_rfl) (by kernel_rfl) (by kernel_rfl) (fun d _ _ _ _ h => by cases d <;> exact h) (by rfl) M38.size (fun _ _ h k => h.sf k) M38 ?_
  simp only [List.take_succ_cons, List.take_zero]
  refine SeqA.ld0 Tryd.underlying97 rfl inf_num (b29) (cs N64 (limbs (mulV (subV X Z) (addV x z)))) rfl (by go_simp) (fun _ M => M.row (by simp)) (by simp []) rfl ?_
  refine SeqA.ld0 Tryd.underlying97 rfl inf_num (b35) (cs N64 (limbs (mulV (addV X Z) (subV x z)))) rfl (by go_simp) (fun _ M => M.row (by simp)) (by simp []) rfl ?_
  refine SeqA.call _ _ _ (fun w' => by go_simp) (fun w' hI _ => nadd_any w' (mulV (subV X Z) (addV x z)) (mulV (addV X Z) (subV x z))) M38.size rfl rfl ?_
  refine SeqA.ld0 Tryd.underlying97 rfl inf_num (b29) (cs N64 (limbs (mulV (subV X Z) (addV x z)))) rfl (by go_simp) (fun _ M => M.row (by simp)) (by simp []) rfl ?_
  refine SeqA.ld0 Tryd.underlying97 rfl inf_num (b35) (cs N64 (limbs (mulV (addV X Z) (subV x z)))) rfl (by go_simp) (fun _ M => M.row (by simp)) (by simp []) rfl ?_
  simp only [Act.put, List.setIfInBounds_toArray, List.set_cons_succ, List.set_cons_zero]
  refine SeqA.call _ _ _ (fun w' => by go_simp) (fun w' hI _ => nsub_any w' (mulV (subV X Z) (addV x z)) (mulV (addV X Z) (subV x z))) M38.size rfl rfl ?_
  refine SeqA.var (z := .agg (cs N64 (limbs 0))) (by kernel_rfl) rfl rfl (by decide) rfl ?_
  refine SeqA.var (z := .agg (cs N64 (limbs 0))) (by kernel_rfl) rfl rfl (by decide) rfl ?_
  refine SeqA.nil (fun w39 M40 hz => ?_)
  refine news_one (fun b41 hb1 hb2 hb3 => ?_)
  have M42 := M38.in_ (c := cs N64 (limbs 0)) M40 hb1 hb2 (by decide) hb3 rfl
  refine news_one (fun b43 hb1 hb2 hb3 => ?_)
  have M44 := M38.in_ (c := cs N64 (limbs 0)) M42 hb1 hb2 (by decide) hb3 rfl
  show wpT _ _ _ _ _ _
  simp only [Act.put, List.setIfInBounds_toArray, List.set_cons_succ, List.set_cons_zero]
  refine wpT_st0 M44 0 (cs N64 (limbs (addV (mulV (subV X Z) (addV x z)) (mulV (addV X Z) (subV x z))))) inf_num rfl rfl rfl rfl (by go_simp) (by go_simp) (by simp []) (by simp []) (by simp [go_sem]) rfl (fun w45 M46 => ?_)
  dsimp only [List.set] at M46
  refine wpT_st0 M46 1 (cs N64 (limbs (subV (mulV (subV X Z) (addV x z)) (mulV (addV X Z) (subV x z))))) inf_num rfl rfl rfl rfl (by go_simp) (by go_simp) (by simp []) (by simp []) (by simp [go_sem]) rfl (fun w47 M48 => ?_)
  dsimp only [List.set] at M48
  dsimp only [wpT]
  go_upto_region 6 with fail
  refine wp_region_seqF 6 [66, 67, 68, 69, 70, 71] [] [] [] (.op 6 .done) (Mm (fun g => g = b) w _) (by kernel_rfl) (by kernel_rfl) (fun d _ _ _ _ h => by cases d <;> exact h) (by rfl) M48.size (fun _ _ h k => h.sf k) M48 (by kernel_rfl) ?_
  simp only [List.take_succ_cons, List.take_zero]
  refine SeqA.pure (.pointer (some ⟨b, 0, none⟩)) (fun w' => by go_simp) rfl rfl ?_
  refine SeqA.ld0 Tryd.underlying97 rfl inf_num (b43) (cs N64 (limbs (addV (mulV (subV X Z) (addV x z)) (mulV (addV X Z) (subV x z))))) rfl (by go_simp) (fun _ M => M.row (by simp)) (by simp []) rfl ?_
  refine SeqA.ld0 Tryd.underlying97 rfl inf_num (b43) (cs N64 (limbs (addV (mulV (subV X Z) (addV x z)) (mulV (addV X Z) (subV x z))))) rfl (by go_simp) (fun _ M => M.row (by simp)) (by simp []) rfl ?_
  refine SeqA.call _ _ _ (fun w' => by go_simp) (fun w' hI _ => nmul_any w' (addV (mulV (subV X Z) (addV x z)) (mulV (addV X Z) (subV x z))) (addV (mulV (subV X Z) (addV x z)) (mulV (addV X Z) (subV x z)))) M48.size rfl rfl ?_
  refine SeqA.pure (.pointer (some ⟨b, 0, none⟩)) (fun w' => by go_simp) rfl rfl ?_
  simp only [Act.put, List.setIfInBounds_toArray, List.set_cons_succ, List.set_cons_zero]
  refine SeqA.pure (.pointer (some ⟨b, 12, none⟩)) (fun w' => by go_simp) rfl rfl ?_
  refine SeqA.nil (fun w49 M50 hz => ?_)
  show wpT _ _ _ _ _ _
  simp only [Act.put, List.setIfInBounds_toArray, List.set_cons_succ, List.set_cons_zero]
  refine wpT_stm (off := 12) M50 9 (cs N64 (limbs (mulV (addV (mulV (subV X Z) (addV x z)) (mulV (addV X Z) (subV x z))) (addV (mulV (subV X Z) (addV x z)) (mulV (addV X Z) (subV x z)))))) (cs N64 (limbs u ++ limbs x ++ limbs z ++ (limbs (mulV (addV (mulV (subV X Z) (addV x z)) (mulV (addV X Z) (subV x z))) (addV (mulV (subV X Z) (addV x z)) (mulV (addV X Z) (subV x z))))) ++ limbs Z)) inf_num rfl rfl rfl rfl (by go_simp) (by go_simp) (by simp []) (by simp []) (by simp [go_sem]) (by rw [cs_extract, cs_extract, ← cs_append, ← cs_append] <;> congr 1 <;> simp []) rfl (fun w51 M52 => ?_)
  dsimp only [List.set] at M52
  dsimp only [wpT]
  go_upto_region 7 with fail
  refine wp_region_seq 11 [72, 73, 74, 75, 76, 77, 78, 79, 80, 81, 82] [] [] [] (.op 11 .done) (Mm (fun g => g = b) w _) (by kernel_rfl) (by kernel_rfl) (by kernel_rfl) (fun d _ _ _ _ h => by cases d <;> exact h) (by rfl) M52.size (fun _ _ h k => h.sf k) M52 ?_
  simp only [List.take_succ_cons, List.take_zero]
  refine SeqA.pure (.pointer (some ⟨b, 0, none⟩)) (fun w' => by go_simp) rfl rfl ?_
  refine SeqA.pure (.pointer (some ⟨b, 0, none⟩)) (fun w' => by go_simp) rfl rfl ?_
  refine SeqA.pure (.pointer (some ⟨b, 0, none⟩)) (fun w' => by go_simp) rfl rfl ?_
  refine SeqA.pure (.pointer (some ⟨b, 0, none⟩)) (fun w' => by go_simp) rfl rfl ?_
  refine SeqA.ldm Tryd.underlying97 rfl inf_num (b) 0 (cs N64 (limbs u ++ limbs x ++ limbs z ++ (limbs (mulV (addV (mulV (subV X Z) (addV x z)) (mulV (addV X Z) (subV x z))) (addV (mulV (subV X Z) (addV x z)) (mulV (addV X Z) (subV x z))))) ++ limbs Z)) (cs N64 (limbs u)) rfl (by go_simp) (fun _ M => M.row (by simp)) (by simp []) (by rw [cs_extract] <;> congr 1 <;> first | (simp []; done) | simp [List.take_append, List.drop_append, List.take_of_length_le, ]) rfl ?_
  simp only [Act.put, List.setIfInBounds_toArray, List.set_cons_succ, List.set_cons_zero]
  refine SeqA.ld0 Tryd.underlying97 rfl inf_num (b41) (cs N64 (limbs (subV (mulV (subV X Z) (addV x z)) (mulV (addV X Z) (subV x z))))) rfl (by go_simp) (fun _ M => M.row (by simp)) (by simp []) rfl ?_
  refine SeqA.ld0 Tryd.underlying97 rfl inf_num (b41) (cs N64 (limbs (subV (mulV (subV X Z) (addV x z)) (mulV (addV X Z) (subV x z))))) rfl (by go_simp) (fun _ M => M.row (by simp)) (by simp []) rfl ?_
  refine SeqA.call _ _ _ (fun w' => by go_simp) (fun w' hI _ => nmul_any w' (subV (mulV (subV X Z) (addV x z)) (mulV (addV X Z) (subV x z))) (subV (mulV (subV X Z) (addV x z)) (mulV (addV X Z) (subV x z)))) M52.size rfl rfl ?_
  refine SeqA.call _ _ _ (fun w' => by go_simp) (fun w' hI _ => nmul_any w' u (mulV (subV (mulV (subV X Z) (addV x z)) (mulV (addV X Z) (subV x z))) (subV (mulV (subV X Z) (addV x z)) (mulV (addV X Z) (subV x z))))) M52.size rfl rfl ?_
  refine SeqA.pure (.pointer (some ⟨b, 0, none⟩)) (fun w' => by go_simp) rfl rfl ?_
  refine SeqA.pure (.pointer (some ⟨b, 16, none⟩)) (fun w' => by go_simp) rfl rfl ?_
  refine SeqA.nil (fun w53 M54 hz => ?_)
  show wpT _ _ _ _ _ _
  simp only [Act.put, List.setIfInBounds_toArray, List.set_cons_succ, List.set_cons_zero]
  refine wpT_stm (off := 16) M54 9 (cs N64 (limbs (mulV u (mulV (subV (mulV (subV X Z) (addV x z)) (mulV (addV X Z) (subV x z))) (subV (mulV (subV X Z) (addV x z)) (mulV (addV X Z) (subV x z))))))) (cs N64 (limbs u ++ limbs x ++ limbs z ++ (limbs (mulV (addV (mulV (subV X Z) (addV x z)) (mulV (addV X Z) (subV x z))) (addV (mulV (subV X Z) (addV x z)) (mulV (addV X Z) (subV x z))))) ++ (limbs (mulV u (mulV (subV (mulV (subV X Z) (addV x z)) (mulV (addV X Z) (subV x z))) (subV (mulV (subV X Z) (addV x z)) (mulV (addV X Z) (subV x z)))))))) inf_num rfl rfl rfl rfl (by go_simp) (by go_simp) (by simp []) (by simp []) (by simp [go_sem]) (by rw [cs_extract, cs_extract, ← cs_append, ← cs_append] <;> congr 1 <;> simp []) rfl (fun w55 M56 => ?_)
  dsimp only [List.set] at M56
  dsimp only [wpT]
  go_upto_region 8 with fail
  refine wp_region_seqF 6 [83, 84, 85, 86, 87, 88] [] [] [] (.op 6 .done) (Mm (fun g => g = b) w _) (by kernel_rfl) (by kernel_rfl) (fun d _ _ _ _ h => by cases d <;> exact h) (by rfl) M56.size (fun _ _ h k => h.sf k) M56 (by kernel_rfl) ?_
  simp only [List.take_succ_cons, List.take_zero]
  refine SeqA.pure (.pointer (some ⟨b, 0, none⟩)) (fun w' => by go_simp) rfl rfl ?_
  refine SeqA.ld0 Tryd.underlying97 rfl inf_num (b15) (cs N64 (limbs (mulV (addV x z) (addV x z)))) rfl (by go_simp) (fun _ M => M.row (by simp)) (by simp []) rfl ?_
  refine SeqA.ld0 Tryd.underlying97 rfl inf_num (b13) (cs N64 (limbs (mulV (subV x z) (subV x z)))) rfl (by go_simp) (fun _ M => M.row (by simp)) (by simp []) rfl ?_
  refine SeqA.call _ _ _ (fun w' => by go_simp) (fun w' hI _ => nmul_any w' (mulV (addV x z) (addV x z)) (mulV (subV x z) (subV x z))) M56.size rfl rfl ?_
  refine SeqA.pure (.pointer (some ⟨b, 0, none⟩)) (fun w' => by go_simp) rfl rfl ?_
  simp only [Act.put, List.setIfInBounds_toArray, List.set_cons_succ, List.set_cons_zero]
  refine SeqA.pure (.pointer (some ⟨b, 4, none⟩)) (fun w' => by go_simp) rfl rfl ?_
  refine SeqA.nil (fun w57 M58 hz => ?_)
  show wpT _ _ _ _ _ _
  simp only [Act.put, List.setIfInBounds_toArray, List.set_cons_succ, List.set_cons_zero]
  refine wpT_stm (off := 4) M58 9 (cs N64 (limbs (mulV (mulV (addV x z) (addV x z)) (mulV (subV x z) (subV x z))))) (cs N64 (limbs u ++ (limbs (mulV (mulV (addV x z) (addV x z)) (mulV (subV x z) (subV x z)))) ++ limbs z ++ (limbs (mulV (addV (mulV (subV X Z) (addV x z)) (mulV (addV X Z) (subV x z))) (addV (mulV (subV X Z) (addV x z)) (mulV (addV X Z) (subV x z))))) ++ (limbs (mulV u (mulV (subV (mulV (subV X Z) (addV x z)) (mulV (addV X Z) (subV x z))) (subV (mulV (subV X Z) (addV x z)) (mulV (addV X Z) (subV x z)))))))) inf_num rfl rfl rfl rfl (by go_simp) (by go_simp) (by simp []) (by simp []) (by simp [go_sem]) (by rw [cs_extract, cs_extract, ← cs_append, ← cs_append] <;> congr 1 <;> simp []) rfl (fun w59 M60 => ?_)
  dsimp only [List.set] at M60
  dsimp only [wpT]
  go_upto_region 9 with fail
  refine wp_region_seq 10 [89, 90, 91, 92, 93, 94, 95, 96, 97, 98] [] [] [] (.op 10 .done) (Mm (fun g => g = b) w _) (by kernel_rfl) (by kernel_rfl) (by kernel_rfl) (fun d _ _ _ _ h => by cases d <;> exact h) (by rfl) M60.size (fun _ _ h k => h.sf k) M60 ?_
  simp only [List.take_succ_cons, List.take_zero]
  refine SeqA.pure (.pointer (some ⟨b, 0, none⟩)) (fun w' => by go_simp) rfl rfl ?_
  refine SeqA.ld0 Tryd.underlying97 rfl inf_num (b23) (cs N64 (limbs (subV (mulV (addV x z) (addV x z)) (mulV (subV x z) (subV x z))))) rfl (by go_simp) (fun _ M => M.row (by simp)) (by simp []) rfl ?_
  refine SeqA.ld0 Tryd.underlying97 rfl inf_num (b15) (cs N64 (limbs (mulV (addV x z) (addV x z)))) rfl (by go_simp) (fun _ M => M.row (by simp)) (by simp []) rfl ?_
  refine SeqA.ld0 Tryd.underlying97 rfl inf_num (b23) (cs N64 (limbs (subV (mulV (addV x z) (addV x z)) (mulV (subV x z) (subV x z))))) rfl (by go_simp) (fun _ M => M.row (by simp)) (by simp []) rfl ?_
  refine SeqA.pure (.agg (cs N64 (limbs 121665))) (fun w' => by go_simp) rfl rfl ?_
  simp only [Act.put, List.setIfInBounds_toArray, List.set_cons_succ, List.set_cons_zero]
  refine SeqA.call _ _ _ (fun w' => by go_simp) (fun w' hI _ => nmul_any w' (subV (mulV (addV x z) (addV x z)) (mulV (subV x z) (subV x z))) 121665) M60.size rfl rfl ?_
  refine SeqA.call _ _ _ (fun w' => by go_simp) (fun w' hI _ => nadd_any w' (mulV (addV x z) (addV x z)) (mulV (subV (mulV (addV x z) (addV x z)) (mulV (subV x z) (subV x z))) 121665)) M60.size rfl rfl ?_
  refine SeqA.call _ _ _ (fun w' => by go_simp) (fun w' hI _ => nmul_any w' (subV (mulV (addV x z) (addV x z)) (mulV (subV x z) (subV x z))) (addV (mulV (addV x z) (addV x z)) (mulV (subV (mulV (addV x z) (addV x z)) (mulV (subV x z) (subV x z))) 121665))) M60.size rfl rfl ?_
  refine SeqA.pure (.pointer (some ⟨b, 0, none⟩)) (fun w' => by go_simp) rfl rfl ?_
  refine SeqA.pure (.pointer (some ⟨b, 8, none⟩)) (fun w' => by go_simp) rfl rfl ?_
  refine SeqA.nil (fun w61 M62 hz => ?_)
  show wpT _ _ _ _ _ _
  simp only [Act.put, List.setIfInBounds_toArray, List.set_cons_succ, List.set_cons_zero]
  refine wpT_stm (off := 8) M62 9 (cs N64 (limbs (mulV (subV (mulV (addV x z) (addV x z)) (mulV (subV x z) (subV x z))) (addV (mulV (addV x z) (addV x z)) (mulV (subV (mulV (addV x z) (addV x z)) (mulV (subV x z) (subV x z))) 121665))))) (cs N64 (limbs u ++ (limbs (mulV (mulV (addV x z) (addV x z)) (mulV (subV x z) (subV x z)))) ++ (limbs (mulV (subV (mulV (addV x z) (addV x z)) (mulV (subV x z) (subV x z))) (addV (mulV (addV x z) (addV x z)) (mulV (subV (mulV (addV x z) (addV x z)) (mulV (subV x z) (subV x z))) 121665)))) ++ (limbs (mulV (addV (mulV (subV X Z) (addV x z)) (mulV (addV X Z) (subV x z))) (addV (mulV (subV X Z) (addV x z)) (mulV (addV X Z) (subV x z))))) ++ (limbs (mulV u (mulV (subV (mulV (subV X Z) (addV x z)) (mulV (addV X Z) (subV x z))) (subV (mulV (subV X Z) (addV x z)) (mulV (addV X Z) (subV x z)))))))) inf_num rfl rfl rfl rfl (by go_simp) (by go_simp) (by simp []) (by simp []) (by simp [go_sem]) (by rw [cs_extract, cs_extract, ← cs_append, ← cs_append] <;> congr 1 <;> simp []) rfl (fun w63 M64 => ?_)
  dsimp only [List.set] at M64
  dsimp only [wpT]
  go_wp2_with fail
  go_end0
  exact ⟨rfl, M64.sub (List.singleton_sublist.2 (by simp))⟩
end Go.Proofs.YtgclegdgngldoaaDoor
set_option linter.unusedSimpArgs false
set_option linter.unusedVariables false
namespace Go.Proofs.YtgclegdgngldoaaDoor
open Go.RowKit Fp
def bv (c : Bool) : BitVec 8 := if c then 1#8 else 0#8
def msk (c : Bool) : BitVec 64 := -((bv c).setWidth 64)
def g64 (l : List (BitVec 64)) (i : Nat) : BitVec 64 := l.getD i 0
theorem cell_g64 {w : World} {b : Nat} {L : List (BitVec 64)} (h : w.rowOf b = cs U64 L) {i : Nat} (hi : i < L.length) : w.cell? ⟨b, i, none⟩ = some (U64 (g64 L i)) := cell_cs (f := U64) 0 h hi
@[go_sem ↓] theorem uneg_64 (x : BitVec 64) : Op.unary .neg (U64 x) = pure (U64 (-x)) := by
  show Sem.pure (Value.int .u64 (IntKind.u64.wrap (0 - (x.toNat : Int)))) = Sem.pure (U64 (-x))
  rw [u64_wrap, Int.zero_sub, BitVec.ofInt_neg]; simp
def swL (c : Bool) (o1 o2 : Nat) (L : List (BitVec 64)) : Nat → List (BitVec 64)
  | 0 => L
  | i + 1 => ((swL c o1 o2 L i).set (o1 + i) (g64 (swL c o1 o2 L i) (o1 + i) ^^^ (msk c &&& (g64 (swL c o1 o2 L i) (o1 + i) ^^^ g64 (swL c o1 o2 L i) (o2 + i))))).set (o2 + i)
      (g64 ((swL c o1 o2 L i).set (o1 + i) (g64 (swL c o1 o2 L i) (o1 + i) ^^^ (msk c &&& (g64 (swL c o1 o2 L i) (o1 + i) ^^^ g64 (swL c o1 o2 L i) (o2 + i))))) (o2 + i) ^^^ (msk c &&& (g64 (swL c o1 o2 L i) (o1 + i) ^^^ g64 (swL c o1 o2 L i) (o2 + i))))
theorem swL_len (c : Bool) (o1 o2 : Nat) (L : List (BitVec 64)) : ∀ i, (swL c o1 o2 L i).length = L.length
  | 0 => rfl
  | i + 1 => by rw [swL, List.length_set, List.length_set, swL_len c o1 o2 L i]
theorem swL_succ {c : Bool} {o1 o2 : Nat} {L : List (BitVec 64)} {i : Nat} {l m1 : List (BitVec 64)} {m : BitVec 64} (hl : l = swL c o1 o2 L i) (hm : m = msk c &&& (g64 l (o1 + i) ^^^ g64 l (o2 + i))) (h1 : m1 = l.set (o1 + i) (g64 l (o1 + i) ^^^ m)) :
    m1.set (o2 + i) (g64 m1 (o2 + i) ^^^ m) = swL c o1 o2 L (i + 1) := by subst h1; subst hm; subst hl; rfl
attribute [local irreducible] swL msk bv
set_option maxRecDepth 100000 in
set_option maxHeartbeats 2000000 in
theorem swap_any (w : World) (b : Nat) (c : Bool) (o1 o2 : Nat) (L : List (BitVec 64)) (h1 : o1 + 4 ≤ L.length) (h2 : o2 + 4 ≤ L.length) (M : Mm (fun g => g = b) w [(b, cs U64 L)] w) :
    Calls Tryd.prog 59 #[U8 (bv c), .pointer (some ⟨b, o1, none⟩), .pointer (some ⟨b, o2, none⟩)] w fun e w' => e = .returned (.tuple #[]) ∧ Mm (fun g => g = b) w [(b, cs U64 (swL c o1 o2 L 4))] w' := by
  have hS0 := hid (show swL c o1 o2 L 0 = L by rw [swL])
  go_enter Tryd.func59, Tryd.ntmps59
  go_wp2_with fail
  rw [show -(BitVec.setWidth 64 (bv c)) = msk c by unfold msk; rfl]
  go_loopw [12] (fun t wr => ∃ i : Nat, i ≤ 4 ∧ t = .int .i64 i ∧ Mm (fun g => g = b) w [(b, cs U64 (swL c o1 o2 L i))] wr) (fun t _ => 4 - (intOf t).toNat)
  case atStart => exact ⟨0, by omega, rfl, by rw [hS0.out]; exact M⟩
  case round =>
    clear M
    obtain ⟨i, hi, rfl, M⟩ := hrel
    by_cases hlt : i < 4
    · have hlen := swL_len c o1 o2 L i
      obtain ⟨l, hl⟩ : ∃ l, l = swL c o1 o2 L i := ⟨_, rfl⟩
      rw [← hl] at M hlen
      have HL := hid hl
      clear hl
      go_upto_region 4 with fail
      refine wp_region_seq 14 [15, 16, 17, 18, 19, 20, 21, 22, 23, 24, 25, 26, 27, 8] [] [] [] (.done) (Mm (fun g => g = b) w _) (by kernel_rfl) (by kernel_rfl) (by kernel_rfl) (fun d _ _ _ _ h => by cases d <;> exact h) (by rfl) M.size (fun _ _ h k => h.sf k) M ?_
      simp only [List.take_succ_cons, List.take_zero]
      refine SeqA.pure (U64 (msk c)) (fun w' => by go_simp) rfl rfl ?_
      refine SeqA.pure (.pointer (some ⟨b, o1, none⟩)) (fun w' => by go_simp) rfl rfl ?_
      refine SeqA.pure (.int .i64 i) (fun w' => by go_simp) rfl rfl ?_
      refine SeqA.pure (.pointer (some ⟨b, o1, none⟩)) (fun w' => by go_simp) rfl rfl ?_
      refine SeqA.pure (.pointer (some ⟨b, o1 + i, none⟩)) (fun w' => by go_simp) rfl rfl ?_
      simp only [Act.put, List.setIfInBounds_toArray, List.set_cons_succ, List.set_cons_zero]
      refine SeqA.read (U64 (g64 l (o1 + i))) (fun w' M => by have c0 := cell_g64 (M.row (b := b) (c := cs U64 l) (by simp)) (i := o1 + i) (by omega); go_simp) rfl rfl ?_
      refine SeqA.pure (.pointer (some ⟨b, o2, none⟩)) (fun w' => by go_simp) rfl rfl ?_
      refine SeqA.pure (.int .i64 i) (fun w' => by go_simp) rfl rfl ?_
      refine SeqA.pure (.pointer (some ⟨b, o2, none⟩)) (fun w' => by go_simp) rfl rfl ?_
      refine SeqA.pure (.pointer (some ⟨b, o2 + i, none⟩)) (fun w' => by go_simp) rfl rfl ?_
      refine SeqA.read (U64 (g64 l (o2 + i))) (fun w' M => by have c0 := cell_g64 (M.row (b := b) (c := cs U64 l) (by simp)) (i := o2 + i) (by omega); go_simp) rfl rfl ?_
      simp only [Act.put, List.setIfInBounds_toArray, List.set_cons_succ, List.set_cons_zero]
      refine SeqA.pure (U64 (g64 l (o1 + i) ^^^ g64 l (o2 + i))) (fun w' => by go_simp) rfl rfl ?_
      refine SeqA.pure (U64 (msk c &&& (g64 l (o1 + i) ^^^ g64 l (o2 + i)))) (fun w' => by go_simp) rfl rfl ?_
      refine SeqA.pure (U64 (msk c &&& (g64 l (o1 + i) ^^^ g64 l (o2 + i)))) (fun w' => by go_simp) rfl rfl ?_
      refine SeqA.nil (fun w1 M2 hz => ?_)
      show wpT _ _ _ _ _ _
      simp only [Act.put, List.setIfInBounds_toArray, List.set_cons_succ, List.set_cons_zero]
      dsimp only [wpT]
      go_upto_region 5 with fail
      obtain ⟨m, hm⟩ : ∃ m, m = msk c &&& (g64 l (o1 + i) ^^^ g64 l (o2 + i)) := ⟨_, rfl⟩
      rw [← hm]
      have HM := hid hm
      clear hm M
      have M := M2
      clear M2
      refine wp_region_seq 9 [28, 29, 30, 31, 32, 33, 34, 35, 36] [] [] [] (.op 9 .done) (Mm (fun g => g = b) w _) (by kernel_rfl) (by kernel_rfl) (by kernel_rfl) (fun d _ _ _ _ h => by cases d <;> exact h) (by rfl) M.size (fun _ _ h k => h.sf k) M ?_
      simp only [List.take_succ_cons, List.take_zero]
      refine SeqA.pure (.pointer (some ⟨b, o1, none⟩)) (fun w' => by go_simp) rfl rfl ?_
      refine SeqA.pure (.int .i64 i) (fun w' => by go_simp) rfl rfl ?_
      refine SeqA.pure (.pointer (some ⟨b, o1, none⟩)) (fun w' => by go_simp) rfl rfl ?_
      refine SeqA.pure (.pointer (some ⟨b, o1 + i, none⟩)) (fun w' => by go_simp) rfl rfl ?_
      refine SeqA.read (U64 (g64 l (o1 + i))) (fun w' M => by have c0 := cell_g64 (M.row (b := b) (c := cs U64 l) (by simp)) (i := o1 + i) (by omega); go_simp) rfl rfl ?_
      simp only [Act.put, List.setIfInBounds_toArray, List.set_cons_succ, List.set_cons_zero]
      refine SeqA.pure (U64 m) (fun w' => by go_simp) rfl rfl ?_
      refine SeqA.pure (U64 (g64 l (o1 + i) ^^^ m)) (fun w' => by go_simp) rfl rfl ?_
      refine SeqA.pure (.pointer (some ⟨b, o1, none⟩)) (fun w' => by go_simp) rfl rfl ?_
      refine SeqA.pure (.pointer (some ⟨b, o1 + i, none⟩)) (fun w' => by go_simp) rfl rfl ?_
      refine SeqA.nil (fun w1 M2 hz => ?_)
      show wpT _ _ _ _ _ _
      simp only [Act.put, List.setIfInBounds_toArray, List.set_cons_succ, List.set_cons_zero]
      refine wpT_stc M2 0 (U64 (g64 l (o1 + i) ^^^ m)) (cs U64 (l.set (o1 + i) (g64 l (o1 + i) ^^^ m))) inf_u64 rfl rfl rfl rfl (by go_simp) (by go_simp) (by have := (by omega : o1 + i < l.length); first | (simp; done) | (simpa using this) | (simp; omega)) (by simp [go_sem]) (cs_set _ _) rfl (fun w3 M4 => ?_)
      dsimp only [List.set] at M4
      dsimp only [wpT]
      go_upto_region 6 with fail
      obtain ⟨m1, hm1⟩ : ∃ m1, m1 = l.set (o1 + i) (g64 l (o1 + i) ^^^ m) := ⟨_, rfl⟩
      have hlen1 : m1.length = L.length := by rw [hm1, List.length_set, hlen]
      have HM1 := hid hm1
      have M5 : Mm (fun g => g = b) w [(b, cs U64 m1)] w3 := by rw [hm1]; exact M4
      clear hm1
      refine wp_region_seq 9 [37, 38, 39, 40, 41, 42, 43, 44, 45] [] [] [] (.op 9 .done) (Mm (fun g => g = b) w _) (by kernel_rfl) (by kernel_rfl) (by kernel_rfl) (fun d _ _ _ _ h => by cases d <;> exact h) (by rfl) M5.size (fun _ _ h k => h.sf k) M5 ?_
      simp only [List.take_succ_cons, List.take_zero]
      refine SeqA.pure (.pointer (some ⟨b, o2, none⟩)) (fun w' => by go_simp) rfl rfl ?_
      refine SeqA.pure (.int .i64 i) (fun w' => by go_simp) rfl rfl ?_
      refine SeqA.pure (.pointer (some ⟨b, o2, none⟩)) (fun w' => by go_simp) rfl rfl ?_
      refine SeqA.pure (.pointer (some ⟨b, o2 + i, none⟩)) (fun w' => by go_simp) rfl rfl ?_
      refine SeqA.read (U64 (g64 m1 (o2 + i))) (fun w' M => by have c0 := cell_g64 (M.row (b := b) (c := cs U64 m1) (by simp)) (i := o2 + i) (by omega); go_simp) rfl rfl ?_
      simp only [Act.put, List.setIfInBounds_toArray, List.set_cons_succ, List.set_cons_zero]
      refine SeqA.pure (U64 m) (fun w' => by go_simp) rfl rfl ?_
      refine SeqA.pure (U64 (g64 m1 (o2 + i) ^^^ m)) (fun w' => by go_simp) rfl rfl ?_
      refine SeqA.pure (.pointer (some ⟨b, o2, none⟩)) (fun w' => by go_simp) rfl rfl ?_
      refine SeqA.pure (.pointer (some ⟨b, o2 + i, none⟩)) (fun w' => by go_simp) rfl rfl ?_
      refine SeqA.nil (fun w1 M2 hz => ?_)
      show wpT _ _ _ _ _ _
      simp only [Act.put, List.setIfInBounds_toArray, List.set_cons_succ, List.set_cons_zero]
      refine wpT_stc M2 0 (U64 (g64 m1 (o2 + i) ^^^ m)) (cs U64 (m1.set (o2 + i) (g64 m1 (o2 + i) ^^^ m))) inf_u64 rfl rfl rfl rfl (by go_simp) (by go_simp) (by have := (by omega : o2 + i < m1.length); first | (simp; done) | (simpa using this) | (simp; omega)) (by simp [go_sem]) (cs_set _ _) rfl (fun w3 M4 => ?_)
      dsimp only [List.set] at M4
      dsimp only [wpT]
      go_wp2_with fail
      go_roundw
      case rel => exact ⟨i + 1, by omega, by go_num, by rw [← swL_succ HL.out HM.out HM1.out]; exact M4⟩
      case measure => simp [intOf]; omega
    · have : i = 4 := by omega
      subst this
      go_wp2_with fail
      go_end0
      exact ⟨rfl, M⟩
theorem inf_pair : (Tryd.prog.info? 118).map (·.size) = some 64 := by kernel_rfl
section
variable (ρ : Operand → Value) (dst : Option Tmp) (ty : TypeId) (pos : String) (after : Array Edge) (guard : Option (Nat × Bool)) (w : World)
@[go_sem ↓] theorem rl_pair (x : Operand) : (execOp ρ { dst, op := .load 118 x, type := ty, pos, after, guard }).run Tryd.prog w = exLoad Tryd.prog 118 (ρ x) w := x_load ..
@[go_sem ↓] theorem rs_pair (x y : Operand) : (execOp ρ { dst, op := .store 118 x y, type := ty, pos, after, guard }).run Tryd.prog w = exStore Tryd.prog 118 (ρ x) (ρ y) w := x_store ..
@[go_sem ↓] theorem ra_pair : (execOp ρ { dst, op := .alloc 118, type := ty, pos, after, guard }).run Tryd.prog w = .ok (.value (.pointer (some ⟨w.heap.size, 0, none⟩))) (w.alloc (.cells (cs U8 (zs 32 ++ zs 32)) 118)) :=
  (x_alloc ..).trans (x_alloc0 (v := .agg (cs U8 (zs 32 ++ zs 32))) _ (by kernel_rfl))
@[go_sem] theorem xl_pair (b : Nat) (h : (w.rowOf b).size = 64) : exLoad Tryd.prog 118 (.pointer (some ⟨b, 0, none⟩)) w = .ok (.value (.agg (w.rowOf b))) w := x_load0 _ Tryd.underlying118 rfl inf_pair b h
@[go_sem] theorem xlm_pair (b o : Nat) (ho : 0 < o) (h : o + 64 ≤ (w.rowOf b).size) : exLoad Tryd.prog 118 (.pointer (some ⟨b, o, none⟩)) w = .ok (.value (.agg ((w.rowOf b).extract o (o + 64)))) w := x_loadm _ Tryd.underlying118 rfl inf_pair b o h
@[go_sem] theorem xs_pair (b : Nat) (c : Array Value) (hl : c.size = 64) (h1 : ones c = true) (h : (w.rowOf b).size = 64) (hf : w.free b = true) : exStore Tryd.prog 118 (.pointer (some ⟨b, 0, none⟩)) (.agg c) w = .ok .skip (w.setRow b c) :=
  x_store0 _ inf_pair b c hl h hf (ones_all h1)
@[go_sem] theorem xsm_pair (b o : Nat) (ho : 0 < o) (c : Array Value) (hl : c.size = 64) (h1 : ones c = true) (h : o + 64 ≤ (w.rowOf b).size) (hf : w.free b = true) : exStore Tryd.prog 118 (.pointer (some ⟨b, o, none⟩)) (.agg c) w = .ok .skip (w.setSeg b o c) :=
  x_storem _ inf_pair b o c hl h hf (ones_all h1)
end
@[go_sem ↓] theorem rb_pair (ρ : Operand → Value) (dst : Option Tmp) (ty : TypeId) (pos : String) (after : Array Edge) (guard : Option (Nat × Bool)) (w : World) (ps : Array (Nat × Operand)) :
    (execOp ρ { dst, op := .build 118 ps, type := ty, pos, after, guard }).run Tryd.prog w = exBuild Tryd.prog 118 (ps.map fun p => (p.1, ρ p.2)) w := x_build ..
def twZu (u x z : F) : F := ((x + z) * (x + z) - (x - z) * (x - z)) * ((x + z) * (x + z) + u * ((x + z) * (x + z) - (x - z) * (x - z)))
end Go.Proofs.YtgclegdgngldoaaDoor
set_option linter.unusedSimpArgs false
set_option linter.unusedVariables false
namespace Go.Proofs.YtgclegdgngldoaaDoor
open Go.RowKit Fp
theorem leN_byte : ∀ (l : List (BitVec 8)) (j : Nat), j < l.length → (l.getD j 0).toNat = leN l / 256 ^ j % 256
  | [], _, h => by simp at h
  | x :: r, 0, _ => by have := x.isLt; rw [leN_cons]; simp; omega
  | x :: r, j + 1, h => by
    have h1 := leN_byte r j (by simpa using h)
    have := x.isLt
    rw [leN_cons, List.getD_cons_succ, h1, Nat.pow_succ, Nat.mul_comm (256 ^ j) 256, ← Nat.div_div_eq_div_mul, show (x.toNat + 256 * leN r) / 256 = leN r by omega]
theorem bit_of (m r : Nat) (h : r < 8) : m % 256 / 2 ^ r % 2 = m / 2 ^ r % 2 := by
  have : r = 0 ∨ r = 1 ∨ r = 2 ∨ r = 3 ∨ r = 4 ∨ r = 5 ∨ r = 6 ∨ r = 7 := by omega
  rcases this with rfl | rfl | rfl | rfl | rfl | rfl | rfl | rfl <;> simp only [Nat.reducePow] <;> omega
theorem leN_bit (l : List (BitVec 8)) (i : Nat) (h : i / 8 < l.length) : leN l / 2 ^ i % 2 = (l.getD (i / 8) 0).toNat / 2 ^ (i % 8) % 2 := by
  rw [leN_byte l _ h, bit_of _ _ (Nat.mod_lt _ (by decide)), Nat.div_div_eq_div_mul]
  congr 2
  rw [show (256 : Nat) = 2 ^ 8 from rfl, ← Nat.pow_mul, ← Nat.pow_add]
  congr 1; omega
theorem bv_lt (n : Nat) : BitVec.ofNat 8 (n % 2) = bv (n % 2 == 1) := by
  have : n % 2 = 0 ∨ n % 2 = 1 := by omega
  rcases this with h | h <;> rw [h] <;> rfl
theorem n2 (n : Nat) : (BitVec.ofNat 8 (n % 2)).toNat = n % 2 := by rw [BitVec.toNat_ofNat]; omega
theorem bit_and (x : BitVec 8) (r : Nat) : (x >>> r) &&& 1#8 = bv (x.toNat / 2 ^ r % 2 == 1) := by
  rw [← bv_lt]
  apply BitVec.eq_of_toNat_eq
  rw [BitVec.toNat_and, BitVec.toNat_ushiftRight, Nat.shiftRight_eq_div_pow, n2]
  show _ &&& 1 = _
  rw [Nat.and_one_is_mod]
theorem bv_xor (c d : Bool) : bv c ^^^ bv d = bv (c != d) := by cases c <;> cases d <;> rfl
theorem cs_N64 (L : List Nat) (h : ∀ x ∈ L, x < 18446744073709551616) : cs N64 L = cs U64 (L.map (BitVec.ofNat 64)) := by
  unfold cs; congr 1
  rw [List.map_map]
  refine List.map_congr_left fun x hx => ?_
  show Value.int .u64 (x : Int) = Value.int .u64 ((BitVec.ofNat 64 x).toNat : Int)
  rw [BitVec.toNat_ofNat, Nat.mod_eq_of_lt (h x hx)]
theorem xx1 (a d : BitVec 64) : a ^^^ (a ^^^ d) = d := by rw [← BitVec.xor_assoc, BitVec.xor_self, BitVec.zero_xor]
theorem xx2 (a d : BitVec 64) : d ^^^ (a ^^^ d) = a := by rw [BitVec.xor_comm a d, xx1]
theorem msk_t (a : BitVec 64) : msk true &&& a = a := by rw [show msk true = BitVec.allOnes 64 by decide +kernel, BitVec.allOnes_and]
theorem msk_f (a : BitVec 64) : msk false &&& a = 0#64 := by rw [show msk false = 0#64 by decide +kernel, BitVec.zero_and]
theorem x0 (a : BitVec 64) : a ^^^ 0#64 = a := BitVec.xor_zero
def sw (c : Bool) (x y : Nat) : Nat := if c then y else x
theorem limbs_lt (n : Nat) : ∀ x ∈ limbs n, x < 18446744073709551616 := by
  intro x hx
  simp only [limbs, List.mem_cons, List.not_mem_nil, or_false] at hx
  rcases hx with rfl | rfl | rfl | rfl <;> exact Nat.mod_lt _ (by decide)
theorem l5_lt (u x z X Z : Nat) : ∀ y ∈ limbs u ++ limbs x ++ limbs z ++ limbs X ++ limbs Z, y < 18446744073709551616 := by
  intro y hy
  simp only [List.mem_append] at hy
  rcases hy with (((h | h) | h) | h) | h <;> exact limbs_lt _ _ h
set_option maxHeartbeats 1000000 in
theorem swL_x (c : Bool) (u0 u1 u2 u3 x0' x1 x2 x3 z0 z1 z2 z3 X0 X1 X2 X3 Z0 Z1 Z2 Z3 : BitVec 64) :
    swL c 4 12 [u0, u1, u2, u3, x0', x1, x2, x3, z0, z1, z2, z3, X0, X1, X2, X3, Z0, Z1, Z2, Z3] 4 =
      if c then [u0, u1, u2, u3, X0, X1, X2, X3, z0, z1, z2, z3, x0', x1, x2, x3, Z0, Z1, Z2, Z3] else [u0, u1, u2, u3, x0', x1, x2, x3, z0, z1, z2, z3, X0, X1, X2, X3, Z0, Z1, Z2, Z3] := by
  cases c <;> simp [swL, g64, msk_t, msk_f, xx1, xx2, x0]
set_option maxHeartbeats 1000000 in
theorem swL_z (c : Bool) (u0 u1 u2 u3 x0' x1 x2 x3 z0 z1 z2 z3 X0 X1 X2 X3 Z0 Z1 Z2 Z3 : BitVec 64) :
    swL c 8 16 [u0, u1, u2, u3, x0', x1, x2, x3, z0, z1, z2, z3, X0, X1, X2, X3, Z0, Z1, Z2, Z3] 4 =
      if c then [u0, u1, u2, u3, x0', x1, x2, x3, Z0, Z1, Z2, Z3, X0, X1, X2, X3, z0, z1, z2, z3] else [u0, u1, u2, u3, x0', x1, x2, x3, z0, z1, z2, z3, X0, X1, X2, X3, Z0, Z1, Z2, Z3] := by
  cases c <;> simp [swL, g64, msk_t, msk_f, xx1, xx2, x0]
theorem swapx_c (w : World) (b : Nat) (c : Bool) (u x z X Z : Nat) (M : Mm (fun g => g = b) w [(b, cs N64 (limbs u ++ limbs x ++ limbs z ++ limbs X ++ limbs Z))] w) :
    Calls Tryd.prog 59 #[U8 (bv c), .pointer (some ⟨b, 4, none⟩), .pointer (some ⟨b, 12, none⟩)] w fun e w' => e = .returned (.tuple #[]) ∧ Mm (fun g => g = b) w [(b, cs N64 (limbs u ++ limbs (sw c x X) ++ limbs z ++ limbs (sw c X x) ++ limbs Z))] w' := by
  rw [cs_N64 _ (l5_lt u x z X Z)] at M
  refine (swap_any w b c 4 12 _ (by simp) (by simp) M).mono fun e w' ⟨h, M2⟩ => ⟨h, ?_⟩
  rw [cs_N64 _ (l5_lt u (sw c x X) z (sw c X x) Z)]
  have e : swL c 4 12 ((limbs u ++ limbs x ++ limbs z ++ limbs X ++ limbs Z).map (BitVec.ofNat 64)) 4 = (limbs u ++ limbs (sw c x X) ++ limbs z ++ limbs (sw c X x) ++ limbs Z).map (BitVec.ofNat 64) := by
    refine (swL_x c ..).trans ?_
    cases c <;> rfl
  rw [← e]; exact M2
theorem swapz_c (w : World) (b : Nat) (c : Bool) (u x z X Z : Nat) (M : Mm (fun g => g = b) w [(b, cs N64 (limbs u ++ limbs x ++ limbs z ++ limbs X ++ limbs Z))] w) :
    Calls Tryd.prog 59 #[U8 (bv c), .pointer (some ⟨b, 8, none⟩), .pointer (some ⟨b, 16, none⟩)] w fun e w' => e = .returned (.tuple #[]) ∧ Mm (fun g => g = b) w [(b, cs N64 (limbs u ++ limbs x ++ limbs (sw c z Z) ++ limbs X ++ limbs (sw c Z z)))] w' := by
  rw [cs_N64 _ (l5_lt u x z X Z)] at M
  refine (swap_any w b c 8 16 _ (by simp) (by simp) M).mono fun e w' ⟨h, M2⟩ => ⟨h, ?_⟩
  rw [cs_N64 _ (l5_lt u x (sw c z Z) X (sw c Z z))]
  have e : swL c 8 16 ((limbs u ++ limbs x ++ limbs z ++ limbs X ++ limbs Z).map (BitVec.ofNat 64)) 4 = (limbs u ++ limbs x ++ limbs (sw c z Z) ++ limbs X ++ limbs (sw c Z z)).map (BitVec.ofNat 64) := by
    refine (swL_z c ..).trans ?_
    cases c <;> rfl
  rw [← e]; exact M2
/-- a box that is made behind others -/
theorem wpT_box {P : Program} {ops : Array Oper} {Q : Exit → Act → World → Prop} {i : Nat} {t : Tr} {a : Act} {o : Oper} {S : Nat → Prop} {w0 w : World} {H : List (Nat × Array Value)} {c : Array Value} {T : TypeId} (M : Mm S w0 H w) (hT : T ≠ 5) (ho : ops[i]? = some o) (hw : Region.wanted o (yielded ops a.tmps) = true)
    (hrun : (execOp a.eval o).run P w = .ok (.value (.pointer (some ⟨w.heap.size, 0, none⟩))) (w.alloc (.cells c T)))
    (h : ∀ b w', Mm S w0 ((b, c) :: H) w' → wpT P ops Q t (a.put o.dst (.pointer (some ⟨b, 0, none⟩))) w') : wpT P ops Q (.op i t) a w :=
  wpT_val ho hw hrun (h _ _ (M.alloc c T hT))
/-- the state of the ladder, as it lies, changed or not -/
def st (c : Bool) (x z X Z : F) : St := bif c then ⟨X, Z, x, z⟩ else ⟨x, z, X, Z⟩
theorem step_law (u : F) (d : Bool) (x z X Z : F) (s : St) (h : s = st d x z X Z) :
    lstep u d s = st d (twX x z) (twZ x z) (smX x z X Z) (smZ u x z X Z) := by
  subst h; cases d <;> rfl
theorem st_swap (c d : Bool) (x z X Z : Nat) : st d (fv (sw (c != d) x X)) (fv (sw (c != d) z Z)) (fv (sw (c != d) X x)) (fv (sw (c != d) Z z)) = st c (fv x) (fv z) (fv X) (fv Z) := by
  cases c <;> cases d <;> rfl
theorem fv_121665 : fv 121665 = 121665 := by decide +kernel
theorem fv_twX (x z : Nat) : fv (mulV (mulV (addV x z) (addV x z)) (mulV (subV x z) (subV x z))) = twX (fv x) (fv z) := by simp only [fv_mul, fv_add, fv_sub]; rfl
theorem fv_twZ (x z : Nat) : fv (mulV (subV (mulV (addV x z) (addV x z)) (mulV (subV x z) (subV x z))) (addV (mulV (addV x z) (addV x z)) (mulV (subV (mulV (addV x z) (addV x z)) (mulV (subV x z) (subV x z))) 121665))) = twZ (fv x) (fv z) := by
  simp only [fv_mul, fv_add, fv_sub, fv_121665]; unfold twZ; grind
theorem fv_smX (x z X Z : Nat) : fv (mulV (addV (mulV (subV X Z) (addV x z)) (mulV (addV X Z) (subV x z))) (addV (mulV (subV X Z) (addV x z)) (mulV (addV X Z) (subV x z)))) = smX (fv x) (fv z) (fv X) (fv Z) := by simp only [fv_mul, fv_add, fv_sub]; rfl
theorem fv_smZ (u x z X Z : Nat) : fv (mulV u (mulV (subV (mulV (subV X Z) (addV x z)) (mulV (addV X Z) (subV x z))) (subV (mulV (subV X Z) (addV x z)) (mulV (addV X Z) (subV x z))))) = smZ (fv u) (fv x) (fv z) (fv X) (fv Z) := by simp only [fv_mul, fv_add, fv_sub]; rfl
end Go.Proofs.YtgclegdgngldoaaDoor
set_option linter.unusedSimpArgs false
set_option linter.unusedVariables false
namespace Go.Proofs.YtgclegdgngldoaaDoor
open Go.RowKit Fp
/-- what the ladder answers, hid from the kernel -/
theorem gv_ex : ∃ f : Nat → F → F, f = gx := ⟨_, rfl⟩
noncomputable def gv : Nat → F → F := Classical.choose gv_ex
theorem gv_eq (k : Nat) (u : F) : gv k u = gx k u := congrFun (congrFun (Classical.choose_spec gv_ex) k) u
theorem wpT_calld {P : Program} {ops : Array Oper} {Q : Exit → Act → World → Prop} {i : Nat} {t : Tr} {a : Act} {w : World} {o : Oper} (d : Nat) {f : FuncId} {args : Array Value} {R : Ending → World → Prop} (hd : o.dst = some d) (ho : ops[i]? = some o) (hw : Region.wanted o (yielded ops a.tmps) = true) (hrun : (execOp a.eval o).run P w = .ok (.enter f args) w) (hc : Calls P f args w R)
    (h : ∀ e w', R e w' → ∃ v, e = .returned v ∧ wpT P ops Q t (a.put (some d) v) w') : wpT P ops Q (.op i t) a w := wpT_call ho hw hrun hc (by rw [hd]; exact h)
theorem keyV_fv (n : Nat) : keyV n = K (fv n) := rfl
theorem lad_zero (u : F) (k : Nat) : lad u k 0 = ⟨1, 0, u, 1⟩ := rfl
theorem lad_succ (u : F) (k n : Nat) : lad u k (n + 1) = lstep u ((k / 2 ^ (254 - n)) % 2 == 1) (lad u k n) := rfl
theorem lad_start (u k : Nat) : lad (fv u) k 0 = st false (fv 1) (fv 0) (fv u) (fv 1) := by
  rw [lad_zero]; unfold st
  rw [show fv 1 = 1 by decide +kernel, show fv 0 = 0 by decide +kernel]; rfl
theorem wrap64_id {n : Int} (h1 : -9223372036854775808 ≤ n) (h2 : n < 9223372036854775808) : wrap64 n = n := by
  first | exact i64w n h1 h2 | (unfold wrap64; omega) | (simp [wrap64]; omega)
theorem st_x2 (c : Bool) (x z X Z : Nat) : (st c (fv x) (fv z) (fv X) (fv Z)).x2 = fv (sw c x X) := by cases c <;> rfl
theorem st_z2 (c : Bool) (x z X Z : Nat) : (st c (fv x) (fv z) (fv X) (fv Z)).z2 = fv (sw c z Z) := by cases c <;> rfl
theorem gx_of {u : F} {k : Nat} {x z : Nat} {s : St} (h : lad u k 255 = s) (hx : s.x2 = fv x) (hz : s.z2 = fv z) : fv (mulV x (invV z)) = gv k u := by
  rw [gv_eq, fv_mul, fv_inv, ← hx, ← hz, ← h]; rfl
@[go_sem ↓] theorem rb_lad (ρ : Operand → Value) (dst : Option Tmp) (ty : TypeId) (pos : String) (after : Array Edge) (guard : Option (Nat × Bool)) (w : World) (ps : Array (Nat × Operand)) :
    (execOp ρ { dst, op := .build 101 ps, type := ty, pos, after, guard }).run Tryd.prog w = exBuild Tryd.prog 101 (ps.map fun p => (p.1, ρ p.2)) w := x_build ..
theorem xb_lad (w : World) (p : Nat) : exBuild Tryd.prog 101 #[(0, .agg (cs N64 (limbs p))), (1, .agg (cs N64 (limbs 1))), (3, .agg (cs N64 (limbs p))), (4, .agg (cs N64 (limbs 1)))] w =
    .ok (.value (.agg (cs N64 (limbs p ++ limbs 1 ++ limbs 0 ++ limbs p ++ limbs 1)))) w := by
  unfold exBuild; rw [run_build w _ _ (cs N64 (limbs p ++ limbs 1 ++ limbs 0 ++ limbs p ++ limbs 1)) (by kernel_rfl)]; rfl
attribute [local irreducible] lad gx bv sw st
set_option maxRecDepth 100000 in
set_option maxHeartbeats 4000000 in
theorem times_any (w : World) (a b : List (BitVec 8)) (ha : a.length = 32) (hb : b.length = 32) :
    Calls Tryd.prog 36 #[.agg (cs U8 a), .agg (cs U8 b)] w fun e w' => e = .returned (.agg (cs U8 (K (gv (leN a) (Fk b))))) ∧ Below w.heap.size w w' := by
  have HFv := hid (fv_leN hb)
  have M0 := Mm.start no w
  go_enter Tryd.func36, Tryd.ntmps36
  have M2 := (((M0.alloc (cs U8 a) 23 (by decide)).alloc (cs U8 b) 23 (by decide)).alloc (cs U8 (zs 32)) 23 (by decide))
  try simp only [World.size_alloc] at M2
  go_upto_region 1 with fail
  obtain ⟨w1, hw1⟩ : ∃ w1, w1 = (((w.alloc (.cells (cs U8 a) 23)).alloc (.cells (cs U8 b) 23)).alloc (.cells (cs U8 (zs 32)) 23)) := ⟨_, rfl⟩
  rw [← hw1] at M2 ⊢
  clear hw1
  refine wp_region_seqF 5 [11, 12, 13, 5, 6] [] [] [] (.op 5 (.op 6 .done)) (Mm no w _) (by kernel_rfl) (by kernel_rfl) (fun d _ _ _ _ h => by cases d <;> exact h) (by rfl) M2.size (fun _ _ h k => h.sf k) M2 (by kernel_rfl) ?_
  simp only [List.take_succ_cons, List.take_zero]
  refine SeqA.pure (.agg (cs N64 (limbs 1))) (fun w' => by go_simp) rfl rfl ?_
  refine SeqA.ld0 Tryd.underlying23 rfl inf_key (w.heap.size + 1) (cs U8 b) rfl (by go_simp) (fun _ M => M.row (by simp)) (by simp [ha, hb]) rfl ?_
  refine SeqA.call _ _ _ (fun w' => by go_simp) (fun w' hI _ => of_any w' b (by simp [ha, hb])) M2.size rfl rfl ?_
  refine SeqA.var (z := .agg (cs N64 (limbs 0))) (by kernel_rfl) rfl rfl (by decide) rfl ?_
  refine SeqA.var (z := .agg (cs N64 (limbs 0))) (by kernel_rfl) rfl rfl (by decide) rfl ?_
  refine SeqA.nil (fun w3 M4 hz => ?_)
  refine news_one (fun b5 hb1 hb2 hb3 => ?_)
  have M6 := M2.in_ (c := cs N64 (limbs 0)) M4 hb1 hb2 (by decide) hb3 rfl
  refine news_one (fun b7 hb1 hb2 hb3 => ?_)
  have M8 := M2.in_ (c := cs N64 (limbs 0)) M6 hb1 hb2 (by decide) hb3 rfl
  show wpT _ _ _ _ _ _
  simp only [Act.put, List.setIfInBounds_toArray, List.set_cons_succ, List.set_cons_zero]
  refine wpT_st0 M8 0 (cs N64 (limbs 1)) inf_num rfl rfl rfl rfl (by go_simp) (by go_simp) (by simp [ha, hb]) (by simp [ha, hb]) (by simp [go_sem]) rfl (fun w9 M10 => ?_)
  dsimp only [List.set] at M10
  refine wpT_st0 M10 1 (cs N64 (limbs (leN b))) inf_num rfl rfl rfl rfl (by go_simp) (by go_simp) (by simp [ha, hb]) (by simp [ha, hb]) (by simp [go_sem]) rfl (fun w11 M12 => ?_)
  dsimp only [List.set] at M12
  dsimp only [wpT]
  go_upto_region 2 with fail
  refine wp_region_seqF 5 [14, 15, 16, 17, 18] [] [] [] (.op 5 (.op 6 .done)) (Mm no w _) (by kernel_rfl) (by kernel_rfl) (fun d _ _ _ _ h => by cases d <;> exact h) (by rfl) M12.size (fun _ _ h k => h.sf k) M12 (by kernel_rfl) ?_
  simp only [List.take_succ_cons, List.take_zero]
  refine SeqA.ld0 Tryd.underlying97 rfl inf_num (b5) (cs N64 (limbs (leN b))) rfl (by go_simp) (fun _ M => M.row (by simp)) (by simp [ha, hb]) rfl ?_
  refine SeqA.ld0 Tryd.underlying97 rfl inf_num (b7) (cs N64 (limbs 1)) rfl (by go_simp) (fun _ M => M.row (by simp)) (by simp [ha, hb]) rfl ?_
  refine SeqA.ld0 Tryd.underlying97 rfl inf_num (b5) (cs N64 (limbs (leN b))) rfl (by go_simp) (fun _ M => M.row (by simp)) (by simp [ha, hb]) rfl ?_
  refine SeqA.ld0 Tryd.underlying97 rfl inf_num (b7) (cs N64 (limbs 1)) rfl (by go_simp) (fun _ M => M.row (by simp)) (by simp [ha, hb]) rfl ?_
  refine SeqA.pure (.agg (cs N64 (limbs (leN b) ++ limbs 1 ++ limbs 0 ++ limbs (leN b) ++ limbs 1))) (fun w' => by have q := xb_lad w' (leN b); go_simp) rfl rfl ?_
  refine SeqA.nil (fun w13 M14 hz => ?_)
  show wpT _ _ _ _ _ _
  simp only [Act.put, List.setIfInBounds_toArray, List.set_cons_succ, List.set_cons_zero]
  refine wpT_box (c := cs N64 (limbs (leN b) ++ limbs 1 ++ limbs 0 ++ limbs (leN b) ++ limbs 1)) (T := 101) M14 (by decide) rfl rfl (by go_simp) (fun g w9 M9 => ?_)
  refine wpT_val (v := .pointer (some ⟨g, 0, none⟩)) rfl rfl rfl ?_
  dsimp only [wpT]
  simp only [Act.put, List.setIfInBounds_toArray, List.set_cons_succ, List.set_cons_zero]
  go_wp2_with fail
  go_loopw [8, 9] (fun s t wr => ∃ (n : Nat) (c : Bool) (x z X Z : Nat), n ≤ 255 ∧ s = U8 (bv c) ∧ t = .int .i64 (254 - (n : Int)) ∧ lad (fv (leN b)) (leN a) n = st c (fv x) (fv z) (fv X) (fv Z) ∧ Mm no w [(g, cs N64 (limbs (leN b) ++ limbs x ++ limbs z ++ limbs X ++ limbs Z)), (b7, cs N64 (limbs 1)), (b5, cs N64 (limbs (leN b))), (w.heap.size + 1 + 1, cs U8 (zs 32)), (w.heap.size + 1, cs U8 b), (w.heap.size, cs U8 a)] wr) (fun _ t _ => (intOf t + 1).toNat)
  case atStart => exact ⟨0, false, 1, 0, leN b, 1, by omega, by unfold bv; rfl, rfl, lad_start _ _, M9⟩
  case round =>
    clear M9
    obtain ⟨n, c, x, z, X, Z, hn, rfl, rfl, hlad, M⟩ := hrel
    have HLad := hid hlad
    clear hlad
    by_cases hlt : n < 255
    · obtain ⟨j, hj⟩ : ∃ j : Nat, (254 : Int) - (n : Int) = (j : Int) := ⟨254 - n, by omega⟩
      rw [hj]
      have hj2 : j = 254 - n := by omega
      obtain ⟨q, hq⟩ : ∃ q, q = j / 8 := ⟨_, rfl⟩
      obtain ⟨r, hr⟩ : ∃ r, r = j % 8 := ⟨_, rfl⟩
      have HQ := hid (show IntKind.i64.wrap ((j : Int) / 8) = (q : Int) by rw [hq, i64w _ (by omega) (by omega)]; rfl)
      have HR := hid (show ((j : Int).tmod 8) = (r : Int) ∧ (j : Int) % 8 = (r : Int) by rw [hr]; exact ⟨rfl, rfl⟩)
      have hq32 : q < a.length := by omega
      have hq33 : (q : Int) < 32 := by omega
      have hq0 : (0 : Int) ≤ q := by omega
      have hr0 : (0 : Int) ≤ r := by omega
      have hj0 : (0 : Int) ≤ j := by omega
      obtain ⟨d, hd⟩ : ∃ d, d = ((g8 a q).toNat / 2 ^ r % 2 == 1) := ⟨_, rfl⟩
      have HD := hid (show (g8 a q >>> r) &&& 1#8 = bv d by rw [hd]; exact bit_and _ _)
      have HDb := hid (show d = ((leN a / 2 ^ (254 - n)) % 2 == 1) by rw [hd, ← hj2, leN_bit a j (by omega), hr, hq]; rfl)
      have HLs := hid (lad_succ (fv (leN b)) (leN a) n)
      clear hd
      have HQ2 := hid hq; have HR2 := hid hr; have HJ2 := hid hj2; have HJ := hid hj
      clear hq hr hj2 hj
      go_upto_region 7 with fail
      refine wp_region_seqF 9 [24, 25, 26, 27, 28, 29, 30, 31, 10] [] [] [] (.done) (Mm no w _) (by kernel_rfl) (by kernel_rfl) (fun d _ _ _ _ h => by cases d <;> exact h) (by rfl) M.size (fun _ _ h k => h.sf k) M (by kernel_rfl) ?_
      simp only [List.take_succ_cons, List.take_zero]
      refine SeqA.pure (.int .i64 j) (fun w' => by go_simp) rfl rfl ?_
      refine SeqA.pure (.int .i64 q) (fun w' => by have h := HQ.out; go_simp) rfl rfl ?_
      refine SeqA.pure (.pointer (some ⟨w.heap.size, q, none⟩)) (fun w' => by go_simp) rfl rfl ?_
      refine SeqA.read (U8 (g8 a q)) (fun w' M => by have c0 := cell_g8 (M.row (b := w.heap.size) (c := cs U8 a) (by simp)) (i := q) (by omega); go_simp) rfl rfl ?_
      refine SeqA.pure (.int .i64 j) (fun w' => by go_simp) rfl rfl ?_
      simp only [Act.put, List.setIfInBounds_toArray, List.set_cons_succ, List.set_cons_zero]
      refine SeqA.pure (.int .i64 r) (fun w' => by have h := HR.out.1; have h2 := HR.out.2; go_simp) rfl rfl ?_
      refine SeqA.pure (U8 (g8 a q >>> r)) (fun w' => by have h := shr_8 (t := 5) (g8 a q) .i64 (r : Int) (by omega); go_simp) rfl rfl ?_
      refine SeqA.pure (U8 (bv d)) (fun w' => by have h := HD.out; go_simp) rfl rfl ?_
      refine SeqA.pure (U8 (bv d)) (fun w' => by go_simp) rfl rfl ?_
      refine SeqA.nil (fun w1 M2 hz => ?_)
      show wpT _ _ _ _ _ _
      simp only [Act.put, List.setIfInBounds_toArray, List.set_cons_succ, List.set_cons_zero]
      dsimp only [wpT]
      go_upto_region 8 with fail
      clear M
      have M := M2
      clear M2
      refine wp_region_seq 9 [32, 33, 34, 35, 36, 37, 38, 39, 40] [] [] [] (.op 9 .done) (Mm no w _) (by kernel_rfl) (by kernel_rfl) (by kernel_rfl) (fun d _ _ _ _ h => by cases d <;> exact h) (by rfl) M.size (fun _ _ h k => h.sf k) M ?_
      simp only [List.take_succ_cons, List.take_zero]
      refine SeqA.pure (U8 (bv c)) (fun w' => by go_simp) rfl rfl ?_
      refine SeqA.pure (U8 (bv d)) (fun w' => by go_simp) rfl rfl ?_
      refine SeqA.pure (U8 (bv (c != d))) (fun w' => by have h := bv_xor c d; go_simp) rfl rfl ?_
      refine SeqA.pure (.pointer (some ⟨g, 0, none⟩)) (fun w' => by go_simp) rfl rfl ?_
      refine SeqA.pure (.pointer (some ⟨g, 0, none⟩)) (fun w' => by go_simp) rfl rfl ?_
      simp only [Act.put, List.setIfInBounds_toArray, List.set_cons_succ, List.set_cons_zero]
      refine SeqA.pure (.pointer (some ⟨g, 4, none⟩)) (fun w' => by go_simp) rfl rfl ?_
      refine SeqA.pure (.pointer (some ⟨g, 0, none⟩)) (fun w' => by go_simp) rfl rfl ?_
      refine SeqA.pure (.pointer (some ⟨g, 0, none⟩)) (fun w' => by go_simp) rfl rfl ?_
      refine SeqA.pure (.pointer (some ⟨g, 12, none⟩)) (fun w' => by go_simp) rfl rfl ?_
      refine SeqA.nil (fun w1 M2 hz => ?_)
      show wpT _ _ _ _ _ _
      simp only [Act.put, List.setIfInBounds_toArray, List.set_cons_succ, List.set_cons_zero]
      refine wpT_calld 41 rfl rfl rfl (by go_simp) (swapx_c _ g (c != d) (leN b) x z X Z (M2.loc (k := 0) rfl)) ?_
      rintro e w2 ⟨rfl, N2⟩
      have M3 := M2.back (k := 0) rfl N2
      dsimp only [List.set] at M3
      refine ⟨_, rfl, ?_⟩
      dsimp only [wpT]
      simp only [Act.put, List.setIfInBounds_toArray, List.set_cons_succ, List.set_cons_zero]
      go_upto_region 9 with fail
      clear M M2 N2
      have M := M3
      clear M3
      refine wp_region_seq 9 [42, 43, 44, 45, 46, 47, 48, 49, 50] [] [] [] (.op 9 .done) (Mm no w _) (by kernel_rfl) (by kernel_rfl) (by kernel_rfl) (fun d _ _ _ _ h => by cases d <;> exact h) (by rfl) M.size (fun _ _ h k => h.sf k) M ?_
      simp only [List.take_succ_cons, List.take_zero]
      refine SeqA.pure (U8 (bv c)) (fun w' => by go_simp) rfl rfl ?_
      refine SeqA.pure (U8 (bv d)) (fun w' => by go_simp) rfl rfl ?_
      refine SeqA.pure (U8 (bv (c != d))) (fun w' => by have h := bv_xor c d; go_simp) rfl rfl ?_
      refine SeqA.pure (.pointer (some ⟨g, 0, none⟩)) (fun w' => by go_simp) rfl rfl ?_
      refine SeqA.pure (.pointer (some ⟨g, 0, none⟩)) (fun w' => by go_simp) rfl rfl ?_
      simp only [Act.put, List.setIfInBounds_toArray, List.set_cons_succ, List.set_cons_zero]
      refine SeqA.pure (.pointer (some ⟨g, 8, none⟩)) (fun w' => by go_simp) rfl rfl ?_
      refine SeqA.pure (.pointer (some ⟨g, 0, none⟩)) (fun w' => by go_simp) rfl rfl ?_
      refine SeqA.pure (.pointer (some ⟨g, 0, none⟩)) (fun w' => by go_simp) rfl rfl ?_
      refine SeqA.pure (.pointer (some ⟨g, 16, none⟩)) (fun w' => by go_simp) rfl rfl ?_
      refine SeqA.nil (fun w1 M2 hz => ?_)
      show wpT _ _ _ _ _ _
      simp only [Act.put, List.setIfInBounds_toArray, List.set_cons_succ, List.set_cons_zero]
      refine wpT_calld 51 rfl rfl rfl (by go_simp) (swapz_c _ g (c != d) (leN b) (sw (c != d) x X) z (sw (c != d) X x) Z (M2.loc (k := 0) rfl)) ?_
      rintro e w3 ⟨rfl, N3⟩
      have M3 := M2.back (k := 0) rfl N3
      dsimp only [List.set] at M3
      refine ⟨_, rfl, ?_⟩
      dsimp only [wpT]
      simp only [Act.put, List.setIfInBounds_toArray, List.set_cons_succ, List.set_cons_zero]
      go_wp2_with fail
      clear M M2 N3
      with_reducible refine ((step_any w3 g (leN b) (sw (c != d) x X) (sw (c != d) z Z) (sw (c != d) X x) (sw (c != d) Z z) (M3.loc (k := 0) rfl)).mono ?_)
      rintro e w4 ⟨rfl, N4⟩
      have M4 := M3.back (k := 0) rfl N4
      dsimp only [List.set] at M4
      dsimp only
      go_wp2_with fail
      go_roundw
      case rel =>
        refine ⟨n + 1, d, _, _, _, _, by omega, rfl, by have := HJ.out; rw [wrap64_id (by omega) (by omega)]; congr 1; omega, ?_, M4⟩
        rw [HLs.out, ← HDb.out, fv_twX, fv_twZ, fv_smX, fv_smZ]
        exact step_law _ _ _ _ _ _ _ (by rw [HLad.out, st_swap])
      case measure => have := HJ.out; rw [wrap64_id (by omega) (by omega)]; simp [intOf]
    · have : n = 255 := by omega
      subst this
      have HG := hid (show keyV (mulV (sw c x X) (invV (sw c z Z))) = K (gv (leN a) (Fk b)) by rw [keyV_fv, gx_of HLad.out (st_x2 ..) (st_z2 ..), HFv.out])
      go_upto_region 12 with fail
      refine wp_region_seq 7 [55, 56, 57, 58, 59, 60, 61] [] [] [] (.op 7 .done) (Mm no w _) (by kernel_rfl) (by kernel_rfl) (by kernel_rfl) (fun d _ _ _ _ h => by cases d <;> exact h) (by rfl) M.size (fun _ _ h k => h.sf k) M ?_
      simp only [List.take_succ_cons, List.take_zero]
      refine SeqA.pure (U8 (bv c)) (fun w' => by go_simp) rfl rfl ?_
      refine SeqA.pure (.pointer (some ⟨g, 0, none⟩)) (fun w' => by go_simp) rfl rfl ?_
      refine SeqA.pure (.pointer (some ⟨g, 0, none⟩)) (fun w' => by go_simp) rfl rfl ?_
      refine SeqA.pure (.pointer (some ⟨g, 4, none⟩)) (fun w' => by go_simp) rfl rfl ?_
      refine SeqA.pure (.pointer (some ⟨g, 0, none⟩)) (fun w' => by go_simp) rfl rfl ?_
      simp only [Act.put, List.setIfInBounds_toArray, List.set_cons_succ, List.set_cons_zero]
      refine SeqA.pure (.pointer (some ⟨g, 0, none⟩)) (fun w' => by go_simp) rfl rfl ?_
      refine SeqA.pure (.pointer (some ⟨g, 12, none⟩)) (fun w' => by go_simp) rfl rfl ?_
      refine SeqA.nil (fun w1 M2 hz => ?_)
      show wpT _ _ _ _ _ _
      simp only [Act.put, List.setIfInBounds_toArray, List.set_cons_succ, List.set_cons_zero]
      refine wpT_calld 62 rfl rfl rfl (by go_simp) (swapx_c _ g c (leN b) x z X Z (M2.loc (k := 0) rfl)) ?_
      rintro e w2 ⟨rfl, N2⟩
      have M3 := M2.back (k := 0) rfl N2
      dsimp only [List.set] at M3
      refine ⟨_, rfl, ?_⟩
      dsimp only [wpT]
      simp only [Act.put, List.setIfInBounds_toArray, List.set_cons_succ, List.set_cons_zero]
      go_upto_region 13 with fail
      clear M M2 N2
      have M := M3
      clear M3
      refine wp_region_seq 7 [63, 64, 65, 66, 67, 68, 69] [] [] [] (.op 7 .done) (Mm no w _) (by kernel_rfl) (by kernel_rfl) (by kernel_rfl) (fun d _ _ _ _ h => by cases d <;> exact h) (by rfl) M.size (fun _ _ h k => h.sf k) M ?_
      simp only [List.take_succ_cons, List.take_zero]
      refine SeqA.pure (U8 (bv c)) (fun w' => by go_simp) rfl rfl ?_
      refine SeqA.pure (.pointer (some ⟨g, 0, none⟩)) (fun w' => by go_simp) rfl rfl ?_
      refine SeqA.pure (.pointer (some ⟨g, 0, none⟩)) (fun w' => by go_simp) rfl rfl ?_
      refine SeqA.pure (.pointer (some ⟨g, 8, none⟩)) (fun w' => by go_simp) rfl rfl ?_
      refine SeqA.pure (.pointer (some ⟨g, 0, none⟩)) (fun w' => by go_simp) rfl rfl ?_
      simp only [Act.put, List.setIfInBounds_toArray, List.set_cons_succ, List.set_cons_zero]
      refine SeqA.pure (.pointer (some ⟨g, 0, none⟩)) (fun w' => by go_simp) rfl rfl ?_
      refine SeqA.pure (.pointer (some ⟨g, 16, none⟩)) (fun w' => by go_simp) rfl rfl ?_
      refine SeqA.nil (fun w1 M2 hz => ?_)
      show wpT _ _ _ _ _ _
      simp only [Act.put, List.setIfInBounds_toArray, List.set_cons_succ, List.set_cons_zero]
      refine wpT_calld 70 rfl rfl rfl (by go_simp) (swapz_c _ g c (leN b) (sw c x X) z (sw c X x) Z (M2.loc (k := 0) rfl)) ?_
      rintro e w3 ⟨rfl, N3⟩
      have M3 := M2.back (k := 0) rfl N3
      dsimp only [List.set] at M3
      refine ⟨_, rfl, ?_⟩
      dsimp only [wpT]
      simp only [Act.put, List.setIfInBounds_toArray, List.set_cons_succ, List.set_cons_zero]
      go_upto_region 14 with fail
      clear M M2 N3
      have M := M3
      clear M3
      refine wp_region_seq 11 [71, 72, 73, 74, 75, 76, 77, 78, 79, 80, 81] [] [] [] (.op 11 .done) (Mm no w _) (by kernel_rfl) (by kernel_rfl) (by kernel_rfl) (fun d _ _ _ _ h => by cases d <;> exact h) (by rfl) M.size (fun _ _ h k => h.sf k) M ?_
      simp only [List.take_succ_cons, List.take_zero]
      refine SeqA.pure (.pointer (some ⟨g, 0, none⟩)) (fun w' => by go_simp) rfl rfl ?_
      refine SeqA.pure (.pointer (some ⟨g, 0, none⟩)) (fun w' => by go_simp) rfl rfl ?_
      refine SeqA.pure (.pointer (some ⟨g, 4, none⟩)) (fun w' => by go_simp) rfl rfl ?_
      refine SeqA.ldm Tryd.underlying97 rfl inf_num (g) 4 (cs N64 (limbs (leN b) ++ limbs (sw c x X) ++ limbs (sw c z Z) ++ limbs (sw c X x) ++ limbs (sw c Z z))) (cs N64 (limbs (sw c x X))) rfl (by go_simp) (fun _ M => M.row (by simp)) (by simp [ha, hb]) (by rw [cs_extract] <;> congr 1 <;> first | (simp [ha, hb]; done) | simp [List.take_append, List.drop_append, List.take_of_length_le, ha, hb]) rfl ?_
      refine SeqA.pure (.pointer (some ⟨g, 0, none⟩)) (fun w' => by go_simp) rfl rfl ?_
      simp only [Act.put, List.setIfInBounds_toArray, List.set_cons_succ, List.set_cons_zero]
      refine SeqA.pure (.pointer (some ⟨g, 0, none⟩)) (fun w' => by go_simp) rfl rfl ?_
      refine SeqA.pure (.pointer (some ⟨g, 8, none⟩)) (fun w' => by go_simp) rfl rfl ?_
      refine SeqA.ldm Tryd.underlying97 rfl inf_num (g) 8 (cs N64 (limbs (leN b) ++ limbs (sw c x X) ++ limbs (sw c z Z) ++ limbs (sw c X x) ++ limbs (sw c Z z))) (cs N64 (limbs (sw c z Z))) rfl (by go_simp) (fun _ M => M.row (by simp)) (by simp [ha, hb]) (by rw [cs_extract] <;> congr 1 <;> first | (simp [ha, hb]; done) | simp [List.take_append, List.drop_append, List.take_of_length_le, ha, hb]) rfl ?_
      refine SeqA.call _ _ _ (fun w' => by go_simp) (fun w' hI _ => ninv_any w' (sw c z Z)) M.size rfl rfl ?_
      refine SeqA.call _ _ _ (fun w' => by go_simp) (fun w' hI _ => nmul_any w' (sw c x X) (invV (sw c z Z))) M.size rfl rfl ?_
      refine SeqA.call _ _ _ (fun w' => by go_simp) (fun w' hI _ => key_any w' (mulV (sw c x X) (invV (sw c z Z)))) M.size rfl rfl ?_
      refine SeqA.nil (fun w1 M2 hz => ?_)
      show wpT _ _ _ _ _ _
      simp only [Act.put, List.setIfInBounds_toArray, List.set_cons_succ, List.set_cons_zero]
      refine wpT_st0 M2 3 (cs U8 (keyV (mulV (sw c x X) (invV (sw c z Z))))) inf_key rfl rfl rfl rfl (by go_simp) (by go_simp) (by simp [ha, hb]) (by simp [ha, hb]) (by simp [go_sem]) rfl (fun w3 M4 => ?_)
      dsimp only [List.set] at M4
      dsimp only [wpT]
      go_wp2_with fail
      have r5 := M4.row (b := w.heap.size + 1 + 1) (c := cs U8 (keyV (mulV (sw c x X) (invV (sw c z Z))))) (by simp)
      refine bodyPost_ret (res_row (b := w.heap.size + 1 + 1) rfl Tryd.underlying23 rfl inf_key _ _ rfl (by rw [r5]; simp [ha, hb])) rfl ?_
      rw [r5]
      rw [HG.out]; exact ⟨rfl, M4.end_⟩
end Go.Proofs.YtgclegdgngldoaaDoor
set_option linter.unusedSimpArgs false
set_option linter.unusedVariables false
namespace Go.Proofs.YtgclegdgngldoaaDoor
open Go.RowKit Fp
theorem times_c (w : World) (a b : List (BitVec 8)) (ha : a.length = 32) (hb : b.length = 32) (x : F) (hx : Fk b = x) :
    Calls Tryd.prog 36 #[.agg (cs U8 a), .agg (cs U8 b)] w fun e w' => e = .returned (.agg (cs U8 (K (gv (leN a) x)))) ∧ Below w.heap.size w w' := by
  subst hx; exact times_any w a b ha hb
/-- what two of them share; its error -/
noncomputable def shv (a b : List (BitVec 8)) : F := gv (leN (clampB a)) (Fk (maskB b))
def ec (s : F) : Int := if s = 0 then 7 else 0
def nine : List (BitVec 8) := 9#8 :: zs 31
@[simp] theorem nine_len : nine.length = 32 := rfl
theorem Fk_nine : Fk nine = 9 := by decide +kernel
theorem xb_key9 (w : World) : exBuild Tryd.prog 23 #[(0, .int .u8 9)] w = .ok (.value (.agg (cs U8 nine))) w := by
  unfold exBuild; rw [run_build w _ _ (cs U8 nine) (by kernel_rfl)]; rfl
set_option maxRecDepth 100000 in
set_option maxHeartbeats 2000000 in
theorem public_c (w : World) (a : List (BitVec 8)) (ha : a.length = 32) :
    Calls Tryd.prog 20 #[.agg (cs U8 a)] w fun e w' => e = .returned (.agg (cs U8 (K (gv (leN (clampB a)) 9)))) ∧ Below w.heap.size w w' := by
  have H9 := hid Fk_nine
  have M0 := Mm.start no w
  go_enter Tryd.func20, Tryd.ntmps20
  have M2 := ((M0.alloc (cs U8 a) 23 (by decide)).alloc (cs U8 (zs 32)) 23 (by decide))
  try simp only [World.size_alloc] at M2
  go_upto_region 1 with fail
  obtain ⟨w1, hw1⟩ : ∃ w1, w1 = ((w.alloc (.cells (cs U8 a) 23)).alloc (.cells (cs U8 (zs 32)) 23)) := ⟨_, rfl⟩
  rw [← hw1] at M2 ⊢
  clear hw1
  refine wp_region_seqF 4 [3, 4, 5, 6] [] [] [] (.op 4 .done) (Mm no w _) (by kernel_rfl) (by kernel_rfl) (fun d _ _ _ _ h => by cases d <;> exact h) (by rfl) M2.size (fun _ _ h k => h.sf k) M2 (by kernel_rfl) ?_
  simp only [List.take_succ_cons, List.take_zero]
  refine SeqA.ld0 Tryd.underlying23 rfl inf_key (w.heap.size) (cs U8 a) rfl (by go_simp) (fun _ M => M.row (by simp)) (by simp [ha]) rfl ?_
  refine SeqA.call _ _ _ (fun w' => by go_simp) (fun w' hI _ => clamp_any w' a (by simp [ha])) M2.size rfl rfl ?_
  refine SeqA.pure (.agg (cs U8 nine)) (fun w' => by have q := xb_key9 w'; go_simp) rfl rfl ?_
  refine SeqA.call _ _ _ (fun w' => by go_simp) (fun w' hI _ => times_c w' (clampB a) nine (by simp [ha]) (by simp [ha]) (Fk nine) (rfl)) M2.size rfl rfl ?_
  refine SeqA.nil (fun w3 M4 hz => ?_)
  show wpT _ _ _ _ _ _
  simp only [Act.put, List.setIfInBounds_toArray, List.set_cons_succ, List.set_cons_zero]
  refine wpT_st0 M4 0 (cs U8 (K (gv (leN (clampB a)) (Fk nine)))) inf_key rfl rfl rfl rfl (by go_simp) (by go_simp) (by simp [ha]) (by simp [ha]) (by simp [go_sem]) rfl (fun w5 M6 => ?_)
  dsimp only [List.set] at M6
  dsimp only [wpT]
  go_wp2_with fail
  have r7 := M6.row (b := w.heap.size + 1) (c := cs U8 (K (gv (leN (clampB a)) (Fk nine)))) (by simp)
  refine bodyPost_ret (res_row (b := w.heap.size + 1) rfl Tryd.underlying23 rfl inf_key _ _ rfl (by rw [r7]; simp [ha])) rfl ?_
  rw [r7]
  exact ⟨by rw [H9.out], M6.end_⟩
end Go.Proofs.YtgclegdgngldoaaDoor
set_option linter.unusedSimpArgs false
set_option linter.unusedVariables false
namespace Go.Proofs.YtgclegdgngldoaaDoor
open Go.RowKit Fp
end Go.Proofs.YtgclegdgngldoaaDoor
namespace Go.Proofs.YtgclegdgngldoaaDoor.Fp
end Go.Proofs.YtgclegdgngldoaaDoor.Fp
set_option linter.unusedVariables false
namespace Go.Proofs.YtgclegdgngldoaaDoor
open Go.RowKit Fp
/-- what a secret has with the point of another one -/
noncomputable def pv (a b : List (BitVec 8)) : F := gv (leN (clampB a)) (gv (leN (clampB b)) 9)
end Go.Proofs.YtgclegdgngldoaaDoor
