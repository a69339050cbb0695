/-
  Walks of reference 17, and of law 17's comparison; own work.
-/
import Derived.Test.YtocledgjejlolaaDoorChnC
set_option linter.unusedSimpArgs false
set_option linter.unusedVariables false
namespace Go.Proofs.YtocledgjejlolaaDoor
open Go.RowKit
theorem KO.mono {w : World} {base b' : Nat} {v : Value} {L : List (List (BitVec 8))} (h : KO w base v L) (hb : b' ≤ base) : KO w b' v L := by
  refine ⟨⟨h.1.1, ?_⟩, h.2⟩
  rcases h.1.2 with e | ⟨g, cap, cur, e, h1, h2⟩
  · exact .inl e
  · exact .inr ⟨g, cap, cur, e, Nat.le_trans hb h1, h2⟩
attribute [local irreducible] RC Sh.nx Sh.ms Sh.nxk Sh.msk
set_option maxRecDepth 100000 in
set_option maxHeartbeats 2000000 in
theorem rstep_any (w : World) (l : List (BitVec 8)) (hl : l.length = 32) :
    Calls Tryd.prog 41 #[.agg (cs U8 l)] w fun e w' => e = .returned (.tuple #[.agg (cs U8 (Sh.nx l)), .agg (cs U8 (Sh.ms l))]) ∧ Below w.heap.size w w' := by
  obtain ⟨X, eX⟩ : ∃ X, X = Sh.nx l := ⟨_, rfl⟩
  obtain ⟨Y, eY⟩ : ∃ Y, Y = Sh.ms l := ⟨_, rfl⟩
  have hX : X.length = 32 := by rw [eX]; exact nx_len l
  have hY : Y.length = 32 := by rw [eY]; exact ms_len l
  have HX := hid eX; have HY := hid eY
  clear eX eY
  have M0 := Mm.start no w
  go_enter Tryd.func41, Tryd.ntmps41
  have M2 := (((M0.alloc (cs U8 l) 25 (by decide)).alloc (cs U8 (zs 32)) 25 (by decide)).alloc (cs U8 (zs 32)) 25 (by decide))
  try simp only [World.size_alloc] at M2
  go_upto_region 1 with fail
  obtain ⟨w1, hw1⟩ : ∃ w1, w1 = (((w.alloc (.cells (cs U8 l) 25)).alloc (.cells (cs U8 (zs 32)) 25)).alloc (.cells (cs U8 (zs 32)) 25)) := ⟨_, rfl⟩
  rw [← hw1] at M2 ⊢
  clear hw1
  refine wp_region_seq 4 [4, 5, 6, 7] [] [] [] (.op 4 (.op 5 .done)) (Mm no w _) (by kernel_rfl) (by kernel_rfl) (by kernel_rfl) (fun d _ _ _ _ h => by cases d <;> exact h) (by rfl) M2.size (fun _ _ h k => h.sf k) M2 ?_
  simp only [List.take_succ_cons, List.take_zero]
  refine SeqA.ld0 Tryd.underlying25 rfl inf_key (w.heap.size) (cs U8 l) rfl (by go_simp) (fun _ M => M.row (by simp)) (by simp [hl, hX, hY]) rfl ?_
  refine SeqA.call _ _ _ (fun w' => by go_simp) (fun w' hI _ => rderNx HX.out hl) M2.size rfl rfl ?_
  refine SeqA.ld0 Tryd.underlying25 rfl inf_key (w.heap.size) (cs U8 l) rfl (by go_simp) (fun _ M => M.row (by simp)) (by simp [hl, hX, hY]) rfl ?_
  refine SeqA.call _ _ _ (fun w' => by go_simp) (fun w' hI _ => rderMs HY.out hl) M2.size rfl rfl ?_
  refine SeqA.nil (fun w3 M4 hz => ?_)
  show wpT _ _ _ _ _ _
  simp only [Act.put, List.setIfInBounds_toArray, List.set_cons_succ, List.set_cons_zero]
  refine wpT_st0 M4 1 (cs U8 X) inf_key rfl rfl rfl rfl (by go_simp) (by go_simp) (by simp [hl, hX, hY]) (by simp [hl, hX, hY]) (by simp [go_sem]) rfl (fun w5 M6 => ?_)
  dsimp only [List.set] at M6
  refine wpT_st0 M6 0 (cs U8 Y) inf_key rfl rfl rfl rfl (by go_simp) (by go_simp) (by simp [hl, hX, hY]) (by simp [hl, hX, hY]) (by simp [go_sem]) rfl (fun w7 M8 => ?_)
  dsimp only [List.set] at M8
  dsimp only [wpT]
  go_wp2_with fail
  have r9 := M8.row (b := w.heap.size + 1) (c := cs U8 X) (by simp)
  have r10 := M8.row (b := w.heap.size + 1 + 1) (c := cs U8 Y) (by simp)
  refine bodyPost_ret (res_two rfl (rv_row Tryd.underlying25 rfl inf_key (w.heap.size + 1) rfl (by rw [r9]; simp [hl, hX, hY])) (rv_row Tryd.underlying25 rfl inf_key (w.heap.size + 1 + 1) rfl (by rw [r10]; simp [hl, hX, hY]))) rfl ?_
  rw [r9, r10]
  exact ⟨by rw [HX.out, HY.out], M8.end_⟩
set_option maxRecDepth 100000 in
set_option maxHeartbeats 2000000 in
theorem rnext_c (w : World) (l : List (BitVec 8)) (n : Int) (h0 : 0 ≤ n) (hn : n < 65535) (hl : l.length = 32) :
    Calls Tryd.prog 44 #[.agg (RC l n)] w fun e w' => e = .returned (.tuple #[.agg (RC (Sh.nx l) (n + 1)), .int .i64 n, .agg (cs U8 (Sh.ms l)), .int .i64 0]) ∧ Below w.heap.size w w' := by
  have q0 : ¬ 65535 ≤ n := by omega
  have M0 := Mm.start no w
  go_enter Tryd.func44, Tryd.ntmps44
  have M2 := (((M0.alloc (RC l n) 68 (by decide)).alloc (RC (zs 32) 0) 68 (by decide)).alloc (cs U8 (zs 32)) 25 (by decide))
  try simp only [World.size_alloc] at M2
  go_upto_region 1 with fail
  obtain ⟨w1, hw1⟩ : ∃ w1, w1 = (((w.alloc (.cells (RC l n) 68)).alloc (.cells (RC (zs 32) 0) 68)).alloc (.cells (cs U8 (zs 32)) 25)) := ⟨_, rfl⟩
  rw [← hw1] at M2 ⊢
  clear hw1
  refine wp_region_lin (.op 0 (.op 1 (.op 2 .done))) (by rfl) ?_
  refine wpT_valp 9 (v := .pointer (some ⟨w.heap.size, 32, none⟩)) rfl rfl rfl (by go_simp) ?_
  refine wpT_valp 10 (v := .int .i64 n) rfl rfl rfl (by have c0 := rrow_32 (by simp [hl]) (M2.row (b := w.heap.size) (c := RC l n) (by simp)); go_simp) ?_
  refine wpT_valp 11 (v := .bool false) rfl rfl rfl (by go_simp) ?_
  dsimp only [wpT]
  try simp only [Act.put, List.setIfInBounds_toArray, List.set_cons_succ, List.set_cons_zero]
  go_upto_region 3 with fail
  refine wp_region_lin (.op 0 (.op 1 (.op 2 (.op 3 (.op 4 (.op 5 (.op 6 (.op 7 (.op 8 (.op 9 .done)))))))))) (by rfl) ?_
  refine wpT_valp 15 (v := .pointer (some ⟨w.heap.size, 0, none⟩)) rfl rfl rfl (by go_simp) ?_
  refine wpT_ldm 16 Tryd.underlying25 rfl inf_key (w.heap.size) 0 (RC l n) (cs U8 l) rfl rfl rfl (by go_simp) (M2.row (by simp)) (by simp [hl]) (rc_key (by simp [hl])) rfl ?_
  refine wpT_callv 17 M2 (v := .tuple #[.agg (cs U8 (Sh.nx l)), .agg (cs U8 (Sh.ms l))]) rfl rfl rfl (by go_simp) (rstep_any w1 l (by simp [hl])) (fun w3 M4 => ?_)
  refine wpT_valp 14 (v := .tuple #[.agg (cs U8 (Sh.nx l)), .agg (cs U8 (Sh.ms l))]) rfl rfl rfl (by go_simp) ?_
  try simp only [Act.put, List.setIfInBounds_toArray, List.set_cons_succ, List.set_cons_zero]
  refine wpT_valp 18 (v := .agg (cs U8 (Sh.nx l))) rfl rfl rfl (by go_simp) ?_
  refine wpT_valp 19 (v := .agg (cs U8 (Sh.ms l))) rfl rfl rfl (by go_simp) ?_
  refine wpT_new (z := .agg (cs U8 (zs 32))) 6 M4 (by kernel_rfl) (by decide) rfl rfl rfl rfl (fun b5 w6 M7 => ?_)
  try dsimp only [Value.cells] at M7
  refine wpT_new (z := .agg (cs U8 (zs 32))) 7 M7 (by kernel_rfl) (by decide) rfl rfl rfl rfl (fun b8 w9 M10 => ?_)
  try dsimp only [Value.cells] at M10
  refine wpT_st0 M10 1 (cs U8 (Sh.nx l)) inf_key rfl rfl rfl rfl (by go_simp) (by go_simp) (by simp [hl]) (by simp [hl]) (by simp [go_sem]) rfl (fun w11 M12 => ?_)
  dsimp only [List.set] at M12
  try simp only [Act.put, List.setIfInBounds_toArray, List.set_cons_succ, List.set_cons_zero]
  refine wpT_st0 M12 0 (cs U8 (Sh.ms l)) inf_key rfl rfl rfl rfl (by go_simp) (by go_simp) (by simp [hl]) (by simp [hl]) (by simp [go_sem]) rfl (fun w13 M14 => ?_)
  dsimp only [List.set] at M14
  dsimp only [wpT]
  try simp only [Act.put, List.setIfInBounds_toArray, List.set_cons_succ, List.set_cons_zero]
  go_upto_region 4 with fail
  refine wp_region_lin (.op 0 (.op 1 (.op 2 .done))) (by rfl) ?_
  refine wpT_valp 20 (v := .pointer (some ⟨w.heap.size, 32, none⟩)) rfl rfl rfl (by go_simp) ?_
  refine wpT_valp 21 (v := .int .i64 n) rfl rfl rfl (by have c0 := rrow_32 (by simp [hl]) (M14.row (b := w.heap.size) (c := RC l n) (by simp)); go_simp) ?_
  refine wpT_valp 8 (v := .int .i64 n) rfl rfl rfl (by go_simp) ?_
  dsimp only [wpT]
  try simp only [Act.put, List.setIfInBounds_toArray, List.set_cons_succ, List.set_cons_zero]
  go_upto_region 5 with fail
  refine wp_region_lin (.op 0 (.op 1 (.op 2 .done))) (by rfl) ?_
  refine wpT_ld0 22 Tryd.underlying25 rfl inf_key (b5) (cs U8 (Sh.nx l)) rfl rfl rfl (by go_simp) (M14.row (by simp)) (by simp [hl]) rfl ?_
  refine wpT_valp 23 (v := .pointer (some ⟨w.heap.size, 0, none⟩)) rfl rfl rfl (by go_simp) ?_
  refine wpT_stm (off := 0) M14 4 (cs U8 (Sh.nx l)) (RC (Sh.nx l) n) inf_key rfl rfl rfl rfl (by go_simp) (by go_simp) (by simp [hl]) (by simp [hl]) (by simp [go_sem]) (rc_setKey (by simp [hl]) (by simp [hl])) rfl (fun w15 M16 => ?_)
  dsimp only [List.set] at M16
  dsimp only [wpT]
  try simp only [Act.put, List.setIfInBounds_toArray, List.set_cons_succ, List.set_cons_zero]
  go_upto_region 6 with fail
  refine wp_region_lin (.op 0 (.op 1 (.op 2 (.op 3 .done)))) (by rfl) ?_
  refine wpT_valp 24 (v := .int .i64 n) rfl rfl rfl (by go_simp) ?_
  refine wpT_valp 25 (v := .int .i64 (n + 1)) rfl rfl rfl (by have q := i64n (n + 1) (by omega) (by omega); go_simp) ?_
  refine wpT_valp 26 (v := .pointer (some ⟨w.heap.size, 32, none⟩)) rfl rfl rfl (by go_simp) ?_
  refine wpT_stc M16 4 (.int .i64 (n + 1)) (RC (Sh.nx l) (n + 1)) inf_int rfl rfl rfl rfl (by go_simp) (by go_simp) (by simp [hl]) (by simp [go_sem]) (rc_setN _ (by simp [hl])) rfl (fun w17 M18 => ?_)
  dsimp only [List.set] at M18
  dsimp only [wpT]
  try simp only [Act.put, List.setIfInBounds_toArray, List.set_cons_succ, List.set_cons_zero]
  go_upto_region 7 with fail
  refine wp_region_J (fun v => v.rowOf (w.heap.size) = RC (Sh.nx l) (n + 1) ∧ v.rowOf (b8) = cs U8 (Sh.ms l)) [0, 1, 2] (.op 3 (.op 4 (.op 5 (.op 6 .done)))) (by kernel_rfl) (by kernel_rfl) (by kernel_rfl) (fun d _ _ _ _ h => by cases d <;> exact h) ?_
  refine wpYJd_ld 27 Tryd.underlying68 rfl inf_rch (w.heap.size) (RC (Sh.nx l) (n + 1)) rfl rfl rfl (by go_simp) (fun _ h => h.1) (by simp [hl]) rfl ?_
  refine wpYJd_op 28 (.int .i64 n) rfl rfl rfl (fun w1 _ => by go_simp) ?_
  refine wpYJd_ld 29 Tryd.underlying25 rfl inf_key (b8) (cs U8 (Sh.ms l)) rfl rfl rfl (by go_simp) (fun _ h => h.2) (by simp [hl]) rfl ?_
  show wpTJ _ _ _ _ _ _ _
  try simp only [Act.put, List.setIfInBounds_toArray, List.set_cons_succ, List.set_cons_zero]
  have M19 := M18.drewN 1
  change wpTJ _ _ _ _ _ _ (w17.drewN 1)
  obtain ⟨w20, hw20⟩ : ∃ w20, w20 = w17.drewN 1 := ⟨_, rfl⟩
  rw [← hw20] at M19 ⊢
  clear hw20
  refine wpTJ_st0 (⟨M19.row (by simp), M19.row (by simp)⟩) M19 3 (RC (Sh.nx l) (n + 1)) inf_rch rfl rfl rfl rfl (by go_simp) (by go_simp) (by simp [hl]) (by simp [hl]) (by simp [go_sem]) rfl (fun w21 M22 => ?_)
  dsimp only [List.set] at M22
  refine wpTJ_vald 3 (v := .int .i64 n) (⟨M22.row (by simp), M22.row (by simp)⟩) rfl rfl rfl (by go_simp) ?_
  refine wpTJ_st0 (⟨M22.row (by simp), M22.row (by simp)⟩) M22 2 (cs U8 (Sh.ms l)) inf_key rfl rfl rfl rfl (by go_simp) (by go_simp) (by simp [hl]) (by simp [hl]) (by simp [go_sem]) rfl (fun w23 M24 => ?_)
  dsimp only [List.set] at M24
  refine wpTJ_vald 5 (v := .int .i64 0) (⟨M24.row (by simp), M24.row (by simp)⟩) rfl rfl rfl (by go_simp) ?_
  refine ⟨(⟨M24.row (by simp), M24.row (by simp)⟩), ?_⟩
  try simp only [Act.put, List.setIfInBounds_toArray, List.set_cons_succ, List.set_cons_zero]
  go_wp2_with fail
  have r25 := M24.row (b := w.heap.size + 1) (c := RC (Sh.nx l) (n + 1)) (by simp)
  have r26 := M24.row (b := w.heap.size + 1 + 1) (c := cs U8 (Sh.ms l)) (by simp)
  refine bodyPost_ret (res_four rfl (rv_row Tryd.underlying68 rfl inf_rch (w.heap.size + 1) rfl (by rw [r25]; simp [hl])) (rv_tmp _ _ rfl) (rv_row Tryd.underlying25 rfl inf_key (w.heap.size + 1 + 1) rfl (by rw [r26]; simp [hl])) (rv_tmp _ _ rfl)) rfl ?_
  rw [r25, r26]
  exact ⟨rfl, M24.end_⟩
set_option maxRecDepth 100000 in
set_option maxHeartbeats 2000000 in
theorem rnext_big (w : World) (l : List (BitVec 8)) (n : Int) (hn : 65535 ≤ n) (hl : l.length = 32) :
    Calls Tryd.prog 44 #[.agg (RC l n)] w fun e w' => e = .returned (.tuple #[.agg (RC l n), .int .i64 0, .agg (cs U8 (zs 32)), .int .i64 3]) ∧ Below w.heap.size w w' := by
  have M0 := Mm.start no w
  go_enter Tryd.func44, Tryd.ntmps44
  have M2 := (((M0.alloc (RC l n) 68 (by decide)).alloc (RC (zs 32) 0) 68 (by decide)).alloc (cs U8 (zs 32)) 25 (by decide))
  try simp only [World.size_alloc] at M2
  go_upto_region 1 with fail
  obtain ⟨w1, hw1⟩ : ∃ w1, w1 = (((w.alloc (.cells (RC l n) 68)).alloc (.cells (RC (zs 32) 0) 68)).alloc (.cells (cs U8 (zs 32)) 25)) := ⟨_, rfl⟩
  rw [← hw1] at M2 ⊢
  clear hw1
  refine wp_region_lin (.op 0 (.op 1 (.op 2 .done))) (by rfl) ?_
  refine wpT_valp 9 (v := .pointer (some ⟨w.heap.size, 32, none⟩)) rfl rfl rfl (by go_simp) ?_
  refine wpT_valp 10 (v := .int .i64 n) rfl rfl rfl (by have c0 := rrow_32 (by simp [hl]) (M2.row (b := w.heap.size) (c := RC l n) (by simp)); go_simp) ?_
  refine wpT_valp 11 (v := .bool true) rfl rfl rfl (by go_simp) ?_
  dsimp only [wpT]
  try simp only [Act.put, List.setIfInBounds_toArray, List.set_cons_succ, List.set_cons_zero]
  go_upto_region 2 with fail
  refine wp_region_lin (.op 0 (.op 1 (.op 2 (.op 3 (.op 4 (.op 5 .done)))))) (by rfl) ?_
  refine wpT_ld0 12 Tryd.underlying68 rfl inf_rch (w.heap.size) (RC l n) rfl rfl rfl (by go_simp) (M2.row (by simp)) (by simp [hl]) rfl ?_
  refine wpT_valL 13 (v := .agg (cs U8 (zs 32))) rfl rfl rfl (by go_simp) ?_
  refine wpT_st0 M2 1 (RC l n) inf_rch rfl rfl rfl rfl (by go_simp) (by go_simp) (by simp [hl]) (by simp [hl]) (by simp [go_sem]) rfl (fun w3 M4 => ?_)
  dsimp only [List.set] at M4
  refine wpT_valp 3 (v := .int .i64 0) rfl rfl rfl (by go_simp) ?_
  try simp only [Act.put, List.setIfInBounds_toArray, List.set_cons_succ, List.set_cons_zero]
  refine wpT_st0 M4 0 (cs U8 (zs 32)) inf_key rfl rfl rfl rfl (by go_simp) (by go_simp) (by simp [hl]) (by simp [hl]) (by simp [go_sem]) rfl (fun w5 M6 => ?_)
  dsimp only [List.set] at M6
  refine wpT_valp 5 (v := .int .i64 3) rfl rfl rfl (by go_simp) ?_
  dsimp only [wpT]
  try simp only [Act.put, List.setIfInBounds_toArray, List.set_cons_succ, List.set_cons_zero]
  go_upto_region 3 with fail
  have r7 := M6.row (b := w.heap.size + 1) (c := RC l n) (by simp)
  have r8 := M6.row (b := w.heap.size + 1 + 1) (c := cs U8 (zs 32)) (by simp)
  refine bodyPost_ret (res_four rfl (rv_row Tryd.underlying68 rfl inf_rch (w.heap.size + 1) rfl (by rw [r7]; simp [hl])) (rv_tmp _ _ rfl) (rv_row Tryd.underlying25 rfl inf_key (w.heap.size + 1 + 1) rfl (by rw [r8]; simp [hl])) (rv_tmp _ _ rfl)) rfl ?_
  rw [r7, r8]
  exact ⟨rfl, M6.end_⟩
set_option maxRecDepth 100000 in
set_option maxHeartbeats 2000000 in
theorem rupto_old (w : World) (l : List (BitVec 8)) (n N : Int) (hN : N < n) (hl : l.length = 32) :
    Calls Tryd.prog 46 #[.agg (RC l n), .int .i64 N] w fun e w' => e = .returned (.tuple #[.agg (RC l n), .slice none 0 0, .int .i64 13]) ∧ Below w.heap.size w w' := by
  have M0 := Mm.start no w
  go_enter Tryd.func46, Tryd.ntmps46
  have M2 := ((M0.alloc (RC l n) 68 (by decide)).alloc (RC (zs 32) 0) 68 (by decide))
  try simp only [World.size_alloc] at M2
  go_upto_region 1 with fail
  obtain ⟨w1, hw1⟩ : ∃ w1, w1 = ((w.alloc (.cells (RC l n) 68)).alloc (.cells (RC (zs 32) 0) 68)) := ⟨_, rfl⟩
  rw [← hw1] at M2 ⊢
  clear hw1
  refine wp_region_lin (.op 0 (.op 1 (.op 2 (.op 3 .done)))) (by rfl) ?_
  refine wpT_valp 12 (v := .int .i64 N) rfl rfl rfl (by go_simp) ?_
  refine wpT_valp 13 (v := .pointer (some ⟨w.heap.size, 32, none⟩)) rfl rfl rfl (by go_simp) ?_
  refine wpT_valp 14 (v := .int .i64 n) rfl rfl rfl (by have c0 := rrow_32 (by simp [hl]) (M2.row (b := w.heap.size) (c := RC l n) (by simp)); go_simp) ?_
  refine wpT_valp 15 (v := .bool true) rfl rfl rfl (by go_simp) ?_
  dsimp only [wpT]
  try simp only [Act.put, List.setIfInBounds_toArray, List.set_cons_succ, List.set_cons_zero]
  go_upto_region 2 with fail
  refine wp_region_lin (.op 0 (.op 1 (.op 2 (.op 3 .done)))) (by rfl) ?_
  refine wpT_ld0 16 Tryd.underlying68 rfl inf_rch (w.heap.size) (RC l n) rfl rfl rfl (by go_simp) (M2.row (by simp)) (by simp [hl]) rfl ?_
  refine wpT_st0 M2 0 (RC l n) inf_rch rfl rfl rfl rfl (by go_simp) (by go_simp) (by simp [hl]) (by simp [hl]) (by simp [go_sem]) rfl (fun w3 M4 => ?_)
  dsimp only [List.set] at M4
  refine wpT_valp 5 (v := (.slice none 0 0)) rfl rfl rfl (by go_simp) ?_
  refine wpT_valp 6 (v := .int .i64 13) rfl rfl rfl (by go_simp) ?_
  dsimp only [wpT]
  try simp only [Act.put, List.setIfInBounds_toArray, List.set_cons_succ, List.set_cons_zero]
  go_upto_region 3 with fail
  have r5 := M4.row (b := w.heap.size + 1) (c := RC l n) (by simp)
  refine bodyPost_ret (res_three rfl (rv_row Tryd.underlying68 rfl inf_rch (w.heap.size + 1) rfl (by rw [r5]; simp [hl])) (rv_tmp _ _ rfl) (rv_tmp _ _ rfl)) rfl ?_
  rw [r5]
  exact ⟨rfl, M4.end_⟩
set_option maxRecDepth 100000 in
set_option maxHeartbeats 2000000 in
theorem rupto_big (w : World) (l : List (BitVec 8)) (n N : Int) (h0 : 0 ≤ n) (h1 : n ≤ 65535) (hN : 65535 < N ∨ n + 16 < N) (hl : l.length = 32) :
    Calls Tryd.prog 46 #[.agg (RC l n), .int .i64 N] w fun e w' => e = .returned (.tuple #[.agg (RC l n), .slice none 0 0, .int .i64 3]) ∧ Below w.heap.size w w' := by
  have q1 : ¬ N < n := by omega
  by_cases q2 : 65535 < N
  · skip
    have M0 := Mm.start no w
    go_enter Tryd.func46, Tryd.ntmps46
    have M2 := ((M0.alloc (RC l n) 68 (by decide)).alloc (RC (zs 32) 0) 68 (by decide))
    try simp only [World.size_alloc] at M2
    go_upto_region 1 with fail
    obtain ⟨w1, hw1⟩ : ∃ w1, w1 = ((w.alloc (.cells (RC l n) 68)).alloc (.cells (RC (zs 32) 0) 68)) := ⟨_, rfl⟩
    rw [← hw1] at M2 ⊢
    clear hw1
    refine wp_region_lin (.op 0 (.op 1 (.op 2 (.op 3 .done)))) (by rfl) ?_
    refine wpT_valp 12 (v := .int .i64 N) rfl rfl rfl (by go_simp) ?_
    refine wpT_valp 13 (v := .pointer (some ⟨w.heap.size, 32, none⟩)) rfl rfl rfl (by go_simp) ?_
    refine wpT_valp 14 (v := .int .i64 n) rfl rfl rfl (by have c0 := rrow_32 (by simp [hl]) (M2.row (b := w.heap.size) (c := RC l n) (by simp)); go_simp) ?_
    refine wpT_valp 15 (v := .bool false) rfl rfl rfl (by go_simp) ?_
    dsimp only [wpT]
    try simp only [Act.put, List.setIfInBounds_toArray, List.set_cons_succ, List.set_cons_zero]
    go_upto_region 3 with fail
    have c32 := rrow_32 (b := w.heap.size) (l := l) (n := n) hl (M2.row (by simp))
    go_upto_region 4 with fail
    refine wp_region_lin (.op 0 (.op 1 (.op 2 (.op 3 .done)))) (by rfl) ?_
    refine wpT_ld0 26 Tryd.underlying68 rfl inf_rch (w.heap.size) (RC l n) rfl rfl rfl (by go_simp) (M2.row (by simp)) (by simp [hl]) rfl ?_
    refine wpT_st0 M2 0 (RC l n) inf_rch rfl rfl rfl rfl (by go_simp) (by go_simp) (by simp [hl]) (by simp [hl]) (by simp [go_sem]) rfl (fun w3 M4 => ?_)
    dsimp only [List.set] at M4
    refine wpT_valp 5 (v := (.slice none 0 0)) rfl rfl rfl (by go_simp) ?_
    refine wpT_valp 6 (v := .int .i64 3) rfl rfl rfl (by go_simp) ?_
    dsimp only [wpT]
    try simp only [Act.put, List.setIfInBounds_toArray, List.set_cons_succ, List.set_cons_zero]
    go_upto_region 5 with fail
    have r5 := M4.row (b := w.heap.size + 1) (c := RC l n) (by simp)
    refine bodyPost_ret (res_three rfl (rv_row Tryd.underlying68 rfl inf_rch (w.heap.size + 1) rfl (by rw [r5]; simp [hl])) (rv_tmp _ _ rfl) (rv_tmp _ _ rfl)) rfl ?_
    rw [r5]
    exact ⟨rfl, M4.end_⟩
  · have q3 : n + 16 < N := by omega
    have q4 := i64n (n + 16) (by omega) (by omega)
    have M0 := Mm.start no w
    go_enter Tryd.func46, Tryd.ntmps46
    have M2 := ((M0.alloc (RC l n) 68 (by decide)).alloc (RC (zs 32) 0) 68 (by decide))
    try simp only [World.size_alloc] at M2
    go_upto_region 1 with fail
    obtain ⟨w1, hw1⟩ : ∃ w1, w1 = ((w.alloc (.cells (RC l n) 68)).alloc (.cells (RC (zs 32) 0) 68)) := ⟨_, rfl⟩
    rw [← hw1] at M2 ⊢
    clear hw1
    refine wp_region_lin (.op 0 (.op 1 (.op 2 (.op 3 .done)))) (by rfl) ?_
    refine wpT_valp 12 (v := .int .i64 N) rfl rfl rfl (by go_simp) ?_
    refine wpT_valp 13 (v := .pointer (some ⟨w.heap.size, 32, none⟩)) rfl rfl rfl (by go_simp) ?_
    refine wpT_valp 14 (v := .int .i64 n) rfl rfl rfl (by have c0 := rrow_32 (by simp [hl]) (M2.row (b := w.heap.size) (c := RC l n) (by simp)); go_simp) ?_
    refine wpT_valp 15 (v := .bool false) rfl rfl rfl (by go_simp) ?_
    dsimp only [wpT]
    try simp only [Act.put, List.setIfInBounds_toArray, List.set_cons_succ, List.set_cons_zero]
    go_upto_region 3 with fail
    have c32 := rrow_32 (b := w.heap.size) (l := l) (n := n) hl (M2.row (by simp))
    go_upto_region 4 with fail
    refine wp_region_lin (.op 0 (.op 1 (.op 2 (.op 3 .done)))) (by rfl) ?_
    refine wpT_ld0 26 Tryd.underlying68 rfl inf_rch (w.heap.size) (RC l n) rfl rfl rfl (by go_simp) (M2.row (by simp)) (by simp [hl]) rfl ?_
    refine wpT_st0 M2 0 (RC l n) inf_rch rfl rfl rfl rfl (by go_simp) (by go_simp) (by simp [hl]) (by simp [hl]) (by simp [go_sem]) rfl (fun w3 M4 => ?_)
    dsimp only [List.set] at M4
    refine wpT_valp 5 (v := (.slice none 0 0)) rfl rfl rfl (by go_simp) ?_
    refine wpT_valp 6 (v := .int .i64 3) rfl rfl rfl (by go_simp) ?_
    dsimp only [wpT]
    try simp only [Act.put, List.setIfInBounds_toArray, List.set_cons_succ, List.set_cons_zero]
    go_upto_region 5 with fail
    have r5 := M4.row (b := w.heap.size + 1) (c := RC l n) (by simp)
    refine bodyPost_ret (res_three rfl (rv_row Tryd.underlying68 rfl inf_rch (w.heap.size + 1) rfl (by rw [r5]; simp [hl])) (rv_tmp _ _ rfl) (rv_tmp _ _ rfl)) rfl ?_
    rw [r5]
    exact ⟨rfl, M4.end_⟩
set_option maxRecDepth 100000 in
set_option maxHeartbeats 4000000 in
theorem rupto_m (w : World) (l : List (BitVec 8)) (n N : Int) (m : Nat) (h0 : 0 ≤ n) (hN : N = n + m) (hm : m ≤ 16) (hN2 : N ≤ 65535) (hl : l.length = 32) :
    Calls Tryd.prog 46 #[.agg (RC l n), .int .i64 N] w fun e w' => ∃ v, e = .returned (.tuple #[.agg (RC (Sh.nxk l m) N), v, .int .i64 0]) ∧ KO w' w.heap.size v (Sh.msk l m) ∧ Below w.heap.size w w' := by
  have q1 : ¬ N < n := by omega
  have q2 : ¬ 65535 < N := by omega
  have q3 : ¬ n + 16 < N := by omega
  have q4 := i64n (n + 16) (by omega) (by omega)
  have HN := hid hN
  clear hN
  have M0 := Mm.start no w
  go_enter Tryd.func46, Tryd.ntmps46
  have M2 := ((M0.alloc (RC l n) 68 (by decide)).alloc (RC (zs 32) 0) 68 (by decide))
  try simp only [World.size_alloc] at M2
  go_upto_region 1 with fail
  obtain ⟨w1, hw1⟩ : ∃ w1, w1 = ((w.alloc (.cells (RC l n) 68)).alloc (.cells (RC (zs 32) 0) 68)) := ⟨_, rfl⟩
  rw [← hw1] at M2 ⊢
  clear hw1
  refine wp_region_lin (.op 0 (.op 1 (.op 2 (.op 3 .done)))) (by rfl) ?_
  refine wpT_valp 12 (v := .int .i64 N) rfl rfl rfl (by go_simp) ?_
  refine wpT_valp 13 (v := .pointer (some ⟨w.heap.size, 32, none⟩)) rfl rfl rfl (by go_simp) ?_
  refine wpT_valp 14 (v := .int .i64 n) rfl rfl rfl (by have c0 := rrow_32 (by simp [hl]) (M2.row (b := w.heap.size) (c := RC l n) (by simp)); go_simp) ?_
  refine wpT_valp 15 (v := .bool false) rfl rfl rfl (by go_simp) ?_
  dsimp only [wpT]
  try simp only [Act.put, List.setIfInBounds_toArray, List.set_cons_succ, List.set_cons_zero]
  go_upto_region 3 with fail
  have c32 := rrow_32 (b := w.heap.size) (l := l) (n := n) hl (M2.row (by simp))
  go_wp2_with fail
  clear c32
  go_loopw [7] (fun u wr => ∃ k : Nat, k ≤ m ∧ KO wr (w.heap.size + 2) u (Sh.msk l k) ∧ Mm no w [(w.heap.size + 1, RC (zs 32) 0), (w.heap.size, RC (Sh.nxk l k) (n + k))] wr) (fun u _ => m - slen u)
  case atStart => exact ⟨0, Nat.zero_le _, by unfold Sh.msk; exact KO.nil _ _, by simpa [Sh.nxk] using M2⟩
  case round =>
    clear M2
    obtain ⟨k, hk, HO, M⟩ := hrel
    have hl2 := nxk_len hl k
    have hnx := hid (show Sh.nx (Sh.nxk l k) = Sh.nxk l (k + 1) by simp [Sh.nxk])
    have hms := hid (msk_succ l k)
    obtain ⟨A, cu, rfl⟩ := HO.shape k (msk_len l k)
    have hwb : w.heap.size + 1 < wr.heap.size := M.lt (b := w.heap.size + 1) (c := RC (zs 32) 0) (by simp)
    by_cases hlt : k < m
    · generalize hl2e : Sh.nxk l k = l2 at *
      generalize hn2e : n + (k : Int) = n2 at *
      have hlt2 : n2 < N := by have := HN.out; omega
      go_upto_region 6 with fail
      refine wp_region_lin (.op 0 (.op 1 (.op 2 (.op 3 .done)))) (by rfl) ?_
      refine wpT_valp 27 (v := .pointer (some ⟨w.heap.size, 32, none⟩)) rfl rfl rfl (by go_simp) ?_
      refine wpT_valp 28 (v := .int .i64 n2) rfl rfl rfl (by have c0 := rrow_32 (by simp [hl, hl2]) (M.row (b := w.heap.size) (c := RC l2 n2) (by simp)); go_simp) ?_
      refine wpT_valp 29 (v := .int .i64 N) rfl rfl rfl (by go_simp) ?_
      refine wpT_valp 30 (v := .bool true) rfl rfl rfl (by go_simp) ?_
      dsimp only [wpT]
      try simp only [Act.put, List.setIfInBounds_toArray, List.set_cons_succ, List.set_cons_zero]
      go_upto_region 7 with fail
      obtain ⟨S1, MR, hS1, hT1⟩ := M.rebase
      have M := MR
      refine wp_region_lin (.op 0 (.op 1 (.op 2 (.op 3 (.op 4 (.op 5 (.op 6 (.op 7 (.op 8 (.op 9 (.op 10 (.op 11 (.op 12 .done))))))))))))) (by rfl) ?_
      refine wpT_ld0 32 Tryd.underlying68 rfl inf_rch (w.heap.size) (RC l2 n2) rfl rfl rfl (by go_simp) (M.row (by simp)) (by simp [hl, hl2]) rfl ?_
      refine wpT_callv 33 M (v := .tuple #[.agg (RC (Sh.nx l2) (n2 + 1)), .int .i64 n2, .agg (cs U8 (Sh.ms l2)), .int .i64 0]) rfl rfl rfl (by go_simp) (rnext_c wr l2 n2 (by omega) (by omega) hl2) (fun w1 M2 => ?_)
      refine wpT_valp 31 (v := .tuple #[.agg (RC (Sh.nx l2) (n2 + 1)), .int .i64 n2, .agg (cs U8 (Sh.ms l2)), .int .i64 0]) rfl rfl rfl (by go_simp) ?_
      refine wpT_valp 34 (v := .agg (RC (Sh.nx l2) (n2 + 1))) rfl rfl rfl (by go_simp) ?_
      try simp only [Act.put, List.setIfInBounds_toArray, List.set_cons_succ, List.set_cons_zero]
      refine wpT_valp 35 (v := .int .i64 n2) rfl rfl rfl (by go_simp) ?_
      refine wpT_valp 36 (v := .agg (cs U8 (Sh.ms l2))) rfl rfl rfl (by go_simp) ?_
      refine wpT_valp 37 (v := .int .i64 0) rfl rfl rfl (by go_simp) ?_
      refine wpT_new (z := .agg (RC (zs 32) 0)) 8 M2 (by kernel_rfl) (by decide) rfl rfl rfl rfl (fun b3 w4 M5 => ?_)
      try dsimp only [Value.cells] at M5
      refine wpT_new (z := .agg (cs U8 (zs 32))) 10 M5 (by kernel_rfl) (by decide) rfl rfl rfl rfl (fun b6 w7 M8 => ?_)
      try dsimp only [Value.cells] at M8
      try simp only [Act.put, List.setIfInBounds_toArray, List.set_cons_succ, List.set_cons_zero]
      refine wpT_st0 M8 1 (RC (Sh.nx l2) (n2 + 1)) inf_rch rfl rfl rfl rfl (by go_simp) (by go_simp) (by simp [hl, hl2]) (by simp [hl, hl2]) (by simp [go_sem]) rfl (fun w9 M10 => ?_)
      dsimp only [List.set] at M10
      refine wpT_valp 9 (v := .int .i64 n2) rfl rfl rfl (by go_simp) ?_
      refine wpT_st0 M10 0 (cs U8 (Sh.ms l2)) inf_key rfl rfl rfl rfl (by go_simp) (by go_simp) (by simp [hl, hl2]) (by simp [hl, hl2]) (by simp [go_sem]) rfl (fun w11 M12 => ?_)
      dsimp only [List.set] at M12
      refine wpT_valp 11 (v := .int .i64 0) rfl rfl rfl (by go_simp) ?_
      dsimp only [wpT]
      try simp only [Act.put, List.setIfInBounds_toArray, List.set_cons_succ, List.set_cons_zero]
      go_upto_region 8 with fail
      refine wp_region_lin (.op 0 (.op 1 .done)) (by rfl) ?_
      refine wpT_ld0 38 Tryd.underlying68 rfl inf_rch (b3) (RC (Sh.nx l2) (n2 + 1)) rfl rfl rfl (by go_simp) (M12.row (by simp)) (by simp [hl, hl2]) rfl ?_
      refine wpT_st0 M12 3 (RC (Sh.nx l2) (n2 + 1)) inf_rch rfl rfl rfl rfl (by go_simp) (by go_simp) (by simp [hl, hl2]) (by simp [hl, hl2]) (by simp [go_sem]) rfl (fun w13 M14 => ?_)
      dsimp only [List.set] at M14
      dsimp only [wpT]
      try simp only [Act.put, List.setIfInBounds_toArray, List.set_cons_succ, List.set_cons_zero]
      go_upto_region 9 with fail
      have O4 := HO.fr M14.fr (fun g hg e => by
        have h1 := (HO.at_ g hg).1
        have h2 := hS1 g e
        simp at h2
        omega)
      have nb : ∀ b c, (b, c) ∈ [(b6, cs U8 (Sh.ms l2)), (b3, RC (Sh.nx l2) (n2 + 1)), (w.heap.size + 1, RC (zs 32) 0), (w.heap.size, RC (Sh.nx l2) (n2 + 1))] → ∀ g, w.heap.size + 2 ≤ g → g < wr.heap.size → b ≠ g := by
        intro b c hbc g h1 h2 e
        subst e
        rcases (M14.own (b, c) hbc).1 with h | h
        · have := hS1 _ h
          simp at this
          omega
        · have : wr.heap.size ≤ b := h
          omega
      have nb6 := nb b6 _ (by simp; exact .inl rfl)
      have nb3 := nb b3 _ (by simp; exact .inr (.inl rfl))
      clear nb
      have MZ := hT1 _ _ M14
      clear M14 hT1
      refine wp_region_lin (.op 0 (.op 1 (.op 2 (.op 3 (.op 4 .done))))) (by rfl) ?_
      refine wpT_valp 39 (v := .slice A k cu) rfl rfl rfl (by go_simp) ?_
      refine wpT_ld0 40 Tryd.underlying25 rfl inf_key b6 (cs U8 (Sh.ms l2)) rfl rfl rfl (by go_simp) (MZ.row (by simp)) (by simp) rfl ?_
      have hsz := O4.at_
      refine wpT_keys1 41 _ MZ (Sh.ms l2) (by simp) rfl rfl rfl (by go_simp) rfl (fun bk w5 M5 B5 L5 => ?_)
      have O5 := O4.below B5
      refine wpT_apk 42 _ _ M5 (w.heap.size + 2) (.slice A k cu) (.slice (some ⟨bk, 0, none⟩) 1 1) (Sh.msk l k) (Sh.ms l2) rfl rfl rfl rfl (by go_simp) O5 (by go_simp) (by simp) (SV.key (M5.row (by simp))) (by rw [msk_len]; omega) (by have := B5.size; have := MZ.lt (b := w.heap.size + 1) (c := RC (zs 32) 0) (by simp); omega) (by omega) (fun g hg p hp => ?_) (fun u6 w6 O6 M6 _ _ => ?_)
      · have h1 := HO.at_ g hg
        have h2 := hsz g hg
        simp only [List.mem_cons, List.mem_singleton, List.not_mem_nil, or_false] at hp
        rcases hp with rfl | rfl | rfl | rfl | rfl
        · show bk ≠ g; omega
        · exact nb6 g h1.1 h1.2
        · exact nb3 g h1.1 h1.2
        · show w.heap.size + 1 ≠ g; omega
        · show w.heap.size ≠ g; omega
      rw [← hms.out] at O6
      obtain ⟨A6, c6, rfl⟩ := O6.shape (k + 1) (msk_len l (k + 1))
      refine wpT_valp 7 (v := .slice A6 (k + 1) c6) rfl rfl rfl (by go_simp) ?_
      dsimp only [wpT]
      try simp only [Act.put, List.setIfInBounds_toArray, List.set_cons_succ, List.set_cons_zero]
      go_wp2_with fail
      go_roundw
      case rel =>
        refine ⟨k + 1, by omega, O6, ?_⟩
        rw [← hnx.out, show n + ((k + 1 : Nat) : Int) = n2 + 1 by rw [← hn2e]; omega]
        exact M6.sub ((List.sublist_cons_self _ _).trans ((List.sublist_cons_self _ _).trans (List.sublist_cons_self _ _)))
      case measure => simp only [slen]; omega
    · have : k = m := by omega
      subst this
      have hN3 : n + (k : Int) = N := HN.out.symm
      rw [hN3] at M
      obtain ⟨l2, el2⟩ : ∃ l2, l2 = Sh.nxk l k := ⟨_, rfl⟩
      rw [← el2] at M hl2
      have HL2 := hid el2
      clear el2
      obtain ⟨n2, hn2⟩ : ∃ n2, n2 = N := ⟨_, rfl⟩
      have hlt2 : ¬ n2 < N := by omega
      have HN2 := hid hn2
      rw [← hn2] at M
      clear hn2
      obtain ⟨S1, MR, hS1, hT1⟩ := M.rebase
      have M := MR
      go_upto_region 6 with fail
      refine wp_region_lin (.op 0 (.op 1 (.op 2 (.op 3 .done)))) (by rfl) ?_
      refine wpT_valp 27 (v := .pointer (some ⟨w.heap.size, 32, none⟩)) rfl rfl rfl (by go_simp) ?_
      refine wpT_valp 28 (v := .int .i64 n2) rfl rfl rfl (by have c0 := rrow_32 (by simp [hl, hl2]) (M.row (b := w.heap.size) (c := RC l2 n2) (by simp)); go_simp) ?_
      refine wpT_valp 29 (v := .int .i64 N) rfl rfl rfl (by go_simp) ?_
      refine wpT_valp 30 (v := .bool false) rfl rfl rfl (by go_simp) ?_
      dsimp only [wpT]
      try simp only [Act.put, List.setIfInBounds_toArray, List.set_cons_succ, List.set_cons_zero]
      go_upto_region 10 with fail
      refine wp_region_lin (.op 0 (.op 1 (.op 2 (.op 3 (.op 4 .done))))) (by rfl) ?_
      refine wpT_ld0 43 Tryd.underlying68 rfl inf_rch (w.heap.size) (RC l2 n2) rfl rfl rfl (by go_simp) (M.row (by simp)) (by simp [hl, hl2]) rfl ?_
      refine wpT_valp 44 (v := .slice A k cu) rfl rfl rfl (by go_simp) ?_
      refine wpT_st0 M 0 (RC l2 n2) inf_rch rfl rfl rfl rfl (by go_simp) (by go_simp) (by simp [hl, hl2]) (by simp [hl, hl2]) (by simp [go_sem]) rfl (fun w1 M2 => ?_)
      dsimp only [List.set] at M2
      refine wpT_valp 5 (v := .slice A k cu) rfl rfl rfl (by go_simp) ?_
      try simp only [Act.put, List.setIfInBounds_toArray, List.set_cons_succ, List.set_cons_zero]
      refine wpT_valp 6 (v := .int .i64 0) rfl rfl rfl (by go_simp) ?_
      dsimp only [wpT]
      try simp only [Act.put, List.setIfInBounds_toArray, List.set_cons_succ, List.set_cons_zero]
      go_wp2_with fail
      have r3 := M2.row (b := w.heap.size + 1) (c := RC l2 n2) (by simp)
      refine bodyPost_ret (res_three rfl (rv_row Tryd.underlying68 rfl inf_rch (w.heap.size + 1) rfl (by rw [r3]; simp [hl, hl2])) (rv_tmp _ _ rfl) (rv_tmp _ _ rfl)) rfl ?_
      rw [r3]
      exact ⟨.slice A k cu, by rw [HN2.out, HL2.out]; rfl, (HO.fr M2.fr (fun g hg e => by have h1 := (HO.at_ g hg).1; have h2 := hS1 g e; simp at h2; omega)).mono (Nat.le_add_right _ 2), (hT1 _ _ M2).end_⟩
/-- the very same keys -/
theorem same_t (w : World) (v1 v2 : Value) (L : List (List (BitVec 8))) (h1 : KS w v1 L) (h2 : KS w v2 L) :
    Calls Tryd.prog 47 #[v1, v2] w fun e w' => e = .returned (.bool true) ∧ Below w.heap.size w w' := by
  have H1 := hid h1; have H2 := hid h2
  obtain ⟨a1, c1, rfl, -, hmx, -, -⟩ := h1
  have hmx : L.length ≤ 9223372036854775807 := hmx
  obtain ⟨a2, c2, rfl, -, -, -, -⟩ := h2
  have M0 := Mm.start no w
  go_enter Tryd.func47, Tryd.ntmps47
  go_wp2_with fail
  go_loopw [13] (fun t wr => ∃ i : Nat, i ≤ L.length ∧ t = .int .i64 i ∧ Mm no w [] wr) (fun t _ => L.length - (intOf t).toNat)
  case atStart => exact ⟨0, Nat.zero_le _, rfl, M0⟩
  case round =>
    clear M0
    obtain ⟨i, hi, rfl, M⟩ := hrel
    by_cases hlt : i < L.length
    · obtain ⟨b1, o1, rfl, hk1⟩ := H1.out.key (by omega)
      obtain ⟨b2, o2, rfl, hk2⟩ := H2.out.key (by omega)
      have g1 := hk1 i hlt
      have g2 := hk2 i hlt
      clear hk1 hk2
      obtain ⟨k, ek⟩ : ∃ k, k = L.getD i [] := ⟨_, rfl⟩
      rw [← ek] at g1 g2
      have hk : k.length = 32 := g1.1
      clear ek
      have HC := hid (fun H w' (M : Mm no w H w') => (⟨g1.below M.end_, g2.below M.end_⟩ : KC w' b1 (o1 + i * 32) k ∧ KC w' b2 (o2 + i * 32) k))
      clear g1 g2
      have hlt2 : (i : Int) < (L.length : Int) := by omega
      have hi0 : (0 : Int) ≤ (i : Int) := by omega
      go_upto_region 6 with fail
      refine wp_region_seq 9 [16, 17, 18, 19, 20, 21, 22, 23, 24] [] [] [] (.done) (Mm no w _) (by kernel_rfl) (by kernel_rfl) (by kernel_rfl) (fun d _ _ _ _ h => by cases d <;> exact h) (by rfl) M.size (fun _ _ h k => h.sf k) M ?_
      simp only [List.take_succ_cons, List.take_zero]
      refine SeqA.pure (.slice (some ⟨b1, o1, none⟩) L.length c1) (fun w' => by go_simp) rfl rfl ?_
      refine SeqA.pure (.int .i64 i) (fun w' => by go_simp) rfl rfl ?_
      refine SeqA.pure (.pointer (some ⟨b1, o1 + i * 32, none⟩)) (fun w' => by go_simp) rfl rfl ?_
      refine SeqA.ldk b1 (o1 + i * 32) k rfl (by go_simp) (fun w' M => (HC.out _ _ M).1) rfl ?_
      refine SeqA.pure (.slice (some ⟨b2, o2, none⟩) L.length c2) (fun w' => by go_simp) rfl rfl ?_
      simp only [Act.put, List.setIfInBounds_toArray, List.set_cons_succ, List.set_cons_zero]
      refine SeqA.pure (.int .i64 i) (fun w' => by go_simp) rfl rfl ?_
      refine SeqA.pure (.pointer (some ⟨b2, o2 + i * 32, none⟩)) (fun w' => by go_simp) rfl rfl ?_
      refine SeqA.ldk b2 (o2 + i * 32) k rfl (by go_simp) (fun w' M => (HC.out _ _ M).2) rfl ?_
      refine SeqA.pure (.bool false) (fun w' => by have q := eqL w' k hk; go_simp) rfl rfl ?_
      refine SeqA.nil (fun w1 M2 hz => ?_)
      show wpT _ _ _ _ _ _
      simp only [Act.put, List.setIfInBounds_toArray, List.set_cons_succ, List.set_cons_zero]
      dsimp only [wpT]
      go_wp2_with fail
      go_roundw
      case rel => exact ⟨i + 1, by omega, rfl, M2⟩
      case measure => simp [intOf]; omega
    · have : i = L.length := by omega
      subst this
      go_wp2_with fail
      go_ret
      exact ⟨rfl, M.end_⟩
end Go.Proofs.YtocledgjejlolaaDoor
