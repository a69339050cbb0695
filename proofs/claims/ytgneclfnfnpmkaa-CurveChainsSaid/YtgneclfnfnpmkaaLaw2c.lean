/-
  Law 02: shares and chains, walked; own work.
-/
import Derived.Test.YtgneclfnfnpmkaaCv9
import Derived.Test.YtgneclfnfnpmkaaLaw2b
import Derived.Test.YtgneclfnfnpmkaaRowP2
import Derived.Deep.Slices
set_option linter.unusedSimpArgs false
set_option linter.unusedVariables false
namespace Go.Proofs.Ytgneclfnfnpmkaa
open Go.RowKit Fp
attribute [local irreducible] chF gv shv ec
set_option maxRecDepth 100000 in
set_option maxHeartbeats 2000000 in
theorem CurveShares_w (w : World) (a b : List (BitVec 8)) (ha : a.length = 32) (hb : b.length = 32) :
    Calls Try.prog 11 #[.agg (cs U8 a), .agg (cs U8 b)] w fun e w' => e = .returned (.bool true) ∧ Below w.heap.size w w' := by
  have HCL := hid (show (clampB a).length = 32 by simp [ha])
  have M0 := Mm.start no w
  go_enter Try.func11, Try.ntmps11
  have M2 := ((M0.alloc (cs U8 a) 23 (by decide)).alloc (cs U8 b) 23 (by decide))
  try simp only [World.size_alloc] at M2
  go_upto_region 1 with fail
  obtain ⟨w1, hw1⟩ : ∃ w1, w1 = ((w.alloc (.cells (cs U8 a) 23)).alloc (.cells (cs U8 b) 23)) := ⟨_, rfl⟩
  rw [← hw1] at M2 ⊢
  clear hw1
  refine wp_region_seqF 2 [9, 10] [] [] [] (.done) (Mm no w _) (by kernel_rfl) (by kernel_rfl) (fun d _ _ _ _ h => by cases d <;> exact h) (by rfl) M2.size (fun _ _ h k => h.sf k) M2 (by kernel_rfl) ?_
  simp only [List.take_succ_cons, List.take_zero]
  refine SeqA.call _ _ _ (fun w' => by go_simp) (fun w' hI _ => alive2_c w') M2.size rfl rfl ?_
  refine SeqA.pure (.bool false) (fun w' => by go_simp) rfl rfl ?_
  refine SeqA.nil (fun w3 M4 hz => ?_)
  show wpT _ _ _ _ _ _
  simp only [Act.put, List.setIfInBounds_toArray, List.set_cons_succ, List.set_cons_zero]
  dsimp only [wpT]
  go_upto_region 3 with fail
  refine wp_region_seqF 7 [12, 13, 14, 11, 15, 16, 5] [] [5] [] (.op 7 (.op 8 .done)) (Mm no w _) (by kernel_rfl) (by kernel_rfl) (fun d _ _ _ _ h => by cases d <;> exact h) (by rfl) M4.size (fun _ _ h k => h.sf k) M4 (by kernel_rfl) ?_
  simp only [List.take_succ_cons, List.take_zero]
  refine SeqA.ld0 Try.underlying23 rfl inf_key (w.heap.size) (cs U8 a) rfl (by go_simp) (fun _ M => M.row (by simp)) (by simp [ha, hb]) rfl ?_
  refine SeqA.ld0 Try.underlying23 rfl inf_key (w.heap.size + 1) (cs U8 b) rfl (by go_simp) (fun _ M => M.row (by simp)) (by simp [ha, hb]) rfl ?_
  refine SeqA.call _ _ _ (fun w' => by go_simp) (fun w' hI _ => shared_c w' a b (by simp [ha, hb]) (by simp [ha, hb])) M4.size rfl rfl ?_
  refine SeqA.pure (.tuple #[.agg (cs U8 (K (shv a b))), .int .i64 (ec (shv a b))]) (fun w' => by go_simp) rfl rfl ?_
  refine SeqA.pure (.agg (cs U8 (K (shv a b)))) (fun w' => by go_simp) rfl rfl ?_
  simp only [Act.put, List.setIfInBounds_toArray, List.set_cons_succ, List.set_cons_zero]
  refine SeqA.pure (.int .i64 (ec (shv a b))) (fun w' => by go_simp) rfl rfl ?_
  refine SeqA.var (z := .agg (cs U8 (zs 32))) (by kernel_rfl) rfl rfl (by decide) rfl ?_
  refine SeqA.nil (fun w5 M6 hz => ?_)
  refine news_one (fun b7 hb1 hb2 hb3 => ?_)
  have M8 := M4.in_ (c := cs U8 (zs 32)) M6 hb1 hb2 (by decide) hb3 rfl
  show wpT _ _ _ _ _ _
  simp only [Act.put, List.setIfInBounds_toArray, List.set_cons_succ, List.set_cons_zero]
  refine wpT_st0 M8 0 (cs U8 (K (shv a b))) inf_key rfl rfl rfl rfl (by go_simp) (by go_simp) (by simp [ha, hb]) (by simp [ha, hb]) (by simp [go_sem]) rfl (fun w9 M10 => ?_)
  dsimp only [List.set] at M10
  refine wpT_vald 6 (v := .int .i64 (ec (shv a b))) rfl rfl rfl rfl ?_
  dsimp only [wpT]
  simp only [Act.put, List.setIfInBounds_toArray, List.set_cons_succ, List.set_cons_zero]
  go_upto_region 4 with fail
  refine wp_region_seqF 7 [18, 19, 20, 17, 21, 22, 7] [] [5] [] (.op 7 (.op 8 .done)) (Mm no w _) (by kernel_rfl) (by kernel_rfl) (fun d _ _ _ _ h => by cases d <;> exact h) (by rfl) M10.size (fun _ _ h k => h.sf k) M10 (by kernel_rfl) ?_
  simp only [List.take_succ_cons, List.take_zero]
  refine SeqA.ld0 Try.underlying23 rfl inf_key (w.heap.size) (cs U8 a) rfl (by go_simp) (fun _ M => M.row (by simp)) (by simp [ha, hb]) rfl ?_
  refine SeqA.ld0 Try.underlying23 rfl inf_key (w.heap.size + 1) (cs U8 b) rfl (by go_simp) (fun _ M => M.row (by simp)) (by simp [ha, hb]) rfl ?_
  refine SeqA.call _ _ _ (fun w' => by go_simp) (fun w' hI _ => rshared_c w' a b (by simp [ha, hb]) (by simp [ha, hb])) M10.size rfl rfl ?_
  refine SeqA.pure (.tuple #[.agg (cs U8 (K (shv a b))), .int .i64 (ec (shv a b))]) (fun w' => by go_simp) rfl rfl ?_
  refine SeqA.pure (.agg (cs U8 (K (shv a b)))) (fun w' => by go_simp) rfl rfl ?_
  simp only [Act.put, List.setIfInBounds_toArray, List.set_cons_succ, List.set_cons_zero]
  refine SeqA.pure (.int .i64 (ec (shv a b))) (fun w' => by go_simp) rfl rfl ?_
  refine SeqA.var (z := .agg (cs U8 (zs 32))) (by kernel_rfl) rfl rfl (by decide) rfl ?_
  refine SeqA.nil (fun w11 M12 hz => ?_)
  refine news_one (fun b13 hb1 hb2 hb3 => ?_)
  have M14 := M10.in_ (c := cs U8 (zs 32)) M12 hb1 hb2 (by decide) hb3 rfl
  show wpT _ _ _ _ _ _
  simp only [Act.put, List.setIfInBounds_toArray, List.set_cons_succ, List.set_cons_zero]
  refine wpT_st0 M14 0 (cs U8 (K (shv a b))) inf_key rfl rfl rfl rfl (by go_simp) (by go_simp) (by simp [ha, hb]) (by simp [ha, hb]) (by simp [go_sem]) rfl (fun w15 M16 => ?_)
  dsimp only [List.set] at M16
  refine wpT_vald 8 (v := .int .i64 (ec (shv a b))) rfl rfl rfl rfl ?_
  dsimp only [wpT]
  simp only [Act.put, List.setIfInBounds_toArray, List.set_cons_succ, List.set_cons_zero]
  go_upto_region 5 with fail
  refine wp_region_seq 23 [23, 24, 25, 26, 27, 28, 29, 30, 31, 32, 33, 34, 35, 36, 37, 38, 39, 40, 41, 42, 43, 44, 4] [] [] [] (.done) (Mm no w _) (by kernel_rfl) (by kernel_rfl) (by kernel_rfl) (fun d _ _ _ _ h => by cases d <;> exact h) (by rfl) M16.size (fun _ _ h k => h.sf k) M16 ?_
  simp only [List.take_succ_cons, List.take_zero]
  refine SeqA.ld0 Try.underlying23 rfl inf_key (w.heap.size) (cs U8 a) rfl (by go_simp) (fun _ M => M.row (by simp)) (by simp [ha, hb]) rfl ?_
  refine SeqA.call _ _ _ (fun w' => by go_simp) (fun w' hI _ => clamp_any w' a (by simp [ha, hb])) M16.size rfl rfl ?_
  refine SeqA.ld0 Try.underlying23 rfl inf_key (w.heap.size) (cs U8 a) rfl (by go_simp) (fun _ M => M.row (by simp)) (by simp [ha, hb]) rfl ?_
  refine SeqA.call _ _ _ (fun w' => by go_simp) (fun w' hI _ => rclamp_any w' a (by simp [ha, hb])) M16.size rfl rfl ?_
  refine SeqA.pure (.bool true) (fun w' => by have q := eqL w' (clampB a) HCL.out; go_simp) rfl rfl ?_
  simp only [Act.put, List.setIfInBounds_toArray, List.set_cons_succ, List.set_cons_zero]
  refine SeqA.pure (.bool true) (fun w' => by go_simp) rfl rfl ?_
  refine SeqA.ld0 Try.underlying23 rfl inf_key (b7) (cs U8 (K (shv a b))) rfl (by go_simp) (fun _ M => M.row (by simp)) (by simp [ha, hb]) (by simp [Region.wanted, yielded, Act.put]) ?_
  refine SeqA.ld0 Try.underlying23 rfl inf_key (b13) (cs U8 (K (shv a b))) rfl (by go_simp) (fun _ M => M.row (by simp)) (by simp [ha, hb]) (by simp [Region.wanted, yielded, Act.put]) ?_
  refine SeqA.pure (.bool true) (fun w' => by have q := eqt w' (shv a b) (shv a b) (rfl); go_simp) rfl (by simp [Region.wanted, yielded, Act.put]) ?_
  refine SeqA.pure (.bool true) (fun w' => by go_simp) rfl rfl ?_
  refine SeqA.pure (.bool true) (fun w' => by go_simp) rfl rfl ?_
  simp only [Act.put, List.setIfInBounds_toArray, List.set_cons_succ, List.set_cons_zero]
  refine SeqA.pure (.int .i64 (ec (shv a b))) (fun w' => by go_simp) rfl (by simp [Region.wanted, yielded, Act.put]) ?_
  refine SeqA.pure (.int .i64 (ec (shv a b))) (fun w' => by go_simp) rfl (by simp [Region.wanted, yielded, Act.put]) ?_
  refine SeqA.pure (.bool true) (fun w' => by go_simp) rfl (by simp [Region.wanted, yielded, Act.put]) ?_
  refine SeqA.pure (.bool true) (fun w' => by go_simp) rfl rfl ?_
  refine SeqA.pure (.bool true) (fun w' => by go_simp) rfl rfl ?_
  refine SeqA.ld0 Try.underlying23 rfl inf_key (w.heap.size) (cs U8 a) rfl (by go_simp) (fun _ M => M.row (by simp)) (by simp [ha, hb]) (by simp [Region.wanted, yielded, Act.put]) ?_
  simp only [Act.put, List.setIfInBounds_toArray, List.set_cons_succ, List.set_cons_zero]
  refine SeqA.call _ _ _ (fun w' => by go_simp) (fun w' hI _ => public_c w' a (by simp [ha, hb])) M16.size rfl (by simp [Region.wanted, yielded, Act.put]) ?_
  refine SeqA.ld0 Try.underlying23 rfl inf_key (w.heap.size) (cs U8 a) rfl (by go_simp) (fun _ M => M.row (by simp)) (by simp [ha, hb]) (by simp [Region.wanted, yielded, Act.put]) ?_
  refine SeqA.call _ _ _ (fun w' => by go_simp) (fun w' hI _ => rpublic_c w' a (by simp [ha, hb])) M16.size rfl (by simp [Region.wanted, yielded, Act.put]) ?_
  refine SeqA.pure (.bool true) (fun w' => by have q := eqt w' ((gv (leN (clampB a)) 9)) ((gv (leN (clampB a)) 9)) (rfl); go_simp) rfl (by simp [Region.wanted, yielded, Act.put]) ?_
  refine SeqA.pure (.bool true) (fun w' => by go_simp) rfl rfl ?_
  refine SeqA.pure (.bool true) (fun w' => by go_simp) rfl rfl ?_
  refine SeqA.nil (fun w17 M18 hz => ?_)
  show wpT _ _ _ _ _ _
  simp only [Act.put, List.setIfInBounds_toArray, List.set_cons_succ, List.set_cons_zero]
  dsimp only [wpT]
  go_wp2_with fail
  go_ret
  exact ⟨rfl, M18.end_⟩
set_option maxRecDepth 100000 in
set_option maxHeartbeats 2000000 in
theorem CurveChains_w (w : World) (a : List (BitVec 8)) (v : Value) (L : List (List (BitVec 8))) (ha : a.length = 32) (hv : KS w v L) :
    Calls Try.prog 14 #[.agg (cs U8 a), v] w fun e w' => e = .returned (.bool true) ∧ Below w.heap.size w w' := by
  have HS := hid hv
  obtain ⟨A, cap, rfl, -, -, -, -⟩ := hv
  by_cases hbig : 20 < L.length
  · have hL : (20 : Int) < (L.length : Int) := by omega
    clear hbig
    have M0 := Mm.start no w
    go_enter Try.func14, Try.ntmps14
    have M2 := (M0.alloc (cs U8 a) 23 (by decide))
    try simp only [World.size_alloc] at M2
    go_upto_region 1 with fail
    obtain ⟨w1, hw1⟩ : ∃ w1, w1 = (w.alloc (.cells (cs U8 a) 23)) := ⟨_, rfl⟩
    rw [← hw1] at M2 ⊢
    clear hw1
    refine wp_region_seqF 2 [9, 10] [] [] [] (.done) (Mm no w _) (by kernel_rfl) (by kernel_rfl) (fun d _ _ _ _ h => by cases d <;> exact h) (by rfl) M2.size (fun _ _ h k => h.sf k) M2 (by kernel_rfl) ?_
    simp only [List.take_succ_cons, List.take_zero]
    refine SeqA.call _ _ _ (fun w' => by go_simp) (fun w' hI _ => alive2_c w') M2.size rfl rfl ?_
    refine SeqA.pure (.bool false) (fun w' => by go_simp) rfl rfl ?_
    refine SeqA.nil (fun w3 M4 hz => ?_)
    show wpT _ _ _ _ _ _
    simp only [Act.put, List.setIfInBounds_toArray, List.set_cons_succ, List.set_cons_zero]
    dsimp only [wpT]
    go_upto_region 4 with fail
    refine wp_region_seqF 1 [4] [] [] [] (.done) (Mm no w _) (by kernel_rfl) (by kernel_rfl) (fun d _ _ _ _ h => by cases d <;> exact h) (by rfl) M4.size (fun _ _ h k => h.sf k) M4 (by kernel_rfl) ?_
    simp only [List.take_succ_cons, List.take_zero]
    refine SeqA.pure (.bool true) (fun w' => by go_simp) rfl rfl ?_
    refine SeqA.nil (fun w5 M6 hz => ?_)
    show wpT _ _ _ _ _ _
    simp only [Act.put, List.setIfInBounds_toArray, List.set_cons_succ, List.set_cons_zero]
    dsimp only [wpT]
    go_wp2_with fail
    go_ret
    exact ⟨rfl, M6.end_⟩
  · have hL : ¬ (20 : Int) < (L.length : Int) := by omega
    clear hbig
    have M0 := Mm.start no w
    go_enter Try.func14, Try.ntmps14
    have M2 := (M0.alloc (cs U8 a) 23 (by decide))
    try simp only [World.size_alloc] at M2
    go_upto_region 1 with fail
    obtain ⟨w1, hw1⟩ : ∃ w1, w1 = (w.alloc (.cells (cs U8 a) 23)) := ⟨_, rfl⟩
    rw [← hw1] at M2 ⊢
    clear hw1
    refine wp_region_seqF 2 [9, 10] [] [] [] (.done) (Mm no w _) (by kernel_rfl) (by kernel_rfl) (fun d _ _ _ _ h => by cases d <;> exact h) (by rfl) M2.size (fun _ _ h k => h.sf k) M2 (by kernel_rfl) ?_
    simp only [List.take_succ_cons, List.take_zero]
    refine SeqA.call _ _ _ (fun w' => by go_simp) (fun w' hI _ => alive2_c w') M2.size rfl rfl ?_
    refine SeqA.pure (.bool false) (fun w' => by go_simp) rfl rfl ?_
    refine SeqA.nil (fun w3 M4 hz => ?_)
    show wpT _ _ _ _ _ _
    simp only [Act.put, List.setIfInBounds_toArray, List.set_cons_succ, List.set_cons_zero]
    dsimp only [wpT]
    go_upto_region 5 with fail
    refine wp_region_seqF 7 [15, 16, 17, 14, 18, 19, 5] [] [5] [] (.op 7 (.op 8 .done)) (Mm no w _) (by kernel_rfl) (by kernel_rfl) (fun d _ _ _ _ h => by cases d <;> exact h) (by rfl) M4.size (fun _ _ h k => h.sf k) M4 (by kernel_rfl) ?_
    simp only [List.take_succ_cons, List.take_zero]
    refine SeqA.ld0 Try.underlying23 rfl inf_key (w.heap.size) (cs U8 a) rfl (by go_simp) (fun _ M => M.row (by simp)) (by simp [ha]) rfl ?_
    refine SeqA.pure (.slice A L.length cap) (fun w' => by go_simp) rfl rfl ?_
    refine SeqA.call _ _ _ (fun w' => by go_simp) (fun w' M _ => chain_c w' a (.slice A L.length cap) L ha (HS.out.below M.end_)) M4.size rfl rfl ?_
    refine SeqA.pure (.tuple #[.agg (cs U8 (K ((chF a L).1))), .int .i64 ((chF a L).2)]) (fun w' => by go_simp) rfl rfl ?_
    refine SeqA.pure (.agg (cs U8 (K ((chF a L).1)))) (fun w' => by go_simp) rfl rfl ?_
    simp only [Act.put, List.setIfInBounds_toArray, List.set_cons_succ, List.set_cons_zero]
    refine SeqA.pure (.int .i64 ((chF a L).2)) (fun w' => by go_simp) rfl rfl ?_
    refine SeqA.var (z := .agg (cs U8 (zs 32))) (by kernel_rfl) rfl rfl (by decide) rfl ?_
    refine SeqA.nil (fun w5 M6 hz => ?_)
    refine news_one (fun b7 hb1 hb2 hb3 => ?_)
    have M8 := M4.in_ (c := cs U8 (zs 32)) M6 hb1 hb2 (by decide) hb3 rfl
    show wpT _ _ _ _ _ _
    simp only [Act.put, List.setIfInBounds_toArray, List.set_cons_succ, List.set_cons_zero]
    refine wpT_st0 M8 0 (cs U8 (K ((chF a L).1))) inf_key rfl rfl rfl rfl (by go_simp) (by go_simp) (by simp [ha]) (by simp [ha]) (by simp [go_sem]) rfl (fun w9 M10 => ?_)
    dsimp only [List.set] at M10
    refine wpT_vald 6 (v := .int .i64 ((chF a L).2)) rfl rfl rfl rfl ?_
    dsimp only [wpT]
    simp only [Act.put, List.setIfInBounds_toArray, List.set_cons_succ, List.set_cons_zero]
    go_upto_region 6 with fail
    refine wp_region_seqF 7 [21, 22, 23, 20, 24, 25, 7] [] [5] [] (.op 7 (.op 8 .done)) (Mm no w _) (by kernel_rfl) (by kernel_rfl) (fun d _ _ _ _ h => by cases d <;> exact h) (by rfl) M10.size (fun _ _ h k => h.sf k) M10 (by kernel_rfl) ?_
    simp only [List.take_succ_cons, List.take_zero]
    refine SeqA.ld0 Try.underlying23 rfl inf_key (w.heap.size) (cs U8 a) rfl (by go_simp) (fun _ M => M.row (by simp)) (by simp [ha]) rfl ?_
    refine SeqA.pure (.slice A L.length cap) (fun w' => by go_simp) rfl rfl ?_
    refine SeqA.call _ _ _ (fun w' => by go_simp) (fun w' M _ => rchain_c w' a (.slice A L.length cap) L ha (HS.out.below M.end_)) M10.size rfl rfl ?_
    refine SeqA.pure (.tuple #[.agg (cs U8 (K ((chF a L).1))), .int .i64 ((chF a L).2)]) (fun w' => by go_simp) rfl rfl ?_
    refine SeqA.pure (.agg (cs U8 (K ((chF a L).1)))) (fun w' => by go_simp) rfl rfl ?_
    simp only [Act.put, List.setIfInBounds_toArray, List.set_cons_succ, List.set_cons_zero]
    refine SeqA.pure (.int .i64 ((chF a L).2)) (fun w' => by go_simp) rfl rfl ?_
    refine SeqA.var (z := .agg (cs U8 (zs 32))) (by kernel_rfl) rfl rfl (by decide) rfl ?_
    refine SeqA.nil (fun w11 M12 hz => ?_)
    refine news_one (fun b13 hb1 hb2 hb3 => ?_)
    have M14 := M10.in_ (c := cs U8 (zs 32)) M12 hb1 hb2 (by decide) hb3 rfl
    show wpT _ _ _ _ _ _
    simp only [Act.put, List.setIfInBounds_toArray, List.set_cons_succ, List.set_cons_zero]
    refine wpT_st0 M14 0 (cs U8 (K ((chF a L).1))) inf_key rfl rfl rfl rfl (by go_simp) (by go_simp) (by simp [ha]) (by simp [ha]) (by simp [go_sem]) rfl (fun w15 M16 => ?_)
    dsimp only [List.set] at M16
    refine wpT_vald 8 (v := .int .i64 ((chF a L).2)) rfl rfl rfl rfl ?_
    dsimp only [wpT]
    simp only [Act.put, List.setIfInBounds_toArray, List.set_cons_succ, List.set_cons_zero]
    go_upto_region 7 with fail
    refine wp_region_seqF 9 [26, 27, 28, 29, 30, 31, 32, 33, 4] [] [] [] (.done) (Mm no w _) (by kernel_rfl) (by kernel_rfl) (fun d _ _ _ _ h => by cases d <;> exact h) (by rfl) M16.size (fun _ _ h k => h.sf k) M16 (by kernel_rfl) ?_
    simp only [List.take_succ_cons, List.take_zero]
    refine SeqA.ld0 Try.underlying23 rfl inf_key (b7) (cs U8 (K ((chF a L).1))) rfl (by go_simp) (fun _ M => M.row (by simp)) (by simp [ha]) rfl ?_
    refine SeqA.ld0 Try.underlying23 rfl inf_key (b13) (cs U8 (K ((chF a L).1))) rfl (by go_simp) (fun _ M => M.row (by simp)) (by simp [ha]) rfl ?_
    refine SeqA.pure (.bool true) (fun w' => by have q := eqt w' ((chF a L).1) ((chF a L).1) (rfl); go_simp) rfl rfl ?_
    refine SeqA.pure (.bool true) (fun w' => by go_simp) rfl rfl ?_
    refine SeqA.pure (.int .i64 ((chF a L).2)) (fun w' => by go_simp) rfl (by simp [Region.wanted, yielded, Act.put]) ?_
    simp only [Act.put, List.setIfInBounds_toArray, List.set_cons_succ, List.set_cons_zero]
    refine SeqA.pure (.int .i64 ((chF a L).2)) (fun w' => by go_simp) rfl (by simp [Region.wanted, yielded, Act.put]) ?_
    refine SeqA.pure (.bool true) (fun w' => by go_simp) rfl (by simp [Region.wanted, yielded, Act.put]) ?_
    refine SeqA.pure (.bool true) (fun w' => by go_simp) rfl rfl ?_
    refine SeqA.pure (.bool true) (fun w' => by go_simp) rfl rfl ?_
    refine SeqA.nil (fun w17 M18 hz => ?_)
    show wpT _ _ _ _ _ _
    simp only [Act.put, List.setIfInBounds_toArray, List.set_cons_succ, List.set_cons_zero]
    dsimp only [wpT]
    go_wp2_with fail
    go_ret
    exact ⟨rfl, M18.end_⟩
open Go.ChangeShapes Go.WideShapes Go.ChangeAt in
/-- a slice of keys that came in -/
theorem ks_of_trod {H : Type} {enc : TypeId × Value → H} {W : World} {a : Option Addr} {len cap : Nat} {d : DataW H} {p : List MemPlace} (h : DataW.Trod enc Try.prog W 0 (fun _ => true) true 36 (.slice a len cap) d p) :
    ∃ L : List (List (BitVec 8)), L.length = len ∧ KS W (.slice a len cap) L := by
  obtain ⟨fuel, hf⟩ := h
  rcases Go.Deep.open_slice Try.underlying36 hf with ⟨hcs, _⟩ | ⟨x, l, c, m, n, D, Pl, hcs, _, hl, hm, hmm, _, hrow⟩
  · simp [Value.cells] at hcs
    obtain ⟨rfl, rfl, rfl⟩ := hcs
    exact ⟨[], rfl, none, 0, rfl, Nat.le_refl _, Nat.zero_le _, fun i h => by simp at h, fun h => by simp at h⟩
  · simp [Value.cells] at hcs
    obtain ⟨rfl, rfl, rfl⟩ := hcs
    have hce : Try.prog.cellsOf 23 = 32 := by kernel_rfl
    simp only [hce, if_true] at hrow hmm
    subst hmm
    obtain ⟨b, off, spot⟩ := x
    have cell : ∀ i, i < len → ∃ k : List (BitVec 8), k.length = 32 ∧ ∀ j, j < 32 → W.cell? (((⟨b, off, spot⟩ : Addr).add (i * 32)).add j) = some (U8 (k.getD j 0)) := fun i hi => by
      obtain ⟨cs', h1, h2⟩ := hrow i (by omega)
      obtain ⟨e0, e1, e2⟩ := World.cells?_some h1
      obtain ⟨k, hk, hk2⟩ := arr_of_trod (n := 32) (xs := cs'.toArray) Try.underlying23 hce (by simpa using e1) ⟨n, by simpa [Value.cells] using h2⟩
      refine ⟨k, hk2, fun j hj => ?_⟩
      have h4 : cs'[j]? = some (U8 (k.getD j 0)) := by
        have h5 : cs'.toArray[j]? = (cs U8 k)[j]? := by rw [hk]
        rw [List.getElem?_toArray] at h5
        rw [h5, cs_get_lt (by omega), List.getD_eq_getElem?_getD, List.getElem?_eq_getElem (by omega)]; rfl
      rw [← h4]; exact e2 j hj
    by_cases h0 : len = 0
    · subst h0
      exact ⟨[], rfl, _, _, rfl, Nat.zero_le _, Nat.zero_le _, fun i h => by simp at h, fun h => by simp at h⟩
    · obtain ⟨k0, _, hk0⟩ := cell 0 (by omega)
      have hspot : spot = none := by simpa [Addr.add] using World.cell?_spot (hk0 0 (by omega))
      subst hspot
      have each : ∀ i, ∃ k : List (BitVec 8), i < len → (k.length = 32 ∧ ∀ j, j < 32 → W.cell? ⟨b, off + i * 32 + j, none⟩ = some (U8 (k.getD j 0))) := fun i => by
        by_cases hi : i < len
        · obtain ⟨k, h1, h2⟩ := cell i hi
          refine ⟨k, fun _ => ⟨h1, fun j hj => ?_⟩⟩
          have := h2 j hj
          rwa [Addr.add_mid, Addr.add_mid] at this
        · exact ⟨[], fun h => absurd h hi⟩
      obtain ⟨F, hF⟩ := Classical.axiomOfChoice each
      have hg : ∀ i, i < len → ((List.range len).map F).getD i [] = F i := fun i hi => by rw [List.getD_eq_getElem?_getD, List.getElem?_map, List.getElem?_range hi]; rfl
      refine ⟨(List.range len).map F, by simp, some ⟨b, off, none⟩, _, by simp; rfl, by simpa using hl, by simp; omega, fun i hi => ?_, fun h0 => ⟨b, off, rfl, fun i j hi hj => ?_⟩⟩
      · simp only [List.length_map, List.length_range] at hi
        rw [hg i hi]; exact (hF i hi).1
      · simp only [List.length_map, List.length_range] at hi
        rw [hg i hi]; exact (hF i hi).2 j hj
end Go.Proofs.Ytgneclfnfnpmkaa
