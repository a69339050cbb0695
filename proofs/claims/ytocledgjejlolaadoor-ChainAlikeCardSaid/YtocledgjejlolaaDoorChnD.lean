/-
  Law 17: it is alive; own work.
-/
import Derived.Test.YtocledgjejlolaaDoorChnC
import Derived.Test.YtocledgjejlolaaDoorChnF
set_option linter.unusedSimpArgs false
set_option linter.unusedVariables false
namespace Go.Proofs.YtocledgjejlolaaDoor
open Go.RowKit
theorem new_m (w : World) (l : List (BitVec 8)) (n : Int) (hl : l.length = 32) (h0 : 0 ≤ n) (h1 : n ≤ 65535) :
    Calls Tryd.prog 42 #[.agg (cs U8 l), .int .i64 n] w fun e w' => ∃ g, e = .returned (.pointer (some ⟨g, 0, none⟩)) ∧ Mm no w [(g, CR l n)] w' := by
  have h0 : ¬ n < 0 := by omega
  have h1 : ¬ (65535 : Int) < n := by omega
  go_enter Tryd.func42, Tryd.ntmps42
  go_wp2_with fail
  go_ret
  exact ⟨_, rfl, (((Mm.start no w).alloc (cs U8 l) 25 (by decide)).alloc (CR l n) 84 (by decide)).sub (List.singleton_sublist.2 (by simp))⟩
theorem neL (w : World) (a b : List (BitVec 8)) (ha : a.length = 32) (hb : b.length = 32) (h : a ≠ b) : (Op.equalIn 10000 25 (.agg (cs U8 a)) (.agg (cs U8 b))).run Tryd.prog w = .ok false w := by
  rw [eqin_key w a b ha hb, show (a == b) = false by simpa using h]
theorem wpT_calld {P : Program} {ops : Array Oper} {Q : Exit → Act → World → Prop} {i : Nat} {t : Tr} {a : Act} {w : World} {o : Oper} (d : Nat) {f : FuncId} {args : Array Value} {R : Ending → World → Prop} (hd : o.dst = some d) (ho : ops[i]? = some o) (hw : Region.wanted o (yielded ops a.tmps) = true) (hrun : (execOp a.eval o).run P w = .ok (.enter f args) w) (hc : Calls P f args w R)
    (h : ∀ e w', R e w' → ∃ v, e = .returned v ∧ wpT P ops Q t (a.put (some d) v) w') : wpT P ops Q (.op i t) a w := wpT_call ho hw hrun hc (by rw [hd]; exact h)
attribute [local irreducible] CR Sh.nx Sh.ms Sh.nxk Sh.msk k1
set_option maxRecDepth 100000 in
set_option maxHeartbeats 4000000 in
theorem alive17_any (w : World) (hT : KT w) (hk0 : 0 < w.heap.size) :
    Calls Tryd.prog 37 #[] w fun e w' => e = .returned (.bool true) ∧ Below w.heap.size w w' := by
  have HK := hid (fun H w' (M : Mm no w H w') => kt_mm hT hk0 (fun h => h) M)
  have HAB := hid k1_ab
  have HCB := hid k1_cb
  have M0 := Mm.start no w
  go_enter Tryd.func37, Tryd.ntmps37
  go_upto_region 1 with fail
  refine wp_region_lin (.op 0 (.op 1 (.op 2 .done))) (by rfl) ?_
  refine wpT_valL 11 (v := .agg (cs U8 k1)) rfl rfl rfl (by have q := xb_k1 w; go_simp) ?_
  refine wpT_calld 12 rfl rfl rfl (by go_simp) (new_m w k1 5 k1_len (by decide) (by decide)) ?_
  rintro e w1 ⟨g3, rfl, Nw1⟩
  have M2 := M0.join Nw1
  refine ⟨_, rfl, ?_⟩
  refine wpT_valp 1 (v := .pointer (some ⟨g3, 0, none⟩)) rfl rfl rfl (by go_simp) ?_
  dsimp only [wpT]
  try simp only [Act.put, List.setIfInBounds_toArray, List.set_cons_succ, List.set_cons_zero]
  go_upto_region 2 with fail
  refine wp_region_lin (.op 0 (.op 1 .done)) (by rfl) ?_
  refine wpT_valp 13 (v := .pointer (some ⟨g3, 0, none⟩)) rfl rfl rfl (by go_simp) ?_
  refine wpT_valp 14 (v := .bool false) rfl rfl rfl (by go_simp) ?_
  dsimp only [wpT]
  try simp only [Act.put, List.setIfInBounds_toArray, List.set_cons_succ, List.set_cons_zero]
  go_upto_region 4 with fail
  have hg3 : w.heap.size ≤ g3 := (M2.own (g3, CR k1 5) (by simp)).1.resolve_left (fun h => h)
  refine wp_region_lin (.op 0 (.op 1 (.op 2 (.op 3 (.op 4 (.op 5 (.op 6 .done))))))) (by rfl) ?_
  refine wpT_valp 16 (v := .pointer (some ⟨g3, 0, none⟩)) rfl rfl rfl (by go_simp) ?_
  refine wpT_calld 17 rfl rfl rfl (by go_simp) (upto_m w1 g3 k1 5 7 2 (HK.out _ _ M2).1 (HK.out _ _ M2).2 (by omega) (M2.loc' (k := 0) rfl) (by omega) (by omega) (by omega) (by omega) (by simp [k1_len])) ?_
  rintro e w4 ⟨v, rfl, O, Nw4⟩
  have M5 := M2.back' (k := 0) rfl Nw4
  dsimp only [List.set] at M5
  obtain ⟨av, vc, rfl⟩ := O.shape 2 (msk_len _ _)
  obtain ⟨vb, vo, rfl, hkc⟩ := O.ks.key (by rw [msk_len]; decide)
  have hvb := (O.at_ vb rfl).1
  have hwW := M2.lt (b := g3) (c := CR k1 5) (by simp)
  refine ⟨_, rfl, ?_⟩
  refine wpT_valp 15 (v := .tuple #[.slice (some ⟨vb, vo, none⟩) 2 vc, .int .i64 0]) rfl rfl rfl (by go_simp) ?_
  refine wpT_valp 18 (v := .slice (some ⟨vb, vo, none⟩) 2 vc) rfl rfl rfl (by go_simp) ?_
  try simp only [Act.put, List.setIfInBounds_toArray, List.set_cons_succ, List.set_cons_zero]
  refine wpT_valp 19 (v := .int .i64 0) rfl rfl rfl (by go_simp) ?_
  refine wpT_valp 2 (v := .slice (some ⟨vb, vo, none⟩) 2 vc) rfl rfl rfl (by go_simp) ?_
  refine wpT_valp 3 (v := .int .i64 0) rfl rfl rfl (by go_simp) ?_
  dsimp only [wpT]
  try simp only [Act.put, List.setIfInBounds_toArray, List.set_cons_succ, List.set_cons_zero]
  go_upto_region 5 with fail
  rw [nxk_2] at M5
  obtain ⟨S6, M7, hSS6, hTS6⟩ := M5.rebase
  have k0' : KC w4 vb (vo + 0 * 32) (Sh.ms k1) := by have := hkc 0 (by rw [msk_len]; decide); rwa [msk_get (by decide), nxk_0] at this
  have k1' : KC w4 vb (vo + 1 * 32) (Sh.ms (Sh.nx k1)) := by have := hkc 1 (by rw [msk_len]; decide); rwa [msk_get (by decide), nxk_1] at this
  have hSv : ¬ S6 vb := fun h => by have := hSS6 _ h; simp at this; omega
  have HV := hid (fun H w' (M : Mm S6 w4 H w') => (⟨k0'.fr M.fr hSv, k1'.fr M.fr hSv⟩ : KC w' vb (vo + 0 * 32) (Sh.ms k1) ∧ KC w' vb (vo + 1 * 32) (Sh.ms (Sh.nx k1))))
  have HK := hid (fun H w' (M : Mm S6 w4 H w') => HK.out _ _ (hTS6 _ _ M))
  clear hkc k0' k1' hSv hSS6 O
  have HT := hid hTS6
  clear hTS6
  refine wp_region_lin (.op 0 (.op 1 (.op 2 (.op 3 (.op 4 (.op 5 (.op 6 (.op 7 (.op 8 (.op 9 .done)))))))))) (by rfl) ?_
  refine wpT_valp 21 (v := .pointer (some ⟨g3, 0, none⟩)) rfl rfl rfl (by go_simp) ?_
  refine wpT_callm 22 M7 0 (C' := CR (Sh.nx (Sh.nx (Sh.nx k1))) (7 + 1)) (v := .tuple #[.int .i64 7, .agg (cs U8 (Sh.ms (Sh.nx (Sh.nx k1)))), .int .i64 0]) rfl rfl rfl rfl (by go_simp) (next_m w4 g3 (Sh.nx (Sh.nx k1)) 7 (HK.out _ _ M7).1 (HK.out _ _ M7).2 (by omega) (M7.loc' (k := 0) rfl) (by omega) (by omega) (by simp [k1_len])) (fun w8 M9 _ => ?_)
  dsimp only [List.set] at M9
  refine wpT_valp 20 (v := .tuple #[.int .i64 7, .agg (cs U8 (Sh.ms (Sh.nx (Sh.nx k1)))), .int .i64 0]) rfl rfl rfl (by go_simp) ?_
  refine wpT_valp 23 (v := .int .i64 7) rfl rfl rfl (by go_simp) ?_
  try simp only [Act.put, List.setIfInBounds_toArray, List.set_cons_succ, List.set_cons_zero]
  refine wpT_valp 24 (v := .agg (cs U8 (Sh.ms (Sh.nx (Sh.nx k1))))) rfl rfl rfl (by go_simp) ?_
  refine wpT_valp 25 (v := .int .i64 0) rfl rfl rfl (by go_simp) ?_
  refine wpT_new (z := .agg (cs U8 (zs 32))) 5 M9 (by kernel_rfl) (by decide) rfl rfl rfl rfl (fun b10 w11 M12 => ?_)
  try dsimp only [Value.cells] at M12
  refine wpT_valp 4 (v := .int .i64 7) rfl rfl rfl (by go_simp) ?_
  refine wpT_st0 M12 0 (cs U8 (Sh.ms (Sh.nx (Sh.nx k1)))) inf_key rfl rfl rfl rfl (by go_simp) (by go_simp) (by simp [k1_len]) (by simp [k1_len]) (by simp [go_sem]) rfl (fun w13 M14 => ?_)
  dsimp only [List.set] at M14
  try simp only [Act.put, List.setIfInBounds_toArray, List.set_cons_succ, List.set_cons_zero]
  refine wpT_valp 6 (v := .int .i64 0) rfl rfl rfl (by go_simp) ?_
  dsimp only [wpT]
  try simp only [Act.put, List.setIfInBounds_toArray, List.set_cons_succ, List.set_cons_zero]
  go_upto_region 6 with fail
  refine wp_region_lin (.op 0 (.op 1 (.op 2 (.op 3 (.op 4 (.op 5 (.op 6 .done))))))) (by rfl) ?_
  refine wpT_valp 27 (v := .pointer (some ⟨g3, 0, none⟩)) rfl rfl rfl (by go_simp) ?_
  refine wpT_callm 28 M14 1 (C' := CR (Sh.nx (Sh.nx (Sh.nx k1))) (7 + 1)) (v := .tuple #[.slice none 0 0, .int .i64 13]) rfl rfl rfl rfl (by go_simp) (upto_old w13 g3 (Sh.nx (Sh.nx (Sh.nx k1))) (7 + 1) 3 (M14.loc' (k := 1) rfl) (by omega) (by simp [k1_len])) (fun w15 M16 _ => ?_)
  dsimp only [List.set] at M16
  refine wpT_valp 26 (v := .tuple #[.slice none 0 0, .int .i64 13]) rfl rfl rfl (by go_simp) ?_
  refine wpT_valp 29 (v := .slice none 0 0) rfl rfl rfl (by go_simp) ?_
  try simp only [Act.put, List.setIfInBounds_toArray, List.set_cons_succ, List.set_cons_zero]
  refine wpT_valp 30 (v := .int .i64 13) rfl rfl rfl (by go_simp) ?_
  refine wpT_valp 7 (v := .slice none 0 0) rfl rfl rfl (by go_simp) ?_
  refine wpT_valp 8 (v := .int .i64 13) rfl rfl rfl (by go_simp) ?_
  dsimp only [wpT]
  try simp only [Act.put, List.setIfInBounds_toArray, List.set_cons_succ, List.set_cons_zero]
  go_upto_region 7 with fail
  refine wp_region_lin (.op 0 (.op 1 (.op 2 (.op 3 (.op 4 (.op 5 (.op 6 .done))))))) (by rfl) ?_
  refine wpT_valp 32 (v := .pointer (some ⟨g3, 0, none⟩)) rfl rfl rfl (by go_simp) ?_
  refine wpT_callm 33 M16 1 (C' := CR (Sh.nx (Sh.nx (Sh.nx k1))) (7 + 1)) (v := .tuple #[.slice none 0 0, .int .i64 3]) rfl rfl rfl rfl (by go_simp) (upto_big w15 g3 (Sh.nx (Sh.nx (Sh.nx k1))) (7 + 1) 30 (M16.loc' (k := 1) rfl) (by omega) (by omega) (.inr (by omega)) (by simp [k1_len])) (fun w17 M18 _ => ?_)
  dsimp only [List.set] at M18
  refine wpT_valp 31 (v := .tuple #[.slice none 0 0, .int .i64 3]) rfl rfl rfl (by go_simp) ?_
  refine wpT_valp 34 (v := .slice none 0 0) rfl rfl rfl (by go_simp) ?_
  try simp only [Act.put, List.setIfInBounds_toArray, List.set_cons_succ, List.set_cons_zero]
  refine wpT_valp 35 (v := .int .i64 3) rfl rfl rfl (by go_simp) ?_
  refine wpT_valp 9 (v := .slice none 0 0) rfl rfl rfl (by go_simp) ?_
  refine wpT_valp 10 (v := .int .i64 3) rfl rfl rfl (by go_simp) ?_
  dsimp only [wpT]
  try simp only [Act.put, List.setIfInBounds_toArray, List.set_cons_succ, List.set_cons_zero]
  go_upto_region 8 with fail
  refine wp_region_seq 40 [36, 37, 38, 39, 40, 41, 42, 43, 44, 45, 46, 47, 48, 49, 50, 51, 52, 53, 54, 55, 56, 57, 58, 59, 60, 61, 62, 63, 64, 65, 66, 67, 68, 69, 70, 71, 72, 73, 74, 0] [] [] [] (.done) (Mm S6 w4 _) (by kernel_rfl) (by kernel_rfl) (by kernel_rfl) (fun d _ _ _ _ h => by cases d <;> exact h) (by rfl) M18.size (fun _ _ h k => h.sf k) M18 ?_
  simp only [List.take_succ_cons, List.take_zero]
  refine SeqA.pure (.int .i64 0) (fun w' => by go_simp) rfl rfl ?_
  refine SeqA.pure (.bool true) (fun w' => by go_simp) rfl rfl ?_
  refine SeqA.pure (.bool true) (fun w' => by go_simp) rfl rfl ?_
  refine SeqA.pure (.slice (some ⟨vb, vo, none⟩) 2 vc) (fun w' => by go_simp) rfl (by simp [Region.wanted, yielded, Act.put]) ?_
  refine SeqA.pure (.int .i64 2) (fun w' => by go_simp) rfl (by simp [Region.wanted, yielded, Act.put]) ?_
  simp only [Act.put, List.setIfInBounds_toArray, List.set_cons_succ, List.set_cons_zero]
  refine SeqA.pure (.bool true) (fun w' => by go_simp) rfl (by simp [Region.wanted, yielded, Act.put]) ?_
  refine SeqA.pure (.bool true) (fun w' => by go_simp) rfl rfl ?_
  refine SeqA.pure (.bool true) (fun w' => by go_simp) rfl rfl ?_
  refine SeqA.pure (.slice (some ⟨vb, vo, none⟩) 2 vc) (fun w' => by go_simp) rfl (by simp [Region.wanted, yielded, Act.put]) ?_
  refine SeqA.pure (.pointer (some ⟨vb, vo + 0 * 32, none⟩)) (fun w' => by go_simp) rfl (by simp [Region.wanted, yielded, Act.put]) ?_
  refine SeqA.ldk vb (vo + 0 * 32) (Sh.ms k1) rfl (by go_simp) (fun w' M => (HV.out _ _ M).1) (by simp [Region.wanted, yielded, Act.put]) ?_
  simp only [Act.put, List.setIfInBounds_toArray, List.set_cons_succ, List.set_cons_zero]
  refine SeqA.pure (.slice (some ⟨vb, vo, none⟩) 2 vc) (fun w' => by go_simp) rfl (by simp [Region.wanted, yielded, Act.put]) ?_
  refine SeqA.pure (.pointer (some ⟨vb, vo + 1 * 32, none⟩)) (fun w' => by go_simp) rfl (by simp [Region.wanted, yielded, Act.put]) ?_
  refine SeqA.ldk vb (vo + 1 * 32) (Sh.ms (Sh.nx k1)) rfl (by go_simp) (fun w' M => (HV.out _ _ M).2) (by simp [Region.wanted, yielded, Act.put]) ?_
  refine SeqA.pure (.bool true) (fun w' => by have q : ¬ Sh.ms k1 = Sh.ms (Sh.nx k1) := HAB.out; go_simp) rfl (by simp [Region.wanted, yielded, Act.put]) ?_
  refine SeqA.pure (.bool true) (fun w' => by go_simp) rfl rfl ?_
  refine SeqA.pure (.bool true) (fun w' => by go_simp) rfl rfl ?_
  simp only [Act.put, List.setIfInBounds_toArray, List.set_cons_succ, List.set_cons_zero]
  refine SeqA.pure (.int .i64 7) (fun w' => by go_simp) rfl (by simp [Region.wanted, yielded, Act.put]) ?_
  refine SeqA.pure (.bool true) (fun w' => by go_simp) rfl (by simp [Region.wanted, yielded, Act.put]) ?_
  refine SeqA.pure (.bool true) (fun w' => by go_simp) rfl rfl ?_
  refine SeqA.pure (.bool true) (fun w' => by go_simp) rfl rfl ?_
  refine SeqA.ld0 Tryd.underlying25 rfl inf_key (b10) (cs U8 (Sh.ms (Sh.nx (Sh.nx k1)))) rfl (by go_simp) (fun _ M => M.row (by simp)) (by simp [k1_len]) (by simp [Region.wanted, yielded, Act.put]) ?_
  refine SeqA.pure (.slice (some ⟨vb, vo, none⟩) 2 vc) (fun w' => by go_simp) rfl (by simp [Region.wanted, yielded, Act.put]) ?_
  simp only [Act.put, List.setIfInBounds_toArray, List.set_cons_succ, List.set_cons_zero]
  refine SeqA.pure (.pointer (some ⟨vb, vo + 1 * 32, none⟩)) (fun w' => by go_simp) rfl (by simp [Region.wanted, yielded, Act.put]) ?_
  refine SeqA.ldk vb (vo + 1 * 32) (Sh.ms (Sh.nx k1)) rfl (by go_simp) (fun w' M => (HV.out _ _ M).2) (by simp [Region.wanted, yielded, Act.put]) ?_
  refine SeqA.pure (.bool true) (fun w' => by have q : ¬ Sh.ms (Sh.nx (Sh.nx k1)) = Sh.ms (Sh.nx k1) := HCB.out; go_simp) rfl (by simp [Region.wanted, yielded, Act.put]) ?_
  refine SeqA.pure (.bool true) (fun w' => by go_simp) rfl rfl ?_
  refine SeqA.pure (.bool true) (fun w' => by go_simp) rfl rfl ?_
  refine SeqA.pure (.int .i64 0) (fun w' => by go_simp) rfl (by simp [Region.wanted, yielded, Act.put]) ?_
  simp only [Act.put, List.setIfInBounds_toArray, List.set_cons_succ, List.set_cons_zero]
  refine SeqA.pure (.bool true) (fun w' => by go_simp) rfl (by simp [Region.wanted, yielded, Act.put]) ?_
  refine SeqA.pure (.bool true) (fun w' => by go_simp) rfl rfl ?_
  refine SeqA.pure (.bool true) (fun w' => by go_simp) rfl rfl ?_
  refine SeqA.pure (.int .i64 13) (fun w' => by go_simp) rfl (by simp [Region.wanted, yielded, Act.put]) ?_
  refine SeqA.pure (.bool true) (fun w' => by go_simp) rfl (by simp [Region.wanted, yielded, Act.put]) ?_
  refine SeqA.pure (.bool true) (fun w' => by go_simp) rfl rfl ?_
  simp only [Act.put, List.setIfInBounds_toArray, List.set_cons_succ, List.set_cons_zero]
  refine SeqA.pure (.bool true) (fun w' => by go_simp) rfl rfl ?_
  refine SeqA.pure (.int .i64 3) (fun w' => by go_simp) rfl (by simp [Region.wanted, yielded, Act.put]) ?_
  refine SeqA.pure (.bool true) (fun w' => by go_simp) rfl (by simp [Region.wanted, yielded, Act.put]) ?_
  refine SeqA.pure (.bool true) (fun w' => by go_simp) rfl rfl ?_
  refine SeqA.pure (.bool true) (fun w' => by go_simp) rfl rfl ?_
  refine SeqA.nil (fun w19 M20 hz => ?_)
  show wpT _ _ _ _ _ _
  simp only [Act.put, List.setIfInBounds_toArray, List.set_cons_succ, List.set_cons_zero]
  dsimp only [wpT]
  go_wp2_with fail
  go_ret
  exact ⟨rfl, (HT.out _ _ M20).end_⟩
end Go.Proofs.YtocledgjejlolaaDoor
