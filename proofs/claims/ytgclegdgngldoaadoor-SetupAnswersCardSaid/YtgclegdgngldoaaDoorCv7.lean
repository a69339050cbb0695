/-
  The walk of package curve's ladder; own work.
  Walks of package curve: Shared, Public; own work.
  What a secret made whole is, as a number; own work.
  A clamped secret is no multiple of the order; own work.
  Secrets as numbers: what two of them share, and that they may change places; own work.
-/
import Derived.Test.YtgclegdgngldoaaDoorCv3
import Derived.Test.YtgclegdgngldoaaDoorStep
set_option linter.unusedSimpArgs false
set_option linter.unusedVariables false
namespace Go.Proofs.YtgclegdgngldoaaDoor
open Go.RowKit Fp
/-- what the ladder answers, hid from the kernel -/
theorem gv_ex : ∃ f : Nat → F → F, f = gx := ⟨_, rfl⟩
noncomputable def gv : Nat → F → F := Classical.choose gv_ex
theorem gv_eq (k : Nat) (u : F) : gv k u = gx k u := congrFun (congrFun (Classical.choose_spec gv_ex) k) u
theorem wpT_calld {P : Program} {ops : Array Oper} {Q : Exit → Act → World → Prop} {i : Nat} {t : Tr} {a : Act} {w : World} {o : Oper} (d : Nat) {f : FuncId} {args : Array Value} {R : Ending → World → Prop} (hd : o.dst = some d) (ho : ops[i]? = some o) (hw : Region.wanted o (yielded ops a.tmps) = true) (hrun : (execOp a.eval o).run P w = .ok (.enter f args) w) (hc : Calls P f args w R)
    (h : ∀ e w', R e w' → ∃ v, e = .returned v ∧ wpT P ops Q t (a.put (some d) v) w') : wpT P ops Q (.op i t) a w := wpT_call ho hw hrun hc (by rw [hd]; exact h)
theorem keyV_fv (n : Nat) : keyV n = K (fv n) := rfl
theorem lad_zero (u : F) (k : Nat) : lad u k 0 = ⟨1, 0, u, 1⟩ := rfl
theorem lad_succ (u : F) (k n : Nat) : lad u k (n + 1) = lstep u ((k / 2 ^ (254 - n)) % 2 == 1) (lad u k n) := rfl
theorem lad_start (u k : Nat) : lad (fv u) k 0 = st false (fv 1) (fv 0) (fv u) (fv 1) := by
  rw [lad_zero]; unfold st
  rw [show fv 1 = 1 by decide +kernel, show fv 0 = 0 by decide +kernel]; rfl
theorem wrap64_id {n : Int} (h1 : -9223372036854775808 ≤ n) (h2 : n < 9223372036854775808) : wrap64 n = n := by
  first | exact i64w n h1 h2 | (unfold wrap64; omega) | (simp [wrap64]; omega)
theorem st_x2 (c : Bool) (x z X Z : Nat) : (st c (fv x) (fv z) (fv X) (fv Z)).x2 = fv (sw c x X) := by cases c <;> rfl
theorem st_z2 (c : Bool) (x z X Z : Nat) : (st c (fv x) (fv z) (fv X) (fv Z)).z2 = fv (sw c z Z) := by cases c <;> rfl
theorem gx_of {u : F} {k : Nat} {x z : Nat} {s : St} (h : lad u k 255 = s) (hx : s.x2 = fv x) (hz : s.z2 = fv z) : fv (mulV x (invV z)) = gv k u := by
  rw [gv_eq, fv_mul, fv_inv, ← hx, ← hz, ← h]; rfl
@[go_sem ↓] theorem rb_lad (ρ : Operand → Value) (dst : Option Tmp) (ty : TypeId) (pos : String) (after : Array Edge) (guard : Option (Nat × Bool)) (w : World) (ps : Array (Nat × Operand)) :
    (execOp ρ { dst, op := .build 101 ps, type := ty, pos, after, guard }).run Tryd.prog w = exBuild Tryd.prog 101 (ps.map fun p => (p.1, ρ p.2)) w := x_build ..
theorem xb_lad (w : World) (p : Nat) : exBuild Tryd.prog 101 #[(0, .agg (cs N64 (limbs p))), (1, .agg (cs N64 (limbs 1))), (3, .agg (cs N64 (limbs p))), (4, .agg (cs N64 (limbs 1)))] w =
    .ok (.value (.agg (cs N64 (limbs p ++ limbs 1 ++ limbs 0 ++ limbs p ++ limbs 1)))) w := by
  unfold exBuild; rw [run_build w _ _ (cs N64 (limbs p ++ limbs 1 ++ limbs 0 ++ limbs p ++ limbs 1)) (by kernel_rfl)]; rfl
attribute [local irreducible] lad gx bv sw st
set_option maxRecDepth 100000 in
set_option maxHeartbeats 4000000 in
theorem times_any (w : World) (a b : List (BitVec 8)) (ha : a.length = 32) (hb : b.length = 32) :
    Calls Tryd.prog 36 #[.agg (cs U8 a), .agg (cs U8 b)] w fun e w' => e = .returned (.agg (cs U8 (K (gv (leN a) (Fk b))))) ∧ Below w.heap.size w w' := by
  have HFv := hid (fv_leN hb)
  have M0 := Mm.start no w
  go_enter Tryd.func36, Tryd.ntmps36
  have M2 := (((M0.alloc (cs U8 a) 23 (by decide)).alloc (cs U8 b) 23 (by decide)).alloc (cs U8 (zs 32)) 23 (by decide))
  try simp only [World.size_alloc] at M2
  go_upto_region 1 with fail
  obtain ⟨w1, hw1⟩ : ∃ w1, w1 = (((w.alloc (.cells (cs U8 a) 23)).alloc (.cells (cs U8 b) 23)).alloc (.cells (cs U8 (zs 32)) 23)) := ⟨_, rfl⟩
  rw [← hw1] at M2 ⊢
  clear hw1
  refine wp_region_seqF 5 [11, 12, 13, 5, 6] [] [] [] (.op 5 (.op 6 .done)) (Mm no w _) (by kernel_rfl) (by kernel_rfl) (fun d _ _ _ _ h => by cases d <;> exact h) (by rfl) M2.size (fun _ _ h k => h.sf k) M2 (by kernel_rfl) ?_
  simp only [List.take_succ_cons, List.take_zero]
  refine SeqA.pure (.agg (cs N64 (limbs 1))) (fun w' => by go_simp) rfl rfl ?_
  refine SeqA.ld0 Tryd.underlying23 rfl inf_key (w.heap.size + 1) (cs U8 b) rfl (by go_simp) (fun _ M => M.row (by simp)) (by simp [ha, hb]) rfl ?_
  refine SeqA.call _ _ _ (fun w' => by go_simp) (fun w' hI _ => of_any w' b (by simp [ha, hb])) M2.size rfl rfl ?_
  refine SeqA.var (z := .agg (cs N64 (limbs 0))) (by kernel_rfl) rfl rfl (by decide) rfl ?_
  refine SeqA.var (z := .agg (cs N64 (limbs 0))) (by kernel_rfl) rfl rfl (by decide) rfl ?_
  refine SeqA.nil (fun w3 M4 hz => ?_)
  refine news_one (fun b5 hb1 hb2 hb3 => ?_)
  have M6 := M2.in_ (c := cs N64 (limbs 0)) M4 hb1 hb2 (by decide) hb3 rfl
  refine news_one (fun b7 hb1 hb2 hb3 => ?_)
  have M8 := M2.in_ (c := cs N64 (limbs 0)) M6 hb1 hb2 (by decide) hb3 rfl
  show wpT _ _ _ _ _ _
  simp only [Act.put, List.setIfInBounds_toArray, List.set_cons_succ, List.set_cons_zero]
  refine wpT_st0 M8 0 (cs N64 (limbs 1)) inf_num rfl rfl rfl rfl (by go_simp) (by go_simp) (by simp [ha, hb]) (by simp [ha, hb]) (by simp [go_sem]) rfl (fun w9 M10 => ?_)
  dsimp only [List.set] at M10
  refine wpT_st0 M10 1 (cs N64 (limbs (leN b))) inf_num rfl rfl rfl rfl (by go_simp) (by go_simp) (by simp [ha, hb]) (by simp [ha, hb]) (by simp [go_sem]) rfl (fun w11 M12 => ?_)
  dsimp only [List.set] at M12
  dsimp only [wpT]
  go_upto_region 2 with fail
  refine wp_region_seqF 5 [14, 15, 16, 17, 18] [] [] [] (.op 5 (.op 6 .done)) (Mm no w _) (by kernel_rfl) (by kernel_rfl) (fun d _ _ _ _ h => by cases d <;> exact h) (by rfl) M12.size (fun _ _ h k => h.sf k) M12 (by kernel_rfl) ?_
  simp only [List.take_succ_cons, List.take_zero]
  refine SeqA.ld0 Tryd.underlying97 rfl inf_num (b5) (cs N64 (limbs (leN b))) rfl (by go_simp) (fun _ M => M.row (by simp)) (by simp [ha, hb]) rfl ?_
  refine SeqA.ld0 Tryd.underlying97 rfl inf_num (b7) (cs N64 (limbs 1)) rfl (by go_simp) (fun _ M => M.row (by simp)) (by simp [ha, hb]) rfl ?_
  refine SeqA.ld0 Tryd.underlying97 rfl inf_num (b5) (cs N64 (limbs (leN b))) rfl (by go_simp) (fun _ M => M.row (by simp)) (by simp [ha, hb]) rfl ?_
  refine SeqA.ld0 Tryd.underlying97 rfl inf_num (b7) (cs N64 (limbs 1)) rfl (by go_simp) (fun _ M => M.row (by simp)) (by simp [ha, hb]) rfl ?_
  refine SeqA.pure (.agg (cs N64 (limbs (leN b) ++ limbs 1 ++ limbs 0 ++ limbs (leN b) ++ limbs 1))) (fun w' => by have q := xb_lad w' (leN b); go_simp) rfl rfl ?_
  refine SeqA.nil (fun w13 M14 hz => ?_)
  show wpT _ _ _ _ _ _
  simp only [Act.put, List.setIfInBounds_toArray, List.set_cons_succ, List.set_cons_zero]
  refine wpT_box (c := cs N64 (limbs (leN b) ++ limbs 1 ++ limbs 0 ++ limbs (leN b) ++ limbs 1)) (T := 101) M14 (by decide) rfl rfl (by go_simp) (fun g w9 M9 => ?_)
  refine wpT_val (v := .pointer (some ⟨g, 0, none⟩)) rfl rfl rfl ?_
  dsimp only [wpT]
  simp only [Act.put, List.setIfInBounds_toArray, List.set_cons_succ, List.set_cons_zero]
  go_wp2_with fail
  go_loopw [8, 9] (fun s t wr => ∃ (n : Nat) (c : Bool) (x z X Z : Nat), n ≤ 255 ∧ s = U8 (bv c) ∧ t = .int .i64 (254 - (n : Int)) ∧ lad (fv (leN b)) (leN a) n = st c (fv x) (fv z) (fv X) (fv Z) ∧ Mm no w [(g, cs N64 (limbs (leN b) ++ limbs x ++ limbs z ++ limbs X ++ limbs Z)), (b7, cs N64 (limbs 1)), (b5, cs N64 (limbs (leN b))), (w.heap.size + 1 + 1, cs U8 (zs 32)), (w.heap.size + 1, cs U8 b), (w.heap.size, cs U8 a)] wr) (fun _ t _ => (intOf t + 1).toNat)
  case atStart => exact ⟨0, false, 1, 0, leN b, 1, by omega, by unfold bv; rfl, rfl, lad_start _ _, M9⟩
  case round =>
    clear M9
    obtain ⟨n, c, x, z, X, Z, hn, rfl, rfl, hlad, M⟩ := hrel
    have HLad := hid hlad
    clear hlad
    by_cases hlt : n < 255
    · obtain ⟨j, hj⟩ : ∃ j : Nat, (254 : Int) - (n : Int) = (j : Int) := ⟨254 - n, by omega⟩
      rw [hj]
      have hj2 : j = 254 - n := by omega
      obtain ⟨q, hq⟩ : ∃ q, q = j / 8 := ⟨_, rfl⟩
      obtain ⟨r, hr⟩ : ∃ r, r = j % 8 := ⟨_, rfl⟩
      have HQ := hid (show IntKind.i64.wrap ((j : Int) / 8) = (q : Int) by rw [hq, i64w _ (by omega) (by omega)]; rfl)
      have HR := hid (show ((j : Int).tmod 8) = (r : Int) ∧ (j : Int) % 8 = (r : Int) by rw [hr]; exact ⟨rfl, rfl⟩)
      have hq32 : q < a.length := by omega
      have hq33 : (q : Int) < 32 := by omega
      have hq0 : (0 : Int) ≤ q := by omega
      have hr0 : (0 : Int) ≤ r := by omega
      have hj0 : (0 : Int) ≤ j := by omega
      obtain ⟨d, hd⟩ : ∃ d, d = ((g8 a q).toNat / 2 ^ r % 2 == 1) := ⟨_, rfl⟩
      have HD := hid (show (g8 a q >>> r) &&& 1#8 = bv d by rw [hd]; exact bit_and _ _)
      have HDb := hid (show d = ((leN a / 2 ^ (254 - n)) % 2 == 1) by rw [hd, ← hj2, leN_bit a j (by omega), hr, hq]; rfl)
      have HLs := hid (lad_succ (fv (leN b)) (leN a) n)
      clear hd
      have HQ2 := hid hq; have HR2 := hid hr; have HJ2 := hid hj2; have HJ := hid hj
      clear hq hr hj2 hj
      go_upto_region 7 with fail
      refine wp_region_seqF 9 [24, 25, 26, 27, 28, 29, 30, 31, 10] [] [] [] (.done) (Mm no w _) (by kernel_rfl) (by kernel_rfl) (fun d _ _ _ _ h => by cases d <;> exact h) (by rfl) M.size (fun _ _ h k => h.sf k) M (by kernel_rfl) ?_
      simp only [List.take_succ_cons, List.take_zero]
      refine SeqA.pure (.int .i64 j) (fun w' => by go_simp) rfl rfl ?_
      refine SeqA.pure (.int .i64 q) (fun w' => by have h := HQ.out; go_simp) rfl rfl ?_
      refine SeqA.pure (.pointer (some ⟨w.heap.size, q, none⟩)) (fun w' => by go_simp) rfl rfl ?_
      refine SeqA.read (U8 (g8 a q)) (fun w' M => by have c0 := cell_g8 (M.row (b := w.heap.size) (c := cs U8 a) (by simp)) (i := q) (by omega); go_simp) rfl rfl ?_
      refine SeqA.pure (.int .i64 j) (fun w' => by go_simp) rfl rfl ?_
      simp only [Act.put, List.setIfInBounds_toArray, List.set_cons_succ, List.set_cons_zero]
      refine SeqA.pure (.int .i64 r) (fun w' => by have h := HR.out.1; have h2 := HR.out.2; go_simp) rfl rfl ?_
      refine SeqA.pure (U8 (g8 a q >>> r)) (fun w' => by have h := shr_8 (t := 5) (g8 a q) .i64 (r : Int) (by omega); go_simp) rfl rfl ?_
      refine SeqA.pure (U8 (bv d)) (fun w' => by have h := HD.out; go_simp) rfl rfl ?_
      refine SeqA.pure (U8 (bv d)) (fun w' => by go_simp) rfl rfl ?_
      refine SeqA.nil (fun w1 M2 hz => ?_)
      show wpT _ _ _ _ _ _
      simp only [Act.put, List.setIfInBounds_toArray, List.set_cons_succ, List.set_cons_zero]
      dsimp only [wpT]
      go_upto_region 8 with fail
      clear M
      have M := M2
      clear M2
      refine wp_region_seq 9 [32, 33, 34, 35, 36, 37, 38, 39, 40] [] [] [] (.op 9 .done) (Mm no w _) (by kernel_rfl) (by kernel_rfl) (by kernel_rfl) (fun d _ _ _ _ h => by cases d <;> exact h) (by rfl) M.size (fun _ _ h k => h.sf k) M ?_
      simp only [List.take_succ_cons, List.take_zero]
      refine SeqA.pure (U8 (bv c)) (fun w' => by go_simp) rfl rfl ?_
      refine SeqA.pure (U8 (bv d)) (fun w' => by go_simp) rfl rfl ?_
      refine SeqA.pure (U8 (bv (c != d))) (fun w' => by have h := bv_xor c d; go_simp) rfl rfl ?_
      refine SeqA.pure (.pointer (some ⟨g, 0, none⟩)) (fun w' => by go_simp) rfl rfl ?_
      refine SeqA.pure (.pointer (some ⟨g, 0, none⟩)) (fun w' => by go_simp) rfl rfl ?_
      simp only [Act.put, List.setIfInBounds_toArray, List.set_cons_succ, List.set_cons_zero]
      refine SeqA.pure (.pointer (some ⟨g, 4, none⟩)) (fun w' => by go_simp) rfl rfl ?_
      refine SeqA.pure (.pointer (some ⟨g, 0, none⟩)) (fun w' => by go_simp) rfl rfl ?_
      refine SeqA.pure (.pointer (some ⟨g, 0, none⟩)) (fun w' => by go_simp) rfl rfl ?_
      refine SeqA.pure (.pointer (some ⟨g, 12, none⟩)) (fun w' => by go_simp) rfl rfl ?_
      refine SeqA.nil (fun w1 M2 hz => ?_)
      show wpT _ _ _ _ _ _
      simp only [Act.put, List.setIfInBounds_toArray, List.set_cons_succ, List.set_cons_zero]
      refine wpT_calld 41 rfl rfl rfl (by go_simp) (swapx_c _ g (c != d) (leN b) x z X Z (M2.loc (k := 0) rfl)) ?_
      rintro e w2 ⟨rfl, N2⟩
      have M3 := M2.back (k := 0) rfl N2
      dsimp only [List.set] at M3
      refine ⟨_, rfl, ?_⟩
      dsimp only [wpT]
      simp only [Act.put, List.setIfInBounds_toArray, List.set_cons_succ, List.set_cons_zero]
      go_upto_region 9 with fail
      clear M M2 N2
      have M := M3
      clear M3
      refine wp_region_seq 9 [42, 43, 44, 45, 46, 47, 48, 49, 50] [] [] [] (.op 9 .done) (Mm no w _) (by kernel_rfl) (by kernel_rfl) (by kernel_rfl) (fun d _ _ _ _ h => by cases d <;> exact h) (by rfl) M.size (fun _ _ h k => h.sf k) M ?_
      simp only [List.take_succ_cons, List.take_zero]
      refine SeqA.pure (U8 (bv c)) (fun w' => by go_simp) rfl rfl ?_
      refine SeqA.pure (U8 (bv d)) (fun w' => by go_simp) rfl rfl ?_
      refine SeqA.pure (U8 (bv (c != d))) (fun w' => by have h := bv_xor c d; go_simp) rfl rfl ?_
      refine SeqA.pure (.pointer (some ⟨g, 0, none⟩)) (fun w' => by go_simp) rfl rfl ?_
      refine SeqA.pure (.pointer (some ⟨g, 0, none⟩)) (fun w' => by go_simp) rfl rfl ?_
      simp only [Act.put, List.setIfInBounds_toArray, List.set_cons_succ, List.set_cons_zero]
      refine SeqA.pure (.pointer (some ⟨g, 8, none⟩)) (fun w' => by go_simp) rfl rfl ?_
      refine SeqA.pure (.pointer (some ⟨g, 0, none⟩)) (fun w' => by go_simp) rfl rfl ?_
      refine SeqA.pure (.pointer (some ⟨g, 0, none⟩)) (fun w' => by go_simp) rfl rfl ?_
      refine SeqA.pure (.pointer (some ⟨g, 16, none⟩)) (fun w' => by go_simp) rfl rfl ?_
      refine SeqA.nil (fun w1 M2 hz => ?_)
      show wpT _ _ _ _ _ _
      simp only [Act.put, List.setIfInBounds_toArray, List.set_cons_succ, List.set_cons_zero]
      refine wpT_calld 51 rfl rfl rfl (by go_simp) (swapz_c _ g (c != d) (leN b) (sw (c != d) x X) z (sw (c != d) X x) Z (M2.loc (k := 0) rfl)) ?_
      rintro e w3 ⟨rfl, N3⟩
      have M3 := M2.back (k := 0) rfl N3
      dsimp only [List.set] at M3
      refine ⟨_, rfl, ?_⟩
      dsimp only [wpT]
      simp only [Act.put, List.setIfInBounds_toArray, List.set_cons_succ, List.set_cons_zero]
      go_wp2_with fail
      clear M M2 N3
      with_reducible refine ((step_any w3 g (leN b) (sw (c != d) x X) (sw (c != d) z Z) (sw (c != d) X x) (sw (c != d) Z z) (M3.loc (k := 0) rfl)).mono ?_)
      rintro e w4 ⟨rfl, N4⟩
      have M4 := M3.back (k := 0) rfl N4
      dsimp only [List.set] at M4
      dsimp only
      go_wp2_with fail
      go_roundw
      case rel =>
        refine ⟨n + 1, d, _, _, _, _, by omega, rfl, by have := HJ.out; rw [wrap64_id (by omega) (by omega)]; congr 1; omega, ?_, M4⟩
        rw [HLs.out, ← HDb.out, fv_twX, fv_twZ, fv_smX, fv_smZ]
        exact step_law _ _ _ _ _ _ _ (by rw [HLad.out, st_swap])
      case measure => have := HJ.out; rw [wrap64_id (by omega) (by omega)]; simp [intOf]
    · have : n = 255 := by omega
      subst this
      have HG := hid (show keyV (mulV (sw c x X) (invV (sw c z Z))) = K (gv (leN a) (Fk b)) by rw [keyV_fv, gx_of HLad.out (st_x2 ..) (st_z2 ..), HFv.out])
      go_upto_region 12 with fail
      refine wp_region_seq 7 [55, 56, 57, 58, 59, 60, 61] [] [] [] (.op 7 .done) (Mm no w _) (by kernel_rfl) (by kernel_rfl) (by kernel_rfl) (fun d _ _ _ _ h => by cases d <;> exact h) (by rfl) M.size (fun _ _ h k => h.sf k) M ?_
      simp only [List.take_succ_cons, List.take_zero]
      refine SeqA.pure (U8 (bv c)) (fun w' => by go_simp) rfl rfl ?_
      refine SeqA.pure (.pointer (some ⟨g, 0, none⟩)) (fun w' => by go_simp) rfl rfl ?_
      refine SeqA.pure (.pointer (some ⟨g, 0, none⟩)) (fun w' => by go_simp) rfl rfl ?_
      refine SeqA.pure (.pointer (some ⟨g, 4, none⟩)) (fun w' => by go_simp) rfl rfl ?_
      refine SeqA.pure (.pointer (some ⟨g, 0, none⟩)) (fun w' => by go_simp) rfl rfl ?_
      simp only [Act.put, List.setIfInBounds_toArray, List.set_cons_succ, List.set_cons_zero]
      refine SeqA.pure (.pointer (some ⟨g, 0, none⟩)) (fun w' => by go_simp) rfl rfl ?_
      refine SeqA.pure (.pointer (some ⟨g, 12, none⟩)) (fun w' => by go_simp) rfl rfl ?_
      refine SeqA.nil (fun w1 M2 hz => ?_)
      show wpT _ _ _ _ _ _
      simp only [Act.put, List.setIfInBounds_toArray, List.set_cons_succ, List.set_cons_zero]
      refine wpT_calld 62 rfl rfl rfl (by go_simp) (swapx_c _ g c (leN b) x z X Z (M2.loc (k := 0) rfl)) ?_
      rintro e w2 ⟨rfl, N2⟩
      have M3 := M2.back (k := 0) rfl N2
      dsimp only [List.set] at M3
      refine ⟨_, rfl, ?_⟩
      dsimp only [wpT]
      simp only [Act.put, List.setIfInBounds_toArray, List.set_cons_succ, List.set_cons_zero]
      go_upto_region 13 with fail
      clear M M2 N2
      have M := M3
      clear M3
      refine wp_region_seq 7 [63, 64, 65, 66, 67, 68, 69] [] [] [] (.op 7 .done) (Mm no w _) (by kernel_rfl) (by kernel_rfl) (by kernel_rfl) (fun d _ _ _ _ h => by cases d <;> exact h) (by rfl) M.size (fun _ _ h k => h.sf k) M ?_
      simp only [List.take_succ_cons, List.take_zero]
      refine SeqA.pure (U8 (bv c)) (fun w' => by go_simp) rfl rfl ?_
      refine SeqA.pure (.pointer (some ⟨g, 0, none⟩)) (fun w' => by go_simp) rfl rfl ?_
      refine SeqA.pure (.pointer (some ⟨g, 0, none⟩)) (fun w' => by go_simp) rfl rfl ?_
      refine SeqA.pure (.pointer (some ⟨g, 8, none⟩)) (fun w' => by go_simp) rfl rfl ?_
      refine SeqA.pure (.pointer (some ⟨g, 0, none⟩)) (fun w' => by go_simp) rfl rfl ?_
      simp only [Act.put, List.setIfInBounds_toArray, List.set_cons_succ, List.set_cons_zero]
      refine SeqA.pure (.pointer (some ⟨g, 0, none⟩)) (fun w' => by go_simp) rfl rfl ?_
      refine SeqA.pure (.pointer (some ⟨g, 16, none⟩)) (fun w' => by go_simp) rfl rfl ?_
      refine SeqA.nil (fun w1 M2 hz => ?_)
      show wpT _ _ _ _ _ _
      simp only [Act.put, List.setIfInBounds_toArray, List.set_cons_succ, List.set_cons_zero]
      refine wpT_calld 70 rfl rfl rfl (by go_simp) (swapz_c _ g c (leN b) (sw c x X) z (sw c X x) Z (M2.loc (k := 0) rfl)) ?_
      rintro e w3 ⟨rfl, N3⟩
      have M3 := M2.back (k := 0) rfl N3
      dsimp only [List.set] at M3
      refine ⟨_, rfl, ?_⟩
      dsimp only [wpT]
      simp only [Act.put, List.setIfInBounds_toArray, List.set_cons_succ, List.set_cons_zero]
      go_upto_region 14 with fail
      clear M M2 N3
      have M := M3
      clear M3
      refine wp_region_seq 11 [71, 72, 73, 74, 75, 76, 77, 78, 79, 80, 81] [] [] [] (.op 11 .done) (Mm no w _) (by kernel_rfl) (by kernel_rfl) (by kernel_rfl) (fun d _ _ _ _ h => by cases d <;> exact h) (by rfl) M.size (fun _ _ h k => h.sf k) M ?_
      simp only [List.take_succ_cons, List.take_zero]
      refine SeqA.pure (.pointer (some ⟨g, 0, none⟩)) (fun w' => by go_simp) rfl rfl ?_
      refine SeqA.pure (.pointer (some ⟨g, 0, none⟩)) (fun w' => by go_simp) rfl rfl ?_
      refine SeqA.pure (.pointer (some ⟨g, 4, none⟩)) (fun w' => by go_simp) rfl rfl ?_
      refine SeqA.ldm Tryd.underlying97 rfl inf_num (g) 4 (cs N64 (limbs (leN b) ++ limbs (sw c x X) ++ limbs (sw c z Z) ++ limbs (sw c X x) ++ limbs (sw c Z z))) (cs N64 (limbs (sw c x X))) rfl (by go_simp) (fun _ M => M.row (by simp)) (by simp [ha, hb]) (by rw [cs_extract] <;> congr 1 <;> first | (simp [ha, hb]; done) | simp [List.take_append, List.drop_append, List.take_of_length_le, ha, hb]) rfl ?_
      refine SeqA.pure (.pointer (some ⟨g, 0, none⟩)) (fun w' => by go_simp) rfl rfl ?_
      simp only [Act.put, List.setIfInBounds_toArray, List.set_cons_succ, List.set_cons_zero]
      refine SeqA.pure (.pointer (some ⟨g, 0, none⟩)) (fun w' => by go_simp) rfl rfl ?_
      refine SeqA.pure (.pointer (some ⟨g, 8, none⟩)) (fun w' => by go_simp) rfl rfl ?_
      refine SeqA.ldm Tryd.underlying97 rfl inf_num (g) 8 (cs N64 (limbs (leN b) ++ limbs (sw c x X) ++ limbs (sw c z Z) ++ limbs (sw c X x) ++ limbs (sw c Z z))) (cs N64 (limbs (sw c z Z))) rfl (by go_simp) (fun _ M => M.row (by simp)) (by simp [ha, hb]) (by rw [cs_extract] <;> congr 1 <;> first | (simp [ha, hb]; done) | simp [List.take_append, List.drop_append, List.take_of_length_le, ha, hb]) rfl ?_
      refine SeqA.call _ _ _ (fun w' => by go_simp) (fun w' hI _ => ninv_any w' (sw c z Z)) M.size rfl rfl ?_
      refine SeqA.call _ _ _ (fun w' => by go_simp) (fun w' hI _ => nmul_any w' (sw c x X) (invV (sw c z Z))) M.size rfl rfl ?_
      refine SeqA.call _ _ _ (fun w' => by go_simp) (fun w' hI _ => key_any w' (mulV (sw c x X) (invV (sw c z Z)))) M.size rfl rfl ?_
      refine SeqA.nil (fun w1 M2 hz => ?_)
      show wpT _ _ _ _ _ _
      simp only [Act.put, List.setIfInBounds_toArray, List.set_cons_succ, List.set_cons_zero]
      refine wpT_st0 M2 3 (cs U8 (keyV (mulV (sw c x X) (invV (sw c z Z))))) inf_key rfl rfl rfl rfl (by go_simp) (by go_simp) (by simp [ha, hb]) (by simp [ha, hb]) (by simp [go_sem]) rfl (fun w3 M4 => ?_)
      dsimp only [List.set] at M4
      dsimp only [wpT]
      go_wp2_with fail
      have r5 := M4.row (b := w.heap.size + 1 + 1) (c := cs U8 (keyV (mulV (sw c x X) (invV (sw c z Z))))) (by simp)
      refine bodyPost_ret (res_row (b := w.heap.size + 1 + 1) rfl Tryd.underlying23 rfl inf_key _ _ rfl (by rw [r5]; simp [ha, hb])) rfl ?_
      rw [r5]
      rw [HG.out]; exact ⟨rfl, M4.end_⟩
end Go.Proofs.YtgclegdgngldoaaDoor
set_option linter.unusedSimpArgs false
set_option linter.unusedVariables false
namespace Go.Proofs.YtgclegdgngldoaaDoor
open Go.RowKit Fp
theorem wpT_vald {P : Program} {ops : Array Oper} {Q : Exit → Act → World → Prop} {i : Nat} {t : Tr} {a : Act} {w w' : World} {o : Oper} (d : Nat) {v : Value} (hd : o.dst = some d) (ho : ops[i]? = some o) (hw : Region.wanted o (yielded ops a.tmps) = true) (hrun : (execOp a.eval o).run P w = .ok (.value v) w')
    (h : wpT P ops Q t (a.put (some d) v) w') : wpT P ops Q (.op i t) a w := wpT_val ho hw hrun (by rw [hd]; exact h)
theorem times_c (w : World) (a b : List (BitVec 8)) (ha : a.length = 32) (hb : b.length = 32) (x : F) (hx : Fk b = x) :
    Calls Tryd.prog 36 #[.agg (cs U8 a), .agg (cs U8 b)] w fun e w' => e = .returned (.agg (cs U8 (K (gv (leN a) x)))) ∧ Below w.heap.size w w' := by
  subst hx; exact times_any w a b ha hb
/-- what two of them share; its error -/
noncomputable def shv (a b : List (BitVec 8)) : F := gv (leN (clampB a)) (Fk (maskB b))
def ec (s : F) : Int := if s = 0 then 7 else 0
def nine : List (BitVec 8) := 9#8 :: zs 31
@[simp] theorem nine_len : nine.length = 32 := rfl
theorem Fk_nine : Fk nine = 9 := by decide +kernel
theorem xb_key9 (w : World) : exBuild Tryd.prog 23 #[(0, .int .u8 9)] w = .ok (.value (.agg (cs U8 nine))) w := by
  unfold exBuild; rw [run_build w _ _ (cs U8 nine) (by kernel_rfl)]; rfl
set_option maxRecDepth 100000 in
set_option maxHeartbeats 2000000 in
theorem public_c (w : World) (a : List (BitVec 8)) (ha : a.length = 32) :
    Calls Tryd.prog 20 #[.agg (cs U8 a)] w fun e w' => e = .returned (.agg (cs U8 (K (gv (leN (clampB a)) 9)))) ∧ Below w.heap.size w w' := by
  have H9 := hid Fk_nine
  have M0 := Mm.start no w
  go_enter Tryd.func20, Tryd.ntmps20
  have M2 := ((M0.alloc (cs U8 a) 23 (by decide)).alloc (cs U8 (zs 32)) 23 (by decide))
  try simp only [World.size_alloc] at M2
  go_upto_region 1 with fail
  obtain ⟨w1, hw1⟩ : ∃ w1, w1 = ((w.alloc (.cells (cs U8 a) 23)).alloc (.cells (cs U8 (zs 32)) 23)) := ⟨_, rfl⟩
  rw [← hw1] at M2 ⊢
  clear hw1
  refine wp_region_seqF 4 [3, 4, 5, 6] [] [] [] (.op 4 .done) (Mm no w _) (by kernel_rfl) (by kernel_rfl) (fun d _ _ _ _ h => by cases d <;> exact h) (by rfl) M2.size (fun _ _ h k => h.sf k) M2 (by kernel_rfl) ?_
  simp only [List.take_succ_cons, List.take_zero]
  refine SeqA.ld0 Tryd.underlying23 rfl inf_key (w.heap.size) (cs U8 a) rfl (by go_simp) (fun _ M => M.row (by simp)) (by simp [ha]) rfl ?_
  refine SeqA.call _ _ _ (fun w' => by go_simp) (fun w' hI _ => clamp_any w' a (by simp [ha])) M2.size rfl rfl ?_
  refine SeqA.pure (.agg (cs U8 nine)) (fun w' => by have q := xb_key9 w'; go_simp) rfl rfl ?_
  refine SeqA.call _ _ _ (fun w' => by go_simp) (fun w' hI _ => times_c w' (clampB a) nine (by simp [ha]) (by simp [ha]) (Fk nine) (rfl)) M2.size rfl rfl ?_
  refine SeqA.nil (fun w3 M4 hz => ?_)
  show wpT _ _ _ _ _ _
  simp only [Act.put, List.setIfInBounds_toArray, List.set_cons_succ, List.set_cons_zero]
  refine wpT_st0 M4 0 (cs U8 (K (gv (leN (clampB a)) (Fk nine)))) inf_key rfl rfl rfl rfl (by go_simp) (by go_simp) (by simp [ha]) (by simp [ha]) (by simp [go_sem]) rfl (fun w5 M6 => ?_)
  dsimp only [List.set] at M6
  dsimp only [wpT]
  go_wp2_with fail
  have r7 := M6.row (b := w.heap.size + 1) (c := cs U8 (K (gv (leN (clampB a)) (Fk nine)))) (by simp)
  refine bodyPost_ret (res_row (b := w.heap.size + 1) rfl Tryd.underlying23 rfl inf_key _ _ rfl (by rw [r7]; simp [ha])) rfl ?_
  rw [r7]
  exact ⟨by rw [H9.out], M6.end_⟩
set_option maxRecDepth 100000 in
set_option maxHeartbeats 2000000 in
theorem shared_c (w : World) (a b : List (BitVec 8)) (ha : a.length = 32) (hb : b.length = 32) :
    Calls Tryd.prog 49 #[.agg (cs U8 a), .agg (cs U8 b)] w fun e w' => e = .returned (.tuple #[.agg (cs U8 (K (shv a b))), .int .i64 (ec (shv a b))]) ∧ Below w.heap.size w w' := by
  by_cases h0 : gv (leN (clampB a)) (Fk (maskB b)) = 0
  · have HE := hid (decide_eq_true h0)
    have HV := hid (show Ending.returned (.tuple #[.agg (cs U8 (zs 32)), .int .i64 7]) = Ending.returned (.tuple #[.agg (cs U8 (K (shv a b))), .int .i64 (ec (shv a b))]) by unfold shv; rw [h0, K_zero]; rfl)
    clear h0
    have M0 := Mm.start no w
    go_enter Tryd.func49, Tryd.ntmps49
    have M2 := (((M0.alloc (cs U8 a) 23 (by decide)).alloc (cs U8 b) 23 (by decide)).alloc (cs U8 (zs 32)) 23 (by decide))
    try simp only [World.size_alloc] at M2
    go_upto_region 1 with fail
    obtain ⟨w1, hw1⟩ : ∃ w1, w1 = (((w.alloc (.cells (cs U8 a) 23)).alloc (.cells (cs U8 b) 23)).alloc (.cells (cs U8 (zs 32)) 23)) := ⟨_, rfl⟩
    rw [← hw1] at M2 ⊢
    clear hw1
    refine wp_region_seq 6 [7, 8, 9, 10, 11, 6] [] [] [] (.op 6 .done) (Mm no w _) (by kernel_rfl) (by kernel_rfl) (by kernel_rfl) (fun d _ _ _ _ h => by cases d <;> exact h) (by rfl) M2.size (fun _ _ h k => h.sf k) M2 ?_
    simp only [List.take_succ_cons, List.take_zero]
    refine SeqA.ld0 Tryd.underlying23 rfl inf_key (w.heap.size) (cs U8 a) rfl (by go_simp) (fun _ M => M.row (by simp)) (by simp [ha, hb]) rfl ?_
    refine SeqA.call _ _ _ (fun w' => by go_simp) (fun w' hI _ => clamp_any w' a (by simp [ha, hb])) M2.size rfl rfl ?_
    refine SeqA.ld0 Tryd.underlying23 rfl inf_key (w.heap.size + 1) (cs U8 b) rfl (by go_simp) (fun _ M => M.row (by simp)) (by simp [ha, hb]) rfl ?_
    refine SeqA.call _ _ _ (fun w' => by go_simp) (fun w' hI _ => point_any w' b (by simp [ha, hb])) M2.size rfl rfl ?_
    refine SeqA.call _ _ _ (fun w' => by go_simp) (fun w' hI _ => times_c w' (clampB a) (K (Fk (maskB b))) (by simp [ha, hb]) (by simp [ha, hb]) (Fk (maskB b)) (Fk_K _)) M2.size rfl rfl ?_
    simp only [Act.put, List.setIfInBounds_toArray, List.set_cons_succ, List.set_cons_zero]
    refine SeqA.var (z := .agg (cs U8 (zs 32))) (by kernel_rfl) rfl rfl (by decide) rfl ?_
    refine SeqA.nil (fun w3 M4 hz => ?_)
    refine news_one (fun b5 hb1 hb2 hb3 => ?_)
    have M6 := M2.in_ (c := cs U8 (zs 32)) M4 hb1 hb2 (by decide) hb3 rfl
    show wpT _ _ _ _ _ _
    simp only [Act.put, List.setIfInBounds_toArray, List.set_cons_succ, List.set_cons_zero]
    refine wpT_st0 M6 0 (cs U8 (K (gv (leN (clampB a)) (Fk (maskB b))))) inf_key rfl rfl rfl rfl (by go_simp) (by go_simp) (by simp [ha, hb]) (by simp [ha, hb]) (by simp [go_sem]) rfl (fun w7 M8 => ?_)
    dsimp only [List.set] at M8
    dsimp only [wpT]
    go_upto_region 2 with fail
    refine wp_region_seqF 3 [12, 13, 14] [] [] [] (.done) (Mm no w _) (by kernel_rfl) (by kernel_rfl) (fun d _ _ _ _ h => by cases d <;> exact h) (by rfl) M8.size (fun _ _ h k => h.sf k) M8 (by kernel_rfl) ?_
    simp only [List.take_succ_cons, List.take_zero]
    refine SeqA.ld0 Tryd.underlying23 rfl inf_key (b5) (cs U8 (K (gv (leN (clampB a)) (Fk (maskB b))))) rfl (by go_simp) (fun _ M => M.row (by simp)) (by simp [ha, hb]) rfl ?_
    refine SeqA.pure (.agg (cs U8 (zs 32))) (fun w' => by go_simp) rfl rfl ?_
    refine SeqA.pure (.bool true) (fun w' => by have q := eq0 w' (gv (leN (clampB a)) (Fk (maskB b))); rw [HE.out] at q; go_simp) rfl rfl ?_
    refine SeqA.nil (fun w9 M10 hz => ?_)
    show wpT _ _ _ _ _ _
    simp only [Act.put, List.setIfInBounds_toArray, List.set_cons_succ, List.set_cons_zero]
    dsimp only [wpT]
    go_upto_region 3 with fail
    refine wp_region_seqF 1 [15] [] [] [] (.op 1 (.op 2 .done)) (Mm no w _) (by kernel_rfl) (by kernel_rfl) (fun d _ _ _ _ h => by cases d <;> exact h) (by rfl) M10.size (fun _ _ h k => h.sf k) M10 (by kernel_rfl) ?_
    simp only [List.take_succ_cons, List.take_zero]
    refine SeqA.pure (.agg (cs U8 (zs 32))) (fun w' => by go_simp) rfl rfl ?_
    refine SeqA.nil (fun w11 M12 hz => ?_)
    show wpT _ _ _ _ _ _
    simp only [Act.put, List.setIfInBounds_toArray, List.set_cons_succ, List.set_cons_zero]
    refine wpT_st0 M12 1 (cs U8 (zs 32)) inf_key rfl rfl rfl rfl (by go_simp) (by go_simp) (by simp [ha, hb]) (by simp [ha, hb]) (by simp [go_sem]) rfl (fun w13 M14 => ?_)
    dsimp only [List.set] at M14
    refine wpT_vald 5 (v := .int .i64 7) rfl rfl rfl rfl ?_
    dsimp only [wpT]
    simp only [Act.put, List.setIfInBounds_toArray, List.set_cons_succ, List.set_cons_zero]
    go_wp2_with fail
    have r15 := M14.row (b := w.heap.size + 1 + 1) (c := cs U8 (zs 32)) (by simp)
    refine bodyPost_ret (res_two rfl (rv_row Tryd.underlying23 rfl inf_key (w.heap.size + 1 + 1) rfl (by rw [r15]; simp [ha, hb])) (rv_tmp _ _ rfl)) rfl ?_
    rw [r15]
    exact ⟨HV.out, M14.end_⟩
  · have HE := hid (decide_eq_false h0)
    have HV := hid (show Ending.returned (.tuple #[.agg (cs U8 (K (gv (leN (clampB a)) (Fk (maskB b))))), .int .i64 0]) = Ending.returned (.tuple #[.agg (cs U8 (K (shv a b))), .int .i64 (ec (shv a b))]) by unfold shv ec; rw [if_neg h0])
    clear h0
    have M0 := Mm.start no w
    go_enter Tryd.func49, Tryd.ntmps49
    have M2 := (((M0.alloc (cs U8 a) 23 (by decide)).alloc (cs U8 b) 23 (by decide)).alloc (cs U8 (zs 32)) 23 (by decide))
    try simp only [World.size_alloc] at M2
    go_upto_region 1 with fail
    obtain ⟨w1, hw1⟩ : ∃ w1, w1 = (((w.alloc (.cells (cs U8 a) 23)).alloc (.cells (cs U8 b) 23)).alloc (.cells (cs U8 (zs 32)) 23)) := ⟨_, rfl⟩
    rw [← hw1] at M2 ⊢
    clear hw1
    refine wp_region_seq 6 [7, 8, 9, 10, 11, 6] [] [] [] (.op 6 .done) (Mm no w _) (by kernel_rfl) (by kernel_rfl) (by kernel_rfl) (fun d _ _ _ _ h => by cases d <;> exact h) (by rfl) M2.size (fun _ _ h k => h.sf k) M2 ?_
    simp only [List.take_succ_cons, List.take_zero]
    refine SeqA.ld0 Tryd.underlying23 rfl inf_key (w.heap.size) (cs U8 a) rfl (by go_simp) (fun _ M => M.row (by simp)) (by simp [ha, hb]) rfl ?_
    refine SeqA.call _ _ _ (fun w' => by go_simp) (fun w' hI _ => clamp_any w' a (by simp [ha, hb])) M2.size rfl rfl ?_
    refine SeqA.ld0 Tryd.underlying23 rfl inf_key (w.heap.size + 1) (cs U8 b) rfl (by go_simp) (fun _ M => M.row (by simp)) (by simp [ha, hb]) rfl ?_
    refine SeqA.call _ _ _ (fun w' => by go_simp) (fun w' hI _ => point_any w' b (by simp [ha, hb])) M2.size rfl rfl ?_
    refine SeqA.call _ _ _ (fun w' => by go_simp) (fun w' hI _ => times_c w' (clampB a) (K (Fk (maskB b))) (by simp [ha, hb]) (by simp [ha, hb]) (Fk (maskB b)) (Fk_K _)) M2.size rfl rfl ?_
    simp only [Act.put, List.setIfInBounds_toArray, List.set_cons_succ, List.set_cons_zero]
    refine SeqA.var (z := .agg (cs U8 (zs 32))) (by kernel_rfl) rfl rfl (by decide) rfl ?_
    refine SeqA.nil (fun w3 M4 hz => ?_)
    refine news_one (fun b5 hb1 hb2 hb3 => ?_)
    have M6 := M2.in_ (c := cs U8 (zs 32)) M4 hb1 hb2 (by decide) hb3 rfl
    show wpT _ _ _ _ _ _
    simp only [Act.put, List.setIfInBounds_toArray, List.set_cons_succ, List.set_cons_zero]
    refine wpT_st0 M6 0 (cs U8 (K (gv (leN (clampB a)) (Fk (maskB b))))) inf_key rfl rfl rfl rfl (by go_simp) (by go_simp) (by simp [ha, hb]) (by simp [ha, hb]) (by simp [go_sem]) rfl (fun w7 M8 => ?_)
    dsimp only [List.set] at M8
    dsimp only [wpT]
    go_upto_region 2 with fail
    refine wp_region_seqF 3 [12, 13, 14] [] [] [] (.done) (Mm no w _) (by kernel_rfl) (by kernel_rfl) (fun d _ _ _ _ h => by cases d <;> exact h) (by rfl) M8.size (fun _ _ h k => h.sf k) M8 (by kernel_rfl) ?_
    simp only [List.take_succ_cons, List.take_zero]
    refine SeqA.ld0 Tryd.underlying23 rfl inf_key (b5) (cs U8 (K (gv (leN (clampB a)) (Fk (maskB b))))) rfl (by go_simp) (fun _ M => M.row (by simp)) (by simp [ha, hb]) rfl ?_
    refine SeqA.pure (.agg (cs U8 (zs 32))) (fun w' => by go_simp) rfl rfl ?_
    refine SeqA.pure (.bool false) (fun w' => by have q := eq0 w' (gv (leN (clampB a)) (Fk (maskB b))); rw [HE.out] at q; go_simp) rfl rfl ?_
    refine SeqA.nil (fun w9 M10 hz => ?_)
    show wpT _ _ _ _ _ _
    simp only [Act.put, List.setIfInBounds_toArray, List.set_cons_succ, List.set_cons_zero]
    dsimp only [wpT]
    go_upto_region 4 with fail
    refine wp_region_seqF 1 [16] [] [] [] (.op 1 (.op 2 .done)) (Mm no w _) (by kernel_rfl) (by kernel_rfl) (fun d _ _ _ _ h => by cases d <;> exact h) (by rfl) M10.size (fun _ _ h k => h.sf k) M10 (by kernel_rfl) ?_
    simp only [List.take_succ_cons, List.take_zero]
    refine SeqA.ld0 Tryd.underlying23 rfl inf_key (b5) (cs U8 (K (gv (leN (clampB a)) (Fk (maskB b))))) rfl (by go_simp) (fun _ M => M.row (by simp)) (by simp [ha, hb]) rfl ?_
    refine SeqA.nil (fun w11 M12 hz => ?_)
    show wpT _ _ _ _ _ _
    simp only [Act.put, List.setIfInBounds_toArray, List.set_cons_succ, List.set_cons_zero]
    refine wpT_st0 M12 1 (cs U8 (K (gv (leN (clampB a)) (Fk (maskB b))))) inf_key rfl rfl rfl rfl (by go_simp) (by go_simp) (by simp [ha, hb]) (by simp [ha, hb]) (by simp [go_sem]) rfl (fun w13 M14 => ?_)
    dsimp only [List.set] at M14
    refine wpT_vald 5 (v := .int .i64 0) rfl rfl rfl rfl ?_
    dsimp only [wpT]
    simp only [Act.put, List.setIfInBounds_toArray, List.set_cons_succ, List.set_cons_zero]
    go_wp2_with fail
    have r15 := M14.row (b := w.heap.size + 1 + 1) (c := cs U8 (K (gv (leN (clampB a)) (Fk (maskB b))))) (by simp)
    refine bodyPost_ret (res_two rfl (rv_row Tryd.underlying23 rfl inf_key (w.heap.size + 1 + 1) rfl (by rw [r15]; simp [ha, hb])) (rv_tmp _ _ rfl)) rfl ?_
    rw [r15]
    exact ⟨HV.out, M14.end_⟩
end Go.Proofs.YtgclegdgngldoaaDoor
set_option linter.unusedSimpArgs false
set_option linter.unusedVariables false
namespace Go.Proofs.YtgclegdgngldoaaDoor
open Go.RowKit Fp
theorem cl0_mod : ∀ x : BitVec 8, (cl0 x).toNat % 8 = 0 := by decide +kernel
theorem cl31_rng : ∀ x : BitVec 8, 64 ≤ (cl31 x).toNat ∧ (cl31 x).toNat < 128 := by decide +kernel
theorem cl0_cl0 : ∀ x : BitVec 8, cl0 (cl0 x) = cl0 x := by decide +kernel
theorem cl31_cl31 : ∀ x : BitVec 8, cl31 (cl31 x) = cl31 x := by decide +kernel
theorem hi0_low : ∀ x : BitVec 8, x.toNat < 128 → hi0 x = x := by decide +kernel
theorem hi0_hi0 : ∀ x : BitVec 8, hi0 (hi0 x) = hi0 x := by decide +kernel
theorem hi0_flip : ∀ x : BitVec 8, hi0 (x ^^^ 128#8) = hi0 x := by decide +kernel
theorem clamp_0 (a : List (BitVec 8)) (ha : a.length = 32) : (clampB a).getD 0 0 = cl0 (g8 a 0) := by
  match a, ha with
  | x :: r, ha => simp [clampB, g8]
theorem clamp_31 (a : List (BitVec 8)) (ha : a.length = 32) : (clampB a).getD 31 0 = cl31 (g8 (a.set 0 (cl0 (g8 a 0))) 31) := by
  unfold clampB
  rw [List.getD_eq_getElem?_getD, List.getElem?_set_self (by simp [ha])]; rfl
theorem top_byte (l : List (BitVec 8)) (h : l.length = 32) : (l.getD 31 0).toNat = leN l / 256 ^ 31 := by
  rw [leN_byte l 31 (by omega)]
  have := leN_lt l
  rw [h] at this
  have h2 : leN l / 256 ^ 31 < 256 := Nat.div_lt_of_lt_mul (by rw [← Nat.pow_succ]; exact this)
  omega
theorem clamp_rng (a : List (BitVec 8)) (ha : a.length = 32) : 2 ^ 254 ≤ leN (clampB a) ∧ leN (clampB a) < 2 ^ 255 := by
  have h := top_byte (clampB a) (by simp [ha])
  rw [clamp_31 a ha] at h
  obtain ⟨h1, h2⟩ := cl31_rng (g8 (a.set 0 (cl0 (g8 a 0))) 31)
  rw [h] at h1 h2
  generalize leN (clampB a) = N at *
  simp only [Nat.reducePow] at *
  omega
theorem clamp_mod (a : List (BitVec 8)) (ha : a.length = 32) : leN (clampB a) % 8 = 0 := by
  have h := leN_byte (clampB a) 0 (by simp [ha])
  rw [clamp_0 a ha] at h
  have h1 := cl0_mod (g8 a 0)
  rw [h] at h1
  generalize leN (clampB a) = N at *
  simp only [Nat.pow_zero, Nat.div_one] at *
  omega
end Go.Proofs.YtgclegdgngldoaaDoor
namespace Go.Proofs.YtgclegdgngldoaaDoor.Fp
theorem no_mult (N m : Nat) (h8 : N % 8 = 0) (h1 : 28948022309329048855892746252171976963317496166410141009864396001978282409984 ≤ N) (h2 : N < 57896044618658097711785492504343953926634992332820282019728792003956564819968)
    (hm : N = 7237005577332262213973186563042994240857116359379907606001950938285454250989 * m) : False := by
  have hm8 : m % 8 = 0 := by
    rw [hm, Nat.mul_mod, show 7237005577332262213973186563042994240857116359379907606001950938285454250989 % 8 = 5 by decide] at h8
    clear h1 h2 hm; omega
  have hlt : m < 8 := Nat.lt_of_not_le fun h => absurd h2 (Nat.not_lt.2 (by rw [hm]; exact Nat.le_trans (by decide) (Nat.mul_le_mul_left _ h)))
  have m0 : m = 0 := by clear h1 h2 hm h8; omega
  subst m0; rw [Nat.mul_zero] at hm; subst hm; exact absurd h1 (by decide)
end Go.Proofs.YtgclegdgngldoaaDoor.Fp
set_option linter.unusedVariables false
namespace Go.Proofs.YtgclegdgngldoaaDoor
open Go.RowKit Fp
theorem maskB_low (l : List (BitVec 8)) (h : l.length = 32) (h2 : (l.getD 31 0).toNat < 128) : maskB l = l := by
  unfold maskB
  have e : hi0 (g8 l 31) = l.getD 31 0 := hi0_low _ h2
  rw [e]
  apply List.ext_getElem (by simp)
  intro i h5 h6
  rw [List.getElem_set]
  split
  · rename_i hi; subst hi; rw [List.getD_eq_getElem?_getD, List.getElem?_eq_getElem h6]; rfl
  · rfl
theorem maskB_K (x : F) : maskB (K x) = K x := by
  apply maskB_low _ (by simp)
  rw [top_byte (K x) (by simp), show leN (K x) = x.val from leN_kb (val_lt x)]
  exact Nat.div_lt_of_lt_mul (Nat.lt_of_lt_of_le x.isLt (by decide +kernel))
theorem clamp_L (a : List (BitVec 8)) (ha : a.length = 32) : ¬ L ∣ leN (clampB a) := by
  intro hd
  have h8 := clamp_mod a ha
  obtain ⟨h1, h2⟩ := clamp_rng a ha
  obtain ⟨m, hm⟩ := hd
  rw [show (2 : Nat) ^ 254 = 28948022309329048855892746252171976963317496166410141009864396001978282409984 by decide +kernel] at h1
  rw [show (2 : Nat) ^ 255 = 57896044618658097711785492504343953926634992332820282019728792003956564819968 by decide +kernel] at h2
  exact no_mult _ m h8 h1 h2 hm
theorem pair_facts (a b : List (BitVec 8)) (ha : a.length = 32) (hb : b.length = 32) :
    gv (leN (clampB b)) (gv (leN (clampB a)) 9) = gv (leN (clampB a)) (gv (leN (clampB b)) 9) ∧ gv (leN (clampB a)) (gv (leN (clampB b)) 9) ≠ 0 := by
  obtain ⟨-, a2⟩ := clamp_rng a ha
  obtain ⟨-, b2⟩ := clamp_rng b hb
  have na := clamp_L a ha
  have nb := clamp_L b hb
  obtain ⟨p1, p2⟩ := pair_ne _ _ b2 a2 nb na
  obtain ⟨q1, q2⟩ := pair_ne _ _ a2 b2 na nb
  simp only [gv_eq]
  exact ⟨gx_comm nine_ne _ _ a2 b2 q1 p1, p2⟩
theorem g8_set (l : List (BitVec 8)) (i : Nat) (x : BitVec 8) (h : i < l.length) : g8 (l.set i x) i = x := by
  show (l.set i x).getD i 0 = x
  rw [List.getD_eq_getElem?_getD, List.getElem?_set_self h]; rfl
theorem g8_set_ne (l : List (BitVec 8)) (i j : Nat) (x : BitVec 8) (h : i ≠ j) : g8 (l.set i x) j = g8 l j := by
  show (l.set i x).getD j 0 = l.getD j 0
  rw [List.getD_eq_getElem?_getD, List.getElem?_set_ne h, List.getD_eq_getElem?_getD]
theorem clampB_eq (a : List (BitVec 8)) (ha : a.length = 32) : clampB a = (a.set 0 (cl0 (g8 a 0))).set 31 (cl31 (g8 a 31)) := by
  unfold clampB; rw [g8_set_ne _ _ _ _ (by decide)]
theorem clampB_clampB (a : List (BitVec 8)) (ha : a.length = 32) : clampB (clampB a) = clampB a := by
  have h0 : g8 (clampB a) 0 = cl0 (g8 a 0) := by rw [clampB_eq a ha, g8_set_ne _ _ _ _ (by decide), g8_set _ _ _ (by omega)]
  have h1 : g8 (clampB a) 31 = cl31 (g8 a 31) := by rw [clampB_eq a ha, g8_set _ _ _ (by simp; omega)]
  rw [clampB_eq (clampB a) (by simp [ha]), h0, h1, cl0_cl0, cl31_cl31, clampB_eq a ha]
  apply List.ext_getElem (by simp)
  intro i h5 h6
  simp only [List.getElem_set]
  split
  · rfl
  · split <;> rfl
theorem maskB_set (a : List (BitVec 8)) (ha : a.length = 32) (x : BitVec 8) : maskB (a.set 31 x) = a.set 31 (hi0 x) := by
  unfold maskB; rw [g8_set _ _ _ (by omega), List.set_set]
theorem maskB_flip (a : List (BitVec 8)) (ha : a.length = 32) : maskB (a.set 31 (g8 a 31 ^^^ 128#8)) = maskB a := by
  rw [maskB_set a ha, hi0_flip]; rfl
theorem Fk_zs : Fk (zs 32) = 0 := by decide +kernel
theorem maskB_zs : maskB (zs 32) = zs 32 := by decide +kernel
/-- what a secret has with the point of another one -/
noncomputable def pv (a b : List (BitVec 8)) : F := gv (leN (clampB a)) (gv (leN (clampB b)) 9)
theorem pv_ne (a b : List (BitVec 8)) (ha : a.length = 32) (hb : b.length = 32) : pv a b ≠ 0 := (pair_facts a b ha hb).2
theorem pv_comm (a b : List (BitVec 8)) (ha : a.length = 32) (hb : b.length = 32) : pv b a = pv a b := (pair_facts a b ha hb).1
theorem shv_K (a : List (BitVec 8)) (x : F) : shv a (K x) = gv (leN (clampB a)) x := by unfold shv; rw [maskB_K, Fk_K]
theorem shared_p (w : World) (a b : List (BitVec 8)) (ha : a.length = 32) (hb : b.length = 32) :
    Calls Tryd.prog 49 #[.agg (cs U8 a), .agg (cs U8 (K (gv (leN (clampB b)) 9)))] w fun e w' => e = .returned (.tuple #[.agg (cs U8 (K (pv a b))), .int .i64 0]) ∧ Below w.heap.size w w' := by
  have h := shared_c w a (K (gv (leN (clampB b)) 9)) ha (by simp)
  have e : ec (shv a (K (gv (leN (clampB b)) 9))) = 0 := by rw [shv_K]; exact if_neg (pv_ne a b ha hb)
  rw [e, shv_K] at h
  exact h
theorem shared_q (w : World) (a b : List (BitVec 8)) (ha : a.length = 32) (hb : b.length = 32) :
    Calls Tryd.prog 49 #[.agg (cs U8 b), .agg (cs U8 (K (gv (leN (clampB a)) 9)))] w fun e w' => e = .returned (.tuple #[.agg (cs U8 (K (pv a b))), .int .i64 0]) ∧ Below w.heap.size w w' := by
  have h := shared_p w b a hb ha
  rw [pv_comm a b ha hb] at h; exact h
theorem shared_z (w : World) (a : List (BitVec 8)) (ha : a.length = 32) (hz : gv (leN (clampB a)) 0 = 0) :
    Calls Tryd.prog 49 #[.agg (cs U8 a), .agg (cs U8 (zs 32))] w fun e w' => e = .returned (.tuple #[.agg (cs U8 (zs 32)), .int .i64 7]) ∧ Below w.heap.size w w' := by
  have h := shared_c w a (zs 32) ha (by decide)
  have e : shv a (zs 32) = 0 := by unfold shv; rw [maskB_zs, Fk_zs, hz]
  rw [e, K_zero] at h; exact h
/-- secrets with one scalar, keys with one point -/
theorem shared_b (w : World) (a b a' b' : List (BitVec 8)) (ha : a'.length = 32) (hb : b'.length = 32) (h1 : clampB a' = clampB a) (h2 : Fk (maskB b') = Fk (maskB b)) :
    Calls Tryd.prog 49 #[.agg (cs U8 a'), .agg (cs U8 b')] w fun e w' => e = .returned (.tuple #[.agg (cs U8 (K (shv a b))), .int .i64 (ec (shv a b))]) ∧ Below w.heap.size w w' := by
  have h := shared_c w a' b' ha hb
  have e : shv a' b' = shv a b := by unfold shv; rw [h1, h2]
  rw [e] at h; exact h
end Go.Proofs.YtgclegdgngldoaaDoor
