/-
  Walks of reference 01: sums, differences, products; own work.
-/
import Derived.Test.YtgneclfnfnpmkaaRf4
import Derived.Test.YtgneclfnfnpmkaaRfQ
set_option linter.unusedSimpArgs false
set_option linter.unusedVariables false
namespace Go.Proofs.Ytgneclfnfnpmkaa
open Go.RowKit Fp
attribute [local irreducible] prd P aD sD mI mO carL
theorem carL_cn {l : List Nat} (h : ∀ x ∈ l, x ≤ 2147483648) (hl : l.length ≤ 64) (h32 : 32 ≤ l.length) {n : Nat} (hn : vd l % P = n % P) : (carL l).length = 32 ∧ cn (leN (carL l)) = cn n := by
  obtain ⟨h1, h2⟩ := carL_spec l h hl h32
  exact ⟨h1, cn_eq (h2.trans hn)⟩
set_option maxRecDepth 100000 in
set_option maxHeartbeats 4000000 in
theorem radd_any (w : World) (a b : List (BitVec 8)) (ha : a.length = 32) (hb : b.length = 32) :
    Calls Try.prog 23 #[.agg (cs U8 a), .agg (cs U8 b)] w fun e w' => e = .returned (.agg (cs U8 (cn (leN a + leN b)))) ∧ Below w.heap.size w w' := by
  have HSP := hid (aD_spec ha hb)
  have HCN := hid (carL_cn (l := aD a b 32) (fun x hx => by have := (aD_spec ha hb 32 (Nat.le_refl _)).2.1 x hx; omega) (by rw [(aD_spec ha hb 32 (Nat.le_refl _)).1]; decide) (by rw [(aD_spec ha hb 32 (Nat.le_refl _)).1]; decide) (by rw [aD_end ha hb]))
  have H0 := hid (aD_zero a b); have HS := hid (aD_succ a b)
  have M0 := Mm.start no w
  have M1 := (((M0.alloc (cs U8 a) 23 (by decide)).alloc (cs U8 b) 23 (by decide)).alloc (cs U8 (zs 32)) 23 (by decide))
  simp only [World.size_alloc] at M1
  have HA := hid ha; have HB := hid hb
  clear ha hb
  go_enter Try.func23, Try.ntmps23
  go_upto_region 1 with fail
  obtain ⟨w1, hw1⟩ : ∃ w1, w1 = (((w.alloc (.cells (cs U8 a) 23)).alloc (.cells (cs U8 b) 23)).alloc (.cells (cs U8 (zs 32)) 23)) := ⟨_, rfl⟩
  rw [← hw1] at M1 ⊢
  clear hw1
  have r1 := M1.row (b := w.heap.size) (c := cs U8 a) (by simp)
  have hal := HA.out
  go_wp2_with fail
  with_reducible refine ((rdigits_any w1 a HA.out).mono ?_)
  rintro e w2 ⟨u, rfl, hou, hb2⟩
  have hne : a.map (·.toNat) ≠ [] := by intro e; have := HA.out; rw [List.map_eq_nil_iff] at e; rw [e] at this; cases this
  obtain ⟨g, cap, R, rfl, hcap, hmx, hge, M2⟩ := M1.take hb2 hou hne
  rw [List.length_map, HA.out] at hcap ⊢
  have HCAP := hid hcap; have HMX := hid hmx
  have hcapi : (32 : Int) ≤ cap := by omega
  clear r1 hal hou hb2 hne hcap hmx hge M1 M0
  dsimp only
  go_wp2_with fail
  go_loopw [6] (fun t wr => ∃ i : Nat, i ≤ 32 ∧ t = .int .i64 i ∧ Mm no w [(g, cs I64 (aD a b i) ++ R), (w.heap.size + 1 + 1, cs U8 (zs 32)), (w.heap.size + 1, cs U8 b), (w.heap.size, cs U8 a)] wr) (fun t _ => 32 - (intOf t).toNat)
  case atStart => exact ⟨0, by omega, rfl, by rw [H0.out]; exact M2⟩
  case round =>
    clear M2
    obtain ⟨i, hi, rfl, M⟩ := hrel
    obtain ⟨hl, hle, -⟩ := HSP.out i hi
    have hL := hid hl
    by_cases hi32 : i < 32
    · have hx1 : gI (aD a b i) i ≤ 255 + i * 255 := getD_le hle i
      have hx2 := (g8 b i).isLt
      have q0 : (0 : Int) ≤ i := by omega
      have q1 : (i : Int) < 32 := by omega
      clear hle hl
      go_upto_region 5 with fail
      refine wp_region_seq 12 [13, 14, 15, 16, 17, 18, 19, 20, 21, 22, 23, 24] [] [] [] (.op 12 .done) (Mm no w _) (by kernel_rfl) (by kernel_rfl) (by kernel_rfl) (fun d _ _ _ _ h => by cases d <;> exact h) (by rfl) M.size (fun _ _ h k => h.sf k) M ?_
      simp only [List.take_succ_cons, List.take_zero]
      refine SeqA.pure (.slice (some ⟨g, 0, none⟩) 32 cap) (fun w' => by go_simp) rfl rfl ?_
      refine SeqA.pure (.int .i64 i) (fun w' => by go_simp) rfl rfl ?_
      refine SeqA.pure (.slice (some ⟨g, 0, none⟩) 32 cap) (fun w' => by go_simp) rfl rfl ?_
      refine SeqA.pure (.int .i64 i) (fun w' => by go_simp) rfl rfl ?_
      refine SeqA.pure (.pointer (some ⟨g, i, none⟩)) (fun w' => by go_simp) rfl rfl ?_
      simp only [Act.put, List.setIfInBounds_toArray, List.set_cons_succ, List.set_cons_zero]
      refine SeqA.read (I64 (gI (aD a b i) i)) (fun w' M => by have c0 := cell_gI (M.row (b := g) (c := cs I64 (aD a b i) ++ R) (by simp)) (i := i) (by rw [hL]; exact hi32); go_simp) rfl rfl ?_
      refine SeqA.pure (.int .i64 i) (fun w' => by go_simp) rfl rfl ?_
      refine SeqA.pure (.pointer (some ⟨w.heap.size + 1, i, none⟩)) (fun w' => by go_simp) rfl rfl ?_
      refine SeqA.read (U8 (g8 b i)) (fun w' M => by have c0 := cell_g8 (M.row (b := w.heap.size + 1) (c := cs U8 b) (by simp)) (i := i) (by rw [HB.out]; exact hi32); go_simp) rfl rfl ?_
      refine SeqA.pure (I64 (g8 b i).toNat) (fun w' => by go_simp) rfl rfl ?_
      refine SeqA.pure (I64 (gI (aD a b i) i + (g8 b i).toNat)) (fun w' => by have q := i64w ((gI (aD a b i) i : Int) + ((g8 b i).toNat : Int)) (by omega) (by omega); go_simp) rfl rfl ?_
      simp only [Act.put, List.setIfInBounds_toArray, List.set_cons_succ, List.set_cons_zero]
      refine SeqA.pure (.pointer (some ⟨g, i, none⟩)) (fun w' => by go_simp) rfl rfl ?_
      refine SeqA.nil (fun w1 M2 hz => ?_)
      show wpT _ _ _ _ _ _
      simp only [Act.put, List.setIfInBounds_toArray, List.set_cons_succ, List.set_cons_zero]
      refine wpT_stc M2 0 (I64 (gI (aD a b i) i + (g8 b i).toNat)) (cs I64 ((aD a b i).set i (gI (aD a b i) i + (g8 b i).toNat)) ++ R) inf_int rfl rfl rfl rfl (by go_simp) (by go_simp) (by have := (by rw [hL]; exact hi32 : i < (aD a b i).length); first | (simp; done) | (simpa using this) | (simp; omega)) (by simp [go_sem]) (set_gI (by rw [hL]; exact hi32) _) rfl (fun w3 M4 => ?_)
      dsimp only [List.set] at M4
      dsimp only [wpT]
      go_wp2_with fail
      go_roundw
      case rel => exact ⟨i + 1, by omega, by go_num, by rw [HS.out]; exact M4⟩
      case measure => simp [intOf]; omega
    · have : i = 32 := by omega
      subst this
      have HL2 := hid hl
      have HB2 := hid (fun x hx => by have := hle x hx; omega : ∀ x ∈ aD a b 32, x ≤ 2147483648)
      clear hle hl hL
      have r4 := M.row (b := w.heap.size + 1 + 1) (c := cs U8 (zs 32)) (by simp)
      clear r4
      have HI := hid (M.is (g := g) (l := (aD a b 32)) (R := R) (n := 32) (cap := cap) (by simp) (HL2.out.symm) (HCAP.out) (HMX.out))
      go_upto_region 6 with fail
      go_wp2_with fail
      with_reducible refine ((rcarried_any wr _ (aD a b 32) HI.out HB2.out (by rw [HL2.out]; decide) (by rw [HL2.out]; decide)).mono ?_)
      rintro e w5 ⟨rfl, hb5⟩
      have M5 := M.below hb5
      clear hb5
      dsimp only
      go_wp2_with fail
      with_reducible refine ((rcanon_any w5 (carL (aD a b 32)) HCN.out.1).mono ?_)
      rintro e w6 ⟨rfl, hb6⟩
      have M6 := M5.below hb6
      rw [HCN.out.2]
      have r2 := M6.row (b := w.heap.size + 1 + 1) (c := cs U8 (zs 32)) (by simp)
      have f3 := M6.free (b := w.heap.size + 1 + 1) (c := cs U8 (zs 32)) (by simp)
      have hkl := cn_len (leN a + leN b)
      clear hb6
      dsimp only
      go_wp2_with fail
      have M7 := M6.set 1 (cs U8 (cn (leN a + leN b))) rfl
      dsimp only [List.set] at M7
      have r4 := M7.row (b := w.heap.size + 1 + 1) (c := cs U8 (cn (leN a + leN b))) (by simp)
      refine bodyPost_ret (res_row (b := w.heap.size + 1 + 1) rfl Try.underlying23 rfl inf_key _ _ rfl (by rw [r4]; simp)) rfl ?_
      rw [r4]
      exact ⟨rfl, M7.end_⟩
set_option maxRecDepth 100000 in
set_option maxHeartbeats 4000000 in
theorem rsub_any (w : World) (a b : List (BitVec 8)) (ha : a.length = 32) (hb : b.length = 32) :
    Calls Try.prog 25 #[.agg (cs U8 a), .agg (cs U8 b)] w fun e w' => e = .returned (.agg (cs U8 (cn (leN a + 4 * P - leN b)))) ∧ Below w.heap.size w w' := by
  have HSP := hid (sD_spec ha hb)
  have HCN := hid (carL_cn (l := sD a b 32) (fun x hx => by have := (sD_spec ha hb 32 (Nat.le_refl _)).2.1 x hx; omega) (by rw [(sD_spec ha hb 32 (Nat.le_refl _)).1]; decide) (by rw [(sD_spec ha hb 32 (Nat.le_refl _)).1]; decide) (by rw [show vd (sD a b 32) = leN a + 4 * P - leN b by have := sD_end ha hb; omega]))
  have H0 := hid (sD_zero a b); have HS := hid (sD_succ a b)
  have M0 := Mm.start no w
  have M1 := (((M0.alloc (cs U8 a) 23 (by decide)).alloc (cs U8 b) 23 (by decide)).alloc (cs U8 (zs 32)) 23 (by decide))
  simp only [World.size_alloc] at M1
  have HA := hid ha; have HB := hid hb
  clear ha hb
  go_enter Try.func25, Try.ntmps25
  go_upto_region 1 with fail
  obtain ⟨w1, hw1⟩ : ∃ w1, w1 = (((w.alloc (.cells (cs U8 a) 23)).alloc (.cells (cs U8 b) 23)).alloc (.cells (cs U8 (zs 32)) 23)) := ⟨_, rfl⟩
  rw [← hw1] at M1 ⊢
  clear hw1
  have r1 := M1.row (b := w.heap.size) (c := cs U8 a) (by simp)
  have hal := HA.out
  go_wp2_with fail
  with_reducible refine ((rdigits_any w1 a HA.out).mono ?_)
  rintro e w2 ⟨u, rfl, hou, hb2⟩
  have hne : a.map (·.toNat) ≠ [] := by intro e; have := HA.out; rw [List.map_eq_nil_iff] at e; rw [e] at this; cases this
  obtain ⟨g, cap, R, rfl, hcap, hmx, hge, M2⟩ := M1.take hb2 hou hne
  rw [List.length_map, HA.out] at hcap ⊢
  have HCAP := hid hcap; have HMX := hid hmx
  have hcapi : (32 : Int) ≤ cap := by omega
  clear r1 hal hou hb2 hne hcap hmx hge M1 M0
  dsimp only
  go_wp2_with fail
  go_loopw [6] (fun t wr => ∃ i : Nat, i ≤ 32 ∧ t = .int .i64 i ∧ Mm no w [(g, cs I64 (sD a b i) ++ R), (w.heap.size + 1 + 1, cs U8 (zs 32)), (w.heap.size + 1, cs U8 b), (w.heap.size, cs U8 a)] wr) (fun t _ => 32 - (intOf t).toNat)
  case atStart => exact ⟨0, by omega, rfl, by rw [H0.out]; exact M2⟩
  case round =>
    clear M2
    obtain ⟨i, hi, rfl, M⟩ := hrel
    obtain ⟨hl, hle, -⟩ := HSP.out i hi
    have hL := hid hl
    by_cases hi32 : i < 32
    · have hx1 : gI (sD a b i) i ≤ 255 + i * 1020 := getD_le hle i
      have hx2 := (g8 b i).isLt
      have hp1 := prd_le i
      have hp2 := prd_ge i
      obtain ⟨m, hm⟩ : ∃ m, m = gI (sD a b i) i + 4 * prd i - (g8 b i).toNat := ⟨_, rfl⟩
      have hmI : ((gI (sD a b i) i : Int) + 4 * (prd i : Int) - ((g8 b i).toNat : Int)) = (m : Int) := by omega
      have HM := hid hmI; have HMN := hid hm
      have hml : m ≤ 100000 := by omega
      have q0 : (0 : Int) ≤ i := by omega
      have q1 : (i : Int) < 32 := by omega
      clear hle hl hm hmI
      go_upto_region 5 with fail
      refine wp_region_seq 16 [13, 14, 15, 16, 17, 18, 19, 20, 21, 22, 23, 24, 25, 26, 27, 28] [] [] [] (.op 16 .done) (Mm no w _) (by kernel_rfl) (by kernel_rfl) (by kernel_rfl) (fun d _ _ _ _ h => by cases d <;> exact h) (by rfl) M.size (fun _ _ h k => h.sf k) M ?_
      simp only [List.take_succ_cons, List.take_zero]
      refine SeqA.pure (.slice (some ⟨g, 0, none⟩) 32 cap) (fun w' => by go_simp) rfl rfl ?_
      refine SeqA.pure (.int .i64 i) (fun w' => by go_simp) rfl rfl ?_
      refine SeqA.pure (.slice (some ⟨g, 0, none⟩) 32 cap) (fun w' => by go_simp) rfl rfl ?_
      refine SeqA.pure (.int .i64 i) (fun w' => by go_simp) rfl rfl ?_
      refine SeqA.pure (.pointer (some ⟨g, i, none⟩)) (fun w' => by go_simp) rfl rfl ?_
      simp only [Act.put, List.setIfInBounds_toArray, List.set_cons_succ, List.set_cons_zero]
      refine SeqA.read (I64 (gI (sD a b i) i)) (fun w' M => by have c0 := cell_gI (M.row (b := g) (c := cs I64 (sD a b i) ++ R) (by simp)) (i := i) (by rw [hL]; exact hi32); go_simp) rfl rfl ?_
      refine SeqA.pure (.int .i64 i) (fun w' => by go_simp) rfl rfl ?_
      refine SeqA.call _ _ _ (fun w' => by go_simp) (fun w' hI _ => rprime_b w' i hi32) M.size rfl rfl ?_
      refine SeqA.pure (I64 (4 * prd i)) (fun w' => by have q := i64w (4 * (prd i : Int)) (by omega) (by omega); go_simp) rfl rfl ?_
      refine SeqA.pure (I64 (gI (sD a b i) i + 4 * prd i)) (fun w' => by have q := i64w ((gI (sD a b i) i : Int) + 4 * (prd i : Int)) (by omega) (by omega); go_simp) rfl rfl ?_
      refine SeqA.pure (.int .i64 i) (fun w' => by go_simp) rfl rfl ?_
      simp only [Act.put, List.setIfInBounds_toArray, List.set_cons_succ, List.set_cons_zero]
      refine SeqA.pure (.pointer (some ⟨w.heap.size + 1, i, none⟩)) (fun w' => by go_simp) rfl rfl ?_
      refine SeqA.read (U8 (g8 b i)) (fun w' M => by have c0 := cell_g8 (M.row (b := w.heap.size + 1) (c := cs U8 b) (by simp)) (i := i) (by rw [HB.out]; exact hi32); go_simp) rfl rfl ?_
      refine SeqA.pure (I64 (g8 b i).toNat) (fun w' => by go_simp) rfl rfl ?_
      refine SeqA.pure (I64 m) (fun w' => by have q := HM.out; have q2 := i64w (m : Int) (by omega) (by omega); go_simp) rfl rfl ?_
      refine SeqA.pure (.pointer (some ⟨g, i, none⟩)) (fun w' => by go_simp) rfl rfl ?_
      refine SeqA.nil (fun w1 M2 hz => ?_)
      show wpT _ _ _ _ _ _
      simp only [Act.put, List.setIfInBounds_toArray, List.set_cons_succ, List.set_cons_zero]
      refine wpT_stc M2 0 (I64 m) (cs I64 ((sD a b i).set i m) ++ R) inf_int rfl rfl rfl rfl (by go_simp) (by go_simp) (by have := (by rw [hL]; exact hi32 : i < (sD a b i).length); first | (simp; done) | (simpa using this) | (simp; omega)) (by simp [go_sem]) (set_gI (by rw [hL]; exact hi32) _) rfl (fun w3 M4 => ?_)
      dsimp only [List.set] at M4
      dsimp only [wpT]
      go_wp2_with fail
      go_roundw
      case rel => exact ⟨i + 1, by omega, by go_num, by
          rw [HS.out]
          have e := HMN.out
          rw [e] at M4; exact M4⟩
      case measure => simp [intOf]; omega
    · have : i = 32 := by omega
      subst this
      have HL2 := hid hl
      have HB2 := hid (fun x hx => by have := hle x hx; omega : ∀ x ∈ sD a b 32, x ≤ 2147483648)
      clear hle hl hL
      have r4 := M.row (b := w.heap.size + 1 + 1) (c := cs U8 (zs 32)) (by simp)
      clear r4
      have HI := hid (M.is (g := g) (l := (sD a b 32)) (R := R) (n := 32) (cap := cap) (by simp) (HL2.out.symm) (HCAP.out) (HMX.out))
      go_upto_region 6 with fail
      go_wp2_with fail
      with_reducible refine ((rcarried_any wr _ (sD a b 32) HI.out HB2.out (by rw [HL2.out]; decide) (by rw [HL2.out]; decide)).mono ?_)
      rintro e w5 ⟨rfl, hb5⟩
      have M5 := M.below hb5
      clear hb5
      dsimp only
      go_wp2_with fail
      with_reducible refine ((rcanon_any w5 (carL (sD a b 32)) HCN.out.1).mono ?_)
      rintro e w6 ⟨rfl, hb6⟩
      have M6 := M5.below hb6
      rw [HCN.out.2]
      have r2 := M6.row (b := w.heap.size + 1 + 1) (c := cs U8 (zs 32)) (by simp)
      have f3 := M6.free (b := w.heap.size + 1 + 1) (c := cs U8 (zs 32)) (by simp)
      have hkl := cn_len (leN a + 4 * P - leN b)
      clear hb6
      dsimp only
      go_wp2_with fail
      have M7 := M6.set 1 (cs U8 (cn (leN a + 4 * P - leN b))) rfl
      dsimp only [List.set] at M7
      have r4 := M7.row (b := w.heap.size + 1 + 1) (c := cs U8 (cn (leN a + 4 * P - leN b))) (by simp)
      refine bodyPost_ret (res_row (b := w.heap.size + 1 + 1) rfl Try.underlying23 rfl inf_key _ _ rfl (by rw [r4]; simp)) rfl ?_
      rw [r4]
      exact ⟨rfl, M7.end_⟩
def z64 : List Nat := List.replicate 64 0
theorem rd_mk64 (w : World) : (Instr.makeSlice 46 (.int .i64 64) (.int .i64 64)).run Try.prog w = .ok (.slice (some ⟨w.heap.size, 0, none⟩) 64 64) (w.alloc (.cells (cs I64 z64 ++ #[]) 3)) := by kernel_rfl
set_option maxRecDepth 100000 in
set_option maxHeartbeats 4000000 in
theorem rmul_any (w : World) (a b : List (BitVec 8)) (ha : a.length = 32) (hb : b.length = 32) :
    Calls Try.prog 27 #[.agg (cs U8 a), .agg (cs U8 b)] w fun e w' => e = .returned (.agg (cs U8 (cn (leN a * leN b)))) ∧ Below w.heap.size w w' := by
  have HSP := hid (mO_spec ha hb)
  have HCN := hid (carL_cn (l := mO a b 32) (fun x hx => by have := (mO_spec ha hb 32 (Nat.le_refl _)).2.1 x hx; omega) (by rw [(mO_spec ha hb 32 (Nat.le_refl _)).1]; decide) (by rw [(mO_spec ha hb 32 (Nat.le_refl _)).1]; decide) (by rw [mO_end ha hb]))
  have HO0 := hid (mO_zero a b); have HOS := hid (mO_succ a b)
  have M0 := Mm.start no w
  have M1 := (((M0.alloc (cs U8 a) 23 (by decide)).alloc (cs U8 b) 23 (by decide)).alloc (cs U8 (zs 32)) 23 (by decide))
  simp only [World.size_alloc] at M1
  have HA := hid ha; have HB := hid hb
  clear ha hb
  go_enter Try.func27, Try.ntmps27
  go_upto_region 1 with fail
  obtain ⟨w1, hw1⟩ : ∃ w1, w1 = (((w.alloc (.cells (cs U8 a) 23)).alloc (.cells (cs U8 b) 23)).alloc (.cells (cs U8 (zs 32)) 23)) := ⟨_, rfl⟩
  rw [← hw1] at M1 ⊢
  clear hw1
  have hmk := rd_mk64
  obtain ⟨R, hR⟩ : ∃ R, R = (#[] : Array Value) := ⟨_, rfl⟩
  rw [← hR] at hmk
  have M2 := M1.alloc (cs I64 z64 ++ R) 3 (by decide)
  obtain ⟨g, hg⟩ : ∃ b, b = w1.heap.size := ⟨_, rfl⟩
  clear hR
  go_upto_region 2 with fail
  obtain ⟨w2, hw2⟩ : ∃ w2, w2 = w1.alloc (.cells (cs I64 z64 ++ R) 3) := ⟨_, rfl⟩
  rw [← hg, ← hw2] at M2
  rw [← hg, ← hw2]
  clear hg hw2 hmk M1 M0
  go_wp2_with fail
  go_loopw [6] (fun t wr => ∃ i : Nat, i ≤ 32 ∧ t = .int .i64 i ∧ Mm no w [(g, cs I64 (mO a b i) ++ R), (w.heap.size + 1 + 1, cs U8 (zs 32)), (w.heap.size + 1, cs U8 b), (w.heap.size, cs U8 a)] wr) (fun t _ => 32 - (intOf t).toNat)
  case atStart => exact ⟨0, by omega, rfl, by rw [HO0.out]; exact M2⟩
  case round =>
    clear M2
    obtain ⟨i, hi, rfl, M⟩ := hrel
    obtain ⟨hl, hle, -⟩ := HSP.out i hi
    by_cases hi32 : i < 32
    · obtain ⟨x, hx⟩ : ∃ x, x = (a.getD i 0).toNat := ⟨_, rfl⟩
      have hxl : x ≤ 255 := by rw [hx]; have := (a.getD i 0).isLt; omega
      have HMI := hid (mI_spec (b := b) (i := i) (x := x) hl HB.out hi32 hxl hle)
      obtain ⟨L, hLL⟩ : ∃ L, L = mO a b i := ⟨_, rfl⟩
      rw [← hLL] at HMI M
      have HLL := hid hLL
      have HI0 := hid (mI_zero L b i x); have HIS := hid (mI_succ L b i x)
      have hxI : ((g8 a i).toNat : Int) = (x : Int) := by rw [hx]; rfl
      have HX := hid hxI; have HXN := hid hx
      have q0 : (0 : Int) ≤ i := by omega
      have q1 : (i : Int) < 32 := by omega
      clear hl hle hx hxI hLL
      go_wp2_with fail
      obtain ⟨wo, hwo⟩ : ∃ wo, wo = wr := ⟨_, rfl⟩
      rw [← hwo] at M ⊢
      clear hwo
      go_loopw [7] (fun t wr => ∃ k : Nat, k ≤ 32 ∧ t = .int .i64 k ∧ Mm no w [(g, cs I64 (mI L b i x k) ++ R), (w.heap.size + 1 + 1, cs U8 (zs 32)), (w.heap.size + 1, cs U8 b), (w.heap.size, cs U8 a)] wr) (fun t _ => 32 - (intOf t).toNat)
      case atStart => exact ⟨0, by omega, rfl, by rw [HI0.out]; exact M⟩
      case round =>
        clear M
        obtain ⟨k, hk, rfl, M⟩ := hrel
        obtain ⟨hl, hle, -⟩ := HMI.out k hk
        have hL := hid hl
        by_cases hk32 : k < 32
        · obtain ⟨j, hj⟩ : ∃ j, j = i + k := ⟨_, rfl⟩
          have hj64 : j < 64 := by omega
          have hjI : ((i : Int) + (k : Int)) = (j : Int) := by omega
          have hx1 : gI (mI L b i x k) j ≤ i * 2080800 + k * 65025 := getD_le hle j
          obtain ⟨m, hm⟩ : ∃ m, m = x * (g8 b k).toNat := ⟨_, rfl⟩
          have hx2 := (g8 b k).isLt
          have hml : m ≤ 255 * 255 := by rw [hm]; exact Nat.mul_le_mul hxl (by omega)
          have hmI : ((x : Int) * ((g8 b k).toNat : Int)) = (m : Int) := by rw [hm]; simp
          have HM := hid hmI; have HJ := hid hjI; have HMN := hid hm; have HJN := hid hj
          have p0 : (0 : Int) ≤ k := by omega
          have p1 : (k : Int) < 32 := by omega
          have p2 : (j : Int) < 64 := by omega
          clear hl hle hm hmI hj hjI
          go_upto_region 8 with fail
          have hxl2 := hxl
          refine wp_region_seq 21 [17, 18, 19, 20, 21, 22, 23, 24, 25, 26, 27, 28, 29, 30, 31, 32, 33, 34, 35, 36, 37] [] [] [] (.op 21 .done) (Mm no w _) (by kernel_rfl) (by kernel_rfl) (by kernel_rfl) (fun d _ _ _ _ h => by cases d <;> exact h) (by rfl) M.size (fun _ _ h k => h.sf k) M ?_
          simp only [List.take_succ_cons, List.take_zero]
          refine SeqA.pure (.slice (some ⟨g, 0, none⟩) 64 64) (fun w' => by go_simp) rfl rfl ?_
          refine SeqA.pure (.int .i64 i) (fun w' => by go_simp) rfl rfl ?_
          refine SeqA.pure (.int .i64 k) (fun w' => by go_simp) rfl rfl ?_
          refine SeqA.pure (.int .i64 j) (fun w' => by have q := HJ.out; have q2 := i64w (j : Int) (by omega) (by omega); go_simp) rfl rfl ?_
          refine SeqA.pure (.slice (some ⟨g, 0, none⟩) 64 64) (fun w' => by go_simp) rfl rfl ?_
          simp only [Act.put, List.setIfInBounds_toArray, List.set_cons_succ, List.set_cons_zero]
          refine SeqA.pure (.int .i64 i) (fun w' => by go_simp) rfl rfl ?_
          refine SeqA.pure (.int .i64 k) (fun w' => by go_simp) rfl rfl ?_
          refine SeqA.pure (.int .i64 j) (fun w' => by have q := HJ.out; have q2 := i64w (j : Int) (by omega) (by omega); go_simp) rfl rfl ?_
          refine SeqA.pure (.pointer (some ⟨g, j, none⟩)) (fun w' => by go_simp) rfl rfl ?_
          refine SeqA.read (I64 (gI (mI L b i x k) j)) (fun w' M => by have c0 := cell_gI (M.row (b := g) (c := cs I64 (mI L b i x k) ++ R) (by simp)) (i := j) (by rw [hL]; exact hj64); go_simp) rfl rfl ?_
          refine SeqA.pure (.int .i64 i) (fun w' => by go_simp) rfl rfl ?_
          simp only [Act.put, List.setIfInBounds_toArray, List.set_cons_succ, List.set_cons_zero]
          refine SeqA.pure (.pointer (some ⟨w.heap.size, i, none⟩)) (fun w' => by go_simp) rfl rfl ?_
          refine SeqA.read (U8 (g8 a i)) (fun w' M => by have c0 := cell_g8 (M.row (b := w.heap.size) (c := cs U8 a) (by simp)) (i := i) (by rw [HA.out]; exact hi32); go_simp) rfl rfl ?_
          refine SeqA.pure (I64 x) (fun w' => by have q := HX.out; go_simp) rfl rfl ?_
          refine SeqA.pure (.int .i64 k) (fun w' => by go_simp) rfl rfl ?_
          refine SeqA.pure (.pointer (some ⟨w.heap.size + 1, k, none⟩)) (fun w' => by go_simp) rfl rfl ?_
          refine SeqA.read (U8 (g8 b k)) (fun w' M => by have c0 := cell_g8 (M.row (b := w.heap.size + 1) (c := cs U8 b) (by simp)) (i := k) (by rw [HB.out]; exact hk32); go_simp) rfl rfl ?_
          simp only [Act.put, List.setIfInBounds_toArray, List.set_cons_succ, List.set_cons_zero]
          refine SeqA.pure (I64 (g8 b k).toNat) (fun w' => by go_simp) rfl rfl ?_
          refine SeqA.pure (I64 m) (fun w' => by have q := HM.out; have q2 := i64w (m : Int) (by omega) (by omega); go_simp) rfl rfl ?_
          refine SeqA.pure (I64 (gI (mI L b i x k) j + m)) (fun w' => by have q := i64w ((gI (mI L b i x k) j : Int) + (m : Int)) (by omega) (by omega); go_simp) rfl rfl ?_
          refine SeqA.pure (.pointer (some ⟨g, j, none⟩)) (fun w' => by go_simp) rfl rfl ?_
          refine SeqA.nil (fun w1 M2 hz => ?_)
          show wpT _ _ _ _ _ _
          simp only [Act.put, List.setIfInBounds_toArray, List.set_cons_succ, List.set_cons_zero]
          refine wpT_stc M2 0 (I64 (gI (mI L b i x k) j + m)) (cs I64 ((mI L b i x k).set j (gI (mI L b i x k) j + m)) ++ R) inf_int rfl rfl rfl rfl (by go_simp) (by go_simp) (by have := (by rw [hL]; exact hj64 : j < (mI L b i x k).length); first | (simp; done) | (simpa using this) | (simp; omega)) (by simp [go_sem]) (set_gI (by rw [hL]; exact hj64) _) rfl (fun w3 M4 => ?_)
          dsimp only [List.set] at M4
          dsimp only [wpT]
          go_wp2_with fail
          go_roundw
          case rel => exact ⟨k + 1, by omega, by go_num, by
              rw [HIS.out]
              have e := HMN.out
              rw [e, HJN.out] at M4; exact M4⟩
          case measure => simp [intOf]; omega
        · have : k = 32 := by omega
          subst this
          rw [show ((32 : Nat) : Int) = 32 from rfl]
          go_wp2_with fail
          go_roundw
          case rel => exact ⟨i + 1, by omega, by go_num, by rw [HOS.out, ← HLL.out, ← HXN.out]; exact M⟩
          case measure => simp [intOf]; omega
    · have : i = 32 := by omega
      subst this
      have HL2 := hid hl
      have HB2 := hid (fun x hx => by have := hle x hx; omega : ∀ x ∈ mO a b 32, x ≤ 2147483648)
      clear hle hl
      have r4 := M.row (b := w.heap.size + 1 + 1) (c := cs U8 (zs 32)) (by simp)
      clear r4
      have HI := hid (M.is (g := g) (l := (mO a b 32)) (R := R) (n := 64) (cap := 64) (by simp) (HL2.out.symm) (Nat.le_refl _) (by decide))
      go_upto_region 9 with fail
      go_wp2_with fail
      with_reducible refine ((rcarried_any wr _ (mO a b 32) HI.out HB2.out (by rw [HL2.out]; decide) (by rw [HL2.out]; decide)).mono ?_)
      rintro e w5 ⟨rfl, hb5⟩
      have M5 := M.below hb5
      clear hb5
      dsimp only
      go_wp2_with fail
      with_reducible refine ((rcanon_any w5 (carL (mO a b 32)) HCN.out.1).mono ?_)
      rintro e w6 ⟨rfl, hb6⟩
      have M6 := M5.below hb6
      rw [HCN.out.2]
      have r2 := M6.row (b := w.heap.size + 1 + 1) (c := cs U8 (zs 32)) (by simp)
      have f3 := M6.free (b := w.heap.size + 1 + 1) (c := cs U8 (zs 32)) (by simp)
      have hkl := cn_len (leN a * leN b)
      clear hb6
      dsimp only
      go_wp2_with fail
      have M7 := M6.set 1 (cs U8 (cn (leN a * leN b))) rfl
      dsimp only [List.set] at M7
      have r4 := M7.row (b := w.heap.size + 1 + 1) (c := cs U8 (cn (leN a * leN b))) (by simp)
      refine bodyPost_ret (res_row (b := w.heap.size + 1 + 1) rfl Try.underlying23 rfl inf_key _ _ rfl (by rw [r4]; simp)) rfl ?_
      rw [r4]
      exact ⟨rfl, M7.end_⟩
end Go.Proofs.Ytgneclfnfnpmkaa
