/-
  Walks of package fe: differences; own work.
-/
import Derived.Test.YtgneclfnfnpmkaaFe2
set_option linter.unusedSimpArgs false
set_option linter.unusedVariables false
namespace Go.Proofs.Ytgneclfnfnpmkaa.Fp
/-- a borrow goes up -/
def bL (l : List Nat) (n : Nat) : Nat → List Nat × Nat
  | 0 => (l, n)
  | i + 1 => ((bL l n i).1.set i (((bL l n i).1.getD i 0 + 18446744073709551616 - (bL l n i).2) % 18446744073709551616), if (bL l n i).1.getD i 0 < (bL l n i).2 then 1 else 0)
theorem bL_step {a c : Nat} (ha : a < M64) (hc : c ≤ M64) : (a + 18446744073709551616 - c) % 18446744073709551616 + c = a + M64 * (if a < c then 1 else 0) := by
  simp only [M64] at *
  split <;> omega
theorem bL_spec {l : List Nat} (h : Lm l) (n : Nat) (hn : n ≤ M64) : ∀ i, i ≤ 4 → Lm (bL l n i).1 ∧ (bL l n i).2 ≤ M64 ∧ (0 < i → (bL l n i).2 ≤ 1) ∧ vn (bL l n i).1 + n = vn l + M64 ^ i * (bL l n i).2
  | 0, _ => ⟨h, hn, fun h => absurd h (Nat.lt_irrefl _), by simp [bL]⟩
  | i + 1, hi => by
    obtain ⟨h1, h0, _, h2⟩ := bL_spec h n hn i (by omega)
    have h5 := bL_step (h1.getD i) h0
    refine ⟨h1.set _ _ (Nat.mod_lt _ (by decide)), by simp only [bL]; simp only [M64]; split <;> omega, fun _ => by simp only [bL]; split <;> omega, ?_⟩
    have h3 := vn_set h1 (show i < 4 by omega) (((bL l n i).1.getD i 0 + 18446744073709551616 - (bL l n i).2) % 18446744073709551616)
    have h6 := congrArg (M64 ^ i * ·) h5
    simp only [Nat.mul_add] at h6
    simp only [bL, Nat.pow_succ]
    rw [Nat.mul_assoc]
    omega
theorem bL4 (x : Nat) : (bL (limbs x) 38 4).1 = limbs (if 38 ≤ x % M256 then x % M256 - 38 else x % M256 + M256 - 38) ∧ (bL (limbs x) 38 4).2 = if x % M256 < 38 then 1 else 0 := by
  obtain ⟨h1, _, h0, h2⟩ := bL_spec (limbs_lm x) 38 (by decide) 4 (Nat.le_refl _)
  rw [M64_pow4, vn_limbs] at h2
  exact lm_sub h1 (mod256_lt x) (by decide) (h0 (by decide)) h2
theorem bL_zero (l : List Nat) (n : Nat) : bL l n 0 = (l, n) := rfl
theorem bL_succ (l : List Nat) (n i : Nat) : bL l n (i + 1) = ((bL l n i).1.set i (((bL l n i).1.getD i 0 + 18446744073709551616 - (bL l n i).2) % 18446744073709551616), if (bL l n i).1.getD i 0 < (bL l n i).2 then 1 else 0) := rfl
theorem dL_zero (l m : List Nat) (b : Nat) : dL l m b 0 = (l, b) := rfl
theorem dL_succ (l m : List Nat) (b i : Nat) : dL l m b (i + 1) = ((dL l m b i).1.set i (((dL l m b i).1.getD i 0 + 18446744073709551616 - m.getD i 0 - (dL l m b i).2) % 18446744073709551616), if (dL l m b i).1.getD i 0 < m.getD i 0 + (dL l m b i).2 then 1 else 0) := rfl
/-- what comes of a number, if 2^256 has been borrowed -/
def unb (v b : Nat) : Nat := if b = 0 then v else if 38 ≤ v then v - 38 else v + M256 - 76
theorem unb_step {v : Nat} (hv : v < M256) : unb (if 38 ≤ v then v - 38 else v + M256 - 38) (if v < 38 then 1 else 0) = unb v 1 ∧ (if 38 ≤ v then v - 38 else v + M256 - 38) < M256 := by
  unfold unb
  simp only [M256] at *
  by_cases h : 38 ≤ v
  · have h2 : ¬ v < 38 := by omega
    simp only [h, h2, if_true, if_false, Nat.one_ne_zero]; exact ⟨trivial, by omega⟩
  · have h2 : v < 38 := by omega
    have h3 : 38 ≤ v + 115792089237316195423570985008687907853269984665640564039457584007913129639936 - 38 := by omega
    simp only [h, h2, h3, if_true, if_false, Nat.one_ne_zero]; omega
theorem unb_sub (x y : Nat) : unb (if y % M256 ≤ x % M256 then x % M256 - y % M256 else x % M256 + M256 - y % M256) (if x % M256 < y % M256 then 1 else 0) = subV x y ∧ (if y % M256 ≤ x % M256 then x % M256 - y % M256 else x % M256 + M256 - y % M256) < M256 := by
  have h1 := mod256_lt x
  have h2 := mod256_lt y
  unfold unb subV
  by_cases h : y % M256 ≤ x % M256
  · have h3 : ¬ x % M256 < y % M256 := by omega
    simp only [h, h3, if_true, if_false]
    exact ⟨trivial, by omega⟩
  · have h3 : x % M256 < y % M256 := by omega
    simp only [h, h3, if_true, if_false, Nat.one_ne_zero]
    exact ⟨trivial, by omega⟩
end Go.Proofs.Ytgneclfnfnpmkaa.Fp
namespace Go.Proofs.Ytgneclfnfnpmkaa
open Go.RowKit Fp
def msub (c : Value) (w : World) (b : Nat) : Nat := (intOf c).toNat * (if 38 ≤ mvn (w.rowOf b) then 1 else 2)
attribute [local irreducible] dL bL
set_option maxRecDepth 100000 in
set_option maxHeartbeats 4000000 in
theorem nsub_any (w : World) (x y : Nat) :
    Calls Try.prog 47 #[.agg (cs N64 (limbs x)), .agg (cs N64 (limbs y))] w fun e w' => e = .returned (.agg (cs N64 (limbs (subV x y)))) ∧ Below w.heap.size w w' := by
  have M0 := Mm.start no w
  have M1 := (((M0.alloc (cs N64 (limbs x)) 42 (by decide)).alloc (cs N64 (limbs y)) 42 (by decide)).alloc (cs N64 (limbs 0)) 42 (by decide))
  simp only [World.size_alloc] at M1
  have HA0 := hid (dL_zero (limbs x) (limbs y) 0)
  have HAS := hid (dL_succ (limbs x) (limbs y) 0)
  go_enter Try.func47, Try.ntmps47
  go_wp2_with fail
  go_loopw [5, 8] (fun c t wr => ∃ i : Nat, i ≤ 4 ∧ t = .int .i64 i ∧ c = N64 (dL (limbs x) (limbs y) 0 i).2 ∧ Mm no w [(w.heap.size + 1 + 1, cs N64 (limbs 0)), (w.heap.size + 1, cs N64 (limbs y)), (w.heap.size, cs N64 (dL (limbs x) (limbs y) 0 i).1)] wr) (fun _ t _ => 4 - (intOf t).toNat)
  case atStart => exact ⟨0, by omega, rfl, by rw [HA0.out]; rfl, by rw [HA0.out]; exact M1⟩
  case round =>
    clear M1 M0
    obtain ⟨i, hi, rfl, rfl, M⟩ := hrel
    obtain ⟨hl, hc, -⟩ := dL_spec (limbs_lm x) (limbs_lm y) 0 (by decide) i hi
    have hL := hid hl.len
    clear hl
    by_cases hlt : i < 4
    · go_upto_region 5 with fail
      refine wp_region_seq 13 [12, 13, 14, 15, 16, 17, 18, 19, 20, 11, 21, 22, 23] [] [11] [] (.op 13 (.op 14 .done)) (Mm no w _) (by kernel_rfl) (by kernel_rfl) (by kernel_rfl) (fun d _ _ _ _ h => by cases d <;> exact h) (by rfl) M.size (fun _ _ h k => h.sf k) M ?_
      simp only [List.take_succ_cons, List.take_zero]
      refine SeqA.pure (.int .i64 i) (fun w' => by go_simp) rfl rfl ?_
      refine SeqA.pure (.int .i64 i) (fun w' => by go_simp) rfl rfl ?_
      refine SeqA.pure (.pointer (some ⟨w.heap.size, i, none⟩)) (fun w' => by go_simp) rfl rfl ?_
      refine SeqA.read (N64 (gN (dL (limbs x) (limbs y) 0 i).1 i)) (fun w' M => by have c0 := cell_gN (M.row (b := w.heap.size) (c := cs N64 (dL (limbs x) (limbs y) 0 i).1) (by simp)) (i := i) (by rw [hL]; exact hlt); go_simp) rfl rfl ?_
      refine SeqA.pure (.int .i64 i) (fun w' => by go_simp) rfl rfl ?_
      simp only [Act.put, List.setIfInBounds_toArray, List.set_cons_succ, List.set_cons_zero]
      refine SeqA.pure (.pointer (some ⟨w.heap.size + 1, i, none⟩)) (fun w' => by go_simp) rfl rfl ?_
      refine SeqA.read (N64 (gN (limbs y) i)) (fun w' M => by have c0 := cell_gN (M.row (b := w.heap.size + 1) (c := cs N64 (limbs y)) (by simp)) (i := i) (by exact hlt); go_simp) rfl rfl ?_
      refine SeqA.pure (N64 (dL (limbs x) (limbs y) 0 i).2) (fun w' => by go_simp) rfl rfl ?_
      refine SeqA.pure (.tuple #[N64 (((gN (dL (limbs x) (limbs y) 0 i).1 i) + 18446744073709551616 - (gN (limbs y) i) - ((dL (limbs x) (limbs y) 0 i).2)) % 18446744073709551616), N64 (bw (gN (dL (limbs x) (limbs y) 0 i).1 i) ((gN (limbs y) i) + ((dL (limbs x) (limbs y) 0 i).2)))]) (fun w' => by have q := sub64i (gN (dL (limbs x) (limbs y) 0 i).1 i) (gN (limbs y) i) ((dL (limbs x) (limbs y) 0 i).2) _ _ _ rfl rfl rfl (by omega) w'; (try simp only [Nat.add_zero, Nat.zero_add, Nat.sub_zero] at q); go_simp) rfl rfl ?_
      refine SeqA.pure (.tuple #[N64 (((gN (dL (limbs x) (limbs y) 0 i).1 i) + 18446744073709551616 - (gN (limbs y) i) - ((dL (limbs x) (limbs y) 0 i).2)) % 18446744073709551616), N64 (bw (gN (dL (limbs x) (limbs y) 0 i).1 i) ((gN (limbs y) i) + ((dL (limbs x) (limbs y) 0 i).2)))]) (fun w' => by go_simp) rfl rfl ?_
      refine SeqA.pure (N64 (((gN (dL (limbs x) (limbs y) 0 i).1 i) + 18446744073709551616 - (gN (limbs y) i) - ((dL (limbs x) (limbs y) 0 i).2)) % 18446744073709551616)) (fun w' => by go_simp) rfl rfl ?_
      simp only [Act.put, List.setIfInBounds_toArray, List.set_cons_succ, List.set_cons_zero]
      refine SeqA.pure (N64 (bw (gN (dL (limbs x) (limbs y) 0 i).1 i) ((gN (limbs y) i) + ((dL (limbs x) (limbs y) 0 i).2)))) (fun w' => by go_simp) rfl rfl ?_
      refine SeqA.pure (.pointer (some ⟨w.heap.size, i, none⟩)) (fun w' => by go_simp) rfl rfl ?_
      refine SeqA.nil (fun w1 M2 hz => ?_)
      show wpT _ _ _ _ _ _
      simp only [Act.put, List.setIfInBounds_toArray, List.set_cons_succ, List.set_cons_zero]
      refine wpT_stc M2 2 (N64 (((gN (dL (limbs x) (limbs y) 0 i).1 i) + 18446744073709551616 - (gN (limbs y) i) - ((dL (limbs x) (limbs y) 0 i).2)) % 18446744073709551616)) (cs N64 ((dL (limbs x) (limbs y) 0 i).1.set i (((gN (dL (limbs x) (limbs y) 0 i).1 i) + 18446744073709551616 - (gN (limbs y) i) - ((dL (limbs x) (limbs y) 0 i).2)) % 18446744073709551616))) inf_u64 rfl rfl rfl rfl (by go_simp) (by go_simp) (by have := (by rw [hL]; exact hlt : i < (dL (limbs x) (limbs y) 0 i).1.length); first | (simp; done) | (simpa using this) | (simp; omega)) (by simp [go_sem]) (cs_set _ _) rfl (fun w3 M4 => ?_)
      dsimp only [List.set] at M4
      refine wpT_val (v := N64 (bw (gN (dL (limbs x) (limbs y) 0 i).1 i) ((gN (limbs y) i) + ((dL (limbs x) (limbs y) 0 i).2)))) rfl rfl rfl ?_
      dsimp only [wpT]
      simp only [Act.put, List.setIfInBounds_toArray, List.set_cons_succ, List.set_cons_zero]
      go_wp2_with fail
      go_roundw
      case rel => exact ⟨i + 1, by omega, by go_num, by rw [HAS.out]; rfl, by rw [HAS.out]; exact M4⟩
      case measure => simp [intOf]; omega
    · have : i = 4 := by omega
      subst this
      have e4 := dL4 x y
      obtain ⟨hu, hv0⟩ := unb_sub x y
      rw [e4.1] at M
      rw [e4.2]
      obtain ⟨s, hs⟩ : ∃ s, s = if y % M256 ≤ x % M256 then x % M256 - y % M256 else x % M256 + M256 - y % M256 := ⟨_, rfl⟩
      obtain ⟨b0, hb0⟩ : ∃ b, b = if x % M256 < y % M256 then 1 else 0 := ⟨_, rfl⟩
      have hb1 : b0 ≤ 1 := by rw [hb0]; split <;> omega
      rw [← hs] at M hu hv0
      rw [← hb0] at hu ⊢
      have HU := hid hu; have HV0 := hid hv0
      clear e4 hs hb0 hu hv0 hL hc hi hlt
      rw [show ((4 : Nat) : Int) = 4 from rfl]
      go_upto_block 2 with fail
      obtain ⟨wo, hwo⟩ : ∃ wo, wo = wr := ⟨_, rfl⟩
      rw [← hwo] at M ⊢
      clear hwo
      go_wp2_with fail
      go_loopw [5] (fun c wr => ∃ v b : Nat, v < M256 ∧ b ≤ 1 ∧ unb v b = subV x y ∧ c = N64 b ∧ Mm no w [(w.heap.size + 1 + 1, cs N64 (limbs 0)), (w.heap.size + 1, cs N64 (limbs y)), (w.heap.size, cs N64 (limbs v))] wr) (fun c wr => msub c wr w.heap.size)
      case atStart => exact ⟨s, b0, HV0.out, hb1, HU.out, rfl, M⟩
      case round =>
        clear M hb1
        obtain ⟨v, b, hv, hb, hu, rfl, M⟩ := hrel
        have hmv : mvn (wr.rowOf w.heap.size) = v := by rw [M.row (b := w.heap.size) (c := cs N64 (limbs v)) (by simp), mvn_cs, vn_limbs, Nat.mod_eq_of_lt hv]
        have HMV := hid hmv; have HV := hid hv; have HU2 := hid hu
        clear hmv hv hu
        by_cases hb0 : b = 0
        · subst hb0
          go_upto_region 13 with fail
          have r2 := M.row (b := w.heap.size) (c := cs N64 (limbs v)) (by simp)
          have f3 := M.free (b := w.heap.size + 1 + 1) (c := cs N64 (limbs 0)) (by simp)
          have r3 := M.row (b := w.heap.size + 1 + 1) (c := cs N64 (limbs 0)) (by simp)
          go_wp2_with fail
          have M3 := M.set 0 (cs N64 (limbs v)) rfl
          dsimp only [List.set] at M3
          have r4 := M3.row (b := w.heap.size + 1 + 1) (c := cs N64 (limbs v)) (by simp)
          refine bodyPost_ret (res_row (b := w.heap.size + 1 + 1) rfl Try.underlying42 rfl inf_num _ _ rfl (by rw [r4]; simp)) rfl ?_
          rw [r4]
          exact ⟨by rw [← HU2.out]; rfl, M3.end_⟩
        · have hb2 : b = 1 := by omega
          subst hb2
          have hb0 : True := trivial
          clear hb
          go_upto_region 8 with fail
          refine wp_region_seqF 7 [28, 29, 30, 27, 31, 32, 33] [] [5] [] (.op 7 (.op 8 .done)) (Mm no w _) (by kernel_rfl) (by kernel_rfl) (fun d _ _ _ _ h => by cases d <;> exact h) (by rfl) M.size (fun _ _ h k => h.sf k) M (by kernel_rfl) ?_
          simp only [List.take_succ_cons, List.take_zero]
          refine SeqA.pure (.pointer (some ⟨w.heap.size, 0, none⟩)) (fun w' => by go_simp) rfl rfl ?_
          refine SeqA.read (N64 (gN (limbs v) 0)) (fun w' M => by have c0 := cell_gN (M.row (b := w.heap.size) (c := cs N64 (limbs v)) (by simp)) (i := 0) (by simp); go_simp) rfl rfl ?_
          refine SeqA.pure (.tuple #[N64 (((gN (limbs v) 0) + 18446744073709551616 - 38) % 18446744073709551616), N64 (bw (gN (limbs v) 0) (38))]) (fun w' => by have q := sub64i (gN (limbs v) 0) 38 0 _ 38 0 rfl rfl rfl (by decide) w'; (try simp only [Nat.add_zero, Nat.zero_add, Nat.sub_zero] at q); go_simp) rfl rfl ?_
          refine SeqA.pure (.tuple #[N64 (((gN (limbs v) 0) + 18446744073709551616 - 38) % 18446744073709551616), N64 (bw (gN (limbs v) 0) (38))]) (fun w' => by go_simp) rfl rfl ?_
          refine SeqA.pure (N64 (((gN (limbs v) 0) + 18446744073709551616 - 38) % 18446744073709551616)) (fun w' => by go_simp) rfl rfl ?_
          simp only [Act.put, List.setIfInBounds_toArray, List.set_cons_succ, List.set_cons_zero]
          refine SeqA.pure (N64 (bw (gN (limbs v) 0) (38))) (fun w' => by go_simp) rfl rfl ?_
          refine SeqA.pure (.pointer (some ⟨w.heap.size, 0, none⟩)) (fun w' => by go_simp) rfl rfl ?_
          refine SeqA.nil (fun w1 M2 hz => ?_)
          show wpT _ _ _ _ _ _
          simp only [Act.put, List.setIfInBounds_toArray, List.set_cons_succ, List.set_cons_zero]
          refine wpT_stc M2 2 (N64 (((gN (limbs v) 0) + 18446744073709551616 - 38) % 18446744073709551616)) (cs N64 ((limbs v).set 0 (((gN (limbs v) 0) + 18446744073709551616 - 38) % 18446744073709551616))) inf_u64 rfl rfl rfl rfl (by go_simp) (by go_simp) (by have := (by simp : 0 < (limbs v).length); first | (simp; done) | (simpa using this) | (simp; omega)) (by simp [go_sem]) (cs_set _ _) rfl (fun w3 M4 => ?_)
          dsimp only [List.set] at M4
          refine wpT_val (v := N64 (bw (gN (limbs v) 0) (38))) rfl rfl rfl ?_
          dsimp only [wpT]
          simp only [Act.put, List.setIfInBounds_toArray, List.set_cons_succ, List.set_cons_zero]
          go_wp2_with fail
          obtain ⟨wp, hwp⟩ : ∃ wp, wp = w3 := ⟨_, rfl⟩
          rw [← hwp] at M4 ⊢
          clear hwp M M2
          have HB0 := hid (bL_zero (limbs v) 38)
          have HBS := hid (bL_succ (limbs v) 38)
          have M5 : Mm no w [(w.heap.size + 1 + 1, cs N64 (limbs 0)), (w.heap.size + 1, cs N64 (limbs y)), (w.heap.size, cs N64 (bL (limbs v) 38 1).1)] wp := by rw [HBS.out, HB0.out]; exact M4
          clear M4
          go_loopw [5, 7] (fun c t ws => ∃ i : Nat, 1 ≤ i ∧ i ≤ 4 ∧ t = .int .i64 i ∧ c = N64 (bL (limbs v) 38 i).2 ∧ Mm no w [(w.heap.size + 1 + 1, cs N64 (limbs 0)), (w.heap.size + 1, cs N64 (limbs y)), (w.heap.size, cs N64 (bL (limbs v) 38 i).1)] ws) (fun _ t _ => 4 - (intOf t).toNat)
          case atStart => exact ⟨1, by omega, by omega, rfl, by rw [HBS.out, HB0.out]; rfl, M5⟩
          case round =>
            clear M5
            obtain ⟨i, hi1, hi, rfl, rfl, M⟩ := hrel
            obtain ⟨hl, _, hc, -⟩ := bL_spec (limbs_lm v) 38 (by decide) i hi
            have hc := hc hi1
            have hL := hid hl.len
            clear hl
            by_cases hlt : i < 4
            · go_upto_region 12 with fail
              refine wp_region_seqF 10 [39, 40, 41, 42, 43, 44, 38, 45, 46, 47] [] [8] [] (.op 10 (.op 11 .done)) (Mm no w _) (by kernel_rfl) (by kernel_rfl) (fun d _ _ _ _ h => by cases d <;> exact h) (by rfl) M.size (fun _ _ h k => h.sf k) M (by kernel_rfl) ?_
              simp only [List.take_succ_cons, List.take_zero]
              refine SeqA.pure (.int .i64 i) (fun w' => by go_simp) rfl rfl ?_
              refine SeqA.pure (.int .i64 i) (fun w' => by go_simp) rfl rfl ?_
              refine SeqA.pure (.pointer (some ⟨w.heap.size, i, none⟩)) (fun w' => by go_simp) rfl rfl ?_
              refine SeqA.read (N64 (gN (bL (limbs v) 38 i).1 i)) (fun w' M => by have c0 := cell_gN (M.row (b := w.heap.size) (c := cs N64 (bL (limbs v) 38 i).1) (by simp)) (i := i) (by rw [hL]; exact hlt); go_simp) rfl rfl ?_
              refine SeqA.pure (N64 (bL (limbs v) 38 i).2) (fun w' => by go_simp) rfl rfl ?_
              simp only [Act.put, List.setIfInBounds_toArray, List.set_cons_succ, List.set_cons_zero]
              refine SeqA.pure (.tuple #[N64 (((gN (bL (limbs v) 38 i).1 i) + 18446744073709551616 - ((bL (limbs v) 38 i).2)) % 18446744073709551616), N64 (bw (gN (bL (limbs v) 38 i).1 i) (((bL (limbs v) 38 i).2)))]) (fun w' => by have q := sub64i (gN (bL (limbs v) 38 i).1 i) 0 ((bL (limbs v) 38 i).2) _ 0 _ rfl rfl rfl (by omega) w'; (try simp only [Nat.add_zero, Nat.zero_add, Nat.sub_zero] at q); go_simp) rfl rfl ?_
              refine SeqA.pure (.tuple #[N64 (((gN (bL (limbs v) 38 i).1 i) + 18446744073709551616 - ((bL (limbs v) 38 i).2)) % 18446744073709551616), N64 (bw (gN (bL (limbs v) 38 i).1 i) (((bL (limbs v) 38 i).2)))]) (fun w' => by go_simp) rfl rfl ?_
              refine SeqA.pure (N64 (((gN (bL (limbs v) 38 i).1 i) + 18446744073709551616 - ((bL (limbs v) 38 i).2)) % 18446744073709551616)) (fun w' => by go_simp) rfl rfl ?_
              refine SeqA.pure (N64 (bw (gN (bL (limbs v) 38 i).1 i) (((bL (limbs v) 38 i).2)))) (fun w' => by go_simp) rfl rfl ?_
              refine SeqA.pure (.pointer (some ⟨w.heap.size, i, none⟩)) (fun w' => by go_simp) rfl rfl ?_
              refine SeqA.nil (fun w1 M2 hz => ?_)
              show wpT _ _ _ _ _ _
              simp only [Act.put, List.setIfInBounds_toArray, List.set_cons_succ, List.set_cons_zero]
              refine wpT_stc M2 2 (N64 (((gN (bL (limbs v) 38 i).1 i) + 18446744073709551616 - ((bL (limbs v) 38 i).2)) % 18446744073709551616)) (cs N64 ((bL (limbs v) 38 i).1.set i (((gN (bL (limbs v) 38 i).1 i) + 18446744073709551616 - ((bL (limbs v) 38 i).2)) % 18446744073709551616))) inf_u64 rfl rfl rfl rfl (by go_simp) (by go_simp) (by have := (by rw [hL]; exact hlt : i < (bL (limbs v) 38 i).1.length); first | (simp; done) | (simpa using this) | (simp; omega)) (by simp [go_sem]) (cs_set _ _) rfl (fun w3 M4 => ?_)
              dsimp only [List.set] at M4
              refine wpT_val (v := N64 (bw (gN (bL (limbs v) 38 i).1 i) (((bL (limbs v) 38 i).2)))) rfl rfl rfl ?_
              dsimp only [wpT]
              simp only [Act.put, List.setIfInBounds_toArray, List.set_cons_succ, List.set_cons_zero]
              go_wp2_with fail
              go_roundw
              case rel => exact ⟨i + 1, by omega, by omega, by go_num, by rw [HBS.out]; rfl, by rw [HBS.out]; exact M4⟩
              case measure => simp [intOf]; omega
            · have : i = 4 := by omega
              subst this
              have e4 := bL4 v
              rw [Nat.mod_eq_of_lt HV.out] at e4
              obtain ⟨k1, k2⟩ := unb_step HV.out
              rw [e4.1] at M
              rw [e4.2]
              obtain ⟨v2, hv2⟩ : ∃ s, s = if 38 ≤ v then v - 38 else v + M256 - 38 := ⟨_, rfl⟩
              obtain ⟨b2, hb2⟩ : ∃ b, b = if v < 38 then 1 else 0 := ⟨_, rfl⟩
              have hb3 : b2 ≤ 1 := by rw [hb2]; split <;> omega
              rw [← hv2] at M k1 k2
              rw [← hb2] at k1 ⊢
              have HK1 := hid k1; have HK2 := hid k2; have HV2 := hid hv2; have HB2 := hid hb2
              clear e4 k1 k2 hv2 hb2 hL hc hi hlt hi1
              go_wp2_with fail
              go_roundw
              case rel => exact ⟨v2, b2, HK2.out, hb3, by rw [HK1.out]; exact HU2.out, rfl, M⟩
              case measure =>
                unfold msub
                rw [M.row (b := w.heap.size) (c := cs N64 (limbs v2)) (by simp), mvn_cs, vn_limbs, HMV.out, Nat.mod_eq_of_lt HK2.out]
                have h1 := HV2.out
                have h2 := HB2.out
                have h3 := HV.out
                simp only [intOf, M256] at *
                by_cases h : 38 ≤ v
                · rw [if_neg (by omega)] at h2; subst h2; simp [h]
                · rw [if_neg h] at h1
                  rw [if_pos (by omega)] at h2
                  subst h2
                  rw [if_neg h, if_pos (by omega)]; decide
end Go.Proofs.Ytgneclfnfnpmkaa
