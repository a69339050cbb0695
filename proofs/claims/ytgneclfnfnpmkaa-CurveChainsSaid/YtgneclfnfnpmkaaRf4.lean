/-
  Walks of reference 01: what is left; own work.
-/
import Derived.Test.YtgneclfnfnpmkaaRf3
import Derived.Test.YtgneclfnfnpmkaaRfN
set_option linter.unusedSimpArgs false
set_option linter.unusedVariables false
namespace Go.Proofs.Ytgneclfnfnpmkaa
open Go.RowKit Fp
theorem rprime_b (w : World) (i : Nat) (hi : i < 32) :
    Calls Try.prog 48 #[.int .i64 i] w fun e w' => e = .returned (I64 (prd i)) ∧ Below w.heap.size w w' :=
  (rprime_any w i hi).mono fun e w' ⟨h1, h2⟩ => ⟨h1, by rw [h2]; exact Below.refl _ _⟩
attribute [local irreducible] prd P ls
set_option maxRecDepth 100000 in
set_option maxHeartbeats 2000000 in
theorem ratl_any (w : World) (a : List (BitVec 8)) (ha : a.length = 32) :
    Calls Try.prog 42 #[.agg (cs U8 a)] w fun e w' => e = .returned (.bool (decide (P ≤ leN a))) ∧ Below w.heap.size w w' := by
  have M0 := Mm.start no w
  have M1 := M0.alloc (cs U8 a) 23 (by decide)
  have HA := hid ha
  obtain ⟨res, hres⟩ : ∃ b, b = decide (P ≤ leN a) := ⟨_, rfl⟩
  rw [← hres]
  have HR := hid hres
  clear ha hres
  go_enter Try.func42, Try.ntmps42
  go_wp2_with fail
  go_loopw [3] (fun t wr => ∃ j : Nat, j ≤ 32 ∧ t = .int .i64 ((j : Int) - 1) ∧ (∀ k, j ≤ k → k < 32 → (a.getD k 0).toNat = prd k) ∧ Mm no w [(w.heap.size, cs U8 a)] wr) (fun t _ => (intOf t + 1).toNat)
  case atStart => exact ⟨32, by omega, rfl, fun k h1 h2 => by omega, M1⟩
  case round =>
    clear M1 M0
    obtain ⟨j, hj, rfl, hall, M⟩ := hrel
    have HALL := hid hall
    clear hall
    by_cases hj0 : 0 < j
    · obtain ⟨i, rfl⟩ : ∃ i, j = i + 1 := ⟨j - 1, by omega⟩
      have hi32 : i < 32 := by omega
      have ei : (((i + 1 : Nat) : Int) - 1) = (i : Int) := by omega
      rw [ei]
      have q0 : (0 : Int) ≤ i := by omega
      have q1 : (i : Int) < 32 := by omega
      by_cases hpe : (g8 a i).toNat = prd i
      · have heq : (((g8 a i).toNat : Int) != (prd i : Int)) = false := by simp [hpe]
        have HPE := hid hpe
        have HEQ := hid heq
        clear hpe heq ei
        go_upto_region 4 with fail
        have heq := HEQ.out
        refine wp_region_seq 7 [8, 9, 10, 11, 12, 13, 14] [] [] [] (.done) (Mm no w _) (by kernel_rfl) (by kernel_rfl) (by kernel_rfl) (fun d _ _ _ _ h => by cases d <;> exact h) (by rfl) M.size (fun _ _ h k => h.sf k) M ?_
        simp only [List.take_succ_cons, List.take_zero]
        refine SeqA.pure (.int .i64 i) (fun w' => by go_simp) rfl rfl ?_
        refine SeqA.pure (.pointer (some ⟨w.heap.size, i, none⟩)) (fun w' => by go_simp) rfl rfl ?_
        refine SeqA.read (U8 (g8 a i)) (fun w' M => by have c0 := cell_g8 (M.row (b := w.heap.size) (c := cs U8 a) (by simp)) (i := i) (by rw [HA.out]; exact hi32); go_simp) rfl rfl ?_
        refine SeqA.pure (I64 (g8 a i).toNat) (fun w' => by go_simp) rfl rfl ?_
        refine SeqA.pure (.int .i64 i) (fun w' => by go_simp) rfl rfl ?_
        simp only [Act.put, List.setIfInBounds_toArray, List.set_cons_succ, List.set_cons_zero]
        refine SeqA.call _ _ _ (fun w' => by go_simp) (fun w' hI _ => rprime_b w' i hi32) M.size rfl rfl ?_
        refine SeqA.pure (.bool false) (fun w' => by have q := heq; go_simp) rfl rfl ?_
        refine SeqA.nil (fun w1 M2 hz => ?_)
        show wpT _ _ _ _ _ _
        simp only [Act.put, List.setIfInBounds_toArray, List.set_cons_succ, List.set_cons_zero]
        dsimp only [wpT]
        go_wp2_with fail
        clear heq
        go_roundw
        case rel => exact ⟨i, by omega, by go_num, fun k h1 h2 => by
            by_cases hk : k = i
            · subst hk; exact HPE.out
            · exact HALL.out k (by omega) h2, M2⟩
        case measure => simp [intOf]
      · have hne : (((g8 a i).toNat : Int) != (prd i : Int)) = true := by simp; omega
        have HPE := hid hpe
        have HNE := hid hne
        clear hpe hne ei
        go_upto_region 4 with fail
        have hne := HNE.out
        refine wp_region_seq 7 [8, 9, 10, 11, 12, 13, 14] [] [] [] (.done) (Mm no w _) (by kernel_rfl) (by kernel_rfl) (by kernel_rfl) (fun d _ _ _ _ h => by cases d <;> exact h) (by rfl) M.size (fun _ _ h k => h.sf k) M ?_
        simp only [List.take_succ_cons, List.take_zero]
        refine SeqA.pure (.int .i64 i) (fun w' => by go_simp) rfl rfl ?_
        refine SeqA.pure (.pointer (some ⟨w.heap.size, i, none⟩)) (fun w' => by go_simp) rfl rfl ?_
        refine SeqA.read (U8 (g8 a i)) (fun w' M => by have c0 := cell_g8 (M.row (b := w.heap.size) (c := cs U8 a) (by simp)) (i := i) (by rw [HA.out]; exact hi32); go_simp) rfl rfl ?_
        refine SeqA.pure (I64 (g8 a i).toNat) (fun w' => by go_simp) rfl rfl ?_
        refine SeqA.pure (.int .i64 i) (fun w' => by go_simp) rfl rfl ?_
        simp only [Act.put, List.setIfInBounds_toArray, List.set_cons_succ, List.set_cons_zero]
        refine SeqA.call _ _ _ (fun w' => by go_simp) (fun w' hI _ => rprime_b w' i hi32) M.size rfl rfl ?_
        refine SeqA.pure (.bool true) (fun w' => by have q := hne; go_simp) rfl rfl ?_
        refine SeqA.nil (fun w1 M2 hz => ?_)
        show wpT _ _ _ _ _ _
        simp only [Act.put, List.setIfInBounds_toArray, List.set_cons_succ, List.set_cons_zero]
        dsimp only [wpT]
        go_upto_region 5 with fail
        clear hne
        have M := M2
        refine wp_region_seq 8 [15, 16, 17, 18, 19, 20, 21, 2] [] [] [] (.done) (Mm no w _) (by kernel_rfl) (by kernel_rfl) (by kernel_rfl) (fun d _ _ _ _ h => by cases d <;> exact h) (by rfl) M.size (fun _ _ h k => h.sf k) M ?_
        simp only [List.take_succ_cons, List.take_zero]
        refine SeqA.pure (.int .i64 i) (fun w' => by go_simp) rfl rfl ?_
        refine SeqA.pure (.pointer (some ⟨w.heap.size, i, none⟩)) (fun w' => by go_simp) rfl rfl ?_
        refine SeqA.read (U8 (g8 a i)) (fun w' M => by have c0 := cell_g8 (M.row (b := w.heap.size) (c := cs U8 a) (by simp)) (i := i) (by rw [HA.out]; exact hi32); go_simp) rfl rfl ?_
        refine SeqA.pure (I64 (g8 a i).toNat) (fun w' => by go_simp) rfl rfl ?_
        refine SeqA.pure (.int .i64 i) (fun w' => by go_simp) rfl rfl ?_
        simp only [Act.put, List.setIfInBounds_toArray, List.set_cons_succ, List.set_cons_zero]
        refine SeqA.call _ _ _ (fun w' => by go_simp) (fun w' hI _ => rprime_b w' i hi32) M.size rfl rfl ?_
        refine SeqA.pure (.bool (decide (prd i < (g8 a i).toNat))) (fun w' => by go_simp) rfl rfl ?_
        refine SeqA.pure (.bool (decide (prd i < (g8 a i).toNat))) (fun w' => by go_simp) rfl rfl ?_
        refine SeqA.nil (fun w1 M2 hz => ?_)
        show wpT _ _ _ _ _ _
        simp only [Act.put, List.setIfInBounds_toArray, List.set_cons_succ, List.set_cons_zero]
        dsimp only [wpT]
        go_wp2_with fail
        go_ret
        refine ⟨?_, M2.end_⟩
        rw [HR.out, cmp_ne HA.out hi32 HALL.out HPE.out]; rfl
    · have : j = 0 := by omega
      subst this
      rw [show (((0 : Nat) : Int) - 1) = -1 from rfl]
      go_wp2_with fail
      go_ret
      refine ⟨?_, M.end_⟩
      rw [HR.out, cmp_eq HA.out (fun k h => HALL.out k (Nat.zero_le _) h), decide_eq_true (Nat.le_refl _)]; rfl
set_option maxRecDepth 100000 in
set_option maxHeartbeats 2000000 in
theorem rless_any (w : World) (a : List (BitVec 8)) (ha : a.length = 32) (hP : P ≤ leN a) :
    Calls Try.prog 43 #[.agg (cs U8 a)] w fun e w' => e = .returned (.agg (cs U8 (kb (leN a - P)))) ∧ Below w.heap.size w w' := by
  have M0 := Mm.start no w
  have M1 := ((M0.alloc (cs U8 a) 23 (by decide)).alloc (cs U8 (zs 32)) 23 (by decide))
  simp only [World.size_alloc] at M1
  have HE := hid (ls_end ha hP); have HSP := hid (ls_spec ha); have H0 := hid (ls_zero a); have HS := hid (ls_succ a)
  clear ha hP
  go_enter Try.func43, Try.ntmps43
  go_wp2_with fail
  go_loopw [3, 4] (fun c t wr => ∃ i : Nat, i ≤ 32 ∧ t = .int .i64 i ∧ c = I64 (ls a i).2 ∧ Mm no w [(w.heap.size + 1, cs U8 (zs 32)), (w.heap.size, cs U8 (ls a i).1)] wr) (fun _ t _ => 32 - (intOf t).toNat)
  case atStart => exact ⟨0, by omega, rfl, by rw [H0.out]; rfl, by rw [H0.out]; exact M1⟩
  case round =>
    clear M1 M0
    obtain ⟨i, hi, rfl, rfl, M⟩ := hrel
    obtain ⟨hl, hc1, -⟩ := HSP.out i hi
    have hL := hid hl
    clear hl
    obtain ⟨c, hc⟩ : ∃ c, c = (ls a i).2 := ⟨_, rfl⟩
    rw [← hc] at hc1 ⊢
    have HC := hid hc
    clear hc
    by_cases hi32 : i < 32
    · obtain ⟨x, hxx⟩ : ∃ x, x = (g8 (ls a i).1 i).toNat := ⟨_, rfl⟩
      have hx : (((g8 (ls a i).1 i).toNat : Nat) : Int) = (x : Int) := by omega
      have hxl : x < 256 := by rw [hxx]; exact (g8 (ls a i).1 i).isLt
      have hpl := prd_le i
      have HXX := hid hxx; have HX := hid hx
      clear hxx hx
      have q0 : (0 : Int) ≤ i := by omega
      have q1 : (i : Int) < 32 := by omega
      go_upto_region 5 with fail
      have hx := HX.out
      refine wp_region_seq 10 [10, 11, 12, 13, 14, 15, 16, 17, 18, 5] [] [] [] (.done) (Mm no w _) (by kernel_rfl) (by kernel_rfl) (by kernel_rfl) (fun d _ _ _ _ h => by cases d <;> exact h) (by rfl) M.size (fun _ _ h k => h.sf k) M ?_
      simp only [List.take_succ_cons, List.take_zero]
      refine SeqA.pure (.int .i64 i) (fun w' => by go_simp) rfl rfl ?_
      refine SeqA.pure (.pointer (some ⟨w.heap.size, i, none⟩)) (fun w' => by go_simp) rfl rfl ?_
      refine SeqA.read (U8 (g8 (ls a i).1 i)) (fun w' M => by have c0 := cell_g8 (M.row (b := w.heap.size) (c := cs U8 (ls a i).1) (by simp)) (i := i) (by rw [hL]; exact hi32); go_simp) rfl rfl ?_
      refine SeqA.pure (I64 x) (fun w' => by have q := hx; go_simp) rfl rfl ?_
      refine SeqA.pure (.int .i64 i) (fun w' => by go_simp) rfl rfl ?_
      simp only [Act.put, List.setIfInBounds_toArray, List.set_cons_succ, List.set_cons_zero]
      refine SeqA.call _ _ _ (fun w' => by go_simp) (fun w' hI _ => rprime_b w' i hi32) M.size rfl rfl ?_
      refine SeqA.pure (.int .i64 ((x : Int) - (prd i : Int))) (fun w' => by have q := i64w ((x : Int) - (prd i : Int)) (by omega) (by omega); go_simp) rfl rfl ?_
      refine SeqA.pure (I64 c) (fun w' => by go_simp) rfl rfl ?_
      refine SeqA.pure (.int .i64 ((x : Int) - (prd i : Int) - (c : Int))) (fun w' => by have q := i64w ((x : Int) - (prd i : Int) - (c : Int)) (by omega) (by omega); go_simp) rfl rfl ?_
      refine SeqA.pure (.int .i64 ((x : Int) - (prd i : Int) - (c : Int))) (fun w' => by go_simp) rfl rfl ?_
      refine SeqA.nil (fun w1 M2 hz => ?_)
      show wpT _ _ _ _ _ _
      simp only [Act.put, List.setIfInBounds_toArray, List.set_cons_succ, List.set_cons_zero]
      dsimp only [wpT]
      go_upto_region 6 with fail
      clear hx
      obtain ⟨p, hp⟩ : ∃ p, p = prd i := ⟨_, rfl⟩
      rw [← hp] at hpl ⊢
      have HP := hid hp
      clear hp M
      have M := M2
      clear M2
      by_cases hneg : x < p + c
      · obtain ⟨m, hm⟩ : ∃ m, m = x + 256 - p - c := ⟨_, rfl⟩
        have e1 : (x : Int) - p - c < 0 := by omega
        have e2 : (x : Int) - p - c + 256 = (m : Int) := by omega
        have HM := hid hm
        have HN := hid hneg
        clear hm hneg
        go_upto_region 10 with fail
        clear e1 e2
        refine wp_region_seqF 4 [23, 24, 25, 26] [] [] [] (.op 4 .done) (Mm no w _) (by kernel_rfl) (by kernel_rfl) (fun d _ _ _ _ h => by cases d <;> exact h) (by rfl) M.size (fun _ _ h k => h.sf k) M (by kernel_rfl) ?_
        simp only [List.take_succ_cons, List.take_zero]
        refine SeqA.pure (.int .i64 i) (fun w' => by go_simp) rfl rfl ?_
        refine SeqA.pure (I64 m) (fun w' => by go_simp) rfl rfl ?_
        refine SeqA.pure (U8 (BitVec.ofNat 8 m)) (fun w' => by have q := cvi_8 (P := Try.prog) w' 3 5 m (by kernel_rfl) Try.underlying5; go_simp) rfl rfl ?_
        refine SeqA.pure (.pointer (some ⟨w.heap.size, i, none⟩)) (fun w' => by go_simp) rfl rfl ?_
        refine SeqA.nil (fun w1 M2 hz => ?_)
        show wpT _ _ _ _ _ _
        simp only [Act.put, List.setIfInBounds_toArray, List.set_cons_succ, List.set_cons_zero]
        refine wpT_stc M2 1 (U8 (BitVec.ofNat 8 m)) (cs U8 ((ls a i).1.set i (BitVec.ofNat 8 m))) inf_u8 rfl rfl rfl rfl (by go_simp) (by go_simp) (by have := (by rw [hL]; exact hi32 : i < (ls a i).1.length); first | (simp; done) | (simpa using this) | (simp; omega)) (by simp [go_sem]) (cs_set _ _) rfl (fun w3 M4 => ?_)
        dsimp only [List.set] at M4
        dsimp only [wpT]
        go_wp2_with fail
        go_roundw
        case rel => exact ⟨i + 1, by omega, by go_num, by
            rw [HS.out]
            have e : ((ls a i).1.getD i 0).toNat < prd i + (ls a i).2 := by have := HN.out; rw [HXX.out, HP.out, HC.out] at this; exact this
            show _ = I64 (if ((ls a i).1.getD i 0).toNat < prd i + (ls a i).2 then 1 else 0)
            rw [if_pos e]; rfl, by
            rw [HS.out]
            have e := HM.out
            rw [HXX.out, HP.out, HC.out] at e
            rw [e] at M4; exact M4⟩
        case measure => simp [intOf]; omega
      · obtain ⟨m, hm⟩ : ∃ m, m = x - p - c := ⟨_, rfl⟩
        have e2 : (x : Int) - p - c = (m : Int) := by omega
        have e1 : ¬ ((m : Int) < 0) := by omega
        have HM := hid hm
        have HN := hid hneg
        rw [e2]
        clear hm hneg e2
        go_upto_region 10 with fail
        clear e1
        refine wp_region_seqF 4 [23, 24, 25, 26] [] [] [] (.op 4 .done) (Mm no w _) (by kernel_rfl) (by kernel_rfl) (fun d _ _ _ _ h => by cases d <;> exact h) (by rfl) M.size (fun _ _ h k => h.sf k) M (by kernel_rfl) ?_
        simp only [List.take_succ_cons, List.take_zero]
        refine SeqA.pure (.int .i64 i) (fun w' => by go_simp) rfl rfl ?_
        refine SeqA.pure (I64 m) (fun w' => by go_simp) rfl rfl ?_
        refine SeqA.pure (U8 (BitVec.ofNat 8 m)) (fun w' => by have q := cvi_8 (P := Try.prog) w' 3 5 m (by kernel_rfl) Try.underlying5; go_simp) rfl rfl ?_
        refine SeqA.pure (.pointer (some ⟨w.heap.size, i, none⟩)) (fun w' => by go_simp) rfl rfl ?_
        refine SeqA.nil (fun w1 M2 hz => ?_)
        show wpT _ _ _ _ _ _
        simp only [Act.put, List.setIfInBounds_toArray, List.set_cons_succ, List.set_cons_zero]
        refine wpT_stc M2 1 (U8 (BitVec.ofNat 8 m)) (cs U8 ((ls a i).1.set i (BitVec.ofNat 8 m))) inf_u8 rfl rfl rfl rfl (by go_simp) (by go_simp) (by have := (by rw [hL]; exact hi32 : i < (ls a i).1.length); first | (simp; done) | (simpa using this) | (simp; omega)) (by simp [go_sem]) (cs_set _ _) rfl (fun w3 M4 => ?_)
        dsimp only [List.set] at M4
        dsimp only [wpT]
        go_wp2_with fail
        go_roundw
        case rel => exact ⟨i + 1, by omega, by go_num, by
            rw [HS.out]
            have e : ¬ ((ls a i).1.getD i 0).toNat < prd i + (ls a i).2 := by have := HN.out; rw [HXX.out, HP.out, HC.out] at this; exact this
            show _ = I64 (if ((ls a i).1.getD i 0).toNat < prd i + (ls a i).2 then 1 else 0)
            rw [if_neg e]; rfl, by
            rw [HS.out]
            have e : BitVec.ofNat 8 m = BitVec.ofNat 8 (((ls a i).1.getD i 0).toNat + 256 - prd i - (ls a i).2) := by
              have h1 := HM.out
              have h2 := HN.out
              have h3 : m + 256 = x + 256 - p - c := by omega
              rw [HXX.out, HP.out, HC.out] at h3
              apply BitVec.eq_of_toNat_eq
              rw [BitVec.toNat_ofNat, BitVec.toNat_ofNat]
              show m % 256 = (((ls a i).1.getD i 0).toNat + 256 - prd i - (ls a i).2) % 256
              have h4 : ((ls a i).1.getD i 0).toNat + 256 - prd i - (ls a i).2 = m + 256 := h3.symm
              rw [h4]; omega
            rw [e] at M4; exact M4⟩
        case measure => simp [intOf]; omega
    · have : i = 32 := by omega
      subst this
      rw [HE.out] at M
      go_upto_region 11 with fail
      have r2 := M.row (b := w.heap.size) (c := cs U8 (kb (leN a - P))) (by simp)
      have f3 := M.free (b := w.heap.size + 1) (c := cs U8 (zs 32)) (by simp)
      have r3 := M.row (b := w.heap.size + 1) (c := cs U8 (zs 32)) (by simp)
      have hkl := kb_len (leN a - P)
      go_wp2_with fail
      have M3 := M.set 0 (cs U8 (kb (leN a - P))) rfl
      dsimp only [List.set] at M3
      have r4 := M3.row (b := w.heap.size + 1) (c := cs U8 (kb (leN a - P))) (by simp)
      refine bodyPost_ret (res_row (b := w.heap.size + 1) rfl Try.underlying23 rfl inf_key _ _ rfl (by rw [r4]; simp)) rfl ?_
      rw [r4]
      exact ⟨rfl, M3.end_⟩
def mvk (c : Array Value) : Nat := vd (c.toList.map fun v => (intOf v).toNat)
theorem mvk_cs (l : List (BitVec 8)) : mvk (cs U8 l) = leN l := by
  unfold mvk leN
  congr 1
  simp [cs, intOf, U8, Function.comp_def]
set_option maxRecDepth 100000 in
set_option maxHeartbeats 2000000 in
theorem rcanon_any (w : World) (a : List (BitVec 8)) (ha : a.length = 32) :
    Calls Try.prog 19 #[.agg (cs U8 a)] w fun e w' => e = .returned (.agg (cs U8 (cn (leN a)))) ∧ Below w.heap.size w w' := by
  have M0 := Mm.start no w
  have M1 := ((M0.alloc (cs U8 a) 23 (by decide)).alloc (cs U8 (zs 32)) 23 (by decide))
  simp only [World.size_alloc] at M1
  have HK := hid (kb_leN ha); have HLT := hid (leN_lt32 ha)
  clear ha
  go_enter Try.func19, Try.ntmps19
  go_wp2_with fail
  go_loopw [4] (fun _ wr => ∃ v : Nat, v < M256 ∧ v % P = leN a % P ∧ Mm no w [(w.heap.size + 1, cs U8 (zs 32)), (w.heap.size, cs U8 (kb v))] wr) (fun _ wr => mvk (wr.rowOf w.heap.size))
  case atStart => exact ⟨leN a, HLT.out, rfl, by rw [HK.out]; exact M1⟩
  case round =>
    clear M1 M0
    obtain ⟨v, hv, hp, M⟩ := hrel
    have hmv : mvk (wr.rowOf w.heap.size) = v := by rw [M.row (b := w.heap.size) (c := cs U8 (kb v)) (by simp), mvk_cs, leN_kb hv]
    have HMV := hid hmv; have HV := hid hv; have HP := hid hp
    clear hmv hv hp
    have r1 := M.row (b := w.heap.size) (c := cs U8 (kb v)) (by simp)
    have hkl := kb_len v
    have hatl := ratl_any wr (kb v) (kb_len v)
    rw [leN_kb HV.out] at hatl
    have HATL := hid hatl
    clear hatl
    by_cases hle : P ≤ v
    · have hd : decide (P ≤ v) = true := decide_eq_true hle
      have HLE := hid hle; have HD := hid hd
      clear hle hd
      go_wp2_with fail
      with_reducible refine ((HATL.out).mono ?_)
      rintro e w2 ⟨rfl, hb2⟩
      rw [HD.out]
      have M2 := M.below hb2
      clear r1 hb2
      have r2 := M2.row (b := w.heap.size) (c := cs U8 (kb v)) (by simp)
      have hls := rless_any w2 (kb v) (kb_len v) (by rw [leN_kb HV.out]; exact HLE.out)
      rw [leN_kb HV.out] at hls
      have HLS := hid hls
      clear hls
      dsimp only
      go_wp2_with fail
      with_reducible refine ((HLS.out).mono ?_)
      rintro e w3 ⟨rfl, hb3⟩
      have M3 := M2.below hb3
      clear r2 hb3
      have r3 := M3.row (b := w.heap.size) (c := cs U8 (kb v)) (by simp)
      have f3 := M3.free (b := w.heap.size) (c := cs U8 (kb v)) (by simp)
      have hkl2 := kb_len (v - P)
      dsimp only
      go_wp2_with fail
      have M4 := M3.set 1 (cs U8 (kb (v - P))) rfl
      dsimp only [List.set] at M4
      have hlt2 : v - P < v := by have := P_pos; have := HLE.out; omega
      go_roundw
      case rel => exact ⟨v - P, by have := HV.out; omega, by rw [← HP.out]; exact (Nat.mod_eq_sub_mod (by have := HLE.out; omega)).symm, M4⟩
      case measure =>
        rw [M4.row (b := w.heap.size) (c := cs U8 (kb (v - P))) (by simp), mvk_cs, HMV.out, leN_kb (by have := HV.out; omega)]
        exact hlt2
    · have hd : decide (P ≤ v) = false := decide_eq_false hle
      have HLE := hid hle; have HD := hid hd
      clear hle hd
      go_wp2_with fail
      with_reducible refine ((HATL.out).mono ?_)
      rintro e w2 ⟨rfl, hb2⟩
      rw [HD.out]
      have M2 := M.below hb2
      clear r1 hb2
      have r2 := M2.row (b := w.heap.size) (c := cs U8 (kb v)) (by simp)
      have f3 := M2.free (b := w.heap.size + 1) (c := cs U8 (zs 32)) (by simp)
      have r3 := M2.row (b := w.heap.size + 1) (c := cs U8 (zs 32)) (by simp)
      dsimp only
      go_wp2_with fail
      have M3 := M2.set 0 (cs U8 (kb v)) rfl
      dsimp only [List.set] at M3
      have r4 := M3.row (b := w.heap.size + 1) (c := cs U8 (kb v)) (by simp)
      refine bodyPost_ret (res_row (b := w.heap.size + 1) rfl Try.underlying23 rfl inf_key _ _ rfl (by rw [r4]; simp)) rfl ?_
      rw [r4]
      have e : kb v = cn (leN a) := by unfold cn; rw [← HP.out, Nat.mod_eq_of_lt (by have := HLE.out; omega)]
      exact ⟨by rw [e], M3.end_⟩
end Go.Proofs.Ytgneclfnfnpmkaa
