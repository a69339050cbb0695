/-
  Walks of reference 01: the inverse, nought; own work.
-/
import Derived.Test.YtgneclfnfnpmkaaRf5
import Derived.Test.YtgneclfnfnpmkaaFld1
set_option linter.unusedSimpArgs false
set_option linter.unusedVariables false
namespace Go.Proofs.Ytgneclfnfnpmkaa.Fp
theorem rp_zero (a : Nat) : rp a 0 = 1 := rfl
theorem rp_succ (a n : Nat) : rp a (n + 1) = if 254 - n ≠ 2 ∧ 254 - n ≠ 4 then (rp a n * rp a n % P) * a % P else rp a n * rp a n % P := rfl
theorem rp_lt (a : Nat) : ∀ n, rp a n < P
  | 0 => by rw [rp_zero]; decide
  | n + 1 => by rw [rp_succ]; split <;> exact Nat.mod_lt _ P_pos
/-- the exponent's highest bits -/
def eb : Nat → Nat
  | 0 => 0
  | n + 1 => 2 * eb n + (if 254 - n ≠ 2 ∧ 254 - n ≠ 4 then 1 else 0)
theorem rp_pow (a : Nat) : ∀ n, rp a n = a ^ eb n % P
  | 0 => by rw [rp_zero]; rfl
  | n + 1 => by
    have ih := rp_pow a n
    have h2 : rp a n * rp a n % P = a ^ (2 * eb n) % P := by rw [ih, ← Nat.mul_mod, ← Nat.pow_add]; congr 2; omega
    rw [rp_succ, h2]
    simp only [eb]
    split
    · rw [Nat.pow_succ, Nat.mod_mul_mod]
    · rfl
theorem eb_end : eb 255 = P - 2 := by decide +kernel
theorem rp_end (a : Nat) : rp a 255 = a ^ (P - 2) % P := by rw [rp_pow, eb_end]
end Go.Proofs.Ytgneclfnfnpmkaa.Fp
namespace Go.Proofs.Ytgneclfnfnpmkaa
open Go.RowKit Fp
attribute [local irreducible] P rp
theorem one_kb : (cs U8 (zs 32)).setIfInBounds 0 (.int .u8 1) = cs U8 (kb 1) := by kernel_rfl
set_option maxRecDepth 100000 in
set_option maxHeartbeats 4000000 in
theorem rinv_any (w : World) (a : List (BitVec 8)) (ha : a.length = 32) :
    Calls Try.prog 29 #[.agg (cs U8 a)] w fun e w' => e = .returned (.agg (cs U8 (kb (leN a ^ (P - 2) % P)))) ∧ Below w.heap.size w w' := by
  rw [← rp_end]
  have M0 := Mm.start no w
  have M1 := (((M0.alloc (cs U8 a) 23 (by decide)).alloc (cs U8 (zs 32)) 23 (by decide)).alloc (cs U8 (zs 32)) 23 (by decide))
  simp only [World.size_alloc] at M1
  have HA := hid ha; have HR0 := hid (rp_zero (leN a)); have HRS := hid (rp_succ (leN a))
  have HRL := hid (rp_lt (leN a))
  clear ha
  go_enter Try.func29, Try.ntmps29
  go_upto_region 2 with fail
  obtain ⟨w1, hw1⟩ : ∃ w1, w1 = (((w.alloc (.cells (cs U8 a) 23)).alloc (.cells (cs U8 (zs 32)) 23)).alloc (.cells (cs U8 (zs 32)) 23)) := ⟨_, rfl⟩
  rw [← hw1] at M1 ⊢
  clear hw1
  refine wp_region_seqF 1 [5] [] [] [] (.op 1 .done) (Mm no w _) (by kernel_rfl) (by kernel_rfl) (fun d _ _ _ _ h => by cases d <;> exact h) (by rfl) M1.size (fun _ _ h k => h.sf k) M1 (by kernel_rfl) ?_
  simp only [List.take_succ_cons, List.take_zero]
  refine SeqA.pure (.pointer (some ⟨w.heap.size + 1 + 1, 0, none⟩)) (fun w' => by go_simp) rfl rfl ?_
  refine SeqA.nil (fun w2 M2 hz => ?_)
  show wpT _ _ _ _ _ _
  refine wpT_stc M2 0 (.int .u8 1) (cs U8 (kb 1)) inf_u8 rfl rfl rfl rfl (by go_simp) (by go_simp) (by simp) (by simp [go_sem]) one_kb rfl (fun w3 M3 => ?_)
  dsimp only [List.set] at M3
  dsimp only [wpT]
  simp only [Act.put, List.setIfInBounds_toArray, List.set_cons_succ, List.set_cons_zero]
  clear M1 M0 M2
  go_wp2_with fail
  go_loopw [4] (fun t wr => ∃ j : Nat, j ≤ 255 ∧ t = .int .i64 ((j : Int) - 1) ∧ Mm no w [(w.heap.size + 1 + 1, cs U8 (kb (rp (leN a) (255 - j)))), (w.heap.size + 1, cs U8 (zs 32)), (w.heap.size, cs U8 a)] wr) (fun t _ => (intOf t + 1).toNat)
  case atStart => exact ⟨255, by omega, rfl, by rw [Nat.sub_self, HR0.out]; exact M3⟩
  case round =>
    clear M3
    obtain ⟨j, hj, rfl, M⟩ := hrel
    by_cases hj0 : 0 < j
    · obtain ⟨i, rfl⟩ : ∃ i, j = i + 1 := ⟨j - 1, by omega⟩
      have ei : (((i + 1 : Nat) : Int) - 1) = (i : Int) := by omega
      rw [ei]
      have q0 : (0 : Int) ≤ i := by omega
      have en : 255 - (i + 1) = 254 - i := by omega
      rw [en] at M
      obtain ⟨n, hn⟩ : ∃ n, n = 254 - i := ⟨_, rfl⟩
      rw [← hn] at M
      obtain ⟨v, hv⟩ : ∃ v, v = rp (leN a) n := ⟨_, rfl⟩
      rw [← hv] at M
      have hvl : v < M256 := by rw [hv]; exact Nat.lt_trans (HRL.out n) P_lt
      have HV := hid hv; have HN := hid hn; have HVL := hid hvl
      have r1 := M.row (b := w.heap.size + 1 + 1) (c := cs U8 (kb v)) (by simp)
      have hkl := kb_len v
      clear hv hn hvl ei en
      have hmul := fun w => rmul_any w (kb v) (kb v) (kb_len v) (kb_len v)
      rw [leN_kb HVL.out] at hmul
      have HMUL := hid hmul
      clear hmul
      obtain ⟨s, hs⟩ : ∃ s, s = v * v % P := ⟨_, rfl⟩
      have hcs : cn (v * v) = kb s := by rw [hs]; rfl
      have hsl : s < M256 := by rw [hs]; exact Nat.lt_trans (Nat.mod_lt _ P_pos) P_lt
      have HS := hid hs; have HCS := hid hcs; have HSL := hid hsl
      clear hs hcs hsl
      go_wp2_with fail
      with_reducible refine ((HMUL.out wr).mono ?_)
      rintro e w4 ⟨rfl, hb4⟩
      rw [HCS.out]
      have M4 := M.below hb4
      clear r1 hb4 hkl
      have r2 := M4.row (b := w.heap.size + 1 + 1) (c := cs U8 (kb v)) (by simp)
      have f2 := M4.free (b := w.heap.size + 1 + 1) (c := cs U8 (kb v)) (by simp)
      have hkl := kb_len v
      have hkl2 := kb_len s
      dsimp only
      by_cases h2 : i = 2
      · subst h2
        go_upto_region 7 with fail
        have M5 := M4.set 0 (cs U8 (kb s)) rfl
        dsimp only [List.set] at M5
        obtain ⟨w5, hw5⟩ : ∃ w5, w5 = w4.setRow (w.heap.size + 1 + 1) (cs U8 (kb s)) := ⟨_, rfl⟩
        rw [← hw5] at M5 ⊢
        clear hw5 r2 f2 hkl hkl2
        go_wp2_with fail
        go_roundw
        case rel => exact ⟨2, by omega, rfl, by
          have e : rp (leN a) (255 - 2) = s := by
            have := HRS.out n
            rw [HN.out] at this
            rw [show 255 - 2 = 254 - 2 + 1 from rfl, this, HS.out, HV.out, HN.out]; rfl
          rw [e]; exact M5⟩
        case measure => simp [intOf]
      · by_cases h4 : i = 4
        · subst h4
          go_upto_region 7 with fail
          have M5 := M4.set 0 (cs U8 (kb s)) rfl
          dsimp only [List.set] at M5
          obtain ⟨w5, hw5⟩ : ∃ w5, w5 = w4.setRow (w.heap.size + 1 + 1) (cs U8 (kb s)) := ⟨_, rfl⟩
          rw [← hw5] at M5 ⊢
          clear hw5 r2 f2 hkl hkl2
          go_wp2_with fail
          go_roundw
          case rel => exact ⟨4, by omega, rfl, by
            have e : rp (leN a) (255 - 4) = s := by
              have := HRS.out n
              rw [HN.out] at this
              rw [show 255 - 4 = 254 - 4 + 1 from rfl, this, HS.out, HV.out, HN.out]; rfl
            rw [e]; exact M5⟩
          case measure => simp [intOf]
        · have e2 : ((i : Int) != 2) = true := by simp; omega
          have e4 : ((i : Int) != 4) = true := by simp; omega
          have H2 := hid h2; have H4 := hid h4
          clear h2 h4
          have hmul := fun w => rmul_any w (kb s) a (kb_len s) HA.out
          rw [leN_kb HSL.out] at hmul
          have HMUL2 := hid hmul
          clear hmul
          go_upto_region 7 with fail
          have M5 := M4.set 0 (cs U8 (kb s)) rfl
          dsimp only [List.set] at M5
          obtain ⟨w5, hw5⟩ : ∃ w5, w5 = w4.setRow (w.heap.size + 1 + 1) (cs U8 (kb s)) := ⟨_, rfl⟩
          rw [← hw5] at M5 ⊢
          clear hw5 r2 f2
          have r3 := M5.row (b := w.heap.size + 1 + 1) (c := cs U8 (kb s)) (by simp)
          have r4 := M5.row (b := w.heap.size) (c := cs U8 a) (by simp)
          have hal := HA.out
          go_wp2_with fail
          with_reducible refine ((HMUL2.out w5).mono ?_)
          rintro e w6 ⟨rfl, hb6⟩
          obtain ⟨t, ht⟩ : ∃ t, t = s * leN a % P := ⟨_, rfl⟩
          have hct : cn (s * leN a) = kb t := by rw [ht]; rfl
          rw [hct]
          have HT := hid ht
          have M6 := M5.below hb6
          clear r3 r4 hb6 hct ht
          have r5 := M6.row (b := w.heap.size + 1 + 1) (c := cs U8 (kb s)) (by simp)
          have f5 := M6.free (b := w.heap.size + 1 + 1) (c := cs U8 (kb s)) (by simp)
          have hkl3 := kb_len t
          dsimp only
          go_wp2_with fail
          have M7 := M6.set 0 (cs U8 (kb t)) rfl
          dsimp only [List.set] at M7
          go_roundw
          case rel => exact ⟨i, by omega, by go_num, by
            have e : rp (leN a) (255 - i) = t := by
              have h := HRS.out n
              have hn := HN.out
              rw [show 255 - i = n + 1 by omega, h, if_pos ⟨by rw [hn]; have := H2.out; omega, by rw [hn]; have := H4.out; omega⟩, HT.out, HS.out, HV.out]
            rw [e]; exact M7⟩
          case measure => simp [intOf]
    · have : j = 0 := by omega
      subst this
      rw [show (((0 : Nat) : Int) - 1) = -1 from rfl]
      go_upto_region 9 with fail
      have r2 := M.row (b := w.heap.size + 1 + 1) (c := cs U8 (kb (rp (leN a) 255))) (by simp)
      have f3 := M.free (b := w.heap.size + 1) (c := cs U8 (zs 32)) (by simp)
      have r3 := M.row (b := w.heap.size + 1) (c := cs U8 (zs 32)) (by simp)
      have hkl := kb_len (rp (leN a) 255)
      go_wp2_with fail
      have M3 := M.set 1 (cs U8 (kb (rp (leN a) 255))) rfl
      dsimp only [List.set] at M3
      have r4 := M3.row (b := w.heap.size + 1) (c := cs U8 (kb (rp (leN a) 255))) (by simp)
      refine bodyPost_ret (res_row (b := w.heap.size + 1) rfl Try.underlying23 rfl inf_key _ _ rfl (by rw [r4]; simp)) rfl ?_
      rw [r4]
      exact ⟨rfl, M3.end_⟩
end Go.Proofs.Ytgneclfnfnpmkaa
