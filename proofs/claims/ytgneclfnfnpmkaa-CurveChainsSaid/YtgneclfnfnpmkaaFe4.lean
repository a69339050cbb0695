/-
  Walks of package fe: what is left of a number; own work.
-/
import Derived.Test.YtgneclfnfnpmkaaFe3
set_option linter.unusedSimpArgs false
set_option linter.unusedVariables false
namespace Go.Proofs.Ytgneclfnfnpmkaa.Fp
theorem sL_zero (r l m : List Nat) (b : Nat) : sL r l m b 0 = (r, b) := rfl
theorem sL_succ (r l m : List Nat) (b i : Nat) : sL r l m b (i + 1) = ((sL r l m b i).1.set i ((l.getD i 0 + 18446744073709551616 - m.getD i 0 - (sL r l m b i).2) % 18446744073709551616), if l.getD i 0 < m.getD i 0 + (sL r l m b i).2 then 1 else 0) := rfl
theorem sL_len (l m : List Nat) (b : Nat) {r : List Nat} (hr : r.length = 4) (hb : b ≤ 1) : ∀ i, (sL r l m b i).1.length = 4 ∧ (sL r l m b i).2 ≤ 1
  | 0 => ⟨hr, hb⟩
  | i + 1 => ⟨by simp [sL, (sL_len l m b hr hb i).1], by simp only [sL]; split <;> omega⟩
theorem P_limbs : limbs P = [18446744073709551597, 18446744073709551615, 18446744073709551615, 9223372036854775807] := by decide
end Go.Proofs.Ytgneclfnfnpmkaa.Fp
namespace Go.Proofs.Ytgneclfnfnpmkaa
open Go.RowKit Fp
attribute [local irreducible] sL
theorem idx_num (w : World) (l : List Nat) (i : Nat) (h : i < 4) (hl : l.length = 4) : (Instr.index 42 (.agg (cs N64 l)) (.int .i64 i)).run Try.prog w = .ok (N64 (gN l i)) w := by
  have hx : (cs N64 l)[i]? = some (N64 (gN l i)) := by unfold gN; rw [cs_get_lt (by omega), List.getD_eq_getElem?_getD, List.getElem?_eq_getElem (by omega)]; rfl
  have hi : (i : Int) < 4 := by omega
  simp [Instr.index, asIntOf, run_underlying Try.underlying42, h, hi, part, isAgg, run_underlying Try.underlying40, hx]
set_option maxRecDepth 100000 in
set_option maxHeartbeats 1000000 in
theorem prime_any (w : World) :
    Calls Try.prog 66 #[] w fun e w' => e = .returned (.agg (cs N64 (limbs P))) ∧ Below w.heap.size w w' := by
  have hb : ∀ w, (Instr.build 42 #[(0, .int .u64 18446744073709551597), (1, .int .u64 18446744073709551615), (2, .int .u64 18446744073709551615), (3, .int .u64 9223372036854775807)]).run Try.prog w = .ok (.agg (cs N64 [18446744073709551597, 18446744073709551615, 18446744073709551615, 9223372036854775807])) w := fun _ => by kernel_rfl
  rw [P_limbs]
  go_enter Try.func66, Try.ntmps66
  go_wp2_with fail
  refine bodyPost_ret (res_row (b := w.heap.size) rfl Try.underlying42 rfl inf_num _ _ rfl (by simp [go_sem])) rfl ?_
  exact ⟨by simp [go_sem]; rfl, (Below.refl _ _).alloc (Nat.le_refl _) _⟩
attribute [local irreducible] P
set_option maxRecDepth 100000 in
set_option maxHeartbeats 4000000 in
theorem ncanon_any (w : World) (x : Nat) :
    Calls Try.prog 55 #[.agg (cs N64 (limbs x))] w fun e w' => e = .returned (.agg (cs N64 (limbs (x % M256 % P)))) ∧ Below w.heap.size w w' := by
  have M0 := Mm.start no w
  have M1 := ((M0.alloc (cs N64 (limbs x)) 42 (by decide)).alloc (cs N64 (limbs 0)) 42 (by decide))
  simp only [World.size_alloc] at M1
  go_enter Try.func55, Try.ntmps55
  go_wp2_with fail
  go_loopw [4] (fun c wr => ∃ v : Nat, v < M256 ∧ v % P = x % M256 % P ∧ Mm no w [(w.heap.size + 1, cs N64 (limbs 0)), (w.heap.size, cs N64 (limbs v))] wr) (fun _ wr => mvn (wr.rowOf w.heap.size))
  case atStart => exact ⟨x % M256, mod256_lt x, rfl, by rw [limbs_mod]; exact M1⟩
  case round =>
    clear M1 M0
    obtain ⟨v, hv, hp, M⟩ := hrel
    have hmv : mvn (wr.rowOf w.heap.size) = v := by rw [M.row (b := w.heap.size) (c := cs N64 (limbs v)) (by simp), mvn_cs, vn_limbs, Nat.mod_eq_of_lt hv]
    have HMV := hid hmv; have HV := hid hv; have HP := hid hp
    clear hmv hv hp
    go_upto_region 3 with fail
    have M2 := M.alloc (cs N64 (limbs 0)) 42 (by decide)
    obtain ⟨b, hb⟩ : ∃ b, b = wr.heap.size := ⟨_, rfl⟩
    obtain ⟨w2, hw2⟩ : ∃ w2, w2 = wr.alloc (.cells (cs N64 (limbs 0)) 42) := ⟨_, rfl⟩
    rw [← hb, ← hw2] at M2
    rw [← hb, ← hw2]
    clear hb hw2
    go_wp2_with fail
    with_reducible refine ((prime_any w2).mono ?_)
    rintro e w3 ⟨rfl, hb3⟩
    have M3 := M2.below hb3
    have HS0 := hid (sL_zero (limbs 0) (limbs v) (limbs P) 0)
    have HSS := hid (sL_succ (limbs 0) (limbs v) (limbs P) 0)
    clear hb3 M2
    dsimp only
    go_wp2_with fail
    go_loopw [4, 8] (fun c t ws => ∃ i : Nat, i ≤ 4 ∧ t = .int .i64 i ∧ c = N64 (sL (limbs 0) (limbs v) (limbs P) 0 i).2 ∧ Mm no w [(b, cs N64 (sL (limbs 0) (limbs v) (limbs P) 0 i).1), (w.heap.size + 1, cs N64 (limbs 0)), (w.heap.size, cs N64 (limbs v))] ws) (fun _ t _ => 4 - (intOf t).toNat)
    case atStart => exact ⟨0, by omega, rfl, by rw [HS0.out]; rfl, by rw [HS0.out]; exact M3⟩
    case round =>
      clear M3
      obtain ⟨i, hi, rfl, rfl, M⟩ := hrel
      obtain ⟨hl, hc⟩ := sL_len (limbs v) (limbs P) 0 (limbs_len 0) (by decide) i
      have hL := hid hl
      clear hl
      by_cases hlt : i < 4
      · have hidx := idx_num wr (limbs P) i hlt (limbs_len P)
        go_upto_region 6 with fail
        clear hidx
        refine wp_region_seqF 11 [13, 14, 15, 16, 17, 18, 19, 12, 20, 21, 22] [] [9] [] (.op 11 (.op 12 .done)) (Mm no w _) (by kernel_rfl) (by kernel_rfl) (fun d _ _ _ _ h => by cases d <;> exact h) (by rfl) M.size (fun _ _ h k => h.sf k) M (by kernel_rfl) ?_
        simp only [List.take_succ_cons, List.take_zero]
        refine SeqA.pure (.int .i64 i) (fun w' => by go_simp) rfl rfl ?_
        refine SeqA.pure (.int .i64 i) (fun w' => by go_simp) rfl rfl ?_
        refine SeqA.pure (.pointer (some ⟨w.heap.size, i, none⟩)) (fun w' => by go_simp) rfl rfl ?_
        refine SeqA.read (N64 (gN (limbs v) i)) (fun w' M => by have c0 := cell_gN (M.row (b := w.heap.size) (c := cs N64 (limbs v)) (by simp)) (i := i) (by exact hlt); go_simp) rfl rfl ?_
        refine SeqA.pure (N64 (gN (limbs P) i)) (fun w' => by go_simp) rfl rfl ?_
        simp only [Act.put, List.setIfInBounds_toArray, List.set_cons_succ, List.set_cons_zero]
        refine SeqA.pure (N64 (sL (limbs 0) (limbs v) (limbs P) 0 i).2) (fun w' => by go_simp) rfl rfl ?_
        refine SeqA.pure (.tuple #[N64 (((gN (limbs v) i) + 18446744073709551616 - (gN (limbs P) i) - ((sL (limbs 0) (limbs v) (limbs P) 0 i).2)) % 18446744073709551616), N64 (bw (gN (limbs v) i) ((gN (limbs P) i) + ((sL (limbs 0) (limbs v) (limbs P) 0 i).2)))]) (fun w' => by have q := sub64i (gN (limbs v) i) (gN (limbs P) i) ((sL (limbs 0) (limbs v) (limbs P) 0 i).2) _ _ _ rfl rfl rfl (by omega) w'; (try simp only [Nat.add_zero, Nat.zero_add, Nat.sub_zero] at q); go_simp) rfl rfl ?_
        refine SeqA.pure (.tuple #[N64 (((gN (limbs v) i) + 18446744073709551616 - (gN (limbs P) i) - ((sL (limbs 0) (limbs v) (limbs P) 0 i).2)) % 18446744073709551616), N64 (bw (gN (limbs v) i) ((gN (limbs P) i) + ((sL (limbs 0) (limbs v) (limbs P) 0 i).2)))]) (fun w' => by go_simp) rfl rfl ?_
        refine SeqA.pure (N64 (((gN (limbs v) i) + 18446744073709551616 - (gN (limbs P) i) - ((sL (limbs 0) (limbs v) (limbs P) 0 i).2)) % 18446744073709551616)) (fun w' => by go_simp) rfl rfl ?_
        refine SeqA.pure (N64 (bw (gN (limbs v) i) ((gN (limbs P) i) + ((sL (limbs 0) (limbs v) (limbs P) 0 i).2)))) (fun w' => by go_simp) rfl rfl ?_
        refine SeqA.pure (.pointer (some ⟨b, i, none⟩)) (fun w' => by go_simp) rfl rfl ?_
        refine SeqA.nil (fun w1 M2 hz => ?_)
        show wpT _ _ _ _ _ _
        simp only [Act.put, List.setIfInBounds_toArray, List.set_cons_succ, List.set_cons_zero]
        refine wpT_stc M2 0 (N64 (((gN (limbs v) i) + 18446744073709551616 - (gN (limbs P) i) - ((sL (limbs 0) (limbs v) (limbs P) 0 i).2)) % 18446744073709551616)) (cs N64 ((sL (limbs 0) (limbs v) (limbs P) 0 i).1.set i (((gN (limbs v) i) + 18446744073709551616 - (gN (limbs P) i) - ((sL (limbs 0) (limbs v) (limbs P) 0 i).2)) % 18446744073709551616))) inf_u64 rfl rfl rfl rfl (by go_simp) (by go_simp) (by have := (by rw [hL]; exact hlt : i < (sL (limbs 0) (limbs v) (limbs P) 0 i).1.length); first | (simp; done) | (simpa using this) | (simp; omega)) (by simp [go_sem]) (cs_set _ _) rfl (fun w3 M4 => ?_)
        dsimp only [List.set] at M4
        refine wpT_val (v := N64 (bw (gN (limbs v) i) ((gN (limbs P) i) + ((sL (limbs 0) (limbs v) (limbs P) 0 i).2)))) rfl rfl rfl ?_
        dsimp only [wpT]
        simp only [Act.put, List.setIfInBounds_toArray, List.set_cons_succ, List.set_cons_zero]
        go_wp2_with fail
        go_roundw
        case rel => exact ⟨i + 1, by omega, by go_num, by rw [HSS.out]; rfl, by rw [HSS.out]; exact M4⟩
        case measure => simp [intOf]; omega
      · have : i = 4 := by omega
        subst this
        have e4 := sL4 v P (limbs_len 0)
        have hPm : P % M256 = P := Nat.mod_eq_of_lt P_lt
        rw [Nat.mod_eq_of_lt HV.out, hPm] at e4
        rw [e4.1] at M
        rw [e4.2]
        have HL := hid hL
        clear hL hc hi hlt hPm e4
        by_cases hlp : v < P
        · have e : (if v < P then 1 else 0) = 1 := if_pos hlp
          rw [e]
          have HLP := hid hlp
          clear e hlp
          go_upto_region 9 with fail
          have r2 := M.row (b := w.heap.size) (c := cs N64 (limbs v)) (by simp)
          have f3 := M.free (b := w.heap.size + 1) (c := cs N64 (limbs 0)) (by simp)
          have r3 := M.row (b := w.heap.size + 1) (c := cs N64 (limbs 0)) (by simp)
          go_wp2_with fail
          have M3 := M.set 1 (cs N64 (limbs v)) rfl
          dsimp only [List.set] at M3
          have r4 := M3.row (b := w.heap.size + 1) (c := cs N64 (limbs v)) (by simp)
          refine bodyPost_ret (res_row (b := w.heap.size + 1) rfl Try.underlying42 rfl inf_num _ _ rfl (by rw [r4]; simp)) rfl ?_
          rw [r4]
          exact ⟨by rw [← HP.out, Nat.mod_eq_of_lt HLP.out], M3.end_⟩
        · have e : (if v < P then 1 else 0) = 0 := if_neg hlp
          have e2 : (if P ≤ v then v - P else v + M256 - P) = v - P := if_pos (by omega)
          rw [e]
          rw [e2] at M
          have HLP := hid hlp
          clear e hlp e2
          go_upto_region 10 with fail
          have r2 := M.row (b := b) (c := cs N64 (limbs (v - P))) (by simp)
          have f3 := M.free (b := w.heap.size) (c := cs N64 (limbs v)) (by simp)
          have r3 := M.row (b := w.heap.size) (c := cs N64 (limbs v)) (by simp)
          go_wp2_with fail
          have M3 := M.set 2 (cs N64 (limbs (v - P))) rfl
          dsimp only [List.set] at M3
          have hlt2 : v - P < v := by have := P_pos; have := HLP.out; omega
          go_roundw
          case rel => exact ⟨v - P, by have := HV.out; omega, by rw [← HP.out]; exact (Nat.mod_eq_sub_mod (by have := HLP.out; omega)).symm, M3.sub (by simp)⟩
          case measure =>
            rw [M3.row (b := w.heap.size) (c := cs N64 (limbs (v - P))) (by simp), mvn_cs, vn_limbs, HMV.out, Nat.mod_eq_of_lt (by have := HV.out; omega)]
            exact hlt2
end Go.Proofs.Ytgneclfnfnpmkaa
