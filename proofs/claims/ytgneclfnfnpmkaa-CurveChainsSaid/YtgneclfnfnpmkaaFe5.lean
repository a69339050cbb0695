/-
  Walks of package fe: the key of a number; own work.
-/
import Derived.Test.YtgneclfnfnpmkaaFe4
set_option linter.unusedSimpArgs false
set_option linter.unusedVariables false
namespace Go.Proofs.Ytgneclfnfnpmkaa.Fp
theorem kbN_get : ∀ (k n j : Nat), j < k → (kbN k n)[j]? = some (BitVec.ofNat 8 (n / 256 ^ j))
  | k + 1, n, 0, _ => by simp [kbN]
  | k + 1, n, j + 1, h => by
    simp only [kbN, List.getElem?_cons_succ]
    rw [kbN_get k (n / 256) j (by omega), Nat.pow_succ, Nat.mul_comm, Nat.div_div_eq_div_mul]
theorem byte_limb (V i k : Nat) (hi : i < 4) (hk : k < 8) : BitVec.ofNat 8 ((limbs V).getD i 0 / 256 ^ k) = BitVec.ofNat 8 (V / 256 ^ (8 * i + k)) := by
  have h1 : (limbs V).getD i 0 = V / M64 ^ i % M64 := by
    match i, hi with
    | 0, _ => simp [limbs]
    | 1, _ => simp [limbs]
    | 2, _ => simp [limbs, Nat.div_div_eq_div_mul, Nat.pow_succ]
    | 3, _ => simp [limbs, Nat.div_div_eq_div_mul, Nat.pow_succ, Nat.mul_assoc]
  have h2 : M64 ^ i = 256 ^ (8 * i) := by rw [show M64 = 256 ^ 8 by decide, ← Nat.pow_mul]
  have h3 : M64 = 256 ^ k * (256 * 256 ^ (7 - k)) := by
    rw [show M64 = 256 ^ (k + (1 + (7 - k))) by rw [show k + (1 + (7 - k)) = 8 by omega]; decide, Nat.pow_add, Nat.pow_add]
  rw [h1, h2, Nat.pow_add, ← Nat.div_div_eq_div_mul]
  apply BitVec.eq_of_toNat_eq
  rw [BitVec.toNat_ofNat, BitVec.toNat_ofNat]
  conv => lhs; rw [h3, Nat.mod_mul_right_div_self]
  rw [Nat.mod_mul_right_mod]
theorem take_set_kb (V j : Nat) (hj : j < 32) : ((kb V).take j ++ (zs (32 - j) : List B8)).set j (BitVec.ofNat 8 (V / 256 ^ j)) = (kb V).take (j + 1) ++ zs (32 - (j + 1)) := by
  have hl : ((kb V).take j).length = j := by simp; omega
  rw [List.set_append_right _ _ (by omega), hl, Nat.sub_self]
  obtain ⟨m, hm⟩ : ∃ m, 32 - j = m + 1 := ⟨31 - j, by omega⟩
  have h2 : (kb V)[j]? = some (BitVec.ofNat 8 (V / 256 ^ j)) := kbN_get 32 V j hj
  have hj' : j < (kb V).length := by simp; omega
  rw [List.take_succ_eq_append_getElem hj', List.append_assoc]
  congr 1
  rw [hm, show 32 - (j + 1) = m by omega]
  simp only [zs, List.replicate_succ, List.set_cons_zero, List.singleton_append]
  congr 1
  rw [List.getElem?_eq_getElem hj'] at h2
  exact (Option.some.inj h2).symm
end Go.Proofs.Ytgneclfnfnpmkaa.Fp
namespace Go.Proofs.Ytgneclfnfnpmkaa
open Go.RowKit Fp
theorem i64w (n : Int) (h1 : -9223372036854775808 ≤ n) (h2 : n < 9223372036854775808) : IntKind.i64.wrap n = n := by rw [IntKind.wrap_i64]; omega
theorem shrN {t : TypeId} (x k : Nat) (hk : k < 8) : binOp .shr t (N64 x) (.int .i64 (8 * k : Int)) = pure (N64 (x / 256 ^ k)) := by
  show Op.shift .shr .u64 (x : Int) .i64 (8 * k : Int) = _
  unfold Op.shift
  rw [if_neg (by omega)]
  show Sem.pure (Value.int .u64 ((x : Int).fdiv (2 ^ (min (8 * k : Int).toNat 64)))) = Sem.pure (Value.int .u64 _)
  congr 2
  have h1 : min (8 * (k : Int)).toNat 64 = 8 * k := by omega
  rw [h1, Int.fdiv_eq_ediv_of_nonneg _ (by exact_mod_cast Nat.zero_le _)]
  have h2 : (2 : Int) ^ (8 * k) = ((256 ^ k : Nat) : Int) := by
    rw [show (256 : Nat) = 2 ^ 8 from rfl, ← Nat.pow_mul]; simp
  rw [h2]; exact_mod_cast rfl
theorem cvn_8 {P : Program} (w : World) (src dst : TypeId) (x : Nat) (hs : (P.underlying src).isSome = true) (hd : P.underlying dst = some (.int .u8)) : (convert src dst (N64 x)).run P w = .ok (U8 (BitVec.ofNat 8 x)) w := by
  obtain ⟨d, hd'⟩ := Option.isSome_iff_exists.mp hs
  have e : Value.int .u8 (IntKind.u8.wrap (x : Int)) = U8 (BitVec.ofNat 8 x) := by
    rw [u8_wrap]; congr 1 <;> (apply BitVec.eq_of_toNat_eq; rw [BitVec.toNat_ofInt, BitVec.toNat_ofNat]; omega)
  simp [convert, run_underlying hd', run_underlying hd, Conv.intToInt, e]
attribute [local irreducible] P kb
attribute [local go_sem ↓] cvn_8
set_option maxRecDepth 100000 in
set_option maxHeartbeats 4000000 in
theorem key_any (w : World) (x : Nat) :
    Calls Try.prog 41 #[.agg (cs N64 (limbs x))] w fun e w' => e = .returned (.agg (cs U8 (keyV x))) ∧ Below w.heap.size w w' := by
  have M0 := Mm.start no w
  have M1 := (((M0.alloc (cs N64 (limbs x)) 42 (by decide)).alloc (cs U8 (zs 32)) 23 (by decide)).alloc (cs U8 (zs 32)) 23 (by decide))
  simp only [World.size_alloc] at M1
  go_enter Try.func41, Try.ntmps41
  go_upto_region 2 with fail
  obtain ⟨w1, hw1⟩ : ∃ w1, w1 = ((w.alloc (.cells (cs N64 (limbs x)) 42)).alloc (.cells (cs U8 (zs 32)) 23)).alloc (.cells (cs U8 (zs 32)) 23) := ⟨_, rfl⟩
  rw [← hw1] at M1 ⊢
  clear hw1
  have r1 := M1.row (b := w.heap.size) (c := cs N64 (limbs x)) (by simp)
  go_wp2_with fail
  with_reducible refine ((ncanon_any w1 x).mono ?_)
  rintro e w2 ⟨rfl, hb2⟩
  have M2 := M1.below hb2
  obtain ⟨V, hV⟩ : ∃ V, V = x % M256 % P := ⟨_, rfl⟩
  rw [← hV]
  have hres : keyV x = kb V := by rw [hV]; rfl
  have HR := hid hres
  clear hb2 r1 M1 hV hres
  dsimp only
  go_wp2_with fail
  go_loopw [9] (fun t wr => ∃ i : Nat, i ≤ 4 ∧ t = .int .i64 i ∧ Mm no w [(w.heap.size + 1 + 1, cs U8 ((kb V).take (8 * i) ++ zs (32 - 8 * i))), (w.heap.size + 1, cs U8 (zs 32)), (w.heap.size, cs N64 (limbs x))] wr) (fun t _ => 4 - (intOf t).toNat)
  case atStart => exact ⟨0, by omega, rfl, by simpa using M2⟩
  case round =>
    clear M2
    obtain ⟨i, hi, rfl, M⟩ := hrel
    by_cases hlt : i < 4
    · have hidx := idx_num wr (limbs V) i hlt (limbs_len V)
      go_wp2_with fail
      clear hidx
      obtain ⟨wo, hwo⟩ : ∃ wo, wo = wr := ⟨_, rfl⟩
      rw [← hwo] at M ⊢
      clear hwo
      go_loopw [13] (fun t wr => ∃ k : Nat, k ≤ 8 ∧ t = .int .i64 k ∧ Mm no w [(w.heap.size + 1 + 1, cs U8 ((kb V).take (8 * i + k) ++ zs (32 - (8 * i + k)))), (w.heap.size + 1, cs U8 (zs 32)), (w.heap.size, cs N64 (limbs x))] wr) (fun t _ => 8 - (intOf t).toNat)
      case atStart => exact ⟨0, by omega, rfl, M⟩
      case round =>
        clear M
        obtain ⟨k, hk, rfl, M⟩ := hrel
        by_cases hk8 : k < 8
        · obtain ⟨j, hj⟩ : ∃ j, j = 8 * i + k := ⟨_, rfl⟩
          have hj32 : j < 32 := by omega
          have hjI : (8 * (i : Int) + (k : Int)) = (j : Int) := by omega
          have HJ := hid hjI
          have q1 : (j : Int) < 32 := by omega
          have q0 : (0 : Int) ≤ j := by omega
          have hL := hid (show ((kb V).take j ++ (zs (32 - j) : List (BitVec 8))).length = 32 by simp; omega)
          rw [← hj] at M
          have HJN := hid hj
          clear hj hjI
          go_upto_region 8 with fail
          refine wp_region_seqF 10 [16, 17, 18, 19, 20, 21, 22, 23, 24, 25] [] [] [] (.op 10 .done) (Mm no w _) (by kernel_rfl) (by kernel_rfl) (fun d _ _ _ _ h => by cases d <;> exact h) (by rfl) M.size (fun _ _ h k => h.sf k) M (by kernel_rfl) ?_
          simp only [List.take_succ_cons, List.take_zero]
          refine SeqA.pure (.int .i64 i) (fun w' => by go_simp) rfl rfl ?_
          refine SeqA.pure (.int .i64 (8 * i)) (fun w' => by have q := i64w (8 * (i : Int)) (by omega) (by omega); go_simp) rfl rfl ?_
          refine SeqA.pure (.int .i64 k) (fun w' => by go_simp) rfl rfl ?_
          refine SeqA.pure (.int .i64 j) (fun w' => by have q := HJ.out; have q2 := i64w (j : Int) (by omega) (by omega); go_simp) rfl rfl ?_
          refine SeqA.pure (N64 (gN (limbs V) i)) (fun w' => by go_simp) rfl rfl ?_
          simp only [Act.put, List.setIfInBounds_toArray, List.set_cons_succ, List.set_cons_zero]
          refine SeqA.pure (.int .i64 k) (fun w' => by go_simp) rfl rfl ?_
          refine SeqA.pure (.int .i64 (8 * k)) (fun w' => by have q := i64w (8 * (k : Int)) (by omega) (by omega); go_simp) rfl rfl ?_
          refine SeqA.pure (N64 (gN (limbs V) i / 256 ^ k)) (fun w' => by have q := shrN (t := 40) (gN (limbs V) i) k hk8; go_simp) rfl rfl ?_
          refine SeqA.pure (U8 (BitVec.ofNat 8 (gN (limbs V) i / 256 ^ k))) (fun w' => by go_simp) rfl rfl ?_
          refine SeqA.pure (.pointer (some ⟨w.heap.size + 1 + 1, j, none⟩)) (fun w' => by go_simp) rfl rfl ?_
          refine SeqA.nil (fun w1 M2 hz => ?_)
          show wpT _ _ _ _ _ _
          simp only [Act.put, List.setIfInBounds_toArray, List.set_cons_succ, List.set_cons_zero]
          refine wpT_stc M2 0 (U8 (BitVec.ofNat 8 (gN (limbs V) i / 256 ^ k))) (cs U8 (((kb V).take j ++ zs (32 - j)).set j (BitVec.ofNat 8 (gN (limbs V) i / 256 ^ k)))) inf_u8 rfl rfl rfl rfl (by go_simp) (by go_simp) (by have := (by rw [hL]; exact hj32 : j < ((kb V).take j ++ zs (32 - j)).length); first | (simp; done) | (simpa using this) | (simp; omega)) (by simp [go_sem]) (cs_set _ _) rfl (fun w3 M4 => ?_)
          dsimp only [List.set] at M4
          dsimp only [wpT]
          go_wp2_with fail
          go_roundw
          case rel => exact ⟨k + 1, by omega, by go_num, by
            have e1 : 8 * i + (k + 1) = j + 1 := by rw [HJN.out]; omega
            have e2 := byte_limb V i k hlt hk8
            rw [← HJN.out] at e2
            rw [e1, ← take_set_kb V j hj32, ← e2]; exact M4⟩
          case measure => simp [intOf]; omega
        · have : k = 8 := by omega
          subst this
          go_wp2_with fail
          go_roundw
          case rel => exact ⟨i + 1, by omega, by go_num, M⟩
          case measure => simp [intOf]; omega
    · have : i = 4 := by omega
      subst this
      have e : (kb V).take (8 * 4) ++ (zs (32 - 8 * 4) : List (BitVec 8)) = kb V := by rw [List.take_of_length_le (by simp)]; simp [zs]
      rw [e] at M
      clear e
      go_upto_region 11 with fail
      have r2 := M.row (b := w.heap.size + 1 + 1) (c := cs U8 (kb V)) (by simp)
      have f3 := M.free (b := w.heap.size + 1) (c := cs U8 (zs 32)) (by simp)
      have r3 := M.row (b := w.heap.size + 1) (c := cs U8 (zs 32)) (by simp)
      have hkl := kb_len V
      go_wp2_with fail
      have M3 := M.set 1 (cs U8 (kb V)) rfl
      dsimp only [List.set] at M3
      have r4 := M3.row (b := w.heap.size + 1) (c := cs U8 (kb V)) (by simp)
      refine bodyPost_ret (res_row (b := w.heap.size + 1) rfl Try.underlying23 rfl inf_key _ _ rfl (by rw [r4]; simp)) rfl ?_
      rw [r4]
      exact ⟨by rw [HR.out], M3.end_⟩
end Go.Proofs.Ytgneclfnfnpmkaa
