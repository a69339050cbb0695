/-
  Walks of package fe: the parts of a key; own work.
-/
import Derived.Test.YtgneclfnfnpmkaaFe5
set_option linter.unusedSimpArgs false
set_option linter.unusedVariables false
namespace Go.Proofs.Ytgneclfnfnpmkaa.Fp
/-- the highest j bytes of part i -/
def pb (a : List B8) (i j : Nat) : Nat := leN ((a.drop (8 * i + 8 - j)).take j)
def oL (a : List B8) (i j : Nat) : List Nat := (List.range 4).map fun m => if m < i then pb a m 8 else if m = i then pb a i j else 0
theorem oL_len (a : List B8) (i j : Nat) : (oL a i j).length = 4 := by simp [oL]
theorem oL_at (a : List B8) (i j : Nat) (hi : i < 4) : (oL a i j).getD i 0 = pb a i j := by simp [oL, List.getD_eq_getElem?_getD, hi]
theorem pb_lt (a : List B8) (i j : Nat) : pb a i j < 256 ^ j := by
  have h := leN_lt ((a.drop (8 * i + 8 - j)).take j)
  exact Nat.lt_of_lt_of_le h (Nat.pow_le_pow_right (by decide) (by simp; omega))
theorem pb_succ (a : List B8) (i j : Nat) (hj : j < 8) (hl : 8 * i + 8 ≤ a.length) : pb a i (j + 1) = pb a i j * 256 + (a.getD (8 * i + (7 - j)) 0).toNat := by
  unfold pb
  have e1 : 8 * i + 8 - (j + 1) = 8 * i + (7 - j) := by omega
  have e2 : 8 * i + 8 - j = 8 * i + (7 - j) + 1 := by omega
  have h : 8 * i + (7 - j) < a.length := by omega
  rw [e1, e2, List.drop_eq_getElem_cons h, List.take_succ_cons, leN_cons, List.getD_eq_getElem?_getD, List.getElem?_eq_getElem h]
  show _ = _ + (a[8 * i + (7 - j)]).toNat
  omega
theorem oL_set (a : List B8) (i j : Nat) (hi : i < 4) : (oL a i j).set i (pb a i (j + 1)) = oL a i (j + 1) := by
  apply List.ext_getElem?
  intro m
  rw [List.getElem?_set]
  by_cases h : i = m
  · subst h; simp [oL, hi]
  · rw [if_neg h]
    simp only [oL, List.getElem?_map]
    by_cases hm : m < 4
    · simp only [List.getElem?_range hm, Option.map_some]
      by_cases h2 : m < i
      · simp [h2]
      · simp [h2, Ne.symm h]
    · rw [List.getElem?_eq_none (by simp; omega)]; rfl
theorem oL_next (a : List B8) (i : Nat) (hi : i < 4) : oL a i 8 = oL a (i + 1) 0 := by
  apply List.ext_getElem?
  intro m
  simp only [oL, List.getElem?_map]
  by_cases hm : m < 4
  · simp only [List.getElem?_range hm, Option.map_some]
    by_cases h1 : m < i
    · simp [h1, show m < i + 1 by omega]
    · by_cases h2 : m = i
      · subst h2; simp
      · by_cases h3 : m = i + 1
        · subst h3; simp [pb, leN, vd]; intro h; omega
        · simp [h1, h2, h3, show ¬ m < i + 1 by omega]
  · rw [List.getElem?_eq_none (by simp; omega)]; rfl
theorem oL_zero (a : List B8) : oL a 0 0 = limbs 0 := by
  simp [oL, List.range_succ, pb, leN, vd, limbs]
theorem leN_app : ∀ (l m : List B8), leN (l ++ m) = leN l + 256 ^ l.length * leN m
  | [], m => by simp [leN, vd]
  | x :: r, m => by
    rw [List.cons_append, leN_cons, leN_cons, leN_app r m, List.length_cons, Nat.pow_succ, Nat.mul_add, Nat.mul_comm (256 ^ r.length) 256, Nat.mul_assoc]; omega
theorem oL_end (a : List B8) (ha : a.length = 32) : oL a 4 0 = limbs (leN a) := by
  have e : oL a 4 0 = [pb a 0 8, pb a 1 8, pb a 2 8, pb a 3 8] := by simp [oL, List.range_succ]
  have hlm : Lm (oL a 4 0) := by
    rw [e]
    have h : M64 = 256 ^ 8 := by decide
    exact Lm.mk4 (h ▸ pb_lt a 0 8) (h ▸ pb_lt a 1 8) (h ▸ pb_lt a 2 8) (h ▸ pb_lt a 3 8)
  rw [← limbs_vn hlm]
  congr 1
  rw [e]
  have hs : a = (a.drop 0).take 8 ++ ((a.drop 8).take 8 ++ ((a.drop 16).take 8 ++ (a.drop 24).take 8)) := by
    rw [List.take_of_length_le (l := a.drop 24) (by simp; omega)]
    rw [show a.drop 24 = (a.drop 16).drop 8 by simp, List.take_append_drop, show a.drop 16 = (a.drop 8).drop 8 by simp, List.take_append_drop]
    simp
  have h8 : (256 : Nat) ^ 8 = M64 := by decide
  conv => rhs; rw [hs]
  rw [leN_app, leN_app, leN_app]
  have l1 : ((a.drop 0).take 8).length = 8 := by simp; omega
  have l2 : ((a.drop 8).take 8).length = 8 := by simp; omega
  have l3 : ((a.drop 16).take 8).length = 8 := by simp; omega
  rw [l1, l2, l3, h8]
  simp only [vn, pb, Nat.mul_zero, Nat.zero_add, Nat.sub_self, Nat.mul_one, Nat.add_sub_cancel]
  rw [show 8 * 2 = 16 from rfl, show 8 * 3 = 24 from rfl]
  simp only [M64]; omega
end Go.Proofs.Ytgneclfnfnpmkaa.Fp
namespace Go.Proofs.Ytgneclfnfnpmkaa
open Go.RowKit Fp
theorem shlN {t : TypeId} (x : Nat) (hx : x < 72057594037927936) : binOp .shl t (N64 x) (.int .u64 8) = pure (N64 (x * 256)) := by
  show Op.shift .shl .u64 (x : Int) .u64 8 = _
  unfold Op.shift
  rw [if_neg (by decide)]
  show Sem.pure (Value.int .u64 (IntKind.u64.wrap ((x : Int) * 2 ^ 8))) = Sem.pure (Value.int .u64 _)
  congr 2
  rw [wrap_u64']; omega
theorem orN {t : TypeId} (x b : Nat) (hb : b < 256) (hx : x < 72057594037927936) : binOp .or t (N64 (x * 256)) (N64 b) = pure (N64 (x * 256 + b)) := by
  show Sem.pure (Value.int .u64 (IntKind.u64.wrap ((BitVec.ofInt 64 ((x * 256 : Nat) : Int) ||| BitVec.ofInt 64 (b : Int)).toNat : Int))) = Sem.pure (Value.int .u64 _)
  congr 2
  rw [wrap_u64', BitVec.toNat_or, BitVec.toNat_ofInt, BitVec.toNat_ofInt]
  have e1 : ((((x * 256 : Nat) : Int) % ((2 ^ 64 : Nat) : Int)).toNat) = x * 256 := by omega
  have e2 : (((b : Int) % ((2 ^ 64 : Nat) : Int)).toNat) = b := by omega
  rw [e1, e2]
  have h := Nat.shiftLeft_add_eq_or_of_lt (i := 8) (show b < 2 ^ 8 from hb) x
  rw [Nat.shiftLeft_eq] at h
  rw [show x * 256 = x * 2 ^ 8 from rfl, ← h]
  omega
theorem u64N (x : BitVec 8) : N64 x.toNat = U64 (x.setWidth 64) := by
  show Value.int .u64 _ = Value.int .u64 _
  rw [BitVec.toNat_setWidth, Nat.mod_eq_of_lt (by have := x.isLt; omega)]
attribute [local irreducible] oL
set_option maxRecDepth 100000 in
set_option maxHeartbeats 4000000 in
theorem of_any (w : World) (a : List (BitVec 8)) (ha : a.length = 32) :
    Calls Try.prog 40 #[.agg (cs U8 a)] w fun e w' => e = .returned (.agg (cs N64 (limbs (leN a)))) ∧ Below w.heap.size w w' := by
  have M0 := Mm.start no w
  have M1 := (((M0.alloc (cs U8 a) 23 (by decide)).alloc (cs N64 (limbs 0)) 42 (by decide)).alloc (cs N64 (limbs 0)) 42 (by decide))
  simp only [World.size_alloc] at M1
  have HA := hid ha
  clear ha
  go_enter Try.func40, Try.ntmps40
  go_wp2_with fail
  go_loopw [6] (fun t wr => ∃ i : Nat, i ≤ 4 ∧ t = .int .i64 i ∧ Mm no w [(w.heap.size + 1 + 1, cs N64 (oL a i 0)), (w.heap.size + 1, cs N64 (limbs 0)), (w.heap.size, cs U8 a)] wr) (fun t _ => 4 - (intOf t).toNat)
  case atStart => exact ⟨0, by omega, rfl, by rw [oL_zero]; exact M1⟩
  case round =>
    clear M1
    obtain ⟨i, hi, rfl, M⟩ := hrel
    by_cases hlt : i < 4
    · go_wp2_with fail
      obtain ⟨wo, hwo⟩ : ∃ wo, wo = wr := ⟨_, rfl⟩
      rw [← hwo] at M ⊢
      clear hwo
      go_loopw [5] (fun t wr => ∃ j : Nat, j ≤ 8 ∧ t = .int .i64 (7 - (j : Int)) ∧ Mm no w [(w.heap.size + 1 + 1, cs N64 (oL a i j)), (w.heap.size + 1, cs N64 (limbs 0)), (w.heap.size, cs U8 a)] wr) (fun t _ => (intOf t + 1).toNat)
      case atStart => exact ⟨0, by omega, rfl, M⟩
      case round =>
        clear M
        obtain ⟨j, hj, rfl, M⟩ := hrel
        by_cases hj8 : j < 8
        · obtain ⟨k, hk⟩ : ∃ k, k = 7 - j := ⟨_, rfl⟩
          obtain ⟨h, hh⟩ : ∃ h, h = 8 * i + k := ⟨_, rfl⟩
          have ek : (7 - (j : Int)) = (k : Int) := by omega
          rw [ek]
          have hh32 : h < 32 := by omega
          have hhI : (8 * (i : Int) + (k : Int)) = (h : Int) := by omega
          have HH := hid hhI
          have q1 : (h : Int) < 32 := by omega
          have q0 : (0 : Int) ≤ h := by omega
          have hk8 : k < 8 := by omega
          have HK := hid hk; have HHN := hid hh; have EK := hid ek
          have ha := HA.out
          have eo := oL_at a i j hlt
          have hsh : gN (oL a i j) i < 72057594037927936 := by
            unfold gN; rw [eo]
            exact Nat.lt_of_lt_of_le (pb_lt a i j) (Nat.pow_le_pow_right (n := 256) (by decide) (show j ≤ 7 by omega))
          have EO := hid eo
          clear hk hh hhI ek eo
          go_upto_region 8 with fail
          refine wp_region_seq 14 [13, 14, 15, 16, 17, 18, 19, 20, 21, 22, 23, 24, 25, 26] [] [] [] (.op 14 .done) (Mm no w _) (by kernel_rfl) (by kernel_rfl) (by kernel_rfl) (fun d _ _ _ _ h => by cases d <;> exact h) (by rfl) M.size (fun _ _ h k => h.sf k) M ?_
          simp only [List.take_succ_cons, List.take_zero]
          refine SeqA.pure (.int .i64 i) (fun w' => by go_simp) rfl rfl ?_
          refine SeqA.pure (.int .i64 i) (fun w' => by go_simp) rfl rfl ?_
          refine SeqA.pure (.pointer (some ⟨w.heap.size + 1 + 1, i, none⟩)) (fun w' => by go_simp) rfl rfl ?_
          refine SeqA.read (N64 (gN (oL a i j) i)) (fun w' M => by have c0 := cell_gN (M.row (b := w.heap.size + 1 + 1) (c := cs N64 (oL a i j)) (by simp)) (i := i) (by rw [oL_len]; exact hlt); go_simp) rfl rfl ?_
          refine SeqA.pure (N64 (gN (oL a i j) i * 256)) (fun w' => by have q := shlN (t := 40) (gN (oL a i j) i) hsh; go_simp) rfl rfl ?_
          simp only [Act.put, List.setIfInBounds_toArray, List.set_cons_succ, List.set_cons_zero]
          refine SeqA.pure (.int .i64 i) (fun w' => by go_simp) rfl rfl ?_
          refine SeqA.pure (.int .i64 (8 * i)) (fun w' => by have q := i64w (8 * (i : Int)) (by omega) (by omega); go_simp) rfl rfl ?_
          refine SeqA.pure (.int .i64 k) (fun w' => by go_simp) rfl rfl ?_
          refine SeqA.pure (.int .i64 h) (fun w' => by have q := HH.out; have q2 := i64w (h : Int) (by omega) (by omega); go_simp) rfl rfl ?_
          refine SeqA.pure (.pointer (some ⟨w.heap.size, h, none⟩)) (fun w' => by go_simp) rfl rfl ?_
          refine SeqA.read (U8 (g8 a h)) (fun w' M => by have c0 := cell_g8 (M.row (b := w.heap.size) (c := cs U8 a) (by simp)) (i := h) (by rw [ha]; exact hh32); go_simp) rfl rfl ?_
          simp only [Act.put, List.setIfInBounds_toArray, List.set_cons_succ, List.set_cons_zero]
          refine SeqA.pure (N64 (g8 a h).toNat) (fun w' => by rw [u64N]; go_simp) rfl rfl ?_
          refine SeqA.pure (N64 (gN (oL a i j) i * 256 + (g8 a h).toNat)) (fun w' => by have q := orN (t := 40) (gN (oL a i j) i) (g8 a h).toNat (g8 a h).isLt; go_simp) rfl rfl ?_
          refine SeqA.pure (.pointer (some ⟨w.heap.size + 1 + 1, i, none⟩)) (fun w' => by go_simp) rfl rfl ?_
          refine SeqA.nil (fun w1 M2 hz => ?_)
          show wpT _ _ _ _ _ _
          simp only [Act.put, List.setIfInBounds_toArray, List.set_cons_succ, List.set_cons_zero]
          refine wpT_stc M2 0 (N64 (gN (oL a i j) i * 256 + (g8 a h).toNat)) (cs N64 ((oL a i j).set i (gN (oL a i j) i * 256 + (g8 a h).toNat))) inf_u64 rfl rfl rfl rfl (by go_simp) (by go_simp) (by have := (by rw [oL_len]; exact hlt : i < (oL a i j).length); first | (simp; done) | (simpa using this) | (simp; omega)) (by simp [go_sem]) (cs_set _ _) rfl (fun w3 M4 => ?_)
          dsimp only [List.set] at M4
          dsimp only [wpT]
          go_wp2_with fail
          go_roundw
          case rel => exact ⟨j + 1, by omega, by have := EK.out; go_num, by
            have e2 := pb_succ a i j hj8 (by rw [HA.out]; omega)
            rw [← HK.out, ← HHN.out, ← EO.out] at e2
            rw [← oL_set a i j hlt, e2]; exact M4⟩
          case measure => simp [intOf]
        · have : j = 8 := by omega
          subst this
          rw [oL_next a i hlt] at M
          rw [show (7 - ((8 : Nat) : Int)) = -1 from rfl]
          go_wp2_with fail
          go_roundw
          case rel => exact ⟨i + 1, by omega, by go_num, M⟩
          case measure => simp [intOf]; omega
    · have : i = 4 := by omega
      subst this
      rw [oL_end a HA.out] at M
      go_upto_region 10 with fail
      have r2 := M.row (b := w.heap.size + 1 + 1) (c := cs N64 (limbs (leN a))) (by simp)
      have f3 := M.free (b := w.heap.size + 1) (c := cs N64 (limbs 0)) (by simp)
      have r3 := M.row (b := w.heap.size + 1) (c := cs N64 (limbs 0)) (by simp)
      go_wp2_with fail
      have M3 := M.set 1 (cs N64 (limbs (leN a))) rfl
      dsimp only [List.set] at M3
      have r4 := M3.row (b := w.heap.size + 1) (c := cs N64 (limbs (leN a))) (by simp)
      refine bodyPost_ret (res_row (b := w.heap.size + 1) rfl Try.underlying42 rfl inf_num _ _ rfl (by rw [r4]; simp)) rfl ?_
      rw [r4]
      exact ⟨rfl, M3.end_⟩
end Go.Proofs.Ytgneclfnfnpmkaa
