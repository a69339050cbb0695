/-
  Walks of reference 01: the inverse, nought; own work.
  What package field and reference 01 answer, as elements of the field; own work.
  What package field and reference 01 answer: contracts; own work.
-/
import Derived.Test.YtgclegdgngldoaaDoorRf5
import Derived.Test.YtgclegdgngldoaaDoorFe7
import Derived.Test.YtgclegdgngldoaaDoorEqK
set_option linter.unusedSimpArgs false
set_option linter.unusedVariables false
namespace Go.Proofs.YtgclegdgngldoaaDoor.Fp
theorem rp_zero (a : Nat) : rp a 0 = 1 := rfl
theorem rp_succ (a n : Nat) : rp a (n + 1) = if 254 - n ≠ 2 ∧ 254 - n ≠ 4 then (rp a n * rp a n % P) * a % P else rp a n * rp a n % P := rfl
theorem rp_lt (a : Nat) : ∀ n, rp a n < P
  | 0 => by rw [rp_zero]; decide
  | n + 1 => by rw [rp_succ]; split <;> exact Nat.mod_lt _ P_pos
/-- the exponent's highest bits -/
def eb : Nat → Nat
  | 0 => 0
  | n + 1 => 2 * eb n + (if 254 - n ≠ 2 ∧ 254 - n ≠ 4 then 1 else 0)
theorem rp_pow (a : Nat) : ∀ n, rp a n = a ^ eb n % P
  | 0 => by rw [rp_zero]; rfl
  | n + 1 => by
    have ih := rp_pow a n
    have h2 : rp a n * rp a n % P = a ^ (2 * eb n) % P := by rw [ih, ← Nat.mul_mod, ← Nat.pow_add]; congr 2; omega
    rw [rp_succ, h2]
    simp only [eb]
    split
    · rw [Nat.pow_succ, Nat.mod_mul_mod]
    · rfl
theorem eb_end : eb 255 = P - 2 := by decide +kernel
theorem rp_end (a : Nat) : rp a 255 = a ^ (P - 2) % P := by rw [rp_pow, eb_end]
end Go.Proofs.YtgclegdgngldoaaDoor.Fp
namespace Go.Proofs.YtgclegdgngldoaaDoor
open Go.RowKit Fp
attribute [local irreducible] P rp
theorem one_kb : (cs U8 (zs 32)).setIfInBounds 0 (.int .u8 1) = cs U8 (kb 1) := by kernel_rfl
set_option maxRecDepth 100000 in
set_option maxHeartbeats 4000000 in
theorem rinv_any (w : World) (a : List (BitVec 8)) (ha : a.length = 32) :
    Calls Tryd.prog 78 #[.agg (cs U8 a)] w fun e w' => e = .returned (.agg (cs U8 (kb (leN a ^ (P - 2) % P)))) ∧ Below w.heap.size w w' := by
  rw [← rp_end]
  have M0 := Mm.start no w
  have M1 := (((M0.alloc (cs U8 a) 23 (by decide)).alloc (cs U8 (zs 32)) 23 (by decide)).alloc (cs U8 (zs 32)) 23 (by decide))
  simp only [World.size_alloc] at M1
  have HA := hid ha; have HR0 := hid (rp_zero (leN a)); have HRS := hid (rp_succ (leN a))
  have HRL := hid (rp_lt (leN a))
  clear ha
  go_enter Tryd.func78, Tryd.ntmps78
  go_upto_region 2 with fail
  obtain ⟨w1, hw1⟩ : ∃ w1, w1 = (((w.alloc (.cells (cs U8 a) 23)).alloc (.cells (cs U8 (zs 32)) 23)).alloc (.cells (cs U8 (zs 32)) 23)) := ⟨_, rfl⟩
  rw [← hw1] at M1 ⊢
  clear hw1
  refine wp_region_seqF 1 [5] [] [] [] (.op 1 .done) (Mm no w _) (by kernel_rfl) (by kernel_rfl) (fun d _ _ _ _ h => by cases d <;> exact h) (by rfl) M1.size (fun _ _ h k => h.sf k) M1 (by kernel_rfl) ?_
  simp only [List.take_succ_cons, List.take_zero]
  refine SeqA.pure (.pointer (some ⟨w.heap.size + 1 + 1, 0, none⟩)) (fun w' => by go_simp) rfl rfl ?_
  refine SeqA.nil (fun w2 M2 hz => ?_)
  show wpT _ _ _ _ _ _
  refine wpT_stc M2 0 (.int .u8 1) (cs U8 (kb 1)) inf_u8 rfl rfl rfl rfl (by go_simp) (by go_simp) (by simp) (by simp [go_sem]) one_kb rfl (fun w3 M3 => ?_)
  dsimp only [List.set] at M3
  dsimp only [wpT]
  simp only [Act.put, List.setIfInBounds_toArray, List.set_cons_succ, List.set_cons_zero]
  clear M1 M0 M2
  go_wp2_with fail
  go_loopw [4] (fun t wr => ∃ j : Nat, j ≤ 255 ∧ t = .int .i64 ((j : Int) - 1) ∧ Mm no w [(w.heap.size + 1 + 1, cs U8 (kb (rp (leN a) (255 - j)))), (w.heap.size + 1, cs U8 (zs 32)), (w.heap.size, cs U8 a)] wr) (fun t _ => (intOf t + 1).toNat)
  case atStart => exact ⟨255, by omega, rfl, by rw [Nat.sub_self, HR0.out]; exact M3⟩
  case round =>
    clear M3
    obtain ⟨j, hj, rfl, M⟩ := hrel
    by_cases hj0 : 0 < j
    · obtain ⟨i, rfl⟩ : ∃ i, j = i + 1 := ⟨j - 1, by omega⟩
      have ei : (((i + 1 : Nat) : Int) - 1) = (i : Int) := by omega
      rw [ei]
      have q0 : (0 : Int) ≤ i := by omega
      have en : 255 - (i + 1) = 254 - i := by omega
      rw [en] at M
      obtain ⟨n, hn⟩ : ∃ n, n = 254 - i := ⟨_, rfl⟩
      rw [← hn] at M
      obtain ⟨v, hv⟩ : ∃ v, v = rp (leN a) n := ⟨_, rfl⟩
      rw [← hv] at M
      have hvl : v < M256 := by rw [hv]; exact Nat.lt_trans (HRL.out n) P_lt
      have HV := hid hv; have HN := hid hn; have HVL := hid hvl
      have r1 := M.row (b := w.heap.size + 1 + 1) (c := cs U8 (kb v)) (by simp)
      have hkl := kb_len v
      clear hv hn hvl ei en
      have hmul := fun w => rmul_any w (kb v) (kb v) (kb_len v) (kb_len v)
      rw [leN_kb HVL.out] at hmul
      have HMUL := hid hmul
      clear hmul
      obtain ⟨s, hs⟩ : ∃ s, s = v * v % P := ⟨_, rfl⟩
      have hcs : cn (v * v) = kb s := by rw [hs]; rfl
      have hsl : s < M256 := by rw [hs]; exact Nat.lt_trans (Nat.mod_lt _ P_pos) P_lt
      have HS := hid hs; have HCS := hid hcs; have HSL := hid hsl
      clear hs hcs hsl
      go_wp2_with fail
      with_reducible refine ((HMUL.out wr).mono ?_)
      rintro e w4 ⟨rfl, hb4⟩
      rw [HCS.out]
      have M4 := M.below hb4
      clear r1 hb4 hkl
      have r2 := M4.row (b := w.heap.size + 1 + 1) (c := cs U8 (kb v)) (by simp)
      have f2 := M4.free (b := w.heap.size + 1 + 1) (c := cs U8 (kb v)) (by simp)
      have hkl := kb_len v
      have hkl2 := kb_len s
      dsimp only
      by_cases h2 : i = 2
      · subst h2
        go_upto_region 7 with fail
        have M5 := M4.set 0 (cs U8 (kb s)) rfl
        dsimp only [List.set] at M5
        obtain ⟨w5, hw5⟩ : ∃ w5, w5 = w4.setRow (w.heap.size + 1 + 1) (cs U8 (kb s)) := ⟨_, rfl⟩
        rw [← hw5] at M5 ⊢
        clear hw5 r2 f2 hkl hkl2
        go_wp2_with fail
        go_roundw
        case rel => exact ⟨2, by omega, rfl, by
          have e : rp (leN a) (255 - 2) = s := by
            have := HRS.out n
            rw [HN.out] at this
            rw [show 255 - 2 = 254 - 2 + 1 from rfl, this, HS.out, HV.out, HN.out]; rfl
          rw [e]; exact M5⟩
        case measure => simp [intOf]
      · by_cases h4 : i = 4
        · subst h4
          go_upto_region 7 with fail
          have M5 := M4.set 0 (cs U8 (kb s)) rfl
          dsimp only [List.set] at M5
          obtain ⟨w5, hw5⟩ : ∃ w5, w5 = w4.setRow (w.heap.size + 1 + 1) (cs U8 (kb s)) := ⟨_, rfl⟩
          rw [← hw5] at M5 ⊢
          clear hw5 r2 f2 hkl hkl2
          go_wp2_with fail
          go_roundw
          case rel => exact ⟨4, by omega, rfl, by
            have e : rp (leN a) (255 - 4) = s := by
              have := HRS.out n
              rw [HN.out] at this
              rw [show 255 - 4 = 254 - 4 + 1 from rfl, this, HS.out, HV.out, HN.out]; rfl
            rw [e]; exact M5⟩
          case measure => simp [intOf]
        · have e2 : ((i : Int) != 2) = true := by simp; omega
          have e4 : ((i : Int) != 4) = true := by simp; omega
          have H2 := hid h2; have H4 := hid h4
          clear h2 h4
          have hmul := fun w => rmul_any w (kb s) a (kb_len s) HA.out
          rw [leN_kb HSL.out] at hmul
          have HMUL2 := hid hmul
          clear hmul
          go_upto_region 7 with fail
          have M5 := M4.set 0 (cs U8 (kb s)) rfl
          dsimp only [List.set] at M5
          obtain ⟨w5, hw5⟩ : ∃ w5, w5 = w4.setRow (w.heap.size + 1 + 1) (cs U8 (kb s)) := ⟨_, rfl⟩
          rw [← hw5] at M5 ⊢
          clear hw5 r2 f2
          have r3 := M5.row (b := w.heap.size + 1 + 1) (c := cs U8 (kb s)) (by simp)
          have r4 := M5.row (b := w.heap.size) (c := cs U8 a) (by simp)
          have hal := HA.out
          go_wp2_with fail
          with_reducible refine ((HMUL2.out w5).mono ?_)
          rintro e w6 ⟨rfl, hb6⟩
          obtain ⟨t, ht⟩ : ∃ t, t = s * leN a % P := ⟨_, rfl⟩
          have hct : cn (s * leN a) = kb t := by rw [ht]; rfl
          rw [hct]
          have HT := hid ht
          have M6 := M5.below hb6
          clear r3 r4 hb6 hct ht
          have r5 := M6.row (b := w.heap.size + 1 + 1) (c := cs U8 (kb s)) (by simp)
          have f5 := M6.free (b := w.heap.size + 1 + 1) (c := cs U8 (kb s)) (by simp)
          have hkl3 := kb_len t
          dsimp only
          go_wp2_with fail
          have M7 := M6.set 0 (cs U8 (kb t)) rfl
          dsimp only [List.set] at M7
          go_roundw
          case rel => exact ⟨i, by omega, by go_num, by
            have e : rp (leN a) (255 - i) = t := by
              have h := HRS.out n
              have hn := HN.out
              rw [show 255 - i = n + 1 by omega, h, if_pos ⟨by rw [hn]; have := H2.out; omega, by rw [hn]; have := H4.out; omega⟩, HT.out, HS.out, HV.out]
            rw [e]; exact M7⟩
          case measure => simp [intOf]
    · have : j = 0 := by omega
      subst this
      rw [show (((0 : Nat) : Int) - 1) = -1 from rfl]
      go_upto_region 9 with fail
      have r2 := M.row (b := w.heap.size + 1 + 1) (c := cs U8 (kb (rp (leN a) 255))) (by simp)
      have f3 := M.free (b := w.heap.size + 1) (c := cs U8 (zs 32)) (by simp)
      have r3 := M.row (b := w.heap.size + 1) (c := cs U8 (zs 32)) (by simp)
      have hkl := kb_len (rp (leN a) 255)
      go_wp2_with fail
      have M3 := M.set 1 (cs U8 (kb (rp (leN a) 255))) rfl
      dsimp only [List.set] at M3
      have r4 := M3.row (b := w.heap.size + 1) (c := cs U8 (kb (rp (leN a) 255))) (by simp)
      refine bodyPost_ret (res_row (b := w.heap.size + 1) rfl Tryd.underlying23 rfl inf_key _ _ rfl (by rw [r4]; simp)) rfl ?_
      rw [r4]
      exact ⟨rfl, M3.end_⟩
end Go.Proofs.YtgclegdgngldoaaDoor
set_option linter.unusedSimpArgs false
set_option linter.unusedVariables false
namespace Go.Proofs.YtgclegdgngldoaaDoor.Fp
def fk (n : Nat) : F := ⟨n % P, Nat.mod_lt _ P_pos⟩
def K (x : F) : List B8 := kb x.val
def Fk (l : List B8) : F := fk (leN l)
@[simp] theorem K_len (x : F) : (K x).length = 32 := kb_len _
theorem cn_K (n : Nat) : cn n = K (fk n) := rfl
@[simp] theorem fk_val (x : F) : fk x.val = x := Fin.ext (Nat.mod_eq_of_lt x.isLt)
theorem val_lt (x : F) : x.val < M256 := Nat.lt_trans x.isLt P_lt
@[simp] theorem Fk_K (x : F) : Fk (K x) = x := by unfold Fk K; rw [leN_kb (val_lt x), fk_val]
theorem K_inj {x y : F} (h : K x = K y) : x = y := by rw [← Fk_K x, ← Fk_K y, h]
theorem fk_mod (n : Nat) : fk (n % P) = fk n := Fin.ext (Nat.mod_mod _ _)
theorem fk_eq {m n : Nat} (h : m % P = n % P) : fk m = fk n := Fin.ext h
theorem fk_add (m n : Nat) : fk (m + n) = fk m + fk n := Fin.ext (by show (m + n) % P = (m % P + n % P) % P; rw [← Nat.add_mod])
theorem fk_mul (m n : Nat) : fk (m * n) = fk m * fk n := Fin.ext (by show (m * n) % P = (m % P * (n % P)) % P; rw [← Nat.mul_mod])
theorem fk_pow (m : Nat) : ∀ n, fk (m ^ n) = fk m ^ n
  | 0 => by rfl
  | n + 1 => by rw [Nat.pow_succ, fk_mul, fk_pow m n, Lean.Grind.Semiring.pow_succ]
theorem fk_P : fk (4 * P) = 0 := Fin.ext (by show 4 * P % P = 0; exact Nat.mul_mod_left _ _)
theorem M256_4P : M256 ≤ 4 * P := by decide
theorem fk_sub {m n : Nat} (h : n < M256) : fk (m + 4 * P - n) = fk m - fk n := by
  have h1 := M256_4P
  have e : fk (m + 4 * P - n) + fk n = fk m := by rw [← fk_add, Nat.sub_add_cancel (by omega), fk_add, fk_P]; grind
  grind
theorem addV_fk (x y : Nat) : fk (addV x y) = fk (x % M256) + fk (y % M256) := by
  rw [← fk_add]; exact fk_eq (red_P _)
theorem mulV_fk (x y : Nat) : fk (mulV x y) = fk (x % M256) * fk (y % M256) := by
  rw [← fk_mul]; exact fk_eq ((red_P _).trans (fold1_P _))
theorem addV_lt (x y : Nat) : addV x y < M256 := red_lt (by have h1 := mod256_lt x; have h2 := mod256_lt y; simp only [M256] at *; omega)
theorem mulV_lt (x y : Nat) : mulV x y < M256 := red_lt (fold1_mul_lt x y)
theorem subV_lt (x y : Nat) : subV x y < M256 := by
  have h1 := mod256_lt x
  have h2 := mod256_lt y
  unfold subV
  by_cases h3 : y % M256 ≤ x % M256
  · rw [if_pos h3]; omega
  · rw [if_neg h3]
    by_cases h4 : 38 ≤ x % M256 + M256 - y % M256
    · rw [if_pos h4]; omega
    · rw [if_neg h4]; omega
theorem subV_fk (x y : Nat) : fk (subV x y) = fk (x % M256) - fk (y % M256) := by
  have h1 := mod256_lt x
  have h2 := mod256_lt y
  have e : fk (subV x y) + fk (y % M256) = fk (x % M256) := by
    rw [← fk_add]
    refine fk_eq ?_
    have hP : M256 = 2 * P + 38 := by decide
    unfold subV
    split
    · rw [Nat.sub_add_cancel (by assumption)]
    · split
      · rw [show x % M256 + M256 - y % M256 - 38 + y % M256 = x % M256 + P * 2 by omega, Nat.add_mul_mod_self_left]
      · have : 152 ≤ P := by decide
        rw [show x % M256 + M256 - y % M256 + M256 - 76 + y % M256 = x % M256 + P * 4 by omega, Nat.add_mul_mod_self_left]
  grind
theorem keyV_K (x : Nat) : keyV x = K (fk (x % M256)) := rfl
/-- the value of a number below 2^256 -/
def fv (x : Nat) : F := fk (x % M256)
theorem fv_add (x y : Nat) : fv (addV x y) = fv x + fv y := by unfold fv; rw [Nat.mod_eq_of_lt (addV_lt x y), addV_fk]
theorem fv_sub (x y : Nat) : fv (subV x y) = fv x - fv y := by unfold fv; rw [Nat.mod_eq_of_lt (subV_lt x y), subV_fk]
theorem fv_mul (x y : Nat) : fv (mulV x y) = fv x * fv y := by unfold fv; rw [Nat.mod_eq_of_lt (mulV_lt x y), mulV_fk]
theorem fv_leN {l : List B8} (h : l.length = 32) : fv (leN l) = Fk l := by unfold fv Fk; rw [Nat.mod_eq_of_lt (leN_lt32 h)]
theorem fpow_add (x : F) (m n : Nat) : x ^ (m + n) = x ^ m * x ^ n := Lean.Grind.Semiring.pow_add x m n
theorem fv_sq (x : Nat) (e : Nat) (y : F) (h : fv x = y ^ e) : ∀ n, fv (sqV x n) = y ^ (e * 2 ^ n)
  | 0 => by simpa [sqV] using h
  | n + 1 => by
    show fv (mulV (sqV x n) (sqV x n)) = _
    rw [fv_mul, fv_sq x e y h n, ← fpow_add]
    congr 1
    rw [Nat.pow_succ, ← Nat.mul_assoc]; omega
theorem fv_mulp {x y : Nat} {z : F} {d e : Nat} (hx : fv x = z ^ d) (hy : fv y = z ^ e) : fv (mulV x y) = z ^ (d + e) := by rw [fv_mul, hx, hy, fpow_add]
theorem fv_inv (x : Nat) : fv (invV x) = inv (fv x) := by
  have h1 : fv x = fv x ^ 1 := by grind
  have h2 := fv_mulp (fv_sq _ _ _ h1 1) h1
  have h4 := fv_mulp (fv_sq _ _ _ h2 2) h2
  have h5 := fv_mulp (fv_sq _ _ _ h4 1) h1
  have h10 := fv_mulp (fv_sq _ _ _ h5 5) h5
  have h20 := fv_mulp (fv_sq _ _ _ h10 10) h10
  have h40 := fv_mulp (fv_sq _ _ _ h20 20) h20
  have h50 := fv_mulp (fv_sq _ _ _ h40 10) h10
  have h100 := fv_mulp (fv_sq _ _ _ h50 50) h50
  have h200 := fv_mulp (fv_sq _ _ _ h100 100) h100
  have h250 := fv_mulp (fv_sq _ _ _ h200 50) h50
  have hl := fv_mulp (fv_sq _ _ _ (fv_mulp (fv_sq _ _ _ h1 2) h1) 1) h1
  have h := fv_mulp (fv_sq _ _ _ h250 5) hl
  unfold inv
  refine (show fv (invV x) = _ from h).trans ?_
  refine congrArg (fv x ^ ·) ?_
  decide +kernel
end Go.Proofs.YtgclegdgngldoaaDoor.Fp
set_option linter.unusedSimpArgs false
set_option linter.unusedVariables false
namespace Go.Proofs.YtgclegdgngldoaaDoor
open Go.RowKit Fp
/-- the inverse, hid from the kernel (it would reckon the power) -/
theorem iv_ex : ∃ f : F → F, f = inv := ⟨_, rfl⟩
noncomputable def iv : F → F := Classical.choose iv_ex
theorem iv_eq (x : F) : iv x = inv x := congrFun (Classical.choose_spec iv_ex) x
theorem u8_cellv : (fun x : BitVec 8 => U8 x) = fun x => Value.int .u8 (((UInt8.ofBitVec x).toNat : Nat) : Int) := rfl
theorem fcanon_c (w : World) (a : List (BitVec 8)) (ha : a.length = 32) (x : F) (hx : Fk a = x) :
    Calls Tryd.prog 93 #[.agg (cs U8 a)] w fun e w' => e = .returned (.agg (cs U8 (K x))) ∧ Below w.heap.size w w' :=
  (fcanon_any w a ha).mono fun e w' ⟨h, h2⟩ => ⟨by rw [h, ← hx, ← fv_leN ha]; rfl, h2⟩
theorem radd_c (w : World) (a b : List (BitVec 8)) (ha : a.length = 32) (hb : b.length = 32) (x y : F) (hx : Fk a = x) (hy : Fk b = y) :
    Calls Tryd.prog 95 #[.agg (cs U8 a), .agg (cs U8 b)] w fun e w' => e = .returned (.agg (cs U8 (K (x + y)))) ∧ Below w.heap.size w w' :=
  (radd_any w a b ha hb).mono fun e w' ⟨h, h2⟩ => ⟨by rw [h, ← hx, ← hy]; unfold Fk; rw [← fk_add]; rfl, h2⟩
theorem rsub_c (w : World) (a b : List (BitVec 8)) (ha : a.length = 32) (hb : b.length = 32) (x y : F) (hx : Fk a = x) (hy : Fk b = y) :
    Calls Tryd.prog 96 #[.agg (cs U8 a), .agg (cs U8 b)] w fun e w' => e = .returned (.agg (cs U8 (K (x - y)))) ∧ Below w.heap.size w w' :=
  (rsub_any w a b ha hb).mono fun e w' ⟨h, h2⟩ => ⟨by rw [h, ← hx, ← hy]; unfold Fk; rw [← fk_sub (leN_lt32 hb)]; rfl, h2⟩
theorem rmul_c (w : World) (a b : List (BitVec 8)) (ha : a.length = 32) (hb : b.length = 32) (x y : F) (hx : Fk a = x) (hy : Fk b = y) :
    Calls Tryd.prog 77 #[.agg (cs U8 a), .agg (cs U8 b)] w fun e w' => e = .returned (.agg (cs U8 (K (x * y)))) ∧ Below w.heap.size w w' :=
  (rmul_any w a b ha hb).mono fun e w' ⟨h, h2⟩ => ⟨by rw [h, ← hx, ← hy]; unfold Fk; rw [← fk_mul]; rfl, h2⟩
theorem rinv_c (w : World) (a : List (BitVec 8)) (ha : a.length = 32) (x : F) (hx : Fk a = x) :
    Calls Tryd.prog 78 #[.agg (cs U8 a)] w fun e w' => e = .returned (.agg (cs U8 (K (iv x)))) ∧ Below w.heap.size w w' :=
  (rinv_any w a ha).mono fun e w' ⟨h, h2⟩ => ⟨by rw [h, ← hx, iv_eq]; unfold Fk inv; rw [← fk_pow]; rfl, h2⟩
theorem rcanon_c (w : World) (a : List (BitVec 8)) (ha : a.length = 32) (x : F) (hx : Fk a = x) :
    Calls Tryd.prog 94 #[.agg (cs U8 a)] w fun e w' => e = .returned (.agg (cs U8 (K x))) ∧ Below w.heap.size w w' :=
  (rcanon_any w a ha).mono fun e w' ⟨h, h2⟩ => ⟨by rw [h, ← hx]; rfl, h2⟩
theorem K_zero : K 0 = zs 32 := by decide +kernel
theorem eqk (w : World) (x y : F) (b : Bool) (h : decide (x = y) = b) : (Op.equalIn 10000 23 (.agg (cs U8 (K x))) (.agg (cs U8 (K y)))).run Tryd.prog w = .ok b w := by
  rw [eqin_key w _ _ (K_len x) (K_len y), ← h]
  congr 1
  rw [Bool.eq_iff_iff, beq_iff_eq, decide_eq_true_eq]
  exact ⟨K_inj, fun e => by rw [e]⟩
theorem eq0 (w : World) (x : F) : (Op.equalIn 10000 23 (.agg (cs U8 (K x))) (.agg (cs U8 (zs 32)))).run Tryd.prog w = .ok (decide (x = 0)) w := by
  rw [← K_zero]; exact eqk w x 0 _ rfl
set_option maxRecDepth 100000 in
set_option maxHeartbeats 1000000 in
theorem rzero_c (w : World) (a : List (BitVec 8)) (ha : a.length = 32) (x : F) (hx : Fk a = x) :
    Calls Tryd.prog 73 #[.agg (cs U8 a)] w fun e w' => e = .returned (.bool (decide (x = 0))) ∧ Below w.heap.size w w' := by
  subst hx
  have M0 := Mm.start no w
  go_enter Tryd.func73, Tryd.ntmps73
  have M2 := (M0.alloc (cs U8 a) 23 (by decide))
  try simp only [World.size_alloc] at M2
  go_upto_region 1 with fail
  obtain ⟨w1, hw1⟩ : ∃ w1, w1 = (w.alloc (.cells (cs U8 a) 23)) := ⟨_, rfl⟩
  rw [← hw1] at M2 ⊢
  clear hw1
  refine wp_region_seqF 5 [3, 4, 5, 6, 2] [] [] [] (.done) (Mm no w _) (by kernel_rfl) (by kernel_rfl) (fun d _ _ _ _ h => by cases d <;> exact h) (by rfl) M2.size (fun _ _ h k => h.sf k) M2 (by kernel_rfl) ?_
  simp only [List.take_succ_cons, List.take_zero]
  refine SeqA.ld0 Tryd.underlying23 rfl inf_key (w.heap.size) (cs U8 a) rfl (by go_simp) (fun _ M => M.row (by simp)) (by simp [ha]) rfl ?_
  refine SeqA.call _ _ _ (fun w' => by go_simp) (fun w' hI _ => rcanon_c w' a (by simp [ha]) (Fk a) (rfl)) M2.size rfl rfl ?_
  refine SeqA.pure (.agg (cs U8 (zs 32))) (fun w' => by go_simp) rfl rfl ?_
  refine SeqA.pure (.bool (decide (Fk a = 0))) (fun w' => by have q := eq0 w' (Fk a); go_simp) rfl rfl ?_
  refine SeqA.pure (.bool (decide (Fk a = 0))) (fun w' => by go_simp) rfl rfl ?_
  refine SeqA.nil (fun w3 M4 hz => ?_)
  show wpT _ _ _ _ _ _
  simp only [Act.put, List.setIfInBounds_toArray, List.set_cons_succ, List.set_cons_zero]
  dsimp only [wpT]
  go_wp2_with fail
  go_ret
  exact ⟨rfl, M4.end_⟩
end Go.Proofs.YtgclegdgngldoaaDoor
