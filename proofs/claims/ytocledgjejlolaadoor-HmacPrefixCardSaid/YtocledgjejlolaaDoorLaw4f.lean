/-
  Law 04: HmacPrefix; own work.
-/
import Derived.Test.YtocledgjejlolaaDoorLaw4c
set_option linter.unusedSimpArgs false
set_option linter.unusedVariables false
namespace Go.Proofs.YtocledgjejlolaaDoor
open Go.RowKit

theorem okm_add (k i : List (BitVec 8)) (a : Nat) : ∀ b, ∃ r, Sh.okm k i (a + b) = Sh.okm k i a ++ r
  | 0 => ⟨[], by simp⟩
  | b + 1 => by
    obtain ⟨r, hr⟩ := okm_add k i a b
    exact ⟨r ++ Sh.tb k i (a + b + 1), by rw [← Nat.add_assoc, Sh.okm, hr, List.append_assoc]⟩
theorem expand_take (k i : List (BitVec 8)) (lo hi : Nat) (h : lo ≤ hi) : (Sh.expand k i hi).take lo = Sh.expand k i lo := by
  unfold Sh.expand
  obtain ⟨r, hr⟩ := okm_add k i ((lo + 31) / 32) ((hi + 31) / 32 - (lo + 31) / 32)
  rw [show (lo + 31) / 32 + ((hi + 31) / 32 - (lo + 31) / 32) = (hi + 31) / 32 by omega] at hr
  rw [hr, List.take_take, Nat.min_eq_left h, List.take_append_of_le_length (by rw [okm_len]; omega)]
set_option maxRecDepth 100000 in
set_option maxHeartbeats 8000000 in
theorem prefix_walk (w : World) (v : Value) (l info : List (BitVec 8)) (p q : Nat) (hp : p ≤ 255) (hq : q ≤ 255) (hT : KT w) (hk0 : 0 < w.heap.size) (hl : l.length = 32) (hv : BS w v info) :
    Calls Tryd.prog 9 #[.agg (cs U8 l), v, .agg #[.int .u8 p, .int .u8 q]] w fun e w' => e = .returned (.bool true) ∧ Below w.heap.size w w' := by
  obtain ⟨n, hn⟩ : ∃ n, n = info.length := ⟨_, rfl⟩
  obtain ⟨av, cv, rfl, hcv⟩ := hv.shape' n hn.symm
  obtain ⟨wa, hwa⟩ : ∃ wa, wa = (w.alloc (.cells (cs U8 l) 25)).alloc (.cells #[.int .u8 p, .int .u8 q] 55) := ⟨_, rfl⟩
  have ha : Below w.heap.size w wa := by rw [hwa]; exact ((Below.refl _ _).alloc (Nat.le_refl _) _).alloc (by simp) _
  have hra : wa.rowOf w.heap.size = cs U8 l := by rw [hwa]; simp [go_sem]
  have hc0 : wa.cell? ⟨w.heap.size + 1, 0, none⟩ = some (.int .u8 (p : Int)) := by rw [hwa, cell_rowOf, rowOf_alloc_at _ _ _ (by simp)]; rfl
  have hc1 : wa.cell? ⟨w.heap.size + 1, 1, none⟩ = some (.int .u8 (q : Int)) := by rw [hwa, cell_rowOf, rowOf_alloc_at _ _ _ (by simp)]; rfl
  have hsa : wa.heap.size = w.heap.size + 2 := by rw [hwa]; simp
  have HWA := hid hwa; have HRA := hid hra; have HV := hid (hv.below ha); have HL := hid hl; have HTA := hid (hT.below ha hk0); have HN := hid hn; have HC0 := hid hc0; have HC1 := hid hc1
  clear hwa hra hv hl hT hn hc0 hc1
  by_cases h3 : (1000 : Int) < n
  · go_enter Tryd.func9, Tryd.ntmps9
    go_wp2_with fail
    rw [← HWA.out]
    with_reducible refine (alive4_any wa HTA.out (by omega)).mono ?_
    rintro e w1 ⟨rfl, hb1⟩
    dsimp only
    go_wp2_with fail
    go_ret
    exact ⟨rfl, ha.trans (hb1.mono (by omega))⟩
  have lk : info.length ≤ 1000 := by rw [← HN.out]; omega
  rcases Nat.lt_trichotomy p q with h | h | h
  · have hpq : (p : Int) < q := by omega
    go_enter Tryd.func9, Tryd.ntmps9
    go_wp2_with fail
    rw [← HWA.out]
    with_reducible refine (alive4_any wa HTA.out (by omega)).mono ?_
    rintro e w1 ⟨rfl, hb1⟩
    have hz1 := hb1.size
    have c0 : w1.cell? ⟨w.heap.size + 1, 0, none⟩ = some (.int .u8 (p : Int)) := (hb1.cell (p := ⟨w.heap.size + 1, 0, none⟩) (by show w.heap.size + 1 < wa.heap.size; omega)).trans HC0.out
    have c1 : w1.cell? ⟨w.heap.size + 1, 1, none⟩ = some (.int .u8 (q : Int)) := (hb1.cell (p := ⟨w.heap.size + 1, 1, none⟩) (by show w.heap.size + 1 < wa.heap.size; omega)).trans HC1.out
    dsimp only
    go_wp2_with fail
    go_quiet (fail)
    obtain ⟨X, hX⟩ : ∃ X, X = Sh.expand l info p := ⟨_, rfl⟩
    obtain ⟨Y, hY⟩ : ∃ Y, Y = Sh.expand l info q := ⟨_, rfl⟩
    have hXl : X.length = p := by rw [hX]; exact expand_len ..
    have hYl : Y.length = q := by rw [hY]; exact expand_len ..
    have hXY : Y.take p = X := by rw [hX, hY]; exact expand_take _ _ _ _ (by omega)
    have HX := hid hX; have HY := hid hY; have HXL := hid hXl; have HYL := hid hYl; have HXY := hid hXY
    clear hX hY hXl hYl hXY c0 c1
    obtain ⟨w2, hw2⟩ : ∃ w2, w2 = w1.drewN nq := ⟨_, rfl⟩
    have hb2 : Below wa.heap.size wa w2 := by rw [hw2]; exact below_drewN hb1 _
    have hz2 := hb2.size
    rw [← hw2]
    clear hw2 hb1 hz1
    have hl := HL.out
    have hr2 : w2.rowOf w.heap.size = cs U8 l := (below_row hb2 (by omega)).trans HRA.out
    go_wp2_with fail
    with_reducible refine (expand_any w2 l info _ p (HTA.out.below hb2 (by omega)) (by omega) hl (HV.out.below hb2) (by omega) (by omega)).mono ?_
    rintro e w3 ⟨ux, rfl, hx3, hb3⟩
    rw [← HX.out] at hx3
    obtain ⟨aa, ca, rfl, hca⟩ := hx3.shape' p HXL.out
    have hB3 := hb2.trans (hb3.mono hz2)
    have hz3 := hB3.size
    have hr3 : w3.rowOf w.heap.size = cs U8 l := (below_row hB3 (by omega)).trans HRA.out
    dsimp only
    go_wp2_with fail
    with_reducible refine (expand_any w3 l info _ q (HTA.out.below hB3 (by omega)) (by omega) hl (HV.out.below hB3) (by omega) (by omega)).mono ?_
    rintro e w4 ⟨uy, rfl, hy4, hb4⟩
    rw [← HY.out] at hy4
    obtain ⟨ab, cb, rfl, hcb⟩ := hy4.shape' q HYL.out
    have hB4 := hB3.trans (hb4.mono hz3)
    have hz4 := hB4.size
    have hx4 := hx3.below hb4
    have ht4 := hy4.headn HYL.out p cb (by omega) (by omega) (Nat.le_refl _)
    rw [HXY.out] at ht4
    have HX' : Hid (∀ wc, Below w4.heap.size w4 wc → BS wc (.slice aa p ca) X) := hid fun wc h => BS.below hx4 h
    have HT' : Hid (∀ wc, Below w4.heap.size w4 wc → BS wc (.slice ab p cb) X) := hid fun wc h => BS.below ht4 h
    clear hx3 hy4 hx4 ht4 hr2 hr3 hl hb2 hb3 hb4 hB3
    dsimp only
    go_wp2_with fail
    refine wp_region_flow 27 (44 :: 45 :: 46 :: 47 :: 48 :: 49 :: 50 :: 51 :: 52 :: 53 :: 54 :: 55 :: 56 :: 57 :: 58 :: 59 :: 60 :: 61 :: 62 :: 63 :: 64 :: 65 :: 66 :: 67 :: 68 :: 69 :: 70 :: []) (Sp.eq (.int .i64 0) :: Sp.eq (.bool true) :: Sp.eq (.bool true) :: Sp.eq (.int .i64 0) :: Sp.eq (.bool true) :: Sp.eq (.bool true) :: Sp.eq (.bool true) :: Sp.eq (.slice aa p ca) :: Sp.eq (.int .i64 p) :: Sp.eq (.int .i64 p) :: Sp.eq (.bool true) :: Sp.eq (.bool true) :: Sp.eq (.bool true) :: Sp.eq (.slice ab q cb) :: Sp.eq (.int .i64 q) :: Sp.eq (.int .i64 q) :: Sp.eq (.bool true) :: Sp.eq (.bool true) :: Sp.eq (.bool true) :: Sp.eq (.slice ab q cb) :: Sp.eq (.int .i64 p) :: Sp.eq (.slice ab p cb) :: Sp.eq (.string (Bs X)) :: Sp.eq (.slice aa p ca) :: Sp.eq (.string (Bs X)) :: Sp.eq (.bool true) :: Sp.eq (.bool true) :: []) (.op 27 .done) (by kernel_rfl) (by kernel_rfl) (by kernel_rfl) (by rfl) ?_ ?_
    · refine ⟨stepF_mk trivial (fun ρ f w' hc hfn hgl hi ho hb hd => ?_), stepF_mk trivial (fun ρ f w' hc hfn hgl hi ho hb hd => ?_), stepF_mk trivial (fun ρ f w' hc hfn hgl hi ho hb hd => ?_), stepF_mk (fun _ _ h => h) (fun ρ f w' hc hfn hgl hi ho hb hd => ?_), stepF_mk (fun _ _ h => h) (fun ρ f w' hc hfn hgl hi ho hb hd => ?_), stepF_mk trivial (fun ρ f w' hc hfn hgl hi ho hb hd => ?_), stepF_mk trivial (fun ρ f w' hc hfn hgl hi ho hb hd => ?_), stepF_mk (fun _ _ h => h) (fun ρ f w' hc hfn hgl hi ho hb hd => ?_), stepF_mk (fun _ _ h => h) (fun ρ f w' hc hfn hgl hi ho hb hd => ?_), stepF_mk (fun _ _ h => h) (fun ρ f w' hc hfn hgl hi ho hb hd => ?_), stepF_mk (fun _ _ h => h) (fun ρ f w' hc hfn hgl hi ho hb hd => ?_), stepF_mk trivial (fun ρ f w' hc hfn hgl hi ho hb hd => ?_), stepF_mk trivial (fun ρ f w' hc hfn hgl hi ho hb hd => ?_), stepF_mk (fun _ _ h => h) (fun ρ f w' hc hfn hgl hi ho hb hd => ?_), stepF_mk (fun _ _ h => h) (fun ρ f w' hc hfn hgl hi ho hb hd => ?_), stepF_mk (fun _ _ h => h) (fun ρ f w' hc hfn hgl hi ho hb hd => ?_), stepF_mk (fun _ _ h => h) (fun ρ f w' hc hfn hgl hi ho hb hd => ?_), stepF_mk trivial (fun ρ f w' hc hfn hgl hi ho hb hd => ?_), stepF_mk trivial (fun ρ f w' hc hfn hgl hi ho hb hd => ?_), stepF_mk (fun _ _ h => h) (fun ρ f w' hc hfn hgl hi ho hb hd => ?_), stepF_mk (fun _ _ h => h) (fun ρ f w' hc hfn hgl hi ho hb hd => ?_), stepF_mk (fun _ _ h => h) (fun ρ f w' hc hfn hgl hi ho hb hd => ?_), stepF_mk (fun _ _ h => h) (fun ρ f w' hc hfn hgl hi ho hb hd => ?_), stepF_mk (fun _ _ h => h) (fun ρ f w' hc hfn hgl hi ho hb hd => ?_), stepF_mk (fun _ _ h => h) (fun ρ f w' hc hfn hgl hi ho hb hd => ?_), stepF_mk (fun _ _ h => h) (fun ρ f w' hc hfn hgl hi ho hb hd => ?_), stepF_mk trivial (fun ρ f w' hc hfn hgl hi ho hb hd => ?_), trivial⟩
      · -- 0: slot 44 := Op.move (Operand.tmp 10)
        obtain ⟨-⟩ : True := hd
        have e10 : ρ (.tmp 10) = .int .i64 0 := ho 10 (by decide)
        exact Gives.pure (.int .i64 0) (by go_simp) ⟨soft_refl _, hb, rfl, fun h => nomatch h⟩
      · -- 1: slot 45 := Op.binOp BinOp.eql 31 (Operand.tmp 44) (Operand.const (Value.int IntKind.i64 0)) 31
        obtain ⟨h44, -⟩ : (f 44 = .int .i64 0) ∧ True := hd
        have e44 : ρ (.tmp 44) = .int .i64 0 := (hi 44 (by decide)).trans h44
        exact Gives.pure (.bool true) (by go_simp) ⟨soft_refl _, hb, rfl, fun h => nomatch h⟩
      · -- 2: slot 46 := Op.move (Operand.tmp 45)
        obtain ⟨h45, -⟩ : (f 45 = .bool true) ∧ True := hd
        have e45 : ρ (.tmp 45) = .bool true := (hi 45 (by decide)).trans h45
        exact Gives.pure (.bool true) (by go_simp) ⟨soft_refl _, hb, rfl, fun h => nomatch h⟩
      · -- 3: slot 47 := Op.move (Operand.tmp 12)
        obtain ⟨-, -⟩ : (f 46 = .bool true) ∧ True := hd
        have e12 : ρ (.tmp 12) = .int .i64 0 := ho 12 (by decide)
        exact Gives.pure (.int .i64 0) (by go_simp) ⟨soft_refl _, hb, rfl, fun h => nomatch h⟩
      · -- 4: slot 48 := Op.binOp BinOp.eql 31 (Operand.tmp 47) (Operand.const (Value.int IntKind.i64 0)) 31
        obtain ⟨h47, -, -⟩ : (f 47 = .int .i64 0) ∧ (f 46 = .bool true) ∧ True := hd
        have e47 : ρ (.tmp 47) = .int .i64 0 := (hi 47 (by decide)).trans h47
        exact Gives.pure (.bool true) (by go_simp) ⟨soft_refl _, hb, rfl, fun h => nomatch h⟩
      · -- 5: slot 49 := Op.pick (Operand.tmp 46) (Operand.tmp 48) (Operand.const (Value.bool false))
        obtain ⟨h46, h48, -⟩ : (f 46 = .bool true) ∧ (f 48 = .bool true) ∧ True := hd
        have e46 : ρ (.tmp 46) = .bool true := (hi 46 (by decide)).trans h46
        have e48 : ρ (.tmp 48) = .bool true := (hi 48 (by decide)).trans h48
        exact Gives.pure (.bool true) (by go_simp) ⟨soft_refl _, hb, rfl, fun h => nomatch h⟩
      · -- 6: slot 50 := Op.move (Operand.tmp 49)
        obtain ⟨h49, -, -⟩ : (f 49 = .bool true) ∧ (f 46 = .bool true) ∧ True := hd
        have e49 : ρ (.tmp 49) = .bool true := (hi 49 (by decide)).trans h49
        exact Gives.pure (.bool true) (by go_simp) ⟨soft_refl _, hb, rfl, fun h => nomatch h⟩
      · -- 7: slot 51 := Op.move (Operand.tmp 9)
        obtain ⟨-, -⟩ : (f 50 = .bool true) ∧ True := hd
        have e9 : ρ (.tmp 9) = .slice aa p ca := ho 9 (by decide)
        exact Gives.pure (.slice aa p ca) (by go_simp) ⟨soft_refl _, hb, rfl, fun h => nomatch h⟩
      · -- 8: slot 52 := Op.call { callee := Callee.builtin Builtin.len, args := #[Operand.tmp 51], argTypes := #[22] }
        obtain ⟨h51, -, -⟩ : (f 51 = .slice aa p ca) ∧ (f 50 = .bool true) ∧ True := hd
        have e51 : ρ (.tmp 51) = .slice aa p ca := (hi 51 (by decide)).trans h51
        exact Gives.pure (.int .i64 p) (by go_simp) ⟨soft_refl _, hb, rfl, fun h => nomatch h⟩
      · -- 9: slot 53 := Op.move (Operand.tmp 7)
        obtain ⟨-, -⟩ : (f 50 = .bool true) ∧ True := hd
        have e7 : ρ (.tmp 7) = .int .i64 p := ho 7 (by decide)
        exact Gives.pure (.int .i64 p) (by go_simp) ⟨soft_refl _, hb, rfl, fun h => nomatch h⟩
      · -- 10: slot 54 := Op.binOp BinOp.eql 3 (Operand.tmp 52) (Operand.tmp 53) 3
        obtain ⟨h52, h53, -, -⟩ : (f 52 = .int .i64 p) ∧ (f 53 = .int .i64 p) ∧ (f 50 = .bool true) ∧ True := hd
        have e52 : ρ (.tmp 52) = .int .i64 p := (hi 52 (by decide)).trans h52
        have e53 : ρ (.tmp 53) = .int .i64 p := (hi 53 (by decide)).trans h53
        exact Gives.pure (.bool true) (by go_simp) ⟨soft_refl _, hb, rfl, fun h => nomatch h⟩
      · -- 11: slot 55 := Op.pick (Operand.tmp 50) (Operand.tmp 54) (Operand.const (Value.bool false))
        obtain ⟨h50, h54, -⟩ : (f 50 = .bool true) ∧ (f 54 = .bool true) ∧ True := hd
        have e50 : ρ (.tmp 50) = .bool true := (hi 50 (by decide)).trans h50
        have e54 : ρ (.tmp 54) = .bool true := (hi 54 (by decide)).trans h54
        exact Gives.pure (.bool true) (by go_simp) ⟨soft_refl _, hb, rfl, fun h => nomatch h⟩
      · -- 12: slot 56 := Op.move (Operand.tmp 55)
        obtain ⟨h55, -, -⟩ : (f 55 = .bool true) ∧ (f 50 = .bool true) ∧ True := hd
        have e55 : ρ (.tmp 55) = .bool true := (hi 55 (by decide)).trans h55
        exact Gives.pure (.bool true) (by go_simp) ⟨soft_refl _, hb, rfl, fun h => nomatch h⟩
      · -- 13: slot 57 := Op.move (Operand.tmp 11)
        obtain ⟨-, -⟩ : (f 56 = .bool true) ∧ True := hd
        have e11 : ρ (.tmp 11) = .slice ab q cb := ho 11 (by decide)
        exact Gives.pure (.slice ab q cb) (by go_simp) ⟨soft_refl _, hb, rfl, fun h => nomatch h⟩
      · -- 14: slot 58 := Op.call { callee := Callee.builtin Builtin.len, args := #[Operand.tmp 57], argTypes := #[22] }
        obtain ⟨h57, -, -⟩ : (f 57 = .slice ab q cb) ∧ (f 56 = .bool true) ∧ True := hd
        have e57 : ρ (.tmp 57) = .slice ab q cb := (hi 57 (by decide)).trans h57
        exact Gives.pure (.int .i64 q) (by go_simp) ⟨soft_refl _, hb, rfl, fun h => nomatch h⟩
      · -- 15: slot 59 := Op.move (Operand.tmp 8)
        obtain ⟨-, -⟩ : (f 56 = .bool true) ∧ True := hd
        have e8 : ρ (.tmp 8) = .int .i64 q := ho 8 (by decide)
        exact Gives.pure (.int .i64 q) (by go_simp) ⟨soft_refl _, hb, rfl, fun h => nomatch h⟩
      · -- 16: slot 60 := Op.binOp BinOp.eql 3 (Operand.tmp 58) (Operand.tmp 59) 3
        obtain ⟨h58, h59, -, -⟩ : (f 58 = .int .i64 q) ∧ (f 59 = .int .i64 q) ∧ (f 56 = .bool true) ∧ True := hd
        have e58 : ρ (.tmp 58) = .int .i64 q := (hi 58 (by decide)).trans h58
        have e59 : ρ (.tmp 59) = .int .i64 q := (hi 59 (by decide)).trans h59
        exact Gives.pure (.bool true) (by go_simp) ⟨soft_refl _, hb, rfl, fun h => nomatch h⟩
      · -- 17: slot 61 := Op.pick (Operand.tmp 56) (Operand.tmp 60) (Operand.const (Value.bool false))
        obtain ⟨h56, h60, -⟩ : (f 56 = .bool true) ∧ (f 60 = .bool true) ∧ True := hd
        have e56 : ρ (.tmp 56) = .bool true := (hi 56 (by decide)).trans h56
        have e60 : ρ (.tmp 60) = .bool true := (hi 60 (by decide)).trans h60
        exact Gives.pure (.bool true) (by go_simp) ⟨soft_refl _, hb, rfl, fun h => nomatch h⟩
      · -- 18: slot 62 := Op.move (Operand.tmp 61)
        obtain ⟨h61, -, -⟩ : (f 61 = .bool true) ∧ (f 56 = .bool true) ∧ True := hd
        have e61 : ρ (.tmp 61) = .bool true := (hi 61 (by decide)).trans h61
        exact Gives.pure (.bool true) (by go_simp) ⟨soft_refl _, hb, rfl, fun h => nomatch h⟩
      · -- 19: slot 63 := Op.move (Operand.tmp 11)
        obtain ⟨-, -⟩ : (f 62 = .bool true) ∧ True := hd
        have e11 : ρ (.tmp 11) = .slice ab q cb := ho 11 (by decide)
        exact Gives.pure (.slice ab q cb) (by go_simp) ⟨soft_refl _, hb, rfl, fun h => nomatch h⟩
      · -- 20: slot 64 := Op.move (Operand.tmp 7)
        obtain ⟨-, -⟩ : (f 62 = .bool true) ∧ True := hd
        have e7 : ρ (.tmp 7) = .int .i64 p := ho 7 (by decide)
        exact Gives.pure (.int .i64 p) (by go_simp) ⟨soft_refl _, hb, rfl, fun h => nomatch h⟩
      · -- 21: slot 65 := Op.slice 22 (Operand.tmp 63) none (some (Operand.tmp 64)) none
        obtain ⟨h63, h64, -, -⟩ : (f 63 = .slice ab q cb) ∧ (f 64 = .int .i64 p) ∧ (f 62 = .bool true) ∧ True := hd
        have e63 : ρ (.tmp 63) = .slice ab q cb := (hi 63 (by decide)).trans h63
        have e64 : ρ (.tmp 64) = .int .i64 p := (hi 64 (by decide)).trans h64
        have q0 : (0 : Int) ≤ p := by omega
        have q1 : (p : Int) ≤ cb := by omega
        exact Gives.pure (.slice ab p cb) (by go_simp) ⟨soft_refl _, hb, rfl, fun h => nomatch h⟩
      · -- 22: slot 66 := Op.convert 22 9 (Operand.tmp 65)
        obtain ⟨h65, -, -⟩ : (f 65 = .slice ab p cb) ∧ (f 62 = .bool true) ∧ True := hd
        have e65 : ρ (.tmp 65) = .slice ab p cb := (hi 65 (by decide)).trans h65
        have s0 := bytes_str (HT'.out w' hb)
        unfold Sv at s0
        exact Gives.pure (.string (Bs X)) (by go_simp) ⟨soft_refl _, hb, rfl, fun h => nomatch h⟩
      · -- 23: slot 67 := Op.move (Operand.tmp 9)
        obtain ⟨-, -⟩ : (f 62 = .bool true) ∧ True := hd
        have e9 : ρ (.tmp 9) = .slice aa p ca := ho 9 (by decide)
        exact Gives.pure (.slice aa p ca) (by go_simp) ⟨soft_refl _, hb, rfl, fun h => nomatch h⟩
      · -- 24: slot 68 := Op.convert 22 9 (Operand.tmp 67)
        obtain ⟨h67, -, -⟩ : (f 67 = .slice aa p ca) ∧ (f 62 = .bool true) ∧ True := hd
        have e67 : ρ (.tmp 67) = .slice aa p ca := (hi 67 (by decide)).trans h67
        have s0 := bytes_str (HX'.out w' hb)
        unfold Sv at s0
        exact Gives.pure (.string (Bs X)) (by go_simp) ⟨soft_refl _, hb, rfl, fun h => nomatch h⟩
      · -- 25: slot 69 := Op.binOp BinOp.eql 9 (Operand.tmp 66) (Operand.tmp 68) 9
        obtain ⟨h66, h68, -, -⟩ : (f 66 = .string (Bs X)) ∧ (f 68 = .string (Bs X)) ∧ (f 62 = .bool true) ∧ True := hd
        have e66 : ρ (.tmp 66) = .string (Bs X) := (hi 66 (by decide)).trans h66
        have e68 : ρ (.tmp 68) = .string (Bs X) := (hi 68 (by decide)).trans h68
        exact Gives.pure (.bool true) (by go_simp) ⟨soft_refl _, hb, rfl, fun h => nomatch h⟩
      · -- 26: slot 70 := Op.pick (Operand.tmp 62) (Operand.tmp 69) (Operand.const (Value.bool false))
        obtain ⟨h62, h69, -⟩ : (f 62 = .bool true) ∧ (f 69 = .bool true) ∧ True := hd
        have e62 : ρ (.tmp 62) = .bool true := (hi 62 (by decide)).trans h62
        have e69 : ρ (.tmp 69) = .bool true := (hi 69 (by decide)).trans h69
        exact Gives.pure (.bool true) (by go_simp) ⟨soft_refl _, hb, rfl, fun h => nomatch h⟩
    · intro f wq hb hT hD
      have h44 : f 44 = .int .i64 0 := hT.1
      replace hT := hT.2
      have h45 : f 45 = .bool true := hT.1
      replace hT := hT.2
      have h46 : f 46 = .bool true := hT.1
      replace hT := hT.2
      have h47 : f 47 = .int .i64 0 := hT.1
      replace hT := hT.2
      have h48 : f 48 = .bool true := hT.1
      replace hT := hT.2
      have h49 : f 49 = .bool true := hT.1
      replace hT := hT.2
      have h50 : f 50 = .bool true := hT.1
      replace hT := hT.2
      have h51 : f 51 = .slice aa p ca := hT.1
      replace hT := hT.2
      have h52 : f 52 = .int .i64 p := hT.1
      replace hT := hT.2
      have h53 : f 53 = .int .i64 p := hT.1
      replace hT := hT.2
      have h54 : f 54 = .bool true := hT.1
      replace hT := hT.2
      have h55 : f 55 = .bool true := hT.1
      replace hT := hT.2
      have h56 : f 56 = .bool true := hT.1
      replace hT := hT.2
      have h57 : f 57 = .slice ab q cb := hT.1
      replace hT := hT.2
      have h58 : f 58 = .int .i64 q := hT.1
      replace hT := hT.2
      have h59 : f 59 = .int .i64 q := hT.1
      replace hT := hT.2
      have h60 : f 60 = .bool true := hT.1
      replace hT := hT.2
      have h61 : f 61 = .bool true := hT.1
      replace hT := hT.2
      have h62 : f 62 = .bool true := hT.1
      replace hT := hT.2
      have h63 : f 63 = .slice ab q cb := hT.1
      replace hT := hT.2
      have h64 : f 64 = .int .i64 p := hT.1
      replace hT := hT.2
      have h65 : f 65 = .slice ab p cb := hT.1
      replace hT := hT.2
      have h66 : f 66 = .string (Bs X) := hT.1
      replace hT := hT.2
      have h67 : f 67 = .slice aa p ca := hT.1
      replace hT := hT.2
      have h68 : f 68 = .string (Bs X) := hT.1
      replace hT := hT.2
      have h69 : f 69 = .bool true := hT.1
      replace hT := hT.2
      have h70 : f 70 = .bool true := hT.1
      replace hT := hT.2
      refine wpT_step rfl rfl (fun K hK => ?_)
      simp only [updL]
      go_simp
      refine hK _ _ ?_
      dsimp only [wpT]
      go_wp2_with fail
      go_ret
      exact ⟨rfl, ha.trans ((hB4.trans (hb.mono hz4)).mono (by omega))⟩
  · obtain rfl : p = q := h
    go_enter Tryd.func9, Tryd.ntmps9
    go_wp2_with fail
    rw [← HWA.out]
    with_reducible refine (alive4_any wa HTA.out (by omega)).mono ?_
    rintro e w1 ⟨rfl, hb1⟩
    have hz1 := hb1.size
    have c0 : w1.cell? ⟨w.heap.size + 1, 0, none⟩ = some (.int .u8 (p : Int)) := (hb1.cell (p := ⟨w.heap.size + 1, 0, none⟩) (by show w.heap.size + 1 < wa.heap.size; omega)).trans HC0.out
    have c1 : w1.cell? ⟨w.heap.size + 1, 1, none⟩ = some (.int .u8 (p : Int)) := (hb1.cell (p := ⟨w.heap.size + 1, 1, none⟩) (by show w.heap.size + 1 < wa.heap.size; omega)).trans HC1.out
    dsimp only
    go_wp2_with fail
    go_quiet (fail)
    obtain ⟨X, hX⟩ : ∃ X, X = Sh.expand l info p := ⟨_, rfl⟩
    obtain ⟨Y, hY⟩ : ∃ Y, Y = Sh.expand l info p := ⟨_, rfl⟩
    have hXl : X.length = p := by rw [hX]; exact expand_len ..
    have hYl : Y.length = p := by rw [hY]; exact expand_len ..
    have hXY : Y.take p = X := by rw [hX, hY]; exact expand_take _ _ _ _ (by omega)
    have HX := hid hX; have HY := hid hY; have HXL := hid hXl; have HYL := hid hYl; have HXY := hid hXY
    clear hX hY hXl hYl hXY c0 c1
    obtain ⟨w2, hw2⟩ : ∃ w2, w2 = w1.drewN nq := ⟨_, rfl⟩
    have hb2 : Below wa.heap.size wa w2 := by rw [hw2]; exact below_drewN hb1 _
    have hz2 := hb2.size
    rw [← hw2]
    clear hw2 hb1 hz1
    have hl := HL.out
    have hr2 : w2.rowOf w.heap.size = cs U8 l := (below_row hb2 (by omega)).trans HRA.out
    go_wp2_with fail
    with_reducible refine (expand_any w2 l info _ p (HTA.out.below hb2 (by omega)) (by omega) hl (HV.out.below hb2) (by omega) (by omega)).mono ?_
    rintro e w3 ⟨ux, rfl, hx3, hb3⟩
    rw [← HX.out] at hx3
    obtain ⟨aa, ca, rfl, hca⟩ := hx3.shape' p HXL.out
    have hB3 := hb2.trans (hb3.mono hz2)
    have hz3 := hB3.size
    have hr3 : w3.rowOf w.heap.size = cs U8 l := (below_row hB3 (by omega)).trans HRA.out
    dsimp only
    go_wp2_with fail
    with_reducible refine (expand_any w3 l info _ p (HTA.out.below hB3 (by omega)) (by omega) hl (HV.out.below hB3) (by omega) (by omega)).mono ?_
    rintro e w4 ⟨uy, rfl, hy4, hb4⟩
    rw [← HY.out] at hy4
    obtain ⟨ab, cb, rfl, hcb⟩ := hy4.shape' p HYL.out
    have hB4 := hB3.trans (hb4.mono hz3)
    have hz4 := hB4.size
    have hx4 := hx3.below hb4
    have ht4 := hy4.headn HYL.out p cb (by omega) (by omega) (Nat.le_refl _)
    rw [HXY.out] at ht4
    have HX' : Hid (∀ wc, Below w4.heap.size w4 wc → BS wc (.slice aa p ca) X) := hid fun wc h => BS.below hx4 h
    have HT' : Hid (∀ wc, Below w4.heap.size w4 wc → BS wc (.slice ab p cb) X) := hid fun wc h => BS.below ht4 h
    clear hx3 hy4 hx4 ht4 hr2 hr3 hl hb2 hb3 hb4 hB3
    dsimp only
    go_wp2_with fail
    refine wp_region_flow 27 (44 :: 45 :: 46 :: 47 :: 48 :: 49 :: 50 :: 51 :: 52 :: 53 :: 54 :: 55 :: 56 :: 57 :: 58 :: 59 :: 60 :: 61 :: 62 :: 63 :: 64 :: 65 :: 66 :: 67 :: 68 :: 69 :: 70 :: []) (Sp.eq (.int .i64 0) :: Sp.eq (.bool true) :: Sp.eq (.bool true) :: Sp.eq (.int .i64 0) :: Sp.eq (.bool true) :: Sp.eq (.bool true) :: Sp.eq (.bool true) :: Sp.eq (.slice aa p ca) :: Sp.eq (.int .i64 p) :: Sp.eq (.int .i64 p) :: Sp.eq (.bool true) :: Sp.eq (.bool true) :: Sp.eq (.bool true) :: Sp.eq (.slice ab p cb) :: Sp.eq (.int .i64 p) :: Sp.eq (.int .i64 p) :: Sp.eq (.bool true) :: Sp.eq (.bool true) :: Sp.eq (.bool true) :: Sp.eq (.slice ab p cb) :: Sp.eq (.int .i64 p) :: Sp.eq (.slice ab p cb) :: Sp.eq (.string (Bs X)) :: Sp.eq (.slice aa p ca) :: Sp.eq (.string (Bs X)) :: Sp.eq (.bool true) :: Sp.eq (.bool true) :: []) (.op 27 .done) (by kernel_rfl) (by kernel_rfl) (by kernel_rfl) (by rfl) ?_ ?_
    · refine ⟨stepF_mk trivial (fun ρ f w' hc hfn hgl hi ho hb hd => ?_), stepF_mk trivial (fun ρ f w' hc hfn hgl hi ho hb hd => ?_), stepF_mk trivial (fun ρ f w' hc hfn hgl hi ho hb hd => ?_), stepF_mk (fun _ _ h => h) (fun ρ f w' hc hfn hgl hi ho hb hd => ?_), stepF_mk (fun _ _ h => h) (fun ρ f w' hc hfn hgl hi ho hb hd => ?_), stepF_mk trivial (fun ρ f w' hc hfn hgl hi ho hb hd => ?_), stepF_mk trivial (fun ρ f w' hc hfn hgl hi ho hb hd => ?_), stepF_mk (fun _ _ h => h) (fun ρ f w' hc hfn hgl hi ho hb hd => ?_), stepF_mk (fun _ _ h => h) (fun ρ f w' hc hfn hgl hi ho hb hd => ?_), stepF_mk (fun _ _ h => h) (fun ρ f w' hc hfn hgl hi ho hb hd => ?_), stepF_mk (fun _ _ h => h) (fun ρ f w' hc hfn hgl hi ho hb hd => ?_), stepF_mk trivial (fun ρ f w' hc hfn hgl hi ho hb hd => ?_), stepF_mk trivial (fun ρ f w' hc hfn hgl hi ho hb hd => ?_), stepF_mk (fun _ _ h => h) (fun ρ f w' hc hfn hgl hi ho hb hd => ?_), stepF_mk (fun _ _ h => h) (fun ρ f w' hc hfn hgl hi ho hb hd => ?_), stepF_mk (fun _ _ h => h) (fun ρ f w' hc hfn hgl hi ho hb hd => ?_), stepF_mk (fun _ _ h => h) (fun ρ f w' hc hfn hgl hi ho hb hd => ?_), stepF_mk trivial (fun ρ f w' hc hfn hgl hi ho hb hd => ?_), stepF_mk trivial (fun ρ f w' hc hfn hgl hi ho hb hd => ?_), stepF_mk (fun _ _ h => h) (fun ρ f w' hc hfn hgl hi ho hb hd => ?_), stepF_mk (fun _ _ h => h) (fun ρ f w' hc hfn hgl hi ho hb hd => ?_), stepF_mk (fun _ _ h => h) (fun ρ f w' hc hfn hgl hi ho hb hd => ?_), stepF_mk (fun _ _ h => h) (fun ρ f w' hc hfn hgl hi ho hb hd => ?_), stepF_mk (fun _ _ h => h) (fun ρ f w' hc hfn hgl hi ho hb hd => ?_), stepF_mk (fun _ _ h => h) (fun ρ f w' hc hfn hgl hi ho hb hd => ?_), stepF_mk (fun _ _ h => h) (fun ρ f w' hc hfn hgl hi ho hb hd => ?_), stepF_mk trivial (fun ρ f w' hc hfn hgl hi ho hb hd => ?_), trivial⟩
      · -- 0: slot 44 := Op.move (Operand.tmp 10)
        obtain ⟨-⟩ : True := hd
        have e10 : ρ (.tmp 10) = .int .i64 0 := ho 10 (by decide)
        exact Gives.pure (.int .i64 0) (by go_simp) ⟨soft_refl _, hb, rfl, fun h => nomatch h⟩
      · -- 1: slot 45 := Op.binOp BinOp.eql 31 (Operand.tmp 44) (Operand.const (Value.int IntKind.i64 0)) 31
        obtain ⟨h44, -⟩ : (f 44 = .int .i64 0) ∧ True := hd
        have e44 : ρ (.tmp 44) = .int .i64 0 := (hi 44 (by decide)).trans h44
        exact Gives.pure (.bool true) (by go_simp) ⟨soft_refl _, hb, rfl, fun h => nomatch h⟩
      · -- 2: slot 46 := Op.move (Operand.tmp 45)
        obtain ⟨h45, -⟩ : (f 45 = .bool true) ∧ True := hd
        have e45 : ρ (.tmp 45) = .bool true := (hi 45 (by decide)).trans h45
        exact Gives.pure (.bool true) (by go_simp) ⟨soft_refl _, hb, rfl, fun h => nomatch h⟩
      · -- 3: slot 47 := Op.move (Operand.tmp 12)
        obtain ⟨-, -⟩ : (f 46 = .bool true) ∧ True := hd
        have e12 : ρ (.tmp 12) = .int .i64 0 := ho 12 (by decide)
        exact Gives.pure (.int .i64 0) (by go_simp) ⟨soft_refl _, hb, rfl, fun h => nomatch h⟩
      · -- 4: slot 48 := Op.binOp BinOp.eql 31 (Operand.tmp 47) (Operand.const (Value.int IntKind.i64 0)) 31
        obtain ⟨h47, -, -⟩ : (f 47 = .int .i64 0) ∧ (f 46 = .bool true) ∧ True := hd
        have e47 : ρ (.tmp 47) = .int .i64 0 := (hi 47 (by decide)).trans h47
        exact Gives.pure (.bool true) (by go_simp) ⟨soft_refl _, hb, rfl, fun h => nomatch h⟩
      · -- 5: slot 49 := Op.pick (Operand.tmp 46) (Operand.tmp 48) (Operand.const (Value.bool false))
        obtain ⟨h46, h48, -⟩ : (f 46 = .bool true) ∧ (f 48 = .bool true) ∧ True := hd
        have e46 : ρ (.tmp 46) = .bool true := (hi 46 (by decide)).trans h46
        have e48 : ρ (.tmp 48) = .bool true := (hi 48 (by decide)).trans h48
        exact Gives.pure (.bool true) (by go_simp) ⟨soft_refl _, hb, rfl, fun h => nomatch h⟩
      · -- 6: slot 50 := Op.move (Operand.tmp 49)
        obtain ⟨h49, -, -⟩ : (f 49 = .bool true) ∧ (f 46 = .bool true) ∧ True := hd
        have e49 : ρ (.tmp 49) = .bool true := (hi 49 (by decide)).trans h49
        exact Gives.pure (.bool true) (by go_simp) ⟨soft_refl _, hb, rfl, fun h => nomatch h⟩
      · -- 7: slot 51 := Op.move (Operand.tmp 9)
        obtain ⟨-, -⟩ : (f 50 = .bool true) ∧ True := hd
        have e9 : ρ (.tmp 9) = .slice aa p ca := ho 9 (by decide)
        exact Gives.pure (.slice aa p ca) (by go_simp) ⟨soft_refl _, hb, rfl, fun h => nomatch h⟩
      · -- 8: slot 52 := Op.call { callee := Callee.builtin Builtin.len, args := #[Operand.tmp 51], argTypes := #[22] }
        obtain ⟨h51, -, -⟩ : (f 51 = .slice aa p ca) ∧ (f 50 = .bool true) ∧ True := hd
        have e51 : ρ (.tmp 51) = .slice aa p ca := (hi 51 (by decide)).trans h51
        exact Gives.pure (.int .i64 p) (by go_simp) ⟨soft_refl _, hb, rfl, fun h => nomatch h⟩
      · -- 9: slot 53 := Op.move (Operand.tmp 7)
        obtain ⟨-, -⟩ : (f 50 = .bool true) ∧ True := hd
        have e7 : ρ (.tmp 7) = .int .i64 p := ho 7 (by decide)
        exact Gives.pure (.int .i64 p) (by go_simp) ⟨soft_refl _, hb, rfl, fun h => nomatch h⟩
      · -- 10: slot 54 := Op.binOp BinOp.eql 3 (Operand.tmp 52) (Operand.tmp 53) 3
        obtain ⟨h52, h53, -, -⟩ : (f 52 = .int .i64 p) ∧ (f 53 = .int .i64 p) ∧ (f 50 = .bool true) ∧ True := hd
        have e52 : ρ (.tmp 52) = .int .i64 p := (hi 52 (by decide)).trans h52
        have e53 : ρ (.tmp 53) = .int .i64 p := (hi 53 (by decide)).trans h53
        exact Gives.pure (.bool true) (by go_simp) ⟨soft_refl _, hb, rfl, fun h => nomatch h⟩
      · -- 11: slot 55 := Op.pick (Operand.tmp 50) (Operand.tmp 54) (Operand.const (Value.bool false))
        obtain ⟨h50, h54, -⟩ : (f 50 = .bool true) ∧ (f 54 = .bool true) ∧ True := hd
        have e50 : ρ (.tmp 50) = .bool true := (hi 50 (by decide)).trans h50
        have e54 : ρ (.tmp 54) = .bool true := (hi 54 (by decide)).trans h54
        exact Gives.pure (.bool true) (by go_simp) ⟨soft_refl _, hb, rfl, fun h => nomatch h⟩
      · -- 12: slot 56 := Op.move (Operand.tmp 55)
        obtain ⟨h55, -, -⟩ : (f 55 = .bool true) ∧ (f 50 = .bool true) ∧ True := hd
        have e55 : ρ (.tmp 55) = .bool true := (hi 55 (by decide)).trans h55
        exact Gives.pure (.bool true) (by go_simp) ⟨soft_refl _, hb, rfl, fun h => nomatch h⟩
      · -- 13: slot 57 := Op.move (Operand.tmp 11)
        obtain ⟨-, -⟩ : (f 56 = .bool true) ∧ True := hd
        have e11 : ρ (.tmp 11) = .slice ab p cb := ho 11 (by decide)
        exact Gives.pure (.slice ab p cb) (by go_simp) ⟨soft_refl _, hb, rfl, fun h => nomatch h⟩
      · -- 14: slot 58 := Op.call { callee := Callee.builtin Builtin.len, args := #[Operand.tmp 57], argTypes := #[22] }
        obtain ⟨h57, -, -⟩ : (f 57 = .slice ab p cb) ∧ (f 56 = .bool true) ∧ True := hd
        have e57 : ρ (.tmp 57) = .slice ab p cb := (hi 57 (by decide)).trans h57
        exact Gives.pure (.int .i64 p) (by go_simp) ⟨soft_refl _, hb, rfl, fun h => nomatch h⟩
      · -- 15: slot 59 := Op.move (Operand.tmp 8)
        obtain ⟨-, -⟩ : (f 56 = .bool true) ∧ True := hd
        have e8 : ρ (.tmp 8) = .int .i64 p := ho 8 (by decide)
        exact Gives.pure (.int .i64 p) (by go_simp) ⟨soft_refl _, hb, rfl, fun h => nomatch h⟩
      · -- 16: slot 60 := Op.binOp BinOp.eql 3 (Operand.tmp 58) (Operand.tmp 59) 3
        obtain ⟨h58, h59, -, -⟩ : (f 58 = .int .i64 p) ∧ (f 59 = .int .i64 p) ∧ (f 56 = .bool true) ∧ True := hd
        have e58 : ρ (.tmp 58) = .int .i64 p := (hi 58 (by decide)).trans h58
        have e59 : ρ (.tmp 59) = .int .i64 p := (hi 59 (by decide)).trans h59
        exact Gives.pure (.bool true) (by go_simp) ⟨soft_refl _, hb, rfl, fun h => nomatch h⟩
      · -- 17: slot 61 := Op.pick (Operand.tmp 56) (Operand.tmp 60) (Operand.const (Value.bool false))
        obtain ⟨h56, h60, -⟩ : (f 56 = .bool true) ∧ (f 60 = .bool true) ∧ True := hd
        have e56 : ρ (.tmp 56) = .bool true := (hi 56 (by decide)).trans h56
        have e60 : ρ (.tmp 60) = .bool true := (hi 60 (by decide)).trans h60
        exact Gives.pure (.bool true) (by go_simp) ⟨soft_refl _, hb, rfl, fun h => nomatch h⟩
      · -- 18: slot 62 := Op.move (Operand.tmp 61)
        obtain ⟨h61, -, -⟩ : (f 61 = .bool true) ∧ (f 56 = .bool true) ∧ True := hd
        have e61 : ρ (.tmp 61) = .bool true := (hi 61 (by decide)).trans h61
        exact Gives.pure (.bool true) (by go_simp) ⟨soft_refl _, hb, rfl, fun h => nomatch h⟩
      · -- 19: slot 63 := Op.move (Operand.tmp 11)
        obtain ⟨-, -⟩ : (f 62 = .bool true) ∧ True := hd
        have e11 : ρ (.tmp 11) = .slice ab p cb := ho 11 (by decide)
        exact Gives.pure (.slice ab p cb) (by go_simp) ⟨soft_refl _, hb, rfl, fun h => nomatch h⟩
      · -- 20: slot 64 := Op.move (Operand.tmp 7)
        obtain ⟨-, -⟩ : (f 62 = .bool true) ∧ True := hd
        have e7 : ρ (.tmp 7) = .int .i64 p := ho 7 (by decide)
        exact Gives.pure (.int .i64 p) (by go_simp) ⟨soft_refl _, hb, rfl, fun h => nomatch h⟩
      · -- 21: slot 65 := Op.slice 22 (Operand.tmp 63) none (some (Operand.tmp 64)) none
        obtain ⟨h63, h64, -, -⟩ : (f 63 = .slice ab p cb) ∧ (f 64 = .int .i64 p) ∧ (f 62 = .bool true) ∧ True := hd
        have e63 : ρ (.tmp 63) = .slice ab p cb := (hi 63 (by decide)).trans h63
        have e64 : ρ (.tmp 64) = .int .i64 p := (hi 64 (by decide)).trans h64
        have q0 : (0 : Int) ≤ p := by omega
        have q1 : (p : Int) ≤ cb := by omega
        exact Gives.pure (.slice ab p cb) (by go_simp) ⟨soft_refl _, hb, rfl, fun h => nomatch h⟩
      · -- 22: slot 66 := Op.convert 22 9 (Operand.tmp 65)
        obtain ⟨h65, -, -⟩ : (f 65 = .slice ab p cb) ∧ (f 62 = .bool true) ∧ True := hd
        have e65 : ρ (.tmp 65) = .slice ab p cb := (hi 65 (by decide)).trans h65
        have s0 := bytes_str (HT'.out w' hb)
        unfold Sv at s0
        exact Gives.pure (.string (Bs X)) (by go_simp) ⟨soft_refl _, hb, rfl, fun h => nomatch h⟩
      · -- 23: slot 67 := Op.move (Operand.tmp 9)
        obtain ⟨-, -⟩ : (f 62 = .bool true) ∧ True := hd
        have e9 : ρ (.tmp 9) = .slice aa p ca := ho 9 (by decide)
        exact Gives.pure (.slice aa p ca) (by go_simp) ⟨soft_refl _, hb, rfl, fun h => nomatch h⟩
      · -- 24: slot 68 := Op.convert 22 9 (Operand.tmp 67)
        obtain ⟨h67, -, -⟩ : (f 67 = .slice aa p ca) ∧ (f 62 = .bool true) ∧ True := hd
        have e67 : ρ (.tmp 67) = .slice aa p ca := (hi 67 (by decide)).trans h67
        have s0 := bytes_str (HX'.out w' hb)
        unfold Sv at s0
        exact Gives.pure (.string (Bs X)) (by go_simp) ⟨soft_refl _, hb, rfl, fun h => nomatch h⟩
      · -- 25: slot 69 := Op.binOp BinOp.eql 9 (Operand.tmp 66) (Operand.tmp 68) 9
        obtain ⟨h66, h68, -, -⟩ : (f 66 = .string (Bs X)) ∧ (f 68 = .string (Bs X)) ∧ (f 62 = .bool true) ∧ True := hd
        have e66 : ρ (.tmp 66) = .string (Bs X) := (hi 66 (by decide)).trans h66
        have e68 : ρ (.tmp 68) = .string (Bs X) := (hi 68 (by decide)).trans h68
        exact Gives.pure (.bool true) (by go_simp) ⟨soft_refl _, hb, rfl, fun h => nomatch h⟩
      · -- 26: slot 70 := Op.pick (Operand.tmp 62) (Operand.tmp 69) (Operand.const (Value.bool false))
        obtain ⟨h62, h69, -⟩ : (f 62 = .bool true) ∧ (f 69 = .bool true) ∧ True := hd
        have e62 : ρ (.tmp 62) = .bool true := (hi 62 (by decide)).trans h62
        have e69 : ρ (.tmp 69) = .bool true := (hi 69 (by decide)).trans h69
        exact Gives.pure (.bool true) (by go_simp) ⟨soft_refl _, hb, rfl, fun h => nomatch h⟩
    · intro f wq hb hT hD
      have h44 : f 44 = .int .i64 0 := hT.1
      replace hT := hT.2
      have h45 : f 45 = .bool true := hT.1
      replace hT := hT.2
      have h46 : f 46 = .bool true := hT.1
      replace hT := hT.2
      have h47 : f 47 = .int .i64 0 := hT.1
      replace hT := hT.2
      have h48 : f 48 = .bool true := hT.1
      replace hT := hT.2
      have h49 : f 49 = .bool true := hT.1
      replace hT := hT.2
      have h50 : f 50 = .bool true := hT.1
      replace hT := hT.2
      have h51 : f 51 = .slice aa p ca := hT.1
      replace hT := hT.2
      have h52 : f 52 = .int .i64 p := hT.1
      replace hT := hT.2
      have h53 : f 53 = .int .i64 p := hT.1
      replace hT := hT.2
      have h54 : f 54 = .bool true := hT.1
      replace hT := hT.2
      have h55 : f 55 = .bool true := hT.1
      replace hT := hT.2
      have h56 : f 56 = .bool true := hT.1
      replace hT := hT.2
      have h57 : f 57 = .slice ab p cb := hT.1
      replace hT := hT.2
      have h58 : f 58 = .int .i64 p := hT.1
      replace hT := hT.2
      have h59 : f 59 = .int .i64 p := hT.1
      replace hT := hT.2
      have h60 : f 60 = .bool true := hT.1
      replace hT := hT.2
      have h61 : f 61 = .bool true := hT.1
      replace hT := hT.2
      have h62 : f 62 = .bool true := hT.1
      replace hT := hT.2
      have h63 : f 63 = .slice ab p cb := hT.1
      replace hT := hT.2
      have h64 : f 64 = .int .i64 p := hT.1
      replace hT := hT.2
      have h65 : f 65 = .slice ab p cb := hT.1
      replace hT := hT.2
      have h66 : f 66 = .string (Bs X) := hT.1
      replace hT := hT.2
      have h67 : f 67 = .slice aa p ca := hT.1
      replace hT := hT.2
      have h68 : f 68 = .string (Bs X) := hT.1
      replace hT := hT.2
      have h69 : f 69 = .bool true := hT.1
      replace hT := hT.2
      have h70 : f 70 = .bool true := hT.1
      replace hT := hT.2
      refine wpT_step rfl rfl (fun K hK => ?_)
      simp only [updL]
      go_simp
      refine hK _ _ ?_
      dsimp only [wpT]
      go_wp2_with fail
      go_ret
      exact ⟨rfl, ha.trans ((hB4.trans (hb.mono hz4)).mono (by omega))⟩
  · have hpq : (q : Int) < p := by omega
    go_enter Tryd.func9, Tryd.ntmps9
    go_wp2_with fail
    rw [← HWA.out]
    with_reducible refine (alive4_any wa HTA.out (by omega)).mono ?_
    rintro e w1 ⟨rfl, hb1⟩
    have hz1 := hb1.size
    have c0 : w1.cell? ⟨w.heap.size + 1, 0, none⟩ = some (.int .u8 (p : Int)) := (hb1.cell (p := ⟨w.heap.size + 1, 0, none⟩) (by show w.heap.size + 1 < wa.heap.size; omega)).trans HC0.out
    have c1 : w1.cell? ⟨w.heap.size + 1, 1, none⟩ = some (.int .u8 (q : Int)) := (hb1.cell (p := ⟨w.heap.size + 1, 1, none⟩) (by show w.heap.size + 1 < wa.heap.size; omega)).trans HC1.out
    dsimp only
    go_wp2_with fail
    go_quiet (fail)
    obtain ⟨X, hX⟩ : ∃ X, X = Sh.expand l info q := ⟨_, rfl⟩
    obtain ⟨Y, hY⟩ : ∃ Y, Y = Sh.expand l info p := ⟨_, rfl⟩
    have hXl : X.length = q := by rw [hX]; exact expand_len ..
    have hYl : Y.length = p := by rw [hY]; exact expand_len ..
    have hXY : Y.take q = X := by rw [hX, hY]; exact expand_take _ _ _ _ (by omega)
    have HX := hid hX; have HY := hid hY; have HXL := hid hXl; have HYL := hid hYl; have HXY := hid hXY
    clear hX hY hXl hYl hXY c0 c1
    obtain ⟨w2, hw2⟩ : ∃ w2, w2 = w1.drewN nq := ⟨_, rfl⟩
    have hb2 : Below wa.heap.size wa w2 := by rw [hw2]; exact below_drewN hb1 _
    have hz2 := hb2.size
    rw [← hw2]
    clear hw2 hb1 hz1
    have hl := HL.out
    have hr2 : w2.rowOf w.heap.size = cs U8 l := (below_row hb2 (by omega)).trans HRA.out
    go_wp2_with fail
    with_reducible refine (expand_any w2 l info _ q (HTA.out.below hb2 (by omega)) (by omega) hl (HV.out.below hb2) (by omega) (by omega)).mono ?_
    rintro e w3 ⟨ux, rfl, hx3, hb3⟩
    rw [← HX.out] at hx3
    obtain ⟨aa, ca, rfl, hca⟩ := hx3.shape' q HXL.out
    have hB3 := hb2.trans (hb3.mono hz2)
    have hz3 := hB3.size
    have hr3 : w3.rowOf w.heap.size = cs U8 l := (below_row hB3 (by omega)).trans HRA.out
    dsimp only
    go_wp2_with fail
    with_reducible refine (expand_any w3 l info _ p (HTA.out.below hB3 (by omega)) (by omega) hl (HV.out.below hB3) (by omega) (by omega)).mono ?_
    rintro e w4 ⟨uy, rfl, hy4, hb4⟩
    rw [← HY.out] at hy4
    obtain ⟨ab, cb, rfl, hcb⟩ := hy4.shape' p HYL.out
    have hB4 := hB3.trans (hb4.mono hz3)
    have hz4 := hB4.size
    have hx4 := hx3.below hb4
    have ht4 := hy4.headn HYL.out q cb (by omega) (by omega) (Nat.le_refl _)
    rw [HXY.out] at ht4
    have HX' : Hid (∀ wc, Below w4.heap.size w4 wc → BS wc (.slice aa q ca) X) := hid fun wc h => BS.below hx4 h
    have HT' : Hid (∀ wc, Below w4.heap.size w4 wc → BS wc (.slice ab q cb) X) := hid fun wc h => BS.below ht4 h
    clear hx3 hy4 hx4 ht4 hr2 hr3 hl hb2 hb3 hb4 hB3
    dsimp only
    go_wp2_with fail
    refine wp_region_flow 27 (44 :: 45 :: 46 :: 47 :: 48 :: 49 :: 50 :: 51 :: 52 :: 53 :: 54 :: 55 :: 56 :: 57 :: 58 :: 59 :: 60 :: 61 :: 62 :: 63 :: 64 :: 65 :: 66 :: 67 :: 68 :: 69 :: 70 :: []) (Sp.eq (.int .i64 0) :: Sp.eq (.bool true) :: Sp.eq (.bool true) :: Sp.eq (.int .i64 0) :: Sp.eq (.bool true) :: Sp.eq (.bool true) :: Sp.eq (.bool true) :: Sp.eq (.slice aa q ca) :: Sp.eq (.int .i64 q) :: Sp.eq (.int .i64 q) :: Sp.eq (.bool true) :: Sp.eq (.bool true) :: Sp.eq (.bool true) :: Sp.eq (.slice ab p cb) :: Sp.eq (.int .i64 p) :: Sp.eq (.int .i64 p) :: Sp.eq (.bool true) :: Sp.eq (.bool true) :: Sp.eq (.bool true) :: Sp.eq (.slice ab p cb) :: Sp.eq (.int .i64 q) :: Sp.eq (.slice ab q cb) :: Sp.eq (.string (Bs X)) :: Sp.eq (.slice aa q ca) :: Sp.eq (.string (Bs X)) :: Sp.eq (.bool true) :: Sp.eq (.bool true) :: []) (.op 27 .done) (by kernel_rfl) (by kernel_rfl) (by kernel_rfl) (by rfl) ?_ ?_
    · refine ⟨stepF_mk trivial (fun ρ f w' hc hfn hgl hi ho hb hd => ?_), stepF_mk trivial (fun ρ f w' hc hfn hgl hi ho hb hd => ?_), stepF_mk trivial (fun ρ f w' hc hfn hgl hi ho hb hd => ?_), stepF_mk (fun _ _ h => h) (fun ρ f w' hc hfn hgl hi ho hb hd => ?_), stepF_mk (fun _ _ h => h) (fun ρ f w' hc hfn hgl hi ho hb hd => ?_), stepF_mk trivial (fun ρ f w' hc hfn hgl hi ho hb hd => ?_), stepF_mk trivial (fun ρ f w' hc hfn hgl hi ho hb hd => ?_), stepF_mk (fun _ _ h => h) (fun ρ f w' hc hfn hgl hi ho hb hd => ?_), stepF_mk (fun _ _ h => h) (fun ρ f w' hc hfn hgl hi ho hb hd => ?_), stepF_mk (fun _ _ h => h) (fun ρ f w' hc hfn hgl hi ho hb hd => ?_), stepF_mk (fun _ _ h => h) (fun ρ f w' hc hfn hgl hi ho hb hd => ?_), stepF_mk trivial (fun ρ f w' hc hfn hgl hi ho hb hd => ?_), stepF_mk trivial (fun ρ f w' hc hfn hgl hi ho hb hd => ?_), stepF_mk (fun _ _ h => h) (fun ρ f w' hc hfn hgl hi ho hb hd => ?_), stepF_mk (fun _ _ h => h) (fun ρ f w' hc hfn hgl hi ho hb hd => ?_), stepF_mk (fun _ _ h => h) (fun ρ f w' hc hfn hgl hi ho hb hd => ?_), stepF_mk (fun _ _ h => h) (fun ρ f w' hc hfn hgl hi ho hb hd => ?_), stepF_mk trivial (fun ρ f w' hc hfn hgl hi ho hb hd => ?_), stepF_mk trivial (fun ρ f w' hc hfn hgl hi ho hb hd => ?_), stepF_mk (fun _ _ h => h) (fun ρ f w' hc hfn hgl hi ho hb hd => ?_), stepF_mk (fun _ _ h => h) (fun ρ f w' hc hfn hgl hi ho hb hd => ?_), stepF_mk (fun _ _ h => h) (fun ρ f w' hc hfn hgl hi ho hb hd => ?_), stepF_mk (fun _ _ h => h) (fun ρ f w' hc hfn hgl hi ho hb hd => ?_), stepF_mk (fun _ _ h => h) (fun ρ f w' hc hfn hgl hi ho hb hd => ?_), stepF_mk (fun _ _ h => h) (fun ρ f w' hc hfn hgl hi ho hb hd => ?_), stepF_mk (fun _ _ h => h) (fun ρ f w' hc hfn hgl hi ho hb hd => ?_), stepF_mk trivial (fun ρ f w' hc hfn hgl hi ho hb hd => ?_), trivial⟩
      · -- 0: slot 44 := Op.move (Operand.tmp 10)
        obtain ⟨-⟩ : True := hd
        have e10 : ρ (.tmp 10) = .int .i64 0 := ho 10 (by decide)
        exact Gives.pure (.int .i64 0) (by go_simp) ⟨soft_refl _, hb, rfl, fun h => nomatch h⟩
      · -- 1: slot 45 := Op.binOp BinOp.eql 31 (Operand.tmp 44) (Operand.const (Value.int IntKind.i64 0)) 31
        obtain ⟨h44, -⟩ : (f 44 = .int .i64 0) ∧ True := hd
        have e44 : ρ (.tmp 44) = .int .i64 0 := (hi 44 (by decide)).trans h44
        exact Gives.pure (.bool true) (by go_simp) ⟨soft_refl _, hb, rfl, fun h => nomatch h⟩
      · -- 2: slot 46 := Op.move (Operand.tmp 45)
        obtain ⟨h45, -⟩ : (f 45 = .bool true) ∧ True := hd
        have e45 : ρ (.tmp 45) = .bool true := (hi 45 (by decide)).trans h45
        exact Gives.pure (.bool true) (by go_simp) ⟨soft_refl _, hb, rfl, fun h => nomatch h⟩
      · -- 3: slot 47 := Op.move (Operand.tmp 12)
        obtain ⟨-, -⟩ : (f 46 = .bool true) ∧ True := hd
        have e12 : ρ (.tmp 12) = .int .i64 0 := ho 12 (by decide)
        exact Gives.pure (.int .i64 0) (by go_simp) ⟨soft_refl _, hb, rfl, fun h => nomatch h⟩
      · -- 4: slot 48 := Op.binOp BinOp.eql 31 (Operand.tmp 47) (Operand.const (Value.int IntKind.i64 0)) 31
        obtain ⟨h47, -, -⟩ : (f 47 = .int .i64 0) ∧ (f 46 = .bool true) ∧ True := hd
        have e47 : ρ (.tmp 47) = .int .i64 0 := (hi 47 (by decide)).trans h47
        exact Gives.pure (.bool true) (by go_simp) ⟨soft_refl _, hb, rfl, fun h => nomatch h⟩
      · -- 5: slot 49 := Op.pick (Operand.tmp 46) (Operand.tmp 48) (Operand.const (Value.bool false))
        obtain ⟨h46, h48, -⟩ : (f 46 = .bool true) ∧ (f 48 = .bool true) ∧ True := hd
        have e46 : ρ (.tmp 46) = .bool true := (hi 46 (by decide)).trans h46
        have e48 : ρ (.tmp 48) = .bool true := (hi 48 (by decide)).trans h48
        exact Gives.pure (.bool true) (by go_simp) ⟨soft_refl _, hb, rfl, fun h => nomatch h⟩
      · -- 6: slot 50 := Op.move (Operand.tmp 49)
        obtain ⟨h49, -, -⟩ : (f 49 = .bool true) ∧ (f 46 = .bool true) ∧ True := hd
        have e49 : ρ (.tmp 49) = .bool true := (hi 49 (by decide)).trans h49
        exact Gives.pure (.bool true) (by go_simp) ⟨soft_refl _, hb, rfl, fun h => nomatch h⟩
      · -- 7: slot 51 := Op.move (Operand.tmp 9)
        obtain ⟨-, -⟩ : (f 50 = .bool true) ∧ True := hd
        have e9 : ρ (.tmp 9) = .slice aa q ca := ho 9 (by decide)
        exact Gives.pure (.slice aa q ca) (by go_simp) ⟨soft_refl _, hb, rfl, fun h => nomatch h⟩
      · -- 8: slot 52 := Op.call { callee := Callee.builtin Builtin.len, args := #[Operand.tmp 51], argTypes := #[22] }
        obtain ⟨h51, -, -⟩ : (f 51 = .slice aa q ca) ∧ (f 50 = .bool true) ∧ True := hd
        have e51 : ρ (.tmp 51) = .slice aa q ca := (hi 51 (by decide)).trans h51
        exact Gives.pure (.int .i64 q) (by go_simp) ⟨soft_refl _, hb, rfl, fun h => nomatch h⟩
      · -- 9: slot 53 := Op.move (Operand.tmp 7)
        obtain ⟨-, -⟩ : (f 50 = .bool true) ∧ True := hd
        have e7 : ρ (.tmp 7) = .int .i64 q := ho 7 (by decide)
        exact Gives.pure (.int .i64 q) (by go_simp) ⟨soft_refl _, hb, rfl, fun h => nomatch h⟩
      · -- 10: slot 54 := Op.binOp BinOp.eql 3 (Operand.tmp 52) (Operand.tmp 53) 3
        obtain ⟨h52, h53, -, -⟩ : (f 52 = .int .i64 q) ∧ (f 53 = .int .i64 q) ∧ (f 50 = .bool true) ∧ True := hd
        have e52 : ρ (.tmp 52) = .int .i64 q := (hi 52 (by decide)).trans h52
        have e53 : ρ (.tmp 53) = .int .i64 q := (hi 53 (by decide)).trans h53
        exact Gives.pure (.bool true) (by go_simp) ⟨soft_refl _, hb, rfl, fun h => nomatch h⟩
      · -- 11: slot 55 := Op.pick (Operand.tmp 50) (Operand.tmp 54) (Operand.const (Value.bool false))
        obtain ⟨h50, h54, -⟩ : (f 50 = .bool true) ∧ (f 54 = .bool true) ∧ True := hd
        have e50 : ρ (.tmp 50) = .bool true := (hi 50 (by decide)).trans h50
        have e54 : ρ (.tmp 54) = .bool true := (hi 54 (by decide)).trans h54
        exact Gives.pure (.bool true) (by go_simp) ⟨soft_refl _, hb, rfl, fun h => nomatch h⟩
      · -- 12: slot 56 := Op.move (Operand.tmp 55)
        obtain ⟨h55, -, -⟩ : (f 55 = .bool true) ∧ (f 50 = .bool true) ∧ True := hd
        have e55 : ρ (.tmp 55) = .bool true := (hi 55 (by decide)).trans h55
        exact Gives.pure (.bool true) (by go_simp) ⟨soft_refl _, hb, rfl, fun h => nomatch h⟩
      · -- 13: slot 57 := Op.move (Operand.tmp 11)
        obtain ⟨-, -⟩ : (f 56 = .bool true) ∧ True := hd
        have e11 : ρ (.tmp 11) = .slice ab p cb := ho 11 (by decide)
        exact Gives.pure (.slice ab p cb) (by go_simp) ⟨soft_refl _, hb, rfl, fun h => nomatch h⟩
      · -- 14: slot 58 := Op.call { callee := Callee.builtin Builtin.len, args := #[Operand.tmp 57], argTypes := #[22] }
        obtain ⟨h57, -, -⟩ : (f 57 = .slice ab p cb) ∧ (f 56 = .bool true) ∧ True := hd
        have e57 : ρ (.tmp 57) = .slice ab p cb := (hi 57 (by decide)).trans h57
        exact Gives.pure (.int .i64 p) (by go_simp) ⟨soft_refl _, hb, rfl, fun h => nomatch h⟩
      · -- 15: slot 59 := Op.move (Operand.tmp 8)
        obtain ⟨-, -⟩ : (f 56 = .bool true) ∧ True := hd
        have e8 : ρ (.tmp 8) = .int .i64 p := ho 8 (by decide)
        exact Gives.pure (.int .i64 p) (by go_simp) ⟨soft_refl _, hb, rfl, fun h => nomatch h⟩
      · -- 16: slot 60 := Op.binOp BinOp.eql 3 (Operand.tmp 58) (Operand.tmp 59) 3
        obtain ⟨h58, h59, -, -⟩ : (f 58 = .int .i64 p) ∧ (f 59 = .int .i64 p) ∧ (f 56 = .bool true) ∧ True := hd
        have e58 : ρ (.tmp 58) = .int .i64 p := (hi 58 (by decide)).trans h58
        have e59 : ρ (.tmp 59) = .int .i64 p := (hi 59 (by decide)).trans h59
        exact Gives.pure (.bool true) (by go_simp) ⟨soft_refl _, hb, rfl, fun h => nomatch h⟩
      · -- 17: slot 61 := Op.pick (Operand.tmp 56) (Operand.tmp 60) (Operand.const (Value.bool false))
        obtain ⟨h56, h60, -⟩ : (f 56 = .bool true) ∧ (f 60 = .bool true) ∧ True := hd
        have e56 : ρ (.tmp 56) = .bool true := (hi 56 (by decide)).trans h56
        have e60 : ρ (.tmp 60) = .bool true := (hi 60 (by decide)).trans h60
        exact Gives.pure (.bool true) (by go_simp) ⟨soft_refl _, hb, rfl, fun h => nomatch h⟩
      · -- 18: slot 62 := Op.move (Operand.tmp 61)
        obtain ⟨h61, -, -⟩ : (f 61 = .bool true) ∧ (f 56 = .bool true) ∧ True := hd
        have e61 : ρ (.tmp 61) = .bool true := (hi 61 (by decide)).trans h61
        exact Gives.pure (.bool true) (by go_simp) ⟨soft_refl _, hb, rfl, fun h => nomatch h⟩
      · -- 19: slot 63 := Op.move (Operand.tmp 11)
        obtain ⟨-, -⟩ : (f 62 = .bool true) ∧ True := hd
        have e11 : ρ (.tmp 11) = .slice ab p cb := ho 11 (by decide)
        exact Gives.pure (.slice ab p cb) (by go_simp) ⟨soft_refl _, hb, rfl, fun h => nomatch h⟩
      · -- 20: slot 64 := Op.move (Operand.tmp 7)
        obtain ⟨-, -⟩ : (f 62 = .bool true) ∧ True := hd
        have e7 : ρ (.tmp 7) = .int .i64 q := ho 7 (by decide)
        exact Gives.pure (.int .i64 q) (by go_simp) ⟨soft_refl _, hb, rfl, fun h => nomatch h⟩
      · -- 21: slot 65 := Op.slice 22 (Operand.tmp 63) none (some (Operand.tmp 64)) none
        obtain ⟨h63, h64, -, -⟩ : (f 63 = .slice ab p cb) ∧ (f 64 = .int .i64 q) ∧ (f 62 = .bool true) ∧ True := hd
        have e63 : ρ (.tmp 63) = .slice ab p cb := (hi 63 (by decide)).trans h63
        have e64 : ρ (.tmp 64) = .int .i64 q := (hi 64 (by decide)).trans h64
        have q0 : (0 : Int) ≤ q := by omega
        have q1 : (q : Int) ≤ cb := by omega
        exact Gives.pure (.slice ab q cb) (by go_simp) ⟨soft_refl _, hb, rfl, fun h => nomatch h⟩
      · -- 22: slot 66 := Op.convert 22 9 (Operand.tmp 65)
        obtain ⟨h65, -, -⟩ : (f 65 = .slice ab q cb) ∧ (f 62 = .bool true) ∧ True := hd
        have e65 : ρ (.tmp 65) = .slice ab q cb := (hi 65 (by decide)).trans h65
        have s0 := bytes_str (HT'.out w' hb)
        unfold Sv at s0
        exact Gives.pure (.string (Bs X)) (by go_simp) ⟨soft_refl _, hb, rfl, fun h => nomatch h⟩
      · -- 23: slot 67 := Op.move (Operand.tmp 9)
        obtain ⟨-, -⟩ : (f 62 = .bool true) ∧ True := hd
        have e9 : ρ (.tmp 9) = .slice aa q ca := ho 9 (by decide)
        exact Gives.pure (.slice aa q ca) (by go_simp) ⟨soft_refl _, hb, rfl, fun h => nomatch h⟩
      · -- 24: slot 68 := Op.convert 22 9 (Operand.tmp 67)
        obtain ⟨h67, -, -⟩ : (f 67 = .slice aa q ca) ∧ (f 62 = .bool true) ∧ True := hd
        have e67 : ρ (.tmp 67) = .slice aa q ca := (hi 67 (by decide)).trans h67
        have s0 := bytes_str (HX'.out w' hb)
        unfold Sv at s0
        exact Gives.pure (.string (Bs X)) (by go_simp) ⟨soft_refl _, hb, rfl, fun h => nomatch h⟩
      · -- 25: slot 69 := Op.binOp BinOp.eql 9 (Operand.tmp 66) (Operand.tmp 68) 9
        obtain ⟨h66, h68, -, -⟩ : (f 66 = .string (Bs X)) ∧ (f 68 = .string (Bs X)) ∧ (f 62 = .bool true) ∧ True := hd
        have e66 : ρ (.tmp 66) = .string (Bs X) := (hi 66 (by decide)).trans h66
        have e68 : ρ (.tmp 68) = .string (Bs X) := (hi 68 (by decide)).trans h68
        exact Gives.pure (.bool true) (by go_simp) ⟨soft_refl _, hb, rfl, fun h => nomatch h⟩
      · -- 26: slot 70 := Op.pick (Operand.tmp 62) (Operand.tmp 69) (Operand.const (Value.bool false))
        obtain ⟨h62, h69, -⟩ : (f 62 = .bool true) ∧ (f 69 = .bool true) ∧ True := hd
        have e62 : ρ (.tmp 62) = .bool true := (hi 62 (by decide)).trans h62
        have e69 : ρ (.tmp 69) = .bool true := (hi 69 (by decide)).trans h69
        exact Gives.pure (.bool true) (by go_simp) ⟨soft_refl _, hb, rfl, fun h => nomatch h⟩
    · intro f wq hb hT hD
      have h44 : f 44 = .int .i64 0 := hT.1
      replace hT := hT.2
      have h45 : f 45 = .bool true := hT.1
      replace hT := hT.2
      have h46 : f 46 = .bool true := hT.1
      replace hT := hT.2
      have h47 : f 47 = .int .i64 0 := hT.1
      replace hT := hT.2
      have h48 : f 48 = .bool true := hT.1
      replace hT := hT.2
      have h49 : f 49 = .bool true := hT.1
      replace hT := hT.2
      have h50 : f 50 = .bool true := hT.1
      replace hT := hT.2
      have h51 : f 51 = .slice aa q ca := hT.1
      replace hT := hT.2
      have h52 : f 52 = .int .i64 q := hT.1
      replace hT := hT.2
      have h53 : f 53 = .int .i64 q := hT.1
      replace hT := hT.2
      have h54 : f 54 = .bool true := hT.1
      replace hT := hT.2
      have h55 : f 55 = .bool true := hT.1
      replace hT := hT.2
      have h56 : f 56 = .bool true := hT.1
      replace hT := hT.2
      have h57 : f 57 = .slice ab p cb := hT.1
      replace hT := hT.2
      have h58 : f 58 = .int .i64 p := hT.1
      replace hT := hT.2
      have h59 : f 59 = .int .i64 p := hT.1
      replace hT := hT.2
      have h60 : f 60 = .bool true := hT.1
      replace hT := hT.2
      have h61 : f 61 = .bool true := hT.1
      replace hT := hT.2
      have h62 : f 62 = .bool true := hT.1
      replace hT := hT.2
      have h63 : f 63 = .slice ab p cb := hT.1
      replace hT := hT.2
      have h64 : f 64 = .int .i64 q := hT.1
      replace hT := hT.2
      have h65 : f 65 = .slice ab q cb := hT.1
      replace hT := hT.2
      have h66 : f 66 = .string (Bs X) := hT.1
      replace hT := hT.2
      have h67 : f 67 = .slice aa q ca := hT.1
      replace hT := hT.2
      have h68 : f 68 = .string (Bs X) := hT.1
      replace hT := hT.2
      have h69 : f 69 = .bool true := hT.1
      replace hT := hT.2
      have h70 : f 70 = .bool true := hT.1
      replace hT := hT.2
      refine wpT_step rfl rfl (fun K hK => ?_)
      simp only [updL]
      go_simp
      refine hK _ _ ?_
      dsimp only [wpT]
      go_wp2_with fail
      go_ret
      exact ⟨rfl, ha.trans ((hB4.trans (hb.mono hz4)).mono (by omega))⟩
theorem prefix2 (w : World) (v : Value) (l info r : List (BitVec 8)) (hr : r.length = 2) (hT : KT w) (hk0 : 0 < w.heap.size) (hl : l.length = 32) (hv : BS w v info) :
    Calls Tryd.prog 9 #[.agg (cs U8 l), v, .agg (cs U8 r)] w fun e w' => e = .returned (.bool true) ∧ Below w.heap.size w w' := by
  obtain ⟨x, y, rfl⟩ : ∃ x y, r = [x, y] := by
    match r, hr with
    | [x, y], _ => exact ⟨x, y, rfl⟩
  exact prefix_walk w v l info x.toNat y.toNat (by have := x.isLt; omega) (by have := y.isLt; omega) hT hk0 hl hv
end Go.Proofs.YtocledgjejlolaaDoor
