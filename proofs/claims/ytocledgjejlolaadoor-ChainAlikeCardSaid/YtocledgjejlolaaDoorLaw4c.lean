/-
  Law 04: HmacExpands; own work.
-/
import Derived.Test.YtocledgjejlolaaDoorLaw4b
set_option linter.unusedSimpArgs false
set_option linter.unusedVariables false
namespace Go.Proofs.YtocledgjejlolaaDoor
open Go.RowKit

theorem deriveB {w : World} {l lab D : List (BitVec 8)} (hD : D = Sh.derive l lab) (hT : KT w) (hk0 : 0 < w.heap.size) (hl : l.length = 32) (hil : lab.length ≤ 1073700000) :
    Calls Tryd.prog 28 #[.agg (cs U8 l), .string (Bs lab)] w fun e w' => e = .returned (.agg (cs U8 D)) ∧ Below w.heap.size w w' := by
  rw [hD]; exact derive_any w l lab hT hk0 hl hil
theorem rderiveB {w : World} {l lab D : List (BitVec 8)} (hD : D = Sh.derive l lab) (hl : l.length = 32) (hil : lab.length ≤ 1073700000) :
    Calls Tryd.prog 29 #[.agg (cs U8 l), .string (Bs lab)] w fun e w' => e = .returned (.agg (cs U8 D)) ∧ Below w.heap.size w w' := by
  rw [hD]; exact rderive_any w l lab hl hil
set_option maxRecDepth 100000 in
set_option maxHeartbeats 4000000 in
theorem expands_walk (w : World) (v : Value) (l info : List (BitVec 8)) (x : Int) (hT : KT w) (hk0 : 0 < w.heap.size) (hl : l.length = 32) (hv : BS w v info) :
    Calls Tryd.prog 7 #[.agg (cs U8 l), v, .int .i64 x] w fun e w' => e = .returned (.bool true) ∧ Below w.heap.size w w' := by
  obtain ⟨n, hn⟩ : ∃ n, n = info.length := ⟨_, rfl⟩
  obtain ⟨av, cv, rfl, hcv⟩ := hv.shape' n hn.symm
  obtain ⟨D, hD⟩ : ∃ D, D = Sh.derive l info := ⟨_, rfl⟩
  have hDl : D.length = 32 := by rw [hD]; exact derive_len ..
  have ha : Below w.heap.size w (w.alloc (.cells (cs U8 l) 25)) := (Below.refl _ _).alloc (Nat.le_refl _) _
  have hra : (w.alloc (.cells (cs U8 l) 25)).rowOf w.heap.size = cs U8 l := rowOf_alloc_at _ _ _ rfl
  have hsa : (w.alloc (.cells (cs U8 l) 25)).heap.size = w.heap.size + 1 := by simp
  have hva : BS (w.alloc (.cells (cs U8 l) 25)) (.slice av n cv) info := hv.below ha
  have hta : KT (w.alloc (.cells (cs U8 l) 25)) := hT.below ha hk0
  obtain ⟨wa, hwa⟩ : ∃ wa, wa = w.alloc (.cells (cs U8 l) 25) := ⟨_, rfl⟩
  rw [← hwa] at ha hra hsa hva hta
  have HWA := hid hwa; have HRA := hid hra; have HV := hid hva; have HL := hid hl; have HTA := hid hta; have HD := hid hD; have HDL := hid hDl; have HN := hid hn
  clear hwa hra hva hv hl hta hT hD hDl hn
  by_cases h3 : (1000 : Int) < n
  · go_enter Tryd.func7, Tryd.ntmps7
    go_wp2_with fail
    rw [← HWA.out]
    with_reducible refine (alive4_any wa HTA.out (by omega)).mono ?_
    rintro e w1 ⟨rfl, hb1⟩
    dsimp only
    go_wp2_with fail
    go_ret
    exact ⟨rfl, ha.trans (hb1.mono (by omega))⟩
  have lk : info.length ≤ 1000 := by rw [← HN.out]; omega
  by_cases h4 : 500 < x ∧ x ≤ 8160
  · obtain ⟨h5, h6⟩ := h4
    go_enter Tryd.func7, Tryd.ntmps7
    go_wp2_with fail
    rw [← HWA.out]
    with_reducible refine (alive4_any wa HTA.out (by omega)).mono ?_
    rintro e w1 ⟨rfl, hb1⟩
    dsimp only
    go_wp2_with fail
    go_ret
    exact ⟨rfl, ha.trans (hb1.mono (by omega))⟩
  by_cases hbad : x < 0 ∨ 8160 < x
  · have h5 : ¬ (500 < x ∧ x ≤ 8160) := h4
    rcases Int.lt_or_le 500 x with h6 | h6
    · have h7 : ¬ x ≤ 8160 := by omega
      obtain ⟨X, hX⟩ : ∃ X : List (BitVec 8), X = [] := ⟨_, rfl⟩
      have HXX := hid hX
      clear hX
      go_enter Tryd.func7, Tryd.ntmps7
      go_wp2_with fail
      rw [← HWA.out]
      with_reducible refine (alive4_any wa HTA.out (by omega)).mono ?_
      rintro e w1 ⟨rfl, hb1⟩
      have hz1 := hb1.size
      have hr1 : (w1.rowOf w.heap.size) = cs U8 l := (below_row hb1 (by omega)).trans HRA.out
      have hl := HL.out
      dsimp only
      go_wp2_with fail
      with_reducible refine (expand_bad w1 l _ x hbad).mono ?_
      rintro e w3 ⟨rfl, hb3⟩
      have hB3 := hb1.trans (hb3.mono hz1)
      have hz3 := hB3.size
      have hr3 : (w3.rowOf w.heap.size) = cs U8 l := (below_row hB3 (by omega)).trans HRA.out
      dsimp only
      go_wp2_with fail
      with_reducible refine (rexpand_bad w3 l _ x hbad).mono ?_
      rintro e w4 ⟨rfl, hb4⟩
      have hB4 := hB3.trans (hb4.mono hz3)
      have hz4 := hB4.size
      have hx : BS w4 (.slice none 0 0) X := by rw [HXX.out]; exact (OB.nil _ w4.heap.size).bs
      have hy := hx
      clear hr1 hr3 hl hb1 hb3 hb4 hB3
      have HX : Hid (∀ wc, Below w4.heap.size w4 wc → BS wc (.slice none 0 0) X) := hid fun wc h => BS.below hx h
      have HY : Hid (∀ wc, Below w4.heap.size w4 wc → BS wc (.slice none 0 0) X) := hid fun wc h => BS.below hy h
      have HI : Hid (∀ wc, Below w4.heap.size w4 wc → BS wc (.slice av n cv) info) := hid fun wc h => BS.below (BS.below HV.out (hB4)) h
      have HR : Hid (∀ wc, Below w4.heap.size w4 wc → wc.rowOf w.heap.size = cs U8 l) := hid fun wc h => (below_row (hB4.trans (h.mono hz4)) (by omega)).trans HRA.out
      have HDV : Hid (∀ wc, Below w4.heap.size w4 wc → Calls Tryd.prog 28 #[.agg (cs U8 l), .string (Bs info)] wc fun e w' => e = .returned (.agg (cs U8 D)) ∧ Below wc.heap.size wc w') := hid fun wc h =>
        deriveB HD.out (HTA.out.below (hB4.trans (h.mono hz4)) (by omega)) (by have := h.size; omega) HL.out (by omega)
      have HRV : Hid (∀ wc, Below w4.heap.size w4 wc → Calls Tryd.prog 29 #[.agg (cs U8 l), .string (Bs info)] wc fun e w' => e = .returned (.agg (cs U8 D)) ∧ Below wc.heap.size wc w') := hid fun wc h =>
        rderiveB HD.out HL.out (by omega)
      clear hx hy
      dsimp only
      go_wp2_with fail
      refine wp_region_flow 21 (38 :: 39 :: 40 :: 41 :: 42 :: 43 :: 44 :: 45 :: 46 :: 47 :: 48 :: 49 :: 50 :: 51 :: 52 :: 53 :: 54 :: 55 :: 56 :: 57 :: 58 :: []) (Sp.eq (.slice none 0 0) :: Sp.eq (.string (Bs X)) :: Sp.eq (.slice none 0 0) :: Sp.eq (.string (Bs X)) :: Sp.eq (.bool true) :: Sp.eq (.bool true) :: Sp.eq (.int .i64 3) :: Sp.eq (.int .i64 3) :: Sp.eq (.bool true) :: Sp.eq (.bool true) :: Sp.eq (.bool true) :: Sp.eq (.agg (cs U8 l)) :: Sp.eq (.slice av n cv) :: Sp.eq (.string (Bs info)) :: Sp.eq (.agg (cs U8 D)) :: Sp.eq (.agg (cs U8 l)) :: Sp.eq (.slice av n cv) :: Sp.eq (.string (Bs info)) :: Sp.eq (.agg (cs U8 D)) :: Sp.eq (.bool true) :: Sp.eq (.bool true) :: []) (.op 21 .done) (by kernel_rfl) (by kernel_rfl) (by kernel_rfl) (by rfl) ?_ ?_
      · refine ⟨stepF_mk trivial (fun ρ f w' hc hfn hgl hi ho hb hd => ?_), stepF_mk trivial (fun ρ f w' hc hfn hgl hi ho hb hd => ?_), stepF_mk trivial (fun ρ f w' hc hfn hgl hi ho hb hd => ?_), stepF_mk trivial (fun ρ f w' hc hfn hgl hi ho hb hd => ?_), stepF_mk trivial (fun ρ f w' hc hfn hgl hi ho hb hd => ?_), stepF_mk trivial (fun ρ f w' hc hfn hgl hi ho hb hd => ?_), stepF_mk (fun _ _ h => h) (fun ρ f w' hc hfn hgl hi ho hb hd => ?_), stepF_mk (fun _ _ h => h) (fun ρ f w' hc hfn hgl hi ho hb hd => ?_), stepF_mk (fun _ _ h => h) (fun ρ f w' hc hfn hgl hi ho hb hd => ?_), stepF_mk trivial (fun ρ f w' hc hfn hgl hi ho hb hd => ?_), stepF_mk trivial (fun ρ f w' hc hfn hgl hi ho hb hd => ?_), stepF_mk (fun _ _ h => h) (fun ρ f w' hc hfn hgl hi ho hb hd => ?_), stepF_mk (fun _ _ h => h) (fun ρ f w' hc hfn hgl hi ho hb hd => ?_), stepF_mk (fun _ _ h => h) (fun ρ f w' hc hfn hgl hi ho hb hd => ?_), stepF_mk (fun _ _ h => h) (fun ρ f w' hc hfn hgl hi ho hb hd => ?_), stepF_mk (fun _ _ h => h) (fun ρ f w' hc hfn hgl hi ho hb hd => ?_), stepF_mk (fun _ _ h => h) (fun ρ f w' hc hfn hgl hi ho hb hd => ?_), stepF_mk (fun _ _ h => h) (fun ρ f w' hc hfn hgl hi ho hb hd => ?_), stepF_mk (fun _ _ h => h) (fun ρ f w' hc hfn hgl hi ho hb hd => ?_), stepF_mk (fun _ _ h => h) (fun ρ f w' hc hfn hgl hi ho hb hd => ?_), stepF_mk trivial (fun ρ f w' hc hfn hgl hi ho hb hd => ?_), trivial⟩
        · -- 0: slot 38 := Op.move (Operand.tmp 7)
          obtain ⟨-⟩ : True := hd
          have e7 : ρ (.tmp 7) = .slice none 0 0 := ho 7 (by decide)
          exact Gives.pure (.slice none 0 0) (by go_simp) ⟨soft_refl _, hb, rfl, fun h => nomatch h⟩
        · -- 1: slot 39 := Op.convert 22 9 (Operand.tmp 38)
          obtain ⟨h38, -⟩ : (f 38 = .slice none 0 0) ∧ True := hd
          have e38 : ρ (.tmp 38) = .slice none 0 0 := (hi 38 (by decide)).trans h38
          have s0 := bytes_str (HX.out w' hb)
          unfold Sv at s0
          exact Gives.pure (.string (Bs X)) (by go_simp) ⟨soft_refl _, hb, rfl, fun h => nomatch h⟩
        · -- 2: slot 40 := Op.move (Operand.tmp 9)
          obtain ⟨-⟩ : True := hd
          have e9 : ρ (.tmp 9) = .slice none 0 0 := ho 9 (by decide)
          exact Gives.pure (.slice none 0 0) (by go_simp) ⟨soft_refl _, hb, rfl, fun h => nomatch h⟩
        · -- 3: slot 41 := Op.convert 22 9 (Operand.tmp 40)
          obtain ⟨h40, -⟩ : (f 40 = .slice none 0 0) ∧ True := hd
          have e40 : ρ (.tmp 40) = .slice none 0 0 := (hi 40 (by decide)).trans h40
          have s0 := bytes_str (HY.out w' hb)
          unfold Sv at s0
          exact Gives.pure (.string (Bs X)) (by go_simp) ⟨soft_refl _, hb, rfl, fun h => nomatch h⟩
        · -- 4: slot 42 := Op.binOp BinOp.eql 9 (Operand.tmp 39) (Operand.tmp 41) 9
          obtain ⟨h39, h41, -⟩ : (f 39 = .string (Bs X)) ∧ (f 41 = .string (Bs X)) ∧ True := hd
          have e39 : ρ (.tmp 39) = .string (Bs X) := (hi 39 (by decide)).trans h39
          have e41 : ρ (.tmp 41) = .string (Bs X) := (hi 41 (by decide)).trans h41
          exact Gives.pure (.bool true) (by go_simp) ⟨soft_refl _, hb, rfl, fun h => nomatch h⟩
        · -- 5: slot 43 := Op.move (Operand.tmp 42)
          obtain ⟨h42, -⟩ : (f 42 = .bool true) ∧ True := hd
          have e42 : ρ (.tmp 42) = .bool true := (hi 42 (by decide)).trans h42
          exact Gives.pure (.bool true) (by go_simp) ⟨soft_refl _, hb, rfl, fun h => nomatch h⟩
        · -- 6: slot 44 := Op.move (Operand.tmp 8)
          obtain ⟨-, -⟩ : (f 43 = .bool true) ∧ True := hd
          have e8 : ρ (.tmp 8) = .int .i64 3 := ho 8 (by decide)
          exact Gives.pure (.int .i64 3) (by go_simp) ⟨soft_refl _, hb, rfl, fun h => nomatch h⟩
        · -- 7: slot 45 := Op.move (Operand.tmp 10)
          obtain ⟨-, -⟩ : (f 43 = .bool true) ∧ True := hd
          have e10 : ρ (.tmp 10) = .int .i64 3 := ho 10 (by decide)
          exact Gives.pure (.int .i64 3) (by go_simp) ⟨soft_refl _, hb, rfl, fun h => nomatch h⟩
        · -- 8: slot 46 := Op.binOp BinOp.eql 3 (Operand.tmp 44) (Operand.tmp 45) 3
          obtain ⟨h44, h45, -, -⟩ : (f 44 = .int .i64 3) ∧ (f 45 = .int .i64 3) ∧ (f 43 = .bool true) ∧ True := hd
          have e44 : ρ (.tmp 44) = .int .i64 3 := (hi 44 (by decide)).trans h44
          have e45 : ρ (.tmp 45) = .int .i64 3 := (hi 45 (by decide)).trans h45
          exact Gives.pure (.bool true) (by go_simp) ⟨soft_refl _, hb, rfl, fun h => nomatch h⟩
        · -- 9: slot 47 := Op.pick (Operand.tmp 43) (Operand.tmp 46) (Operand.const (Value.bool false))
          obtain ⟨h43, h46, -⟩ : (f 43 = .bool true) ∧ (f 46 = .bool true) ∧ True := hd
          have e43 : ρ (.tmp 43) = .bool true := (hi 43 (by decide)).trans h43
          have e46 : ρ (.tmp 46) = .bool true := (hi 46 (by decide)).trans h46
          exact Gives.pure (.bool true) (by go_simp) ⟨soft_refl _, hb, rfl, fun h => nomatch h⟩
        · -- 10: slot 48 := Op.move (Operand.tmp 47)
          obtain ⟨h47, -, -⟩ : (f 47 = .bool true) ∧ (f 43 = .bool true) ∧ True := hd
          have e47 : ρ (.tmp 47) = .bool true := (hi 47 (by decide)).trans h47
          exact Gives.pure (.bool true) (by go_simp) ⟨soft_refl _, hb, rfl, fun h => nomatch h⟩
        · -- 11: slot 49 := Op.load 25 (Operand.tmp 3)
          obtain ⟨-, -⟩ : (f 48 = .bool true) ∧ True := hd
          have e3 : ρ (.tmp 3) = .pointer (some ⟨w.heap.size, 0, none⟩) := ho 3 (by decide)
          have r0 := HR.out w' hb
          have hl := HL.out
          exact Gives.pure (.agg (cs U8 l)) (by go_simp) ⟨soft_refl _, hb, rfl, fun h => nomatch h⟩
        · -- 12: slot 50 := Op.move (Operand.tmp 1)
          obtain ⟨-, -⟩ : (f 48 = .bool true) ∧ True := hd
          have e1 : ρ (.tmp 1) = .slice av n cv := ho 1 (by decide)
          exact Gives.pure (.slice av n cv) (by go_simp) ⟨soft_refl _, hb, rfl, fun h => nomatch h⟩
        · -- 13: slot 51 := Op.convert 22 9 (Operand.tmp 50)
          obtain ⟨h50, -, -⟩ : (f 50 = .slice av n cv) ∧ (f 48 = .bool true) ∧ True := hd
          have e50 : ρ (.tmp 50) = .slice av n cv := (hi 50 (by decide)).trans h50
          have s0 := bytes_str (HI.out w' hb)
          unfold Sv at s0
          exact Gives.pure (.string (Bs info)) (by go_simp) ⟨soft_refl _, hb, rfl, fun h => nomatch h⟩
        · -- 14: slot 52 := Op.call { callee := Callee.value (Operand.func 28), args := #[Operand.tmp 49, Operand.tmp 51], argTy
          obtain ⟨h49, h51, -, -, -⟩ : (f 49 = .agg (cs U8 l)) ∧ (f 51 = .string (Bs info)) ∧ (f 48 = .bool true) ∧ (f 48 = .bool true) ∧ True := hd
          have e49 : ρ (.tmp 49) = .agg (cs U8 l) := (hi 49 (by decide)).trans h49
          have e51 : ρ (.tmp 51) = .string (Bs info) := (hi 51 (by decide)).trans h51
          have e0 := hfn
          refine Gives.call _ _ (by go_simp) ((HDV.out w' hb).mono ?_)
          rintro e w'' ⟨rfl, hb2⟩
          exact ⟨_, rfl, .of hb2, hb.trans (hb2.mono hb.size), rfl, fun h => nomatch h⟩
        · -- 15: slot 53 := Op.load 25 (Operand.tmp 3)
          obtain ⟨-, -⟩ : (f 48 = .bool true) ∧ True := hd
          have e3 : ρ (.tmp 3) = .pointer (some ⟨w.heap.size, 0, none⟩) := ho 3 (by decide)
          have r0 := HR.out w' hb
          have hl := HL.out
          exact Gives.pure (.agg (cs U8 l)) (by go_simp) ⟨soft_refl _, hb, rfl, fun h => nomatch h⟩
        · -- 16: slot 54 := Op.move (Operand.tmp 1)
          obtain ⟨-, -⟩ : (f 48 = .bool true) ∧ True := hd
          have e1 : ρ (.tmp 1) = .slice av n cv := ho 1 (by decide)
          exact Gives.pure (.slice av n cv) (by go_simp) ⟨soft_refl _, hb, rfl, fun h => nomatch h⟩
        · -- 17: slot 55 := Op.convert 22 9 (Operand.tmp 54)
          obtain ⟨h54, -, -⟩ : (f 54 = .slice av n cv) ∧ (f 48 = .bool true) ∧ True := hd
          have e54 : ρ (.tmp 54) = .slice av n cv := (hi 54 (by decide)).trans h54
          have s0 := bytes_str (HI.out w' hb)
          unfold Sv at s0
          exact Gives.pure (.string (Bs info)) (by go_simp) ⟨soft_refl _, hb, rfl, fun h => nomatch h⟩
        · -- 18: slot 56 := Op.call { callee := Callee.value (Operand.func 29), args := #[Operand.tmp 53, Operand.tmp 55], argTy
          obtain ⟨h53, h55, -, -, -⟩ : (f 53 = .agg (cs U8 l)) ∧ (f 55 = .string (Bs info)) ∧ (f 52 = .agg (cs U8 D)) ∧ (f 48 = .bool true) ∧ True := hd
          have e53 : ρ (.tmp 53) = .agg (cs U8 l) := (hi 53 (by decide)).trans h53
          have e55 : ρ (.tmp 55) = .string (Bs info) := (hi 55 (by decide)).trans h55
          have e0 := hfn
          refine Gives.call _ _ (by go_simp) ((HRV.out w' hb).mono ?_)
          rintro e w'' ⟨rfl, hb2⟩
          exact ⟨_, rfl, .of hb2, hb.trans (hb2.mono hb.size), rfl, fun h => nomatch h⟩
        · -- 19: slot 57 := Op.binOp BinOp.eql 25 (Operand.tmp 52) (Operand.tmp 56) 25
          obtain ⟨h52, h56, -, -⟩ : (f 52 = .agg (cs U8 D)) ∧ (f 56 = .agg (cs U8 D)) ∧ (f 48 = .bool true) ∧ True := hd
          have e52 : ρ (.tmp 52) = .agg (cs U8 D) := (hi 52 (by decide)).trans h52
          have e56 : ρ (.tmp 56) = .agg (cs U8 D) := (hi 56 (by decide)).trans h56
          have hDl := HDL.out
          exact Gives.pure (.bool true) (by go_simp) ⟨soft_refl _, hb, rfl, fun h => nomatch h⟩
        · -- 20: slot 58 := Op.pick (Operand.tmp 48) (Operand.tmp 57) (Operand.const (Value.bool false))
          obtain ⟨h48, h57, -⟩ : (f 48 = .bool true) ∧ (f 57 = .bool true) ∧ True := hd
          have e48 : ρ (.tmp 48) = .bool true := (hi 48 (by decide)).trans h48
          have e57 : ρ (.tmp 57) = .bool true := (hi 57 (by decide)).trans h57
          exact Gives.pure (.bool true) (by go_simp) ⟨soft_refl _, hb, rfl, fun h => nomatch h⟩
      · intro f wq hb hT hD
        have h38 : f 38 = .slice none 0 0 := hT.1
        replace hT := hT.2
        have h39 : f 39 = .string (Bs X) := hT.1
        replace hT := hT.2
        have h40 : f 40 = .slice none 0 0 := hT.1
        replace hT := hT.2
        have h41 : f 41 = .string (Bs X) := hT.1
        replace hT := hT.2
        have h42 : f 42 = .bool true := hT.1
        replace hT := hT.2
        have h43 : f 43 = .bool true := hT.1
        replace hT := hT.2
        have h44 : f 44 = .int .i64 3 := hT.1
        replace hT := hT.2
        have h45 : f 45 = .int .i64 3 := hT.1
        replace hT := hT.2
        have h46 : f 46 = .bool true := hT.1
        replace hT := hT.2
        have h47 : f 47 = .bool true := hT.1
        replace hT := hT.2
        have h48 : f 48 = .bool true := hT.1
        replace hT := hT.2
        have h49 : f 49 = .agg (cs U8 l) := hT.1
        replace hT := hT.2
        have h50 : f 50 = .slice av n cv := hT.1
        replace hT := hT.2
        have h51 : f 51 = .string (Bs info) := hT.1
        replace hT := hT.2
        have h52 : f 52 = .agg (cs U8 D) := hT.1
        replace hT := hT.2
        have h53 : f 53 = .agg (cs U8 l) := hT.1
        replace hT := hT.2
        have h54 : f 54 = .slice av n cv := hT.1
        replace hT := hT.2
        have h55 : f 55 = .string (Bs info) := hT.1
        replace hT := hT.2
        have h56 : f 56 = .agg (cs U8 D) := hT.1
        replace hT := hT.2
        have h57 : f 57 = .bool true := hT.1
        replace hT := hT.2
        have h58 : f 58 = .bool true := hT.1
        replace hT := hT.2
        refine wpT_step rfl rfl (fun K hK => ?_)
        simp only [updL]
        go_simp
        refine hK _ _ ?_
        dsimp only [wpT]
        go_wp2_with fail
        go_ret
        exact ⟨rfl, ha.trans ((hB4.trans (hb.mono hz4)).mono (by omega))⟩
    · skip
      obtain ⟨X, hX⟩ : ∃ X : List (BitVec 8), X = [] := ⟨_, rfl⟩
      have HXX := hid hX
      clear hX
      go_enter Tryd.func7, Tryd.ntmps7
      go_wp2_with fail
      rw [← HWA.out]
      with_reducible refine (alive4_any wa HTA.out (by omega)).mono ?_
      rintro e w1 ⟨rfl, hb1⟩
      have hz1 := hb1.size
      have hr1 : (w1.rowOf w.heap.size) = cs U8 l := (below_row hb1 (by omega)).trans HRA.out
      have hl := HL.out
      dsimp only
      go_wp2_with fail
      with_reducible refine (expand_bad w1 l _ x hbad).mono ?_
      rintro e w3 ⟨rfl, hb3⟩
      have hB3 := hb1.trans (hb3.mono hz1)
      have hz3 := hB3.size
      have hr3 : (w3.rowOf w.heap.size) = cs U8 l := (below_row hB3 (by omega)).trans HRA.out
      dsimp only
      go_wp2_with fail
      with_reducible refine (rexpand_bad w3 l _ x hbad).mono ?_
      rintro e w4 ⟨rfl, hb4⟩
      have hB4 := hB3.trans (hb4.mono hz3)
      have hz4 := hB4.size
      have hx : BS w4 (.slice none 0 0) X := by rw [HXX.out]; exact (OB.nil _ w4.heap.size).bs
      have hy := hx
      clear hr1 hr3 hl hb1 hb3 hb4 hB3
      have HX : Hid (∀ wc, Below w4.heap.size w4 wc → BS wc (.slice none 0 0) X) := hid fun wc h => BS.below hx h
      have HY : Hid (∀ wc, Below w4.heap.size w4 wc → BS wc (.slice none 0 0) X) := hid fun wc h => BS.below hy h
      have HI : Hid (∀ wc, Below w4.heap.size w4 wc → BS wc (.slice av n cv) info) := hid fun wc h => BS.below (BS.below HV.out (hB4)) h
      have HR : Hid (∀ wc, Below w4.heap.size w4 wc → wc.rowOf w.heap.size = cs U8 l) := hid fun wc h => (below_row (hB4.trans (h.mono hz4)) (by omega)).trans HRA.out
      have HDV : Hid (∀ wc, Below w4.heap.size w4 wc → Calls Tryd.prog 28 #[.agg (cs U8 l), .string (Bs info)] wc fun e w' => e = .returned (.agg (cs U8 D)) ∧ Below wc.heap.size wc w') := hid fun wc h =>
        deriveB HD.out (HTA.out.below (hB4.trans (h.mono hz4)) (by omega)) (by have := h.size; omega) HL.out (by omega)
      have HRV : Hid (∀ wc, Below w4.heap.size w4 wc → Calls Tryd.prog 29 #[.agg (cs U8 l), .string (Bs info)] wc fun e w' => e = .returned (.agg (cs U8 D)) ∧ Below wc.heap.size wc w') := hid fun wc h =>
        rderiveB HD.out HL.out (by omega)
      clear hx hy
      dsimp only
      go_wp2_with fail
      refine wp_region_flow 21 (38 :: 39 :: 40 :: 41 :: 42 :: 43 :: 44 :: 45 :: 46 :: 47 :: 48 :: 49 :: 50 :: 51 :: 52 :: 53 :: 54 :: 55 :: 56 :: 57 :: 58 :: []) (Sp.eq (.slice none 0 0) :: Sp.eq (.string (Bs X)) :: Sp.eq (.slice none 0 0) :: Sp.eq (.string (Bs X)) :: Sp.eq (.bool true) :: Sp.eq (.bool true) :: Sp.eq (.int .i64 3) :: Sp.eq (.int .i64 3) :: Sp.eq (.bool true) :: Sp.eq (.bool true) :: Sp.eq (.bool true) :: Sp.eq (.agg (cs U8 l)) :: Sp.eq (.slice av n cv) :: Sp.eq (.string (Bs info)) :: Sp.eq (.agg (cs U8 D)) :: Sp.eq (.agg (cs U8 l)) :: Sp.eq (.slice av n cv) :: Sp.eq (.string (Bs info)) :: Sp.eq (.agg (cs U8 D)) :: Sp.eq (.bool true) :: Sp.eq (.bool true) :: []) (.op 21 .done) (by kernel_rfl) (by kernel_rfl) (by kernel_rfl) (by rfl) ?_ ?_
      · refine ⟨stepF_mk trivial (fun ρ f w' hc hfn hgl hi ho hb hd => ?_), stepF_mk trivial (fun ρ f w' hc hfn hgl hi ho hb hd => ?_), stepF_mk trivial (fun ρ f w' hc hfn hgl hi ho hb hd => ?_), stepF_mk trivial (fun ρ f w' hc hfn hgl hi ho hb hd => ?_), stepF_mk trivial (fun ρ f w' hc hfn hgl hi ho hb hd => ?_), stepF_mk trivial (fun ρ f w' hc hfn hgl hi ho hb hd => ?_), stepF_mk (fun _ _ h => h) (fun ρ f w' hc hfn hgl hi ho hb hd => ?_), stepF_mk (fun _ _ h => h) (fun ρ f w' hc hfn hgl hi ho hb hd => ?_), stepF_mk (fun _ _ h => h) (fun ρ f w' hc hfn hgl hi ho hb hd => ?_), stepF_mk trivial (fun ρ f w' hc hfn hgl hi ho hb hd => ?_), stepF_mk trivial (fun ρ f w' hc hfn hgl hi ho hb hd => ?_), stepF_mk (fun _ _ h => h) (fun ρ f w' hc hfn hgl hi ho hb hd => ?_), stepF_mk (fun _ _ h => h) (fun ρ f w' hc hfn hgl hi ho hb hd => ?_), stepF_mk (fun _ _ h => h) (fun ρ f w' hc hfn hgl hi ho hb hd => ?_), stepF_mk (fun _ _ h => h) (fun ρ f w' hc hfn hgl hi ho hb hd => ?_), stepF_mk (fun _ _ h => h) (fun ρ f w' hc hfn hgl hi ho hb hd => ?_), stepF_mk (fun _ _ h => h) (fun ρ f w' hc hfn hgl hi ho hb hd => ?_), stepF_mk (fun _ _ h => h) (fun ρ f w' hc hfn hgl hi ho hb hd => ?_), stepF_mk (fun _ _ h => h) (fun ρ f w' hc hfn hgl hi ho hb hd => ?_), stepF_mk (fun _ _ h => h) (fun ρ f w' hc hfn hgl hi ho hb hd => ?_), stepF_mk trivial (fun ρ f w' hc hfn hgl hi ho hb hd => ?_), trivial⟩
        · -- 0: slot 38 := Op.move (Operand.tmp 7)
          obtain ⟨-⟩ : True := hd
          have e7 : ρ (.tmp 7) = .slice none 0 0 := ho 7 (by decide)
          exact Gives.pure (.slice none 0 0) (by go_simp) ⟨soft_refl _, hb, rfl, fun h => nomatch h⟩
        · -- 1: slot 39 := Op.convert 22 9 (Operand.tmp 38)
          obtain ⟨h38, -⟩ : (f 38 = .slice none 0 0) ∧ True := hd
          have e38 : ρ (.tmp 38) = .slice none 0 0 := (hi 38 (by decide)).trans h38
          have s0 := bytes_str (HX.out w' hb)
          unfold Sv at s0
          exact Gives.pure (.string (Bs X)) (by go_simp) ⟨soft_refl _, hb, rfl, fun h => nomatch h⟩
        · -- 2: slot 40 := Op.move (Operand.tmp 9)
          obtain ⟨-⟩ : True := hd
          have e9 : ρ (.tmp 9) = .slice none 0 0 := ho 9 (by decide)
          exact Gives.pure (.slice none 0 0) (by go_simp) ⟨soft_refl _, hb, rfl, fun h => nomatch h⟩
        · -- 3: slot 41 := Op.convert 22 9 (Operand.tmp 40)
          obtain ⟨h40, -⟩ : (f 40 = .slice none 0 0) ∧ True := hd
          have e40 : ρ (.tmp 40) = .slice none 0 0 := (hi 40 (by decide)).trans h40
          have s0 := bytes_str (HY.out w' hb)
          unfold Sv at s0
          exact Gives.pure (.string (Bs X)) (by go_simp) ⟨soft_refl _, hb, rfl, fun h => nomatch h⟩
        · -- 4: slot 42 := Op.binOp BinOp.eql 9 (Operand.tmp 39) (Operand.tmp 41) 9
          obtain ⟨h39, h41, -⟩ : (f 39 = .string (Bs X)) ∧ (f 41 = .string (Bs X)) ∧ True := hd
          have e39 : ρ (.tmp 39) = .string (Bs X) := (hi 39 (by decide)).trans h39
          have e41 : ρ (.tmp 41) = .string (Bs X) := (hi 41 (by decide)).trans h41
          exact Gives.pure (.bool true) (by go_simp) ⟨soft_refl _, hb, rfl, fun h => nomatch h⟩
        · -- 5: slot 43 := Op.move (Operand.tmp 42)
          obtain ⟨h42, -⟩ : (f 42 = .bool true) ∧ True := hd
          have e42 : ρ (.tmp 42) = .bool true := (hi 42 (by decide)).trans h42
          exact Gives.pure (.bool true) (by go_simp) ⟨soft_refl _, hb, rfl, fun h => nomatch h⟩
        · -- 6: slot 44 := Op.move (Operand.tmp 8)
          obtain ⟨-, -⟩ : (f 43 = .bool true) ∧ True := hd
          have e8 : ρ (.tmp 8) = .int .i64 3 := ho 8 (by decide)
          exact Gives.pure (.int .i64 3) (by go_simp) ⟨soft_refl _, hb, rfl, fun h => nomatch h⟩
        · -- 7: slot 45 := Op.move (Operand.tmp 10)
          obtain ⟨-, -⟩ : (f 43 = .bool true) ∧ True := hd
          have e10 : ρ (.tmp 10) = .int .i64 3 := ho 10 (by decide)
          exact Gives.pure (.int .i64 3) (by go_simp) ⟨soft_refl _, hb, rfl, fun h => nomatch h⟩
        · -- 8: slot 46 := Op.binOp BinOp.eql 3 (Operand.tmp 44) (Operand.tmp 45) 3
          obtain ⟨h44, h45, -, -⟩ : (f 44 = .int .i64 3) ∧ (f 45 = .int .i64 3) ∧ (f 43 = .bool true) ∧ True := hd
          have e44 : ρ (.tmp 44) = .int .i64 3 := (hi 44 (by decide)).trans h44
          have e45 : ρ (.tmp 45) = .int .i64 3 := (hi 45 (by decide)).trans h45
          exact Gives.pure (.bool true) (by go_simp) ⟨soft_refl _, hb, rfl, fun h => nomatch h⟩
        · -- 9: slot 47 := Op.pick (Operand.tmp 43) (Operand.tmp 46) (Operand.const (Value.bool false))
          obtain ⟨h43, h46, -⟩ : (f 43 = .bool true) ∧ (f 46 = .bool true) ∧ True := hd
          have e43 : ρ (.tmp 43) = .bool true := (hi 43 (by decide)).trans h43
          have e46 : ρ (.tmp 46) = .bool true := (hi 46 (by decide)).trans h46
          exact Gives.pure (.bool true) (by go_simp) ⟨soft_refl _, hb, rfl, fun h => nomatch h⟩
        · -- 10: slot 48 := Op.move (Operand.tmp 47)
          obtain ⟨h47, -, -⟩ : (f 47 = .bool true) ∧ (f 43 = .bool true) ∧ True := hd
          have e47 : ρ (.tmp 47) = .bool true := (hi 47 (by decide)).trans h47
          exact Gives.pure (.bool true) (by go_simp) ⟨soft_refl _, hb, rfl, fun h => nomatch h⟩
        · -- 11: slot 49 := Op.load 25 (Operand.tmp 3)
          obtain ⟨-, -⟩ : (f 48 = .bool true) ∧ True := hd
          have e3 : ρ (.tmp 3) = .pointer (some ⟨w.heap.size, 0, none⟩) := ho 3 (by decide)
          have r0 := HR.out w' hb
          have hl := HL.out
          exact Gives.pure (.agg (cs U8 l)) (by go_simp) ⟨soft_refl _, hb, rfl, fun h => nomatch h⟩
        · -- 12: slot 50 := Op.move (Operand.tmp 1)
          obtain ⟨-, -⟩ : (f 48 = .bool true) ∧ True := hd
          have e1 : ρ (.tmp 1) = .slice av n cv := ho 1 (by decide)
          exact Gives.pure (.slice av n cv) (by go_simp) ⟨soft_refl _, hb, rfl, fun h => nomatch h⟩
        · -- 13: slot 51 := Op.convert 22 9 (Operand.tmp 50)
          obtain ⟨h50, -, -⟩ : (f 50 = .slice av n cv) ∧ (f 48 = .bool true) ∧ True := hd
          have e50 : ρ (.tmp 50) = .slice av n cv := (hi 50 (by decide)).trans h50
          have s0 := bytes_str (HI.out w' hb)
          unfold Sv at s0
          exact Gives.pure (.string (Bs info)) (by go_simp) ⟨soft_refl _, hb, rfl, fun h => nomatch h⟩
        · -- 14: slot 52 := Op.call { callee := Callee.value (Operand.func 28), args := #[Operand.tmp 49, Operand.tmp 51], argTy
          obtain ⟨h49, h51, -, -, -⟩ : (f 49 = .agg (cs U8 l)) ∧ (f 51 = .string (Bs info)) ∧ (f 48 = .bool true) ∧ (f 48 = .bool true) ∧ True := hd
          have e49 : ρ (.tmp 49) = .agg (cs U8 l) := (hi 49 (by decide)).trans h49
          have e51 : ρ (.tmp 51) = .string (Bs info) := (hi 51 (by decide)).trans h51
          have e0 := hfn
          refine Gives.call _ _ (by go_simp) ((HDV.out w' hb).mono ?_)
          rintro e w'' ⟨rfl, hb2⟩
          exact ⟨_, rfl, .of hb2, hb.trans (hb2.mono hb.size), rfl, fun h => nomatch h⟩
        · -- 15: slot 53 := Op.load 25 (Operand.tmp 3)
          obtain ⟨-, -⟩ : (f 48 = .bool true) ∧ True := hd
          have e3 : ρ (.tmp 3) = .pointer (some ⟨w.heap.size, 0, none⟩) := ho 3 (by decide)
          have r0 := HR.out w' hb
          have hl := HL.out
          exact Gives.pure (.agg (cs U8 l)) (by go_simp) ⟨soft_refl _, hb, rfl, fun h => nomatch h⟩
        · -- 16: slot 54 := Op.move (Operand.tmp 1)
          obtain ⟨-, -⟩ : (f 48 = .bool true) ∧ True := hd
          have e1 : ρ (.tmp 1) = .slice av n cv := ho 1 (by decide)
          exact Gives.pure (.slice av n cv) (by go_simp) ⟨soft_refl _, hb, rfl, fun h => nomatch h⟩
        · -- 17: slot 55 := Op.convert 22 9 (Operand.tmp 54)
          obtain ⟨h54, -, -⟩ : (f 54 = .slice av n cv) ∧ (f 48 = .bool true) ∧ True := hd
          have e54 : ρ (.tmp 54) = .slice av n cv := (hi 54 (by decide)).trans h54
          have s0 := bytes_str (HI.out w' hb)
          unfold Sv at s0
          exact Gives.pure (.string (Bs info)) (by go_simp) ⟨soft_refl _, hb, rfl, fun h => nomatch h⟩
        · -- 18: slot 56 := Op.call { callee := Callee.value (Operand.func 29), args := #[Operand.tmp 53, Operand.tmp 55], argTy
          obtain ⟨h53, h55, -, -, -⟩ : (f 53 = .agg (cs U8 l)) ∧ (f 55 = .string (Bs info)) ∧ (f 52 = .agg (cs U8 D)) ∧ (f 48 = .bool true) ∧ True := hd
          have e53 : ρ (.tmp 53) = .agg (cs U8 l) := (hi 53 (by decide)).trans h53
          have e55 : ρ (.tmp 55) = .string (Bs info) := (hi 55 (by decide)).trans h55
          have e0 := hfn
          refine Gives.call _ _ (by go_simp) ((HRV.out w' hb).mono ?_)
          rintro e w'' ⟨rfl, hb2⟩
          exact ⟨_, rfl, .of hb2, hb.trans (hb2.mono hb.size), rfl, fun h => nomatch h⟩
        · -- 19: slot 57 := Op.binOp BinOp.eql 25 (Operand.tmp 52) (Operand.tmp 56) 25
          obtain ⟨h52, h56, -, -⟩ : (f 52 = .agg (cs U8 D)) ∧ (f 56 = .agg (cs U8 D)) ∧ (f 48 = .bool true) ∧ True := hd
          have e52 : ρ (.tmp 52) = .agg (cs U8 D) := (hi 52 (by decide)).trans h52
          have e56 : ρ (.tmp 56) = .agg (cs U8 D) := (hi 56 (by decide)).trans h56
          have hDl := HDL.out
          exact Gives.pure (.bool true) (by go_simp) ⟨soft_refl _, hb, rfl, fun h => nomatch h⟩
        · -- 20: slot 58 := Op.pick (Operand.tmp 48) (Operand.tmp 57) (Operand.const (Value.bool false))
          obtain ⟨h48, h57, -⟩ : (f 48 = .bool true) ∧ (f 57 = .bool true) ∧ True := hd
          have e48 : ρ (.tmp 48) = .bool true := (hi 48 (by decide)).trans h48
          have e57 : ρ (.tmp 57) = .bool true := (hi 57 (by decide)).trans h57
          exact Gives.pure (.bool true) (by go_simp) ⟨soft_refl _, hb, rfl, fun h => nomatch h⟩
      · intro f wq hb hT hD
        have h38 : f 38 = .slice none 0 0 := hT.1
        replace hT := hT.2
        have h39 : f 39 = .string (Bs X) := hT.1
        replace hT := hT.2
        have h40 : f 40 = .slice none 0 0 := hT.1
        replace hT := hT.2
        have h41 : f 41 = .string (Bs X) := hT.1
        replace hT := hT.2
        have h42 : f 42 = .bool true := hT.1
        replace hT := hT.2
        have h43 : f 43 = .bool true := hT.1
        replace hT := hT.2
        have h44 : f 44 = .int .i64 3 := hT.1
        replace hT := hT.2
        have h45 : f 45 = .int .i64 3 := hT.1
        replace hT := hT.2
        have h46 : f 46 = .bool true := hT.1
        replace hT := hT.2
        have h47 : f 47 = .bool true := hT.1
        replace hT := hT.2
        have h48 : f 48 = .bool true := hT.1
        replace hT := hT.2
        have h49 : f 49 = .agg (cs U8 l) := hT.1
        replace hT := hT.2
        have h50 : f 50 = .slice av n cv := hT.1
        replace hT := hT.2
        have h51 : f 51 = .string (Bs info) := hT.1
        replace hT := hT.2
        have h52 : f 52 = .agg (cs U8 D) := hT.1
        replace hT := hT.2
        have h53 : f 53 = .agg (cs U8 l) := hT.1
        replace hT := hT.2
        have h54 : f 54 = .slice av n cv := hT.1
        replace hT := hT.2
        have h55 : f 55 = .string (Bs info) := hT.1
        replace hT := hT.2
        have h56 : f 56 = .agg (cs U8 D) := hT.1
        replace hT := hT.2
        have h57 : f 57 = .bool true := hT.1
        replace hT := hT.2
        have h58 : f 58 = .bool true := hT.1
        replace hT := hT.2
        refine wpT_step rfl rfl (fun K hK => ?_)
        simp only [updL]
        go_simp
        refine hK _ _ ?_
        dsimp only [wpT]
        go_wp2_with fail
        go_ret
        exact ⟨rfl, ha.trans ((hB4.trans (hb.mono hz4)).mono (by omega))⟩
  · obtain ⟨m, rfl⟩ : ∃ m : Nat, x = m := ⟨x.toNat, by omega⟩
    have h6 : ¬ (500 : Int) < m := by omega
    obtain ⟨X, hX⟩ : ∃ X, X = Sh.expand l info m := ⟨_, rfl⟩
    have hXl : X.length = m := by rw [hX]; exact expand_len ..
    have HXX := hid hX; have HXL := hid hXl
    clear hX hXl h4
    go_enter Tryd.func7, Tryd.ntmps7
    go_wp2_with fail
    rw [← HWA.out]
    with_reducible refine (alive4_any wa HTA.out (by omega)).mono ?_
    rintro e w1 ⟨rfl, hb1⟩
    have hz1 := hb1.size
    have hr1 : (w1.rowOf w.heap.size) = cs U8 l := (below_row hb1 (by omega)).trans HRA.out
    have hl := HL.out
    dsimp only
    go_wp2_with fail
    with_reducible refine (expand_any w1 l info _ m (HTA.out.below hb1 (by omega)) (by omega) hl (HV.out.below hb1) (by omega) (by omega)).mono ?_
    rintro e w3 ⟨ux, rfl, hx3, hb3⟩
    rw [← HXX.out] at hx3
    obtain ⟨ax, cx, rfl, -⟩ := hx3.shape' m HXL.out
    have hB3 := hb1.trans (hb3.mono hz1)
    have hz3 := hB3.size
    have hr3 : (w3.rowOf w.heap.size) = cs U8 l := (below_row hB3 (by omega)).trans HRA.out
    dsimp only
    go_wp2_with fail
    with_reducible refine (rexpand_any w3 l info _ m hl (HV.out.below hB3) (by omega) (by omega)).mono ?_
    rintro e w4 ⟨uy, rfl, hy, hb4⟩
    rw [← HXX.out] at hy
    obtain ⟨ay, cy, rfl, -⟩ := hy.shape' m HXL.out
    have hB4 := hB3.trans (hb4.mono hz3)
    have hz4 := hB4.size
    have hx := hx3.below hb4
    clear hr1 hr3 hl hx3 hb1 hb3 hb4 hB3
    have HX : Hid (∀ wc, Below w4.heap.size w4 wc → BS wc (.slice ax m cx) X) := hid fun wc h => BS.below hx h
    have HY : Hid (∀ wc, Below w4.heap.size w4 wc → BS wc (.slice ay m cy) X) := hid fun wc h => BS.below hy h
    have HI : Hid (∀ wc, Below w4.heap.size w4 wc → BS wc (.slice av n cv) info) := hid fun wc h => BS.below (BS.below HV.out (hB4)) h
    have HR : Hid (∀ wc, Below w4.heap.size w4 wc → wc.rowOf w.heap.size = cs U8 l) := hid fun wc h => (below_row (hB4.trans (h.mono hz4)) (by omega)).trans HRA.out
    have HDV : Hid (∀ wc, Below w4.heap.size w4 wc → Calls Tryd.prog 28 #[.agg (cs U8 l), .string (Bs info)] wc fun e w' => e = .returned (.agg (cs U8 D)) ∧ Below wc.heap.size wc w') := hid fun wc h =>
      deriveB HD.out (HTA.out.below (hB4.trans (h.mono hz4)) (by omega)) (by have := h.size; omega) HL.out (by omega)
    have HRV : Hid (∀ wc, Below w4.heap.size w4 wc → Calls Tryd.prog 29 #[.agg (cs U8 l), .string (Bs info)] wc fun e w' => e = .returned (.agg (cs U8 D)) ∧ Below wc.heap.size wc w') := hid fun wc h =>
      rderiveB HD.out HL.out (by omega)
    clear hx hy
    dsimp only
    go_wp2_with fail
    refine wp_region_flow 21 (38 :: 39 :: 40 :: 41 :: 42 :: 43 :: 44 :: 45 :: 46 :: 47 :: 48 :: 49 :: 50 :: 51 :: 52 :: 53 :: 54 :: 55 :: 56 :: 57 :: 58 :: []) (Sp.eq (.slice ax m cx) :: Sp.eq (.string (Bs X)) :: Sp.eq (.slice ay m cy) :: Sp.eq (.string (Bs X)) :: Sp.eq (.bool true) :: Sp.eq (.bool true) :: Sp.eq (.int .i64 0) :: Sp.eq (.int .i64 0) :: Sp.eq (.bool true) :: Sp.eq (.bool true) :: Sp.eq (.bool true) :: Sp.eq (.agg (cs U8 l)) :: Sp.eq (.slice av n cv) :: Sp.eq (.string (Bs info)) :: Sp.eq (.agg (cs U8 D)) :: Sp.eq (.agg (cs U8 l)) :: Sp.eq (.slice av n cv) :: Sp.eq (.string (Bs info)) :: Sp.eq (.agg (cs U8 D)) :: Sp.eq (.bool true) :: Sp.eq (.bool true) :: []) (.op 21 .done) (by kernel_rfl) (by kernel_rfl) (by kernel_rfl) (by rfl) ?_ ?_
    · refine ⟨stepF_mk trivial (fun ρ f w' hc hfn hgl hi ho hb hd => ?_), stepF_mk trivial (fun ρ f w' hc hfn hgl hi ho hb hd => ?_), stepF_mk trivial (fun ρ f w' hc hfn hgl hi ho hb hd => ?_), stepF_mk trivial (fun ρ f w' hc hfn hgl hi ho hb hd => ?_), stepF_mk trivial (fun ρ f w' hc hfn hgl hi ho hb hd => ?_), stepF_mk trivial (fun ρ f w' hc hfn hgl hi ho hb hd => ?_), stepF_mk (fun _ _ h => h) (fun ρ f w' hc hfn hgl hi ho hb hd => ?_), stepF_mk (fun _ _ h => h) (fun ρ f w' hc hfn hgl hi ho hb hd => ?_), stepF_mk (fun _ _ h => h) (fun ρ f w' hc hfn hgl hi ho hb hd => ?_), stepF_mk trivial (fun ρ f w' hc hfn hgl hi ho hb hd => ?_), stepF_mk trivial (fun ρ f w' hc hfn hgl hi ho hb hd => ?_), stepF_mk (fun _ _ h => h) (fun ρ f w' hc hfn hgl hi ho hb hd => ?_), stepF_mk (fun _ _ h => h) (fun ρ f w' hc hfn hgl hi ho hb hd => ?_), stepF_mk (fun _ _ h => h) (fun ρ f w' hc hfn hgl hi ho hb hd => ?_), stepF_mk (fun _ _ h => h) (fun ρ f w' hc hfn hgl hi ho hb hd => ?_), stepF_mk (fun _ _ h => h) (fun ρ f w' hc hfn hgl hi ho hb hd => ?_), stepF_mk (fun _ _ h => h) (fun ρ f w' hc hfn hgl hi ho hb hd => ?_), stepF_mk (fun _ _ h => h) (fun ρ f w' hc hfn hgl hi ho hb hd => ?_), stepF_mk (fun _ _ h => h) (fun ρ f w' hc hfn hgl hi ho hb hd => ?_), stepF_mk (fun _ _ h => h) (fun ρ f w' hc hfn hgl hi ho hb hd => ?_), stepF_mk trivial (fun ρ f w' hc hfn hgl hi ho hb hd => ?_), trivial⟩
      · -- 0: slot 38 := Op.move (Operand.tmp 7)
        obtain ⟨-⟩ : True := hd
        have e7 : ρ (.tmp 7) = .slice ax m cx := ho 7 (by decide)
        exact Gives.pure (.slice ax m cx) (by go_simp) ⟨soft_refl _, hb, rfl, fun h => nomatch h⟩
      · -- 1: slot 39 := Op.convert 22 9 (Operand.tmp 38)
        obtain ⟨h38, -⟩ : (f 38 = .slice ax m cx) ∧ True := hd
        have e38 : ρ (.tmp 38) = .slice ax m cx := (hi 38 (by decide)).trans h38
        have s0 := bytes_str (HX.out w' hb)
        unfold Sv at s0
        exact Gives.pure (.string (Bs X)) (by go_simp) ⟨soft_refl _, hb, rfl, fun h => nomatch h⟩
      · -- 2: slot 40 := Op.move (Operand.tmp 9)
        obtain ⟨-⟩ : True := hd
        have e9 : ρ (.tmp 9) = .slice ay m cy := ho 9 (by decide)
        exact Gives.pure (.slice ay m cy) (by go_simp) ⟨soft_refl _, hb, rfl, fun h => nomatch h⟩
      · -- 3: slot 41 := Op.convert 22 9 (Operand.tmp 40)
        obtain ⟨h40, -⟩ : (f 40 = .slice ay m cy) ∧ True := hd
        have e40 : ρ (.tmp 40) = .slice ay m cy := (hi 40 (by decide)).trans h40
        have s0 := bytes_str (HY.out w' hb)
        unfold Sv at s0
        exact Gives.pure (.string (Bs X)) (by go_simp) ⟨soft_refl _, hb, rfl, fun h => nomatch h⟩
      · -- 4: slot 42 := Op.binOp BinOp.eql 9 (Operand.tmp 39) (Operand.tmp 41) 9
        obtain ⟨h39, h41, -⟩ : (f 39 = .string (Bs X)) ∧ (f 41 = .string (Bs X)) ∧ True := hd
        have e39 : ρ (.tmp 39) = .string (Bs X) := (hi 39 (by decide)).trans h39
        have e41 : ρ (.tmp 41) = .string (Bs X) := (hi 41 (by decide)).trans h41
        exact Gives.pure (.bool true) (by go_simp) ⟨soft_refl _, hb, rfl, fun h => nomatch h⟩
      · -- 5: slot 43 := Op.move (Operand.tmp 42)
        obtain ⟨h42, -⟩ : (f 42 = .bool true) ∧ True := hd
        have e42 : ρ (.tmp 42) = .bool true := (hi 42 (by decide)).trans h42
        exact Gives.pure (.bool true) (by go_simp) ⟨soft_refl _, hb, rfl, fun h => nomatch h⟩
      · -- 6: slot 44 := Op.move (Operand.tmp 8)
        obtain ⟨-, -⟩ : (f 43 = .bool true) ∧ True := hd
        have e8 : ρ (.tmp 8) = .int .i64 0 := ho 8 (by decide)
        exact Gives.pure (.int .i64 0) (by go_simp) ⟨soft_refl _, hb, rfl, fun h => nomatch h⟩
      · -- 7: slot 45 := Op.move (Operand.tmp 10)
        obtain ⟨-, -⟩ : (f 43 = .bool true) ∧ True := hd
        have e10 : ρ (.tmp 10) = .int .i64 0 := ho 10 (by decide)
        exact Gives.pure (.int .i64 0) (by go_simp) ⟨soft_refl _, hb, rfl, fun h => nomatch h⟩
      · -- 8: slot 46 := Op.binOp BinOp.eql 3 (Operand.tmp 44) (Operand.tmp 45) 3
        obtain ⟨h44, h45, -, -⟩ : (f 44 = .int .i64 0) ∧ (f 45 = .int .i64 0) ∧ (f 43 = .bool true) ∧ True := hd
        have e44 : ρ (.tmp 44) = .int .i64 0 := (hi 44 (by decide)).trans h44
        have e45 : ρ (.tmp 45) = .int .i64 0 := (hi 45 (by decide)).trans h45
        exact Gives.pure (.bool true) (by go_simp) ⟨soft_refl _, hb, rfl, fun h => nomatch h⟩
      · -- 9: slot 47 := Op.pick (Operand.tmp 43) (Operand.tmp 46) (Operand.const (Value.bool false))
        obtain ⟨h43, h46, -⟩ : (f 43 = .bool true) ∧ (f 46 = .bool true) ∧ True := hd
        have e43 : ρ (.tmp 43) = .bool true := (hi 43 (by decide)).trans h43
        have e46 : ρ (.tmp 46) = .bool true := (hi 46 (by decide)).trans h46
        exact Gives.pure (.bool true) (by go_simp) ⟨soft_refl _, hb, rfl, fun h => nomatch h⟩
      · -- 10: slot 48 := Op.move (Operand.tmp 47)
        obtain ⟨h47, -, -⟩ : (f 47 = .bool true) ∧ (f 43 = .bool true) ∧ True := hd
        have e47 : ρ (.tmp 47) = .bool true := (hi 47 (by decide)).trans h47
        exact Gives.pure (.bool true) (by go_simp) ⟨soft_refl _, hb, rfl, fun h => nomatch h⟩
      · -- 11: slot 49 := Op.load 25 (Operand.tmp 3)
        obtain ⟨-, -⟩ : (f 48 = .bool true) ∧ True := hd
        have e3 : ρ (.tmp 3) = .pointer (some ⟨w.heap.size, 0, none⟩) := ho 3 (by decide)
        have r0 := HR.out w' hb
        have hl := HL.out
        exact Gives.pure (.agg (cs U8 l)) (by go_simp) ⟨soft_refl _, hb, rfl, fun h => nomatch h⟩
      · -- 12: slot 50 := Op.move (Operand.tmp 1)
        obtain ⟨-, -⟩ : (f 48 = .bool true) ∧ True := hd
        have e1 : ρ (.tmp 1) = .slice av n cv := ho 1 (by decide)
        exact Gives.pure (.slice av n cv) (by go_simp) ⟨soft_refl _, hb, rfl, fun h => nomatch h⟩
      · -- 13: slot 51 := Op.convert 22 9 (Operand.tmp 50)
        obtain ⟨h50, -, -⟩ : (f 50 = .slice av n cv) ∧ (f 48 = .bool true) ∧ True := hd
        have e50 : ρ (.tmp 50) = .slice av n cv := (hi 50 (by decide)).trans h50
        have s0 := bytes_str (HI.out w' hb)
        unfold Sv at s0
        exact Gives.pure (.string (Bs info)) (by go_simp) ⟨soft_refl _, hb, rfl, fun h => nomatch h⟩
      · -- 14: slot 52 := Op.call { callee := Callee.value (Operand.func 28), args := #[Operand.tmp 49, Operand.tmp 51], argTy
        obtain ⟨h49, h51, -, -, -⟩ : (f 49 = .agg (cs U8 l)) ∧ (f 51 = .string (Bs info)) ∧ (f 48 = .bool true) ∧ (f 48 = .bool true) ∧ True := hd
        have e49 : ρ (.tmp 49) = .agg (cs U8 l) := (hi 49 (by decide)).trans h49
        have e51 : ρ (.tmp 51) = .string (Bs info) := (hi 51 (by decide)).trans h51
        have e0 := hfn
        refine Gives.call _ _ (by go_simp) ((HDV.out w' hb).mono ?_)
        rintro e w'' ⟨rfl, hb2⟩
        exact ⟨_, rfl, .of hb2, hb.trans (hb2.mono hb.size), rfl, fun h => nomatch h⟩
      · -- 15: slot 53 := Op.load 25 (Operand.tmp 3)
        obtain ⟨-, -⟩ : (f 48 = .bool true) ∧ True := hd
        have e3 : ρ (.tmp 3) = .pointer (some ⟨w.heap.size, 0, none⟩) := ho 3 (by decide)
        have r0 := HR.out w' hb
        have hl := HL.out
        exact Gives.pure (.agg (cs U8 l)) (by go_simp) ⟨soft_refl _, hb, rfl, fun h => nomatch h⟩
      · -- 16: slot 54 := Op.move (Operand.tmp 1)
        obtain ⟨-, -⟩ : (f 48 = .bool true) ∧ True := hd
        have e1 : ρ (.tmp 1) = .slice av n cv := ho 1 (by decide)
        exact Gives.pure (.slice av n cv) (by go_simp) ⟨soft_refl _, hb, rfl, fun h => nomatch h⟩
      · -- 17: slot 55 := Op.convert 22 9 (Operand.tmp 54)
        obtain ⟨h54, -, -⟩ : (f 54 = .slice av n cv) ∧ (f 48 = .bool true) ∧ True := hd
        have e54 : ρ (.tmp 54) = .slice av n cv := (hi 54 (by decide)).trans h54
        have s0 := bytes_str (HI.out w' hb)
        unfold Sv at s0
        exact Gives.pure (.string (Bs info)) (by go_simp) ⟨soft_refl _, hb, rfl, fun h => nomatch h⟩
      · -- 18: slot 56 := Op.call { callee := Callee.value (Operand.func 29), args := #[Operand.tmp 53, Operand.tmp 55], argTy
        obtain ⟨h53, h55, -, -, -⟩ : (f 53 = .agg (cs U8 l)) ∧ (f 55 = .string (Bs info)) ∧ (f 52 = .agg (cs U8 D)) ∧ (f 48 = .bool true) ∧ True := hd
        have e53 : ρ (.tmp 53) = .agg (cs U8 l) := (hi 53 (by decide)).trans h53
        have e55 : ρ (.tmp 55) = .string (Bs info) := (hi 55 (by decide)).trans h55
        have e0 := hfn
        refine Gives.call _ _ (by go_simp) ((HRV.out w' hb).mono ?_)
        rintro e w'' ⟨rfl, hb2⟩
        exact ⟨_, rfl, .of hb2, hb.trans (hb2.mono hb.size), rfl, fun h => nomatch h⟩
      · -- 19: slot 57 := Op.binOp BinOp.eql 25 (Operand.tmp 52) (Operand.tmp 56) 25
        obtain ⟨h52, h56, -, -⟩ : (f 52 = .agg (cs U8 D)) ∧ (f 56 = .agg (cs U8 D)) ∧ (f 48 = .bool true) ∧ True := hd
        have e52 : ρ (.tmp 52) = .agg (cs U8 D) := (hi 52 (by decide)).trans h52
        have e56 : ρ (.tmp 56) = .agg (cs U8 D) := (hi 56 (by decide)).trans h56
        have hDl := HDL.out
        exact Gives.pure (.bool true) (by go_simp) ⟨soft_refl _, hb, rfl, fun h => nomatch h⟩
      · -- 20: slot 58 := Op.pick (Operand.tmp 48) (Operand.tmp 57) (Operand.const (Value.bool false))
        obtain ⟨h48, h57, -⟩ : (f 48 = .bool true) ∧ (f 57 = .bool true) ∧ True := hd
        have e48 : ρ (.tmp 48) = .bool true := (hi 48 (by decide)).trans h48
        have e57 : ρ (.tmp 57) = .bool true := (hi 57 (by decide)).trans h57
        exact Gives.pure (.bool true) (by go_simp) ⟨soft_refl _, hb, rfl, fun h => nomatch h⟩
    · intro f wq hb hT hD
      have h38 : f 38 = .slice ax m cx := hT.1
      replace hT := hT.2
      have h39 : f 39 = .string (Bs X) := hT.1
      replace hT := hT.2
      have h40 : f 40 = .slice ay m cy := hT.1
      replace hT := hT.2
      have h41 : f 41 = .string (Bs X) := hT.1
      replace hT := hT.2
      have h42 : f 42 = .bool true := hT.1
      replace hT := hT.2
      have h43 : f 43 = .bool true := hT.1
      replace hT := hT.2
      have h44 : f 44 = .int .i64 0 := hT.1
      replace hT := hT.2
      have h45 : f 45 = .int .i64 0 := hT.1
      replace hT := hT.2
      have h46 : f 46 = .bool true := hT.1
      replace hT := hT.2
      have h47 : f 47 = .bool true := hT.1
      replace hT := hT.2
      have h48 : f 48 = .bool true := hT.1
      replace hT := hT.2
      have h49 : f 49 = .agg (cs U8 l) := hT.1
      replace hT := hT.2
      have h50 : f 50 = .slice av n cv := hT.1
      replace hT := hT.2
      have h51 : f 51 = .string (Bs info) := hT.1
      replace hT := hT.2
      have h52 : f 52 = .agg (cs U8 D) := hT.1
      replace hT := hT.2
      have h53 : f 53 = .agg (cs U8 l) := hT.1
      replace hT := hT.2
      have h54 : f 54 = .slice av n cv := hT.1
      replace hT := hT.2
      have h55 : f 55 = .string (Bs info) := hT.1
      replace hT := hT.2
      have h56 : f 56 = .agg (cs U8 D) := hT.1
      replace hT := hT.2
      have h57 : f 57 = .bool true := hT.1
      replace hT := hT.2
      have h58 : f 58 = .bool true := hT.1
      replace hT := hT.2
      refine wpT_step rfl rfl (fun K hK => ?_)
      simp only [updL]
      go_simp
      refine hK _ _ ?_
      dsimp only [wpT]
      go_wp2_with fail
      go_ret
      exact ⟨rfl, ha.trans ((hB4.trans (hb.mono hz4)).mono (by omega))⟩
end Go.Proofs.YtocledgjejlolaaDoor
