/-
  Law 04: HmacDerives; own work.
-/
import Derived.Test.YtocledgjejlolaaDoorLaw4c
set_option linter.unusedSimpArgs false
set_option linter.unusedVariables false
namespace Go.Proofs.YtocledgjejlolaaDoor
open Go.RowKit

set_option maxRecDepth 100000 in
set_option maxHeartbeats 4000000 in
theorem derives_walk (w : World) (v : Value) (l salt lab : List (BitVec 8)) (hT : KT w) (hk0 : 0 < w.heap.size) (hl : l.length = 32) (hv : BS w v salt) (hsz : (Bs lab).size ≤ maxLen) :
    Calls Tryd.prog 12 #[.agg (cs U8 l), v, .string (Bs lab)] w fun e w' => e = .returned (.bool true) ∧ Below w.heap.size w w' := by
  obtain ⟨n, hn⟩ : ∃ n, n = salt.length := ⟨_, rfl⟩
  obtain ⟨av, cv, rfl, hcv⟩ := hv.shape' n hn.symm
  unfold maxLen at hsz
  obtain ⟨D, hD⟩ : ∃ D, D = Sh.derive l lab := ⟨_, rfl⟩
  have hDl : D.length = 32 := by rw [hD]; exact derive_len ..
  obtain ⟨E, hE⟩ : ∃ E, E = Sh.mac salt l := ⟨_, rfl⟩
  have hEl : E.length = 32 := by rw [hE]; rfl
  have ha : Below w.heap.size w (w.alloc (.cells (cs U8 l) 25)) := (Below.refl _ _).alloc (Nat.le_refl _) _
  have hra : (w.alloc (.cells (cs U8 l) 25)).rowOf w.heap.size = cs U8 l := rowOf_alloc_at _ _ _ rfl
  have hsa : (w.alloc (.cells (cs U8 l) 25)).heap.size = w.heap.size + 1 := by simp
  have hva : BS (w.alloc (.cells (cs U8 l) 25)) (.slice av n cv) salt := hv.below ha
  have hta : KT (w.alloc (.cells (cs U8 l) 25)) := hT.below ha hk0
  obtain ⟨wa, hwa⟩ : ∃ wa, wa = w.alloc (.cells (cs U8 l) 25) := ⟨_, rfl⟩
  rw [← hwa] at ha hra hsa hva hta
  have HWA := hid hwa; have HRA := hid hra; have HV := hid hva; have HL := hid hl; have HTA := hid hta; have HD := hid hD; have HDL := hid hDl; have HN := hid hn; have HE := hid hE; have HEL := hid hEl
  clear hwa hra hva hv hl hta hT hD hDl hn hE hEl
  by_cases h3 : (1000 : Int) < n
  · go_enter Tryd.func12, Tryd.ntmps12
    go_wp2_with fail
    rw [← HWA.out]
    with_reducible refine (alive4_any wa HTA.out (by omega)).mono ?_
    rintro e w1 ⟨rfl, hb1⟩
    dsimp only
    go_wp2_with fail
    go_ret
    exact ⟨rfl, ha.trans (hb1.mono (by omega))⟩
  by_cases h4 : (1000 : Int) < (Bs lab).size
  · go_enter Tryd.func12, Tryd.ntmps12
    go_wp2_with fail
    rw [← HWA.out]
    with_reducible refine (alive4_any wa HTA.out (by omega)).mono ?_
    rintro e w1 ⟨rfl, hb1⟩
    dsimp only
    go_wp2_with fail
    go_ret
    exact ⟨rfl, ha.trans (hb1.mono (by omega))⟩
  have ll : lab.length ≤ 1000 := by rw [← Bs_size]; omega
  have lk : salt.length ≤ 1000 := by rw [← HN.out]; omega
  go_enter Tryd.func12, Tryd.ntmps12
  go_wp2_with fail
  rw [← HWA.out]
  with_reducible refine (alive4_any wa HTA.out (by omega)).mono ?_
  rintro e w1 ⟨rfl, hb1⟩
  have hz1 := hb1.size
  have hr1 : (w1.rowOf w.heap.size) = cs U8 l := (below_row hb1 (by omega)).trans HRA.out
  have hl := HL.out
  dsimp only
  go_wp2_with fail
  with_reducible refine (deriveB HD.out (HTA.out.below hb1 (by omega)) (by omega) hl (by omega)).mono ?_
  rintro e w2 ⟨rfl, hb2⟩
  have hB2 := hb1.trans (hb2.mono hz1)
  have hz2 := hB2.size
  have hDl := HDL.out
  dsimp only
  have hcat := pig_str lab
  obtain ⟨M, hM⟩ : ∃ M, M = Sh.pig ++ lab := ⟨_, rfl⟩
  have hMl : M.length = 9 + lab.length := by rw [hM, List.length_append]; rfl
  rw [← hM] at hcat
  have HM : Hid (Sh.expand l M 32 = D) := hid (by rw [hM, HD.out]; rfl)
  clear hM
  obtain ⟨g7, hg7⟩ : ∃ g, g = w2.heap.size := ⟨_, rfl⟩
  have hc3 : Below w2.heap.size w2 (w2.alloc (.cells (cs U8 D) 25)) := (Below.refl _ _).alloc (Nat.le_refl _) _
  have hr3 : (w2.alloc (.cells (cs U8 D) 25)).rowOf w2.heap.size = cs U8 D := rowOf_alloc_at _ _ _ rfl
  have hr30 : (w2.alloc (.cells (cs U8 D) 25)).rowOf w.heap.size = cs U8 l := (below_row hc3 (by omega)).trans ((below_row hB2 (by omega)).trans HRA.out)
  have hs3 : (w2.alloc (.cells (cs U8 D) 25)).heap.size = w2.heap.size + 1 := by simp
  obtain ⟨cap, w3, hrun, hbs, hb3, hz3⟩ := str_bytes (w2.alloc (.cells (cs U8 D) 25)) M
  rw [hs3] at hb3 hz3 hrun hbs
  have HBS := hid (hbs (by unfold maxLen; rw [hMl]; omega))
  rw [hMl] at hrun HBS
  unfold Sv at hrun hcat
  have hR7 : w3.rowOf w2.heap.size = cs U8 D := (below_row hb3 (by omega)).trans hr3
  have hB3 : Below wa.heap.size wa w3 := (hB2.trans (hc3.mono hz2)).trans (hb3.mono (by omega))
  have HR7 := hid hR7; have HML := hid hMl
  clear hr3 hbs hc3 hR7 hMl
  go_wp2_with fail
  have HC := hid hcat
  clear hcat hrun hr1 hr30
  have hz33 : wa.heap.size ≤ w3.heap.size := hB3.size
  with_reducible refine (expand_c 32 32 rfl w3 l M _ (HTA.out.below hB3 (by omega)) (by omega) hl HBS.out (by rw [HML.out]; omega) (by decide)).mono ?_
  rintro e w4 ⟨u4, rfl, hu4, hb4⟩
  rw [HM.out] at hu4
  obtain ⟨a4, c4, rfl, -⟩ := hu4.shape' 32 hDl
  have hB4 := hB3.trans (hb4.mono hz33)
  have hz4 := hB4.size
  have H8 : Hid (∀ wc, Below w4.heap.size w4 wc → BS wc (.slice a4 32 c4) D) := hid fun wc h => BS.below hu4 h
  have H7 : Hid (∀ wc, Below w4.heap.size w4 wc → BS wc (.slice (some ⟨g7, 0, none⟩) 32 32) D) := hid fun wc h =>
    BS.row ((below_row h (by have := hb4.size; omega)).trans ((below_row hb4 (by omega)).trans (by rw [hg7]; exact HR7.out))) HDL.out (by unfold maxLen; decide)
  have HS : Hid (∀ wc, Below w4.heap.size w4 wc → BS wc (.slice av n cv) salt) := hid fun wc h => BS.below (BS.below HV.out hB4) h
  have HK : Hid (∀ wc, Below w4.heap.size w4 wc → BS wc (.slice (some ⟨w.heap.size, 0, none⟩) 32 32) l) := hid fun wc h =>
    BS.row ((below_row (hB4.trans (h.mono hz4)) (by omega)).trans HRA.out) HL.out (by unfold maxLen; decide)
  have HEX : Hid (∀ wc, Below w4.heap.size w4 wc → Calls Tryd.prog 35 #[.slice av n cv, .slice (some ⟨w.heap.size, 0, none⟩) 32 32] wc fun e w' => e = .returned (.agg (cs U8 E)) ∧ Below wc.heap.size wc w') := hid fun wc h =>
    extractD HE.out (HTA.out.below (hB4.trans (h.mono hz4)) (by omega)) (by have := h.size; omega) (HS.out wc h) (HK.out wc h) (by omega) (by rw [HL.out]; decide)
  have HMC : Hid (∀ wc, Below w4.heap.size w4 wc → Calls Tryd.prog 33 #[.slice av n cv, .slice (some ⟨w.heap.size, 0, none⟩) 32 32] wc fun e w' => e = .returned (.agg (cs U8 E)) ∧ Below wc.heap.size wc w') := hid fun wc h =>
    macD HE.out (HTA.out.below (hB4.trans (h.mono hz4)) (by omega)) (by have := h.size; omega) (HS.out wc h) (HK.out wc h) (by omega) (by rw [HL.out]; decide)
  clear hu4 hl hDl hb1 hb2 hb3 hb4 hB2 hB3
  rw [← hg7]
  clear hg7
  dsimp only
  go_wp2_with fail
  refine wp_region_flow 18 (31 :: 32 :: 33 :: 34 :: 35 :: 36 :: 37 :: 38 :: 39 :: 40 :: 41 :: 42 :: 43 :: 44 :: 45 :: 46 :: 47 :: 48 :: []) (Sp.eq (.int .i64 0) :: Sp.eq (.bool true) :: Sp.eq (.bool true) :: Sp.eq (.slice a4 32 c4) :: Sp.eq (.string (Bs D)) :: Sp.eq (.slice (some ⟨g7, 0, none⟩) 32 32) :: Sp.eq (.string (Bs D)) :: Sp.eq (.bool true) :: Sp.eq (.bool true) :: Sp.eq (.bool true) :: Sp.eq (.slice av n cv) :: Sp.eq (.slice (some ⟨w.heap.size, 0, none⟩) 32 32) :: Sp.eq (.agg (cs U8 E)) :: Sp.eq (.slice av n cv) :: Sp.eq (.slice (some ⟨w.heap.size, 0, none⟩) 32 32) :: Sp.eq (.agg (cs U8 E)) :: Sp.eq (.bool true) :: Sp.eq (.bool true) :: []) (.op 18 .done) (by kernel_rfl) (by kernel_rfl) (by kernel_rfl) (by rfl) ?_ ?_
  · refine ⟨stepF_mk trivial (fun ρ f w' hc hfn hgl hi ho hb hd => ?_), stepF_mk trivial (fun ρ f w' hc hfn hgl hi ho hb hd => ?_), stepF_mk trivial (fun ρ f w' hc hfn hgl hi ho hb hd => ?_), stepF_mk (fun _ _ h => h) (fun ρ f w' hc hfn hgl hi ho hb hd => ?_), stepF_mk (fun _ _ h => h) (fun ρ f w' hc hfn hgl hi ho hb hd => ?_), stepF_mk (fun _ _ h => h) (fun ρ f w' hc hfn hgl hi ho hb hd => ?_), stepF_mk (fun _ _ h => h) (fun ρ f w' hc hfn hgl hi ho hb hd => ?_), stepF_mk (fun _ _ h => h) (fun ρ f w' hc hfn hgl hi ho hb hd => ?_), stepF_mk trivial (fun ρ f w' hc hfn hgl hi ho hb hd => ?_), stepF_mk trivial (fun ρ f w' hc hfn hgl hi ho hb hd => ?_), stepF_mk (fun _ _ h => h) (fun ρ f w' hc hfn hgl hi ho hb hd => ?_), stepF_mk (fun _ _ h => h) (fun ρ f w' hc hfn hgl hi ho hb hd => ?_), stepF_mk (fun _ _ h => h) (fun ρ f w' hc hfn hgl hi ho hb hd => ?_), stepF_mk (fun _ _ h => h) (fun ρ f w' hc hfn hgl hi ho hb hd => ?_), stepF_mk (fun _ _ h => h) (fun ρ f w' hc hfn hgl hi ho hb hd => ?_), stepF_mk (fun _ _ h => h) (fun ρ f w' hc hfn hgl hi ho hb hd => ?_), stepF_mk (fun _ _ h => h) (fun ρ f w' hc hfn hgl hi ho hb hd => ?_), stepF_mk trivial (fun ρ f w' hc hfn hgl hi ho hb hd => ?_), trivial⟩
    · -- 0: slot 31 := Op.move (Operand.tmp 9)
      obtain ⟨-⟩ : True := hd
      have e9 : ρ (.tmp 9) = .int .i64 0 := ho 9 (by decide)
      exact Gives.pure (.int .i64 0) (by go_simp) ⟨soft_refl _, hb, rfl, fun h => nomatch h⟩
    · -- 1: slot 32 := Op.binOp BinOp.eql 31 (Operand.tmp 31) (Operand.const (Value.int IntKind.i64 0)) 31
      obtain ⟨h31, -⟩ : (f 31 = .int .i64 0) ∧ True := hd
      have e31 : ρ (.tmp 31) = .int .i64 0 := (hi 31 (by decide)).trans h31
      exact Gives.pure (.bool true) (by go_simp) ⟨soft_refl _, hb, rfl, fun h => nomatch h⟩
    · -- 2: slot 33 := Op.move (Operand.tmp 32)
      obtain ⟨h32, -⟩ : (f 32 = .bool true) ∧ True := hd
      have e32 : ρ (.tmp 32) = .bool true := (hi 32 (by decide)).trans h32
      exact Gives.pure (.bool true) (by go_simp) ⟨soft_refl _, hb, rfl, fun h => nomatch h⟩
    · -- 3: slot 34 := Op.move (Operand.tmp 8)
      obtain ⟨-, -⟩ : (f 33 = .bool true) ∧ True := hd
      have e8 : ρ (.tmp 8) = .slice a4 32 c4 := ho 8 (by decide)
      exact Gives.pure (.slice a4 32 c4) (by go_simp) ⟨soft_refl _, hb, rfl, fun h => nomatch h⟩
    · -- 4: slot 35 := Op.convert 22 9 (Operand.tmp 34)
      obtain ⟨h34, -, -⟩ : (f 34 = .slice a4 32 c4) ∧ (f 33 = .bool true) ∧ True := hd
      have e34 : ρ (.tmp 34) = .slice a4 32 c4 := (hi 34 (by decide)).trans h34
      have s0 := bytes_str (H8.out w' hb)
      unfold Sv at s0
      exact Gives.pure (.string (Bs D)) (by go_simp) ⟨soft_refl _, hb, rfl, fun h => nomatch h⟩
    · -- 5: slot 36 := Op.slice 25 (Operand.tmp 7) none none none
      obtain ⟨-, -⟩ : (f 33 = .bool true) ∧ True := hd
      have e7 : ρ (.tmp 7) = .pointer (some ⟨g7, 0, none⟩) := ho 7 (by decide)
      exact Gives.pure (.slice (some ⟨g7, 0, none⟩) 32 32) (by go_simp) ⟨soft_refl _, hb, rfl, fun h => nomatch h⟩
    · -- 6: slot 37 := Op.convert 22 9 (Operand.tmp 36)
      obtain ⟨h36, -, -⟩ : (f 36 = .slice (some ⟨g7, 0, none⟩) 32 32) ∧ (f 33 = .bool true) ∧ True := hd
      have e36 : ρ (.tmp 36) = .slice (some ⟨g7, 0, none⟩) 32 32 := (hi 36 (by decide)).trans h36
      have s0 := bytes_str (H7.out w' hb)
      unfold Sv at s0
      exact Gives.pure (.string (Bs D)) (by go_simp) ⟨soft_refl _, hb, rfl, fun h => nomatch h⟩
    · -- 7: slot 38 := Op.binOp BinOp.eql 9 (Operand.tmp 35) (Operand.tmp 37) 9
      obtain ⟨h35, h37, -, -⟩ : (f 35 = .string (Bs D)) ∧ (f 37 = .string (Bs D)) ∧ (f 33 = .bool true) ∧ True := hd
      have e35 : ρ (.tmp 35) = .string (Bs D) := (hi 35 (by decide)).trans h35
      have e37 : ρ (.tmp 37) = .string (Bs D) := (hi 37 (by decide)).trans h37
      exact Gives.pure (.bool true) (by go_simp) ⟨soft_refl _, hb, rfl, fun h => nomatch h⟩
    · -- 8: slot 39 := Op.pick (Operand.tmp 33) (Operand.tmp 38) (Operand.const (Value.bool false))
      obtain ⟨h33, h38, -⟩ : (f 33 = .bool true) ∧ (f 38 = .bool true) ∧ True := hd
      have e33 : ρ (.tmp 33) = .bool true := (hi 33 (by decide)).trans h33
      have e38 : ρ (.tmp 38) = .bool true := (hi 38 (by decide)).trans h38
      exact Gives.pure (.bool true) (by go_simp) ⟨soft_refl _, hb, rfl, fun h => nomatch h⟩
    · -- 9: slot 40 := Op.move (Operand.tmp 39)
      obtain ⟨h39, -, -⟩ : (f 39 = .bool true) ∧ (f 33 = .bool true) ∧ True := hd
      have e39 : ρ (.tmp 39) = .bool true := (hi 39 (by decide)).trans h39
      exact Gives.pure (.bool true) (by go_simp) ⟨soft_refl _, hb, rfl, fun h => nomatch h⟩
    · -- 10: slot 41 := Op.move (Operand.tmp 1)
      obtain ⟨-, -⟩ : (f 40 = .bool true) ∧ True := hd
      have e1 : ρ (.tmp 1) = .slice av n cv := ho 1 (by decide)
      exact Gives.pure (.slice av n cv) (by go_simp) ⟨soft_refl _, hb, rfl, fun h => nomatch h⟩
    · -- 11: slot 42 := Op.slice 25 (Operand.tmp 3) none none none
      obtain ⟨-, -⟩ : (f 40 = .bool true) ∧ True := hd
      have e3 : ρ (.tmp 3) = .pointer (some ⟨w.heap.size, 0, none⟩) := ho 3 (by decide)
      exact Gives.pure (.slice (some ⟨w.heap.size, 0, none⟩) 32 32) (by go_simp) ⟨soft_refl _, hb, rfl, fun h => nomatch h⟩
    · -- 12: slot 43 := Op.call { callee := Callee.value (Operand.func 35), args := #[Operand.tmp 41, Operand.tmp 42], argTy
      obtain ⟨h41, h42, -, -, -⟩ : (f 41 = .slice av n cv) ∧ (f 42 = .slice (some ⟨w.heap.size, 0, none⟩) 32 32) ∧ (f 40 = .bool true) ∧ (f 40 = .bool true) ∧ True := hd
      have e41 : ρ (.tmp 41) = .slice av n cv := (hi 41 (by decide)).trans h41
      have e42 : ρ (.tmp 42) = .slice (some ⟨w.heap.size, 0, none⟩) 32 32 := (hi 42 (by decide)).trans h42
      have e0 := hfn
      refine Gives.call _ _ (by go_simp) ((HEX.out w' hb).mono ?_)
      rintro e w'' ⟨rfl, hb2⟩
      exact ⟨_, rfl, .of hb2, hb.trans (hb2.mono hb.size), rfl, fun h => nomatch h⟩
    · -- 13: slot 44 := Op.move (Operand.tmp 1)
      obtain ⟨-, -⟩ : (f 40 = .bool true) ∧ True := hd
      have e1 : ρ (.tmp 1) = .slice av n cv := ho 1 (by decide)
      exact Gives.pure (.slice av n cv) (by go_simp) ⟨soft_refl _, hb, rfl, fun h => nomatch h⟩
    · -- 14: slot 45 := Op.slice 25 (Operand.tmp 3) none none none
      obtain ⟨-, -⟩ : (f 40 = .bool true) ∧ True := hd
      have e3 : ρ (.tmp 3) = .pointer (some ⟨w.heap.size, 0, none⟩) := ho 3 (by decide)
      exact Gives.pure (.slice (some ⟨w.heap.size, 0, none⟩) 32 32) (by go_simp) ⟨soft_refl _, hb, rfl, fun h => nomatch h⟩
    · -- 15: slot 46 := Op.call { callee := Callee.value (Operand.func 33), args := #[Operand.tmp 44, Operand.tmp 45], argTy
      obtain ⟨h44, h45, -, -, -⟩ : (f 44 = .slice av n cv) ∧ (f 45 = .slice (some ⟨w.heap.size, 0, none⟩) 32 32) ∧ (f 43 = .agg (cs U8 E)) ∧ (f 40 = .bool true) ∧ True := hd
      have e44 : ρ (.tmp 44) = .slice av n cv := (hi 44 (by decide)).trans h44
      have e45 : ρ (.tmp 45) = .slice (some ⟨w.heap.size, 0, none⟩) 32 32 := (hi 45 (by decide)).trans h45
      have e0 := hfn
      refine Gives.call _ _ (by go_simp) ((HMC.out w' hb).mono ?_)
      rintro e w'' ⟨rfl, hb2⟩
      exact ⟨_, rfl, .of hb2, hb.trans (hb2.mono hb.size), rfl, fun h => nomatch h⟩
    · -- 16: slot 47 := Op.binOp BinOp.eql 25 (Operand.tmp 43) (Operand.tmp 46) 25
      obtain ⟨h43, h46, -, -⟩ : (f 43 = .agg (cs U8 E)) ∧ (f 46 = .agg (cs U8 E)) ∧ (f 40 = .bool true) ∧ True := hd
      have e43 : ρ (.tmp 43) = .agg (cs U8 E) := (hi 43 (by decide)).trans h43
      have e46 : ρ (.tmp 46) = .agg (cs U8 E) := (hi 46 (by decide)).trans h46
      have hEl := HEL.out
      exact Gives.pure (.bool true) (by go_simp) ⟨soft_refl _, hb, rfl, fun h => nomatch h⟩
    · -- 17: slot 48 := Op.pick (Operand.tmp 40) (Operand.tmp 47) (Operand.const (Value.bool false))
      obtain ⟨h40, h47, -⟩ : (f 40 = .bool true) ∧ (f 47 = .bool true) ∧ True := hd
      have e40 : ρ (.tmp 40) = .bool true := (hi 40 (by decide)).trans h40
      have e47 : ρ (.tmp 47) = .bool true := (hi 47 (by decide)).trans h47
      exact Gives.pure (.bool true) (by go_simp) ⟨soft_refl _, hb, rfl, fun h => nomatch h⟩
  · intro f wq hb hT hD
    have h31 : f 31 = .int .i64 0 := hT.1
    replace hT := hT.2
    have h32 : f 32 = .bool true := hT.1
    replace hT := hT.2
    have h33 : f 33 = .bool true := hT.1
    replace hT := hT.2
    have h34 : f 34 = .slice a4 32 c4 := hT.1
    replace hT := hT.2
    have h35 : f 35 = .string (Bs D) := hT.1
    replace hT := hT.2
    have h36 : f 36 = .slice (some ⟨g7, 0, none⟩) 32 32 := hT.1
    replace hT := hT.2
    have h37 : f 37 = .string (Bs D) := hT.1
    replace hT := hT.2
    have h38 : f 38 = .bool true := hT.1
    replace hT := hT.2
    have h39 : f 39 = .bool true := hT.1
    replace hT := hT.2
    have h40 : f 40 = .bool true := hT.1
    replace hT := hT.2
    have h41 : f 41 = .slice av n cv := hT.1
    replace hT := hT.2
    have h42 : f 42 = .slice (some ⟨w.heap.size, 0, none⟩) 32 32 := hT.1
    replace hT := hT.2
    have h43 : f 43 = .agg (cs U8 E) := hT.1
    replace hT := hT.2
    have h44 : f 44 = .slice av n cv := hT.1
    replace hT := hT.2
    have h45 : f 45 = .slice (some ⟨w.heap.size, 0, none⟩) 32 32 := hT.1
    replace hT := hT.2
    have h46 : f 46 = .agg (cs U8 E) := hT.1
    replace hT := hT.2
    have h47 : f 47 = .bool true := hT.1
    replace hT := hT.2
    have h48 : f 48 = .bool true := hT.1
    replace hT := hT.2
    refine wpT_step rfl rfl (fun K hK => ?_)
    simp only [updL]
    go_simp
    refine hK _ _ ?_
    dsimp only [wpT]
    go_wp2_with fail
    go_ret
    exact ⟨rfl, ha.trans ((hB4.trans (hb.mono hz4)).mono (by omega))⟩
end Go.Proofs.YtocledgjejlolaaDoor
