/-
  Law 04: HmacEqual; own work.
-/
import Derived.Test.YtocledgjejlolaaDoorLaw4c
set_option linter.unusedSimpArgs false
set_option linter.unusedVariables false
namespace Go.Proofs.YtocledgjejlolaaDoor
open Go.RowKit

theorem str_tl (a b : List (BitVec 8)) : ((Bs a).toList == (Bs b).toList) = (a == b) := by
  rw [ByteArray.toList_eq, ByteArray.toList_eq]
  have h : ∀ l, (Bs l).data.toList = l.map UInt8.ofBitVec := fun l => by simp [Bs]
  rw [h, h, map_u8_beq]
theorem eqin_tag (w : World) (a b : List (BitVec 8)) (ha : a.length = 16) (hb : b.length = 16) : (Op.equalIn 10000 52 (.agg (cs U8 a)) (.agg (cs U8 b))).run Tryd.prog w = .ok (a == b) w := by
  rw [cs8_cell, cs8_cell, run_equalIn_bytes w 9998 52 5 16 Tryd.underlying52 Tryd.underlying5 (fun w => by kernel_rfl) _ _ (by simpa using ha) (by simpa using hb), map_u8_beq]
attribute [go_sem] eqin_tag
set_option maxRecDepth 100000 in
set_option maxHeartbeats 4000000 in
theorem equal_walk (w : World) (v0 v1 : Value) (a b l : List (BitVec 8)) (hT : KT w) (hk0 : 0 < w.heap.size) (h0 : BS w v0 a) (h1 : BS w v1 b) (hl : l.length = 32) :
    Calls Tryd.prog 8 #[v0, v1, .agg (cs U8 l)] w fun e w' => e = .returned (.bool true) ∧ Below w.heap.size w w' := by
  obtain ⟨n, hn⟩ : ∃ n, n = a.length := ⟨_, rfl⟩
  obtain ⟨n1, hn1⟩ : ∃ n, n = b.length := ⟨_, rfl⟩
  obtain ⟨av, cv, rfl, hcv⟩ := h0.shape' n hn.symm
  obtain ⟨av1, cv1, rfl, hcv1⟩ := h1.shape' n1 hn1.symm
  have ha : Below w.heap.size w (w.alloc (.cells (cs U8 l) 25)) := (Below.refl _ _).alloc (Nat.le_refl _) _
  have hra : (w.alloc (.cells (cs U8 l) 25)).rowOf w.heap.size = cs U8 l := rowOf_alloc_at _ _ _ rfl
  have hsa : (w.alloc (.cells (cs U8 l) 25)).heap.size = w.heap.size + 1 := by simp
  have hva : BS (w.alloc (.cells (cs U8 l) 25)) (.slice av n cv) a := h0.below ha
  have hvb : BS (w.alloc (.cells (cs U8 l) 25)) (.slice av1 n1 cv1) b := h1.below ha
  have hta : KT (w.alloc (.cells (cs U8 l) 25)) := hT.below ha hk0
  obtain ⟨wa, hwa⟩ : ∃ wa, wa = w.alloc (.cells (cs U8 l) 25) := ⟨_, rfl⟩
  rw [← hwa] at ha hra hsa hva hvb hta
  have HWA := hid hwa; have HRA := hid hra; have HVA := hid hva; have HVB := hid hvb; have HL := hid hl; have HTA := hid hta; have HN := hid hn; have HN1 := hid hn1
  have HTL : Hid ((l.take 16).length = 16) := hid (by simp; omega)
  clear hwa hra hva hvb h0 h1 hl hta hT hn hn1
  by_cases h3 : (1000 : Int) < n
  · go_enter Tryd.func8, Tryd.ntmps8
    go_wp2_with fail
    rw [← HWA.out]
    with_reducible refine (alive4_any wa HTA.out (by omega)).mono ?_
    rintro e w1 ⟨rfl, hb1⟩
    dsimp only
    go_wp2_with fail
    go_ret
    exact ⟨rfl, ha.trans (hb1.mono (by omega))⟩
  by_cases h4 : (1000 : Int) < n1
  · go_enter Tryd.func8, Tryd.ntmps8
    go_wp2_with fail
    rw [← HWA.out]
    with_reducible refine (alive4_any wa HTA.out (by omega)).mono ?_
    rintro e w1 ⟨rfl, hb1⟩
    dsimp only
    go_wp2_with fail
    go_ret
    exact ⟨rfl, ha.trans (hb1.mono (by omega))⟩
  go_enter Tryd.func8, Tryd.ntmps8
  go_wp2_with fail
  rw [← HWA.out]
  with_reducible refine (alive4_any wa HTA.out (by omega)).mono ?_
  rintro e w1 ⟨rfl, hb1⟩
  have hz1 := hb1.size
  have HA : Hid (∀ wc, Below w1.heap.size w1 wc → BS wc (.slice av n cv) a) := hid fun wc h => BS.below (BS.below HVA.out hb1) h
  have HB : Hid (∀ wc, Below w1.heap.size w1 wc → BS wc (.slice av1 n1 cv1) b) := hid fun wc h => BS.below (BS.below HVB.out hb1) h
  have HEQ : Hid (∀ wc, Below w1.heap.size w1 wc → Calls Tryd.prog 30 #[.slice av n cv, .slice av1 n1 cv1] wc fun e w' => e = .returned (.bool (a == b)) ∧ Below wc.heap.size wc w') := hid fun wc h => equal_any wc _ _ a b (HA.out wc h) (HB.out wc h)
  have HEA : Hid (∀ wc, Below w1.heap.size w1 wc → Calls Tryd.prog 30 #[.slice av n cv, .slice av n cv] wc fun e w' => e = .returned (.bool true) ∧ Below wc.heap.size wc w') := hid fun wc h => by
    have := equal_any wc _ _ a a (HA.out wc h) (HA.out wc h)
    simpa using this
  have HR : Hid (∀ wc, Below w1.heap.size w1 wc → wc.rowOf w.heap.size = cs U8 l) := hid fun wc h => (below_row (hb1.trans (h.mono hz1)) (by omega)).trans HRA.out
  have HSH : Hid (∀ wc, Below w1.heap.size w1 wc → Calls Tryd.prog 31 #[.agg (cs U8 l)] wc fun e w' => e = .returned (.agg (cs U8 (l.take 16))) ∧ Below wc.heap.size wc w') := hid fun wc h => short_any wc l HL.out
  have HRS : Hid (∀ wc, Below w1.heap.size w1 wc → Calls Tryd.prog 32 #[.agg (cs U8 l)] wc fun e w' => e = .returned (.agg (cs U8 (l.take 16))) ∧ Below wc.heap.size wc w') := hid fun wc h => rshort_any wc l HL.out
  dsimp only
  go_wp2_with fail
  refine wp_region_flow 21 (17 :: 18 :: 19 :: 20 :: 21 :: 22 :: 23 :: 24 :: 25 :: 26 :: 27 :: 28 :: 29 :: 30 :: 31 :: 32 :: 33 :: 34 :: 35 :: 36 :: 37 :: []) (Sp.eq (.slice av n cv) :: Sp.eq (.slice av1 n1 cv1) :: Sp.eq (.bool (a == b)) :: Sp.eq (.slice av n cv) :: Sp.eq (.string (Bs a)) :: Sp.eq (.slice av1 n1 cv1) :: Sp.eq (.string (Bs b)) :: Sp.eq (.bool (a == b)) :: Sp.eq (.bool true) :: Sp.eq (.bool true) :: Sp.eq (.slice av n cv) :: Sp.eq (.slice av n cv) :: Sp.eq (.bool true) :: Sp.eq (.bool true) :: Sp.eq (.bool true) :: Sp.eq (.agg (cs U8 l)) :: Sp.eq (.agg (cs U8 (l.take 16))) :: Sp.eq (.agg (cs U8 l)) :: Sp.eq (.agg (cs U8 (l.take 16))) :: Sp.eq (.bool true) :: Sp.eq (.bool true) :: []) (.op 21 .done) (by kernel_rfl) (by kernel_rfl) (by kernel_rfl) (by rfl) ?_ ?_
  · refine ⟨stepF_mk trivial (fun ρ f w' hc hfn hgl hi ho hb hd => ?_), stepF_mk trivial (fun ρ f w' hc hfn hgl hi ho hb hd => ?_), stepF_mk trivial (fun ρ f w' hc hfn hgl hi ho hb hd => ?_), stepF_mk trivial (fun ρ f w' hc hfn hgl hi ho hb hd => ?_), stepF_mk trivial (fun ρ f w' hc hfn hgl hi ho hb hd => ?_), stepF_mk trivial (fun ρ f w' hc hfn hgl hi ho hb hd => ?_), stepF_mk trivial (fun ρ f w' hc hfn hgl hi ho hb hd => ?_), stepF_mk trivial (fun ρ f w' hc hfn hgl hi ho hb hd => ?_), stepF_mk trivial (fun ρ f w' hc hfn hgl hi ho hb hd => ?_), stepF_mk trivial (fun ρ f w' hc hfn hgl hi ho hb hd => ?_), stepF_mk (fun _ _ h => h) (fun ρ f w' hc hfn hgl hi ho hb hd => ?_), stepF_mk (fun _ _ h => h) (fun ρ f w' hc hfn hgl hi ho hb hd => ?_), stepF_mk (fun _ _ h => h) (fun ρ f w' hc hfn hgl hi ho hb hd => ?_), stepF_mk trivial (fun ρ f w' hc hfn hgl hi ho hb hd => ?_), stepF_mk trivial (fun ρ f w' hc hfn hgl hi ho hb hd => ?_), stepF_mk (fun _ _ h => h) (fun ρ f w' hc hfn hgl hi ho hb hd => ?_), stepF_mk (fun _ _ h => h) (fun ρ f w' hc hfn hgl hi ho hb hd => ?_), stepF_mk (fun _ _ h => h) (fun ρ f w' hc hfn hgl hi ho hb hd => ?_), stepF_mk (fun _ _ h => h) (fun ρ f w' hc hfn hgl hi ho hb hd => ?_), stepF_mk (fun _ _ h => h) (fun ρ f w' hc hfn hgl hi ho hb hd => ?_), stepF_mk trivial (fun ρ f w' hc hfn hgl hi ho hb hd => ?_), trivial⟩
    · -- 0: slot 17 := Op.move (Operand.tmp 0)
      obtain ⟨-⟩ : True := hd
      have e0 : ρ (.tmp 0) = .slice av n cv := ho 0 (by decide)
      exact Gives.pure (.slice av n cv) (by go_simp) ⟨soft_refl _, hb, rfl, fun h => nomatch h⟩
    · -- 1: slot 18 := Op.move (Operand.tmp 1)
      obtain ⟨-⟩ : True := hd
      have e1 : ρ (.tmp 1) = .slice av1 n1 cv1 := ho 1 (by decide)
      exact Gives.pure (.slice av1 n1 cv1) (by go_simp) ⟨soft_refl _, hb, rfl, fun h => nomatch h⟩
    · -- 2: slot 19 := Op.call { callee := Callee.value (Operand.func 30), args := #[Operand.tmp 17, Operand.tmp 18], argTy
      obtain ⟨h17, h18, -⟩ : (f 17 = .slice av n cv) ∧ (f 18 = .slice av1 n1 cv1) ∧ True := hd
      have e17 : ρ (.tmp 17) = .slice av n cv := (hi 17 (by decide)).trans h17
      have e18 : ρ (.tmp 18) = .slice av1 n1 cv1 := (hi 18 (by decide)).trans h18
      have e0 := hfn
      refine Gives.call _ _ (by go_simp) ((HEQ.out w' hb).mono ?_)
      rintro e w'' ⟨rfl, hb2⟩
      exact ⟨_, rfl, .of hb2, hb.trans (hb2.mono hb.size), rfl, fun h => nomatch h⟩
    · -- 3: slot 20 := Op.move (Operand.tmp 0)
      obtain ⟨-⟩ : True := hd
      have e0 : ρ (.tmp 0) = .slice av n cv := ho 0 (by decide)
      exact Gives.pure (.slice av n cv) (by go_simp) ⟨soft_refl _, hb, rfl, fun h => nomatch h⟩
    · -- 4: slot 21 := Op.convert 22 9 (Operand.tmp 20)
      obtain ⟨h20, -⟩ : (f 20 = .slice av n cv) ∧ True := hd
      have e20 : ρ (.tmp 20) = .slice av n cv := (hi 20 (by decide)).trans h20
      have s0 := bytes_str (HA.out w' hb)
      unfold Sv at s0
      exact Gives.pure (.string (Bs a)) (by go_simp) ⟨soft_refl _, hb, rfl, fun h => nomatch h⟩
    · -- 5: slot 22 := Op.move (Operand.tmp 1)
      obtain ⟨-⟩ : True := hd
      have e1 : ρ (.tmp 1) = .slice av1 n1 cv1 := ho 1 (by decide)
      exact Gives.pure (.slice av1 n1 cv1) (by go_simp) ⟨soft_refl _, hb, rfl, fun h => nomatch h⟩
    · -- 6: slot 23 := Op.convert 22 9 (Operand.tmp 22)
      obtain ⟨h22, -⟩ : (f 22 = .slice av1 n1 cv1) ∧ True := hd
      have e22 : ρ (.tmp 22) = .slice av1 n1 cv1 := (hi 22 (by decide)).trans h22
      have s0 := bytes_str (HB.out w' hb)
      unfold Sv at s0
      exact Gives.pure (.string (Bs b)) (by go_simp) ⟨soft_refl _, hb, rfl, fun h => nomatch h⟩
    · -- 7: slot 24 := Op.binOp BinOp.eql 9 (Operand.tmp 21) (Operand.tmp 23) 9
      obtain ⟨h21, h23, -⟩ : (f 21 = .string (Bs a)) ∧ (f 23 = .string (Bs b)) ∧ True := hd
      have e21 : ρ (.tmp 21) = .string (Bs a) := (hi 21 (by decide)).trans h21
      have e23 : ρ (.tmp 23) = .string (Bs b) := (hi 23 (by decide)).trans h23
      have q1 := str_tl a b
      exact Gives.pure (.bool (a == b)) (by go_simp) ⟨soft_refl _, hb, rfl, fun h => nomatch h⟩
    · -- 8: slot 25 := Op.binOp BinOp.eql 4 (Operand.tmp 19) (Operand.tmp 24) 4
      obtain ⟨h19, h24, -⟩ : (f 19 = .bool (a == b)) ∧ (f 24 = .bool (a == b)) ∧ True := hd
      have e19 : ρ (.tmp 19) = .bool (a == b) := (hi 19 (by decide)).trans h19
      have e24 : ρ (.tmp 24) = .bool (a == b) := (hi 24 (by decide)).trans h24
      exact Gives.pure (.bool true) (by go_simp) ⟨soft_refl _, hb, rfl, fun h => nomatch h⟩
    · -- 9: slot 26 := Op.move (Operand.tmp 25)
      obtain ⟨h25, -, -⟩ : (f 25 = .bool true) ∧ (f 19 = .bool (a == b)) ∧ True := hd
      have e25 : ρ (.tmp 25) = .bool true := (hi 25 (by decide)).trans h25
      exact Gives.pure (.bool true) (by go_simp) ⟨soft_refl _, hb, rfl, fun h => nomatch h⟩
    · -- 10: slot 27 := Op.move (Operand.tmp 0)
      obtain ⟨-, -⟩ : (f 26 = .bool true) ∧ True := hd
      have e0 : ρ (.tmp 0) = .slice av n cv := ho 0 (by decide)
      exact Gives.pure (.slice av n cv) (by go_simp) ⟨soft_refl _, hb, rfl, fun h => nomatch h⟩
    · -- 11: slot 28 := Op.move (Operand.tmp 0)
      obtain ⟨-, -⟩ : (f 26 = .bool true) ∧ True := hd
      have e0 : ρ (.tmp 0) = .slice av n cv := ho 0 (by decide)
      exact Gives.pure (.slice av n cv) (by go_simp) ⟨soft_refl _, hb, rfl, fun h => nomatch h⟩
    · -- 12: slot 29 := Op.call { callee := Callee.value (Operand.func 30), args := #[Operand.tmp 27, Operand.tmp 28], argTy
      obtain ⟨h27, h28, -, -, -⟩ : (f 27 = .slice av n cv) ∧ (f 28 = .slice av n cv) ∧ (f 26 = .bool true) ∧ (f 26 = .bool true) ∧ True := hd
      have e27 : ρ (.tmp 27) = .slice av n cv := (hi 27 (by decide)).trans h27
      have e28 : ρ (.tmp 28) = .slice av n cv := (hi 28 (by decide)).trans h28
      have e0 := hfn
      refine Gives.call _ _ (by go_simp) ((HEA.out w' hb).mono ?_)
      rintro e w'' ⟨rfl, hb2⟩
      exact ⟨_, rfl, .of hb2, hb.trans (hb2.mono hb.size), rfl, fun h => nomatch h⟩
    · -- 13: slot 30 := Op.pick (Operand.tmp 26) (Operand.tmp 29) (Operand.const (Value.bool false))
      obtain ⟨h26, h29, -⟩ : (f 26 = .bool true) ∧ (f 29 = .bool true) ∧ True := hd
      have e26 : ρ (.tmp 26) = .bool true := (hi 26 (by decide)).trans h26
      have e29 : ρ (.tmp 29) = .bool true := (hi 29 (by decide)).trans h29
      exact Gives.pure (.bool true) (by go_simp) ⟨soft_refl _, hb, rfl, fun h => nomatch h⟩
    · -- 14: slot 31 := Op.move (Operand.tmp 30)
      obtain ⟨h30, -, -⟩ : (f 30 = .bool true) ∧ (f 29 = .bool true) ∧ True := hd
      have e30 : ρ (.tmp 30) = .bool true := (hi 30 (by decide)).trans h30
      exact Gives.pure (.bool true) (by go_simp) ⟨soft_refl _, hb, rfl, fun h => nomatch h⟩
    · -- 15: slot 32 := Op.load 25 (Operand.tmp 5)
      obtain ⟨-, -⟩ : (f 31 = .bool true) ∧ True := hd
      have e5 : ρ (.tmp 5) = .pointer (some ⟨w.heap.size, 0, none⟩) := ho 5 (by decide)
      have r0 := HR.out w' hb
      have hl := HL.out
      exact Gives.pure (.agg (cs U8 l)) (by go_simp) ⟨soft_refl _, hb, rfl, fun h => nomatch h⟩
    · -- 16: slot 33 := Op.call { callee := Callee.value (Operand.func 31), args := #[Operand.tmp 32], argTypes := #[25] }
      obtain ⟨h32, -, -, -⟩ : (f 32 = .agg (cs U8 l)) ∧ (f 31 = .bool true) ∧ (f 31 = .bool true) ∧ True := hd
      have e32 : ρ (.tmp 32) = .agg (cs U8 l) := (hi 32 (by decide)).trans h32
      have e0 := hfn
      refine Gives.call _ _ (by go_simp) ((HSH.out w' hb).mono ?_)
      rintro e w'' ⟨rfl, hb2⟩
      exact ⟨_, rfl, .of hb2, hb.trans (hb2.mono hb.size), rfl, fun h => nomatch h⟩
    · -- 17: slot 34 := Op.load 25 (Operand.tmp 5)
      obtain ⟨-, -⟩ : (f 31 = .bool true) ∧ True := hd
      have e5 : ρ (.tmp 5) = .pointer (some ⟨w.heap.size, 0, none⟩) := ho 5 (by decide)
      have r0 := HR.out w' hb
      have hl := HL.out
      exact Gives.pure (.agg (cs U8 l)) (by go_simp) ⟨soft_refl _, hb, rfl, fun h => nomatch h⟩
    · -- 18: slot 35 := Op.call { callee := Callee.value (Operand.func 32), args := #[Operand.tmp 34], argTypes := #[25] }
      obtain ⟨h34, -, -, -⟩ : (f 34 = .agg (cs U8 l)) ∧ (f 33 = .agg (cs U8 (l.take 16))) ∧ (f 31 = .bool true) ∧ True := hd
      have e34 : ρ (.tmp 34) = .agg (cs U8 l) := (hi 34 (by decide)).trans h34
      have e0 := hfn
      refine Gives.call _ _ (by go_simp) ((HRS.out w' hb).mono ?_)
      rintro e w'' ⟨rfl, hb2⟩
      exact ⟨_, rfl, .of hb2, hb.trans (hb2.mono hb.size), rfl, fun h => nomatch h⟩
    · -- 19: slot 36 := Op.binOp BinOp.eql 52 (Operand.tmp 33) (Operand.tmp 35) 52
      obtain ⟨h33, h35, -, -⟩ : (f 33 = .agg (cs U8 (l.take 16))) ∧ (f 35 = .agg (cs U8 (l.take 16))) ∧ (f 31 = .bool true) ∧ True := hd
      have e33 : ρ (.tmp 33) = .agg (cs U8 (l.take 16)) := (hi 33 (by decide)).trans h33
      have e35 : ρ (.tmp 35) = .agg (cs U8 (l.take 16)) := (hi 35 (by decide)).trans h35
      have ht := HTL.out
      exact Gives.pure (.bool true) (by go_simp) ⟨soft_refl _, hb, rfl, fun h => nomatch h⟩
    · -- 20: slot 37 := Op.pick (Operand.tmp 31) (Operand.tmp 36) (Operand.const (Value.bool false))
      obtain ⟨h31, h36, -⟩ : (f 31 = .bool true) ∧ (f 36 = .bool true) ∧ True := hd
      have e31 : ρ (.tmp 31) = .bool true := (hi 31 (by decide)).trans h31
      have e36 : ρ (.tmp 36) = .bool true := (hi 36 (by decide)).trans h36
      exact Gives.pure (.bool true) (by go_simp) ⟨soft_refl _, hb, rfl, fun h => nomatch h⟩
  · intro f wq hb hT hD
    have h17 : f 17 = .slice av n cv := hT.1
    replace hT := hT.2
    have h18 : f 18 = .slice av1 n1 cv1 := hT.1
    replace hT := hT.2
    have h19 : f 19 = .bool (a == b) := hT.1
    replace hT := hT.2
    have h20 : f 20 = .slice av n cv := hT.1
    replace hT := hT.2
    have h21 : f 21 = .string (Bs a) := hT.1
    replace hT := hT.2
    have h22 : f 22 = .slice av1 n1 cv1 := hT.1
    replace hT := hT.2
    have h23 : f 23 = .string (Bs b) := hT.1
    replace hT := hT.2
    have h24 : f 24 = .bool (a == b) := hT.1
    replace hT := hT.2
    have h25 : f 25 = .bool true := hT.1
    replace hT := hT.2
    have h26 : f 26 = .bool true := hT.1
    replace hT := hT.2
    have h27 : f 27 = .slice av n cv := hT.1
    replace hT := hT.2
    have h28 : f 28 = .slice av n cv := hT.1
    replace hT := hT.2
    have h29 : f 29 = .bool true := hT.1
    replace hT := hT.2
    have h30 : f 30 = .bool true := hT.1
    replace hT := hT.2
    have h31 : f 31 = .bool true := hT.1
    replace hT := hT.2
    have h32 : f 32 = .agg (cs U8 l) := hT.1
    replace hT := hT.2
    have h33 : f 33 = .agg (cs U8 (l.take 16)) := hT.1
    replace hT := hT.2
    have h34 : f 34 = .agg (cs U8 l) := hT.1
    replace hT := hT.2
    have h35 : f 35 = .agg (cs U8 (l.take 16)) := hT.1
    replace hT := hT.2
    have h36 : f 36 = .bool true := hT.1
    replace hT := hT.2
    have h37 : f 37 = .bool true := hT.1
    replace hT := hT.2
    refine wpT_step rfl rfl (fun K hK => ?_)
    simp only [updL]
    go_simp
    refine hK _ _ ?_
    dsimp only [wpT]
    go_wp2_with fail
    go_ret
    exact ⟨rfl, ha.trans ((hb1.trans (hb.mono hz1)).mono (by omega))⟩
end Go.Proofs.YtocledgjejlolaaDoor
