/-
  Walks of reference 01: digits, carried; own work.
-/
import Derived.Test.YtgneclfnfnpmkaaRf2
set_option linter.unusedSimpArgs false
set_option linter.unusedVariables false
namespace Go.Proofs.Ytgneclfnfnpmkaa
open Go.RowKit Fp
theorem inf_int : (Try.prog.info? 3).map (·.size) = some 1 := by kernel_rfl
section
variable (ρ : Operand → Value) (dst : Option Tmp) (ty : TypeId) (pos : String) (after : Array Edge) (guard : Option (Nat × Bool)) (w : World)
@[go_sem ↓] theorem rs_int (x y : Operand) : (execOp ρ { dst, op := .store 3 x y, type := ty, pos, after, guard }).run Try.prog w = exStore Try.prog 3 (ρ x) (ρ y) w := x_store ..
@[go_sem] theorem xs_int (b o : Nat) (v : Value) (hv : ones1 v = true) (ho : o < (w.rowOf b).size) (hf : w.free b = true) : exStore Try.prog 3 (.pointer (some ⟨b, o, none⟩)) v w = .ok .skip (w.setRow b ((w.rowOf b).setIfInBounds o v)) :=
  x_storec inf_int w b o v hv ho hf
end

theorem cvi_8 {P : Program} (w : World) (src dst : TypeId) (x : Nat) (hs : (P.underlying src).isSome = true) (hd : P.underlying dst = some (.int .u8)) : (convert src dst (I64 x)).run P w = .ok (U8 (BitVec.ofNat 8 x)) w := by
  obtain ⟨d, hd'⟩ := Option.isSome_iff_exists.mp hs
  have e : Value.int .u8 (IntKind.u8.wrap (x : Int)) = U8 (BitVec.ofNat 8 x) := by
    rw [u8_wrap]; congr 1 <;> (apply BitVec.eq_of_toNat_eq; rw [BitVec.toNat_ofInt, BitVec.toNat_ofNat]; omega)
  simp [convert, run_underlying hd', run_underlying hd, Conv.intToInt, e]
theorem fL_zero (d : List Nat) : fL d 0 = List.replicate 32 0 := rfl
theorem fL_succ (d : List Nat) (i : Nat) : fL d (i + 1) = if i < 32 then (fL d i).set i ((fL d i).getD i 0 + d.getD i 0) else (fL d i).set (i - 32) ((fL d i).getD (i - 32) 0 + 38 * d.getD i 0) := rfl
theorem rdn_succ (l : List Nat) (n : Nat) : rdn l (n + 1) = spr (fL (rdn l n) (rdn l n).length) := rfl
theorem take_set_zs (l : List (BitVec 8)) (hl : l.length = 32) (j : Nat) (hj : j < 32) : (l.take j ++ (zs (32 - j) : List (BitVec 8))).set j (l.getD j 0) = l.take (j + 1) ++ zs (32 - (j + 1)) := by
  have h1 : (l.take j).length = j := by simp; omega
  rw [List.set_append_right _ _ (by omega), h1, Nat.sub_self]
  obtain ⟨m, hm⟩ : ∃ m, 32 - j = m + 1 := ⟨31 - j, by omega⟩
  have hj' : j < l.length := by omega
  rw [List.take_succ_eq_append_getElem hj', List.append_assoc]
  congr 1
  rw [hm, show 32 - (j + 1) = m by omega]
  simp only [zs, List.replicate_succ, List.set_cons_zero, List.singleton_append]
  congr 1
  rw [List.getD_eq_getElem?_getD, List.getElem?_eq_getElem hj']; rfl
def z32 : List Nat := List.replicate 32 0
theorem rd_mk (w : World) : (Instr.makeSlice 46 (.int .i64 32) (.int .i64 32)).run Try.prog w = .ok (.slice (some ⟨w.heap.size, 0, none⟩) 32 32) (w.alloc (.cells (cs I64 z32 ++ #[]) 3)) := by kernel_rfl
attribute [local irreducible] fL rdn
set_option maxRecDepth 100000 in
set_option maxHeartbeats 4000000 in
theorem rcarried_any (w : World) (v : Value) (l : List Nat) (hv : IS w v l) (hb : ∀ x ∈ l, x ≤ 2147483648) (hlen : l.length ≤ 64) (h32 : 32 ≤ l.length) :
    Calls Try.prog 46 #[v] w fun e w' => e = .returned (.agg (cs U8 (carL l))) ∧ Below w.heap.size w w' := by
  have M0 := Mm.start no w
  have M1 := M0.alloc (cs U8 (zs 32)) 23 (by decide)
  have HV := hid hv; have HB := hid (rdn_le hb hlen); have HSP := hid (carL_spec l hb hlen h32)
  have HLN := hid hlen; have H32 := hid h32
  obtain ⟨w1, hw1⟩ : ∃ w1, w1 = w.alloc (.cells (cs U8 (zs 32)) 23) := ⟨_, rfl⟩
  have hb1 : Below w.heap.size w w1 := by rw [hw1]; exact (Below.refl _ _).alloc (Nat.le_refl _) _
  rw [← hw1] at M1
  have hv1 : IS w1 v l := hv.below hb1
  have hz : Below w1.heap.size w1 (w1.alloc (.cells #[] 3)) := (Below.refl _ _).alloc (Nat.le_refl _) _
  have he : OI (w1.alloc (.cells #[] 3)) w1.heap.size (.slice (some ⟨w1.heap.size, 0, none⟩) 0 0) [] := OI.lit w1 [] #[] rfl 0 rfl (by decide) _ (Nat.le_refl _)
  have HV1 := hid (hv1.below hz); have HE := hid he; have HZ := hid hz; have HW1 := hid hw1
  clear hv hb hlen h32 hw1 hb1 hv1 hz he
  go_enter Try.func46, Try.ntmps46
  go_upto_region 1 with fail
  rw [← HW1.out]
  go_wp2_with (refine wpList_api rfl (.tmp 9) (.tmp 10) rfl w1.heap.size _ _ [] l rfl HE.out rfl HV1.out (by have := HLN.out; simp; omega) (by simp) ?_; rintro v3 w4 hown3 hg3 -; have HB4 := oi_below HZ.out HE.out (by simp) hg3)
  rw [List.nil_append] at hown3
  have hne : l ≠ [] := by intro e; have := H32.out; rw [e] at this; simp at this
  obtain ⟨g0, cap0, R00, rfl, hcap0, hmx0, -, M4⟩ := M1.take HB4 hown3 hne
  have M4' : Mm no w [(g0, cs I64 (rdn l 0) ++ R00), (w.heap.size, cs U8 (zs 32))] w4 := by rw [show rdn l 0 = l by unfold rdn; rfl]; exact M4
  have hl0 : l.length = (rdn l 0).length := by rw [show rdn l 0 = l by unfold rdn; rfl]
  clear M1 M4 hown3 hg3 hne HV1 HE HZ HW1 HB4 M0
  rw [hl0] at hcap0 ⊢
  have HCP := hid hcap0; have HMX := hid hmx0
  obtain ⟨n0, hn0⟩ : ∃ n, n = (rdn l 0).length := ⟨_, rfl⟩
  rw [← hn0]
  have HN0 := hid hn0
  clear hl0 hcap0 hmx0 hn0
  go_loopw [3, 4] (fun u t wr => ∃ (r g cap : Nat) (R : Array Value), r ≤ 4 ∧ t = .int .i64 r ∧ u = .slice (some ⟨g, 0, none⟩) (rdn l r).length cap ∧ (rdn l r).length ≤ cap ∧ cap ≤ maxLen ∧ Mm no w [(g, cs I64 (rdn l r) ++ R), (w.heap.size, cs U8 (zs 32))] wr) (fun _ t _ => 4 - (intOf t).toNat)
  case atStart => exact ⟨0, g0, cap0, R00, by omega, rfl, by rw [HN0.out], HCP.out, HMX.out, M4'⟩
  case round =>
    clear M4' HCP HMX HN0
    obtain ⟨r, g, cap, R, hr, rfl, rfl, hcap, hmx, M⟩ := hrel
    obtain ⟨hln, hle⟩ := HB.out r
    obtain ⟨d, hd⟩ : ∃ d, d = rdn l r := ⟨_, rfl⟩
    rw [← hd] at hcap M hln hle ⊢
    obtain ⟨n, hn⟩ : ∃ n, n = d.length := ⟨_, rfl⟩
    rw [← hn] at hcap hln ⊢
    have HN := hid hn; have HD := hid hd; have HLE := hid hle; have HCAP := hid hcap; have HMX := hid hmx
    have hcapi : (n : Int) ≤ cap := by omega
    clear hn hd hle hmx
    by_cases hr4 : r < 4
    · have hC : ∀ x ∈ d, x ≤ 70368744177664 := fun x hx => by
        have h1 := HLE.out x hx
        have h2 : 32 ^ r ≤ 32 ^ 3 := Nat.pow_le_pow_right (by decide) (by omega)
        have h3 : 32 ^ r * 2147483648 ≤ 32 ^ 3 * 2147483648 := Nat.mul_le_mul_right _ h2
        have h4 : 32 ^ 3 * 2147483648 = 70368744177664 := by decide
        omega
      have HC := hid hC
      clear hC
      go_upto_region 5 with fail
      have hmk := rd_mk
      obtain ⟨R0, hR0⟩ : ∃ R0, R0 = (#[] : Array Value) := ⟨_, rfl⟩
      rw [← hR0] at hmk
      clear hR0
      have M2 := M.alloc (cs I64 z32 ++ R0) 3 (by decide)
      obtain ⟨gl, hgl⟩ : ∃ b, b = wr.heap.size := ⟨_, rfl⟩
      go_upto_region 6 with fail
      obtain ⟨w2, hw2⟩ : ∃ w2, w2 = wr.alloc (.cells (cs I64 z32 ++ R0) 3) := ⟨_, rfl⟩
      rw [← hgl, ← hw2] at M2
      rw [← hgl, ← hw2]
      have M3 : Mm no w [(gl, cs I64 (fL d 0) ++ R0), (g, cs I64 d ++ R), (w.heap.size, cs U8 (zs 32))] w2 := by rw [fL_zero]; exact M2
      clear hgl hw2 M2 M hmk
      go_wp2_with fail
      go_loopw [6] (fun t wr => ∃ i : Nat, i ≤ n ∧ t = .int .i64 i ∧ Mm no w [(gl, cs I64 (fL d i) ++ R0), (g, cs I64 d ++ R), (w.heap.size, cs U8 (zs 32))] wr) (fun t _ => n - (intOf t).toNat)
      case atStart => exact ⟨0, by omega, rfl, M3⟩
      case round =>
        clear M3
        obtain ⟨i, hi, rfl, M⟩ := hrel
        have hfb := fL_le HC.out i
        have hfB : ∀ j, gI (fL d i) j ≤ 171138785836900000 := fun j => by
          have h1 := getD_le hfb j
          have h2 : i * (38 * 70368744177664) ≤ 64 * (38 * 70368744177664) := Nat.mul_le_mul_right _ (by omega)
          have h3 : 64 * (38 * 70368744177664) ≤ 171138785836900000 := by decide
          exact Nat.le_trans h1 (Nat.le_trans h2 h3)
        have hdB : gI d i ≤ 70368744177664 := getD_le HC.out i
        have HFB := hid hfB
        clear hfb hfB
        by_cases hlt : i < n
        · by_cases hi32 : i < 32
          · have hf1 := HFB.out i
            go_upto_region 10 with fail
            refine wp_region_seq 12 [25, 26, 27, 28, 29, 30, 31, 32, 33, 34, 35, 36] [] [] [] (.op 12 .done) (Mm no w _) (by kernel_rfl) (by kernel_rfl) (by kernel_rfl) (fun d _ _ _ _ h => by cases d <;> exact h) (by rfl) M.size (fun _ _ h k => h.sf k) M ?_
            simp only [List.take_succ_cons, List.take_zero]
            refine SeqA.pure (.slice (some ⟨gl, 0, none⟩) 32 32) (fun w' => by go_simp) rfl rfl ?_
            refine SeqA.pure (.int .i64 i) (fun w' => by go_simp) rfl rfl ?_
            refine SeqA.pure (.slice (some ⟨gl, 0, none⟩) 32 32) (fun w' => by go_simp) rfl rfl ?_
            refine SeqA.pure (.int .i64 i) (fun w' => by go_simp) rfl rfl ?_
            refine SeqA.pure (.pointer (some ⟨gl, i, none⟩)) (fun w' => by go_simp) rfl rfl ?_
            simp only [Act.put, List.setIfInBounds_toArray, List.set_cons_succ, List.set_cons_zero]
            refine SeqA.read (I64 (gI (fL d i) i)) (fun w' M => by have c0 := cell_gI (M.row (b := gl) (c := cs I64 (fL d i) ++ R0) (by simp)) (i := i) (by rw [fL_len]; omega); go_simp) rfl rfl ?_
            refine SeqA.pure (.slice (some ⟨g, 0, none⟩) n cap) (fun w' => by go_simp) rfl rfl ?_
            refine SeqA.pure (.int .i64 i) (fun w' => by go_simp) rfl rfl ?_
            refine SeqA.pure (.pointer (some ⟨g, i, none⟩)) (fun w' => by go_simp) rfl rfl ?_
            refine SeqA.read (I64 (gI d i)) (fun w' M => by have c0 := cell_gI (M.row (b := g) (c := cs I64 d ++ R) (by simp)) (i := i) (by rw [← HN.out]; omega); go_simp) rfl rfl ?_
            refine SeqA.pure (I64 (gI (fL d i) i + gI d i)) (fun w' => by have q := i64w ((gI (fL d i) i : Int) + (gI d i : Int)) (by omega) (by omega); go_simp) rfl rfl ?_
            simp only [Act.put, List.setIfInBounds_toArray, List.set_cons_succ, List.set_cons_zero]
            refine SeqA.pure (.pointer (some ⟨gl, i, none⟩)) (fun w' => by go_simp) rfl rfl ?_
            refine SeqA.nil (fun w1 M2 hz => ?_)
            show wpT _ _ _ _ _ _
            simp only [Act.put, List.setIfInBounds_toArray, List.set_cons_succ, List.set_cons_zero]
            refine wpT_stc M2 0 (I64 (gI (fL d i) i + gI d i)) (cs I64 ((fL d i).set i (gI (fL d i) i + gI d i)) ++ R0) inf_int rfl rfl rfl rfl (by go_simp) (by go_simp) (by have := (by rw [fL_len]; omega : i < (fL d i).length); first | (simp; done) | (simpa using this) | (simp; omega)) (by simp [go_sem]) (set_gI (by rw [fL_len]; omega) _) rfl (fun w3 M4 => ?_)
            dsimp only [List.set] at M4
            dsimp only [wpT]
            go_wp2_with fail
            go_roundw
            case rel => exact ⟨i + 1, by omega, by go_num, by rw [fL_succ, if_pos hi32]; exact M4⟩
            case measure => simp [intOf]; omega
          · obtain ⟨h, hh⟩ : ∃ h, h = i - 32 := ⟨_, rfl⟩
            have hhI : ((i : Int) - 32) = (h : Int) := by omega
            have HH := hid hhI; have HHN := hid hh
            have hh32 : h < 32 := by omega
            have hf1 := HFB.out h
            have q9 : (h : Int) < 32 := by omega
            clear hhI hh
            go_upto_region 11 with fail
            refine wp_region_seq 15 [37, 38, 39, 40, 41, 42, 43, 44, 45, 46, 47, 48, 49, 50, 51] [] [] [] (.op 15 .done) (Mm no w _) (by kernel_rfl) (by kernel_rfl) (by kernel_rfl) (fun d _ _ _ _ h => by cases d <;> exact h) (by rfl) M.size (fun _ _ h k => h.sf k) M ?_
            simp only [List.take_succ_cons, List.take_zero]
            refine SeqA.pure (.slice (some ⟨gl, 0, none⟩) 32 32) (fun w' => by go_simp) rfl rfl ?_
            refine SeqA.pure (.int .i64 i) (fun w' => by go_simp) rfl rfl ?_
            refine SeqA.pure (.int .i64 h) (fun w' => by have q := HH.out; have q2 := i64w (h : Int) (by omega) (by omega); go_simp) rfl rfl ?_
            refine SeqA.pure (.slice (some ⟨gl, 0, none⟩) 32 32) (fun w' => by go_simp) rfl rfl ?_
            refine SeqA.pure (.int .i64 i) (fun w' => by go_simp) rfl rfl ?_
            simp only [Act.put, List.setIfInBounds_toArray, List.set_cons_succ, List.set_cons_zero]
            refine SeqA.pure (.int .i64 h) (fun w' => by have q := HH.out; have q2 := i64w (h : Int) (by omega) (by omega); go_simp) rfl rfl ?_
            refine SeqA.pure (.pointer (some ⟨gl, h, none⟩)) (fun w' => by go_simp) rfl rfl ?_
            refine SeqA.read (I64 (gI (fL d i) h)) (fun w' M => by have c0 := cell_gI (M.row (b := gl) (c := cs I64 (fL d i) ++ R0) (by simp)) (i := h) (by rw [fL_len]; omega); go_simp) rfl rfl ?_
            refine SeqA.pure (.slice (some ⟨g, 0, none⟩) n cap) (fun w' => by go_simp) rfl rfl ?_
            refine SeqA.pure (.int .i64 i) (fun w' => by go_simp) rfl rfl ?_
            refine SeqA.pure (.pointer (some ⟨g, i, none⟩)) (fun w' => by go_simp) rfl rfl ?_
            simp only [Act.put, List.setIfInBounds_toArray, List.set_cons_succ, List.set_cons_zero]
            refine SeqA.read (I64 (gI d i)) (fun w' M => by have c0 := cell_gI (M.row (b := g) (c := cs I64 d ++ R) (by simp)) (i := i) (by rw [← HN.out]; omega); go_simp) rfl rfl ?_
            refine SeqA.pure (I64 (38 * gI d i)) (fun w' => by have q := i64w (38 * (gI d i : Int)) (by omega) (by omega); go_simp) rfl rfl ?_
            refine SeqA.pure (I64 (gI (fL d i) h + 38 * gI d i)) (fun w' => by have q := i64w ((gI (fL d i) h : Int) + 38 * (gI d i : Int)) (by omega) (by omega); go_simp) rfl rfl ?_
            refine SeqA.pure (.pointer (some ⟨gl, h, none⟩)) (fun w' => by go_simp) rfl rfl ?_
            refine SeqA.nil (fun w1 M2 hz => ?_)
            show wpT _ _ _ _ _ _
            simp only [Act.put, List.setIfInBounds_toArray, List.set_cons_succ, List.set_cons_zero]
            refine wpT_stc M2 0 (I64 (gI (fL d i) h + 38 * gI d i)) (cs I64 ((fL d i).set h (gI (fL d i) h + 38 * gI d i)) ++ R0) inf_int rfl rfl rfl rfl (by go_simp) (by go_simp) (by have := (by rw [fL_len]; omega : h < (fL d i).length); first | (simp; done) | (simpa using this) | (simp; omega)) (by simp [go_sem]) (set_gI (by rw [fL_len]; omega) _) rfl (fun w3 M4 => ?_)
            dsimp only [List.set] at M4
            dsimp only [wpT]
            go_wp2_with fail
            go_roundw
            case rel => exact ⟨i + 1, by omega, by go_num, by rw [fL_succ, if_neg hi32, ← HHN.out]; exact M4⟩
            case measure => simp [intOf]; omega
        · have : i = n := by omega
          subst this
          have hl : (fL d i).length = 32 := fL_len d i
          have hI : IS wr (.slice (some ⟨gl, 0, none⟩) 32 32) (fL d i) := M.is (R := R0) (by simp) hl.symm (by decide) (by decide)
          have hfb : ∀ x ∈ fL d i, x ≤ 288230376151711744 := fun x hx => by
            have h1 := fL_le HC.out i x hx
            have h2 : i * (38 * 70368744177664) ≤ 64 * (38 * 70368744177664) := Nat.mul_le_mul_right _ (by omega)
            omega
          have HI := hid hI; have HFB2 := hid hfb; have HL := hid hl
          clear hI hfb hl hi hlt hdB
          go_wp2_with fail
          with_reducible refine ((rspread_any wr _ (fL d i) HI.out HFB2.out (by rw [HL.out]; decide)).mono ?_)
          rintro e w5 ⟨u, rfl, hou, hb5⟩
          have hsl : (spr (fL d i)).length = 33 := by rw [spr_len, HL.out]
          obtain ⟨g6, cap6, R6, rfl, hc6, hx6, -, M6⟩ := M.take hb5 hou (by intro e; rw [e] at hsl; simp at hsl)
          have hrd : spr (fL d i) = rdn l (r + 1) := by rw [rdn_succ, ← HD.out, ← HN.out]
          rw [hrd] at hc6 M6 hsl ⊢
          have M7 := M6.sub (H' := [(g6, cs I64 (rdn l (r + 1)) ++ R6), (w.heap.size, cs U8 (zs 32))]) (.cons_cons _ (.cons _ (.cons _ (List.Sublist.refl _))))
          have HC6 := hid hc6; have HX6 := hid hx6
          rw [hsl]
          have HSL := hid hsl
          clear hc6 hx6 hou hb5 M6 M hsl hrd
          dsimp only
          go_wp2_with fail
          go_roundw
          case rel => exact ⟨r + 1, g6, cap6, R6, by omega, by go_num, by rw [HSL.out], HC6.out, HX6.out, M7⟩
          case measure => simp [intOf]; omega
    · have : r = 4 := by omega
      subst this
      obtain ⟨hcl, -⟩ := HSP.out
      have hn33 : 32 ≤ n := by
        have e : rdn l 4 = spr (fL (rdn l 3) (rdn l 3).length) := rdn_succ l 3
        rw [HN.out, HD.out, e, spr_len, fL_len]; omega
      have hget : ∀ i, i < 32 → (carL l).getD i 0 = BitVec.ofNat 8 (gI d i) := fun i hi => by
        unfold carL
        rw [← HD.out]
        have h1 : i < d.length := by rw [← HN.out]; omega
        simp [List.getD_eq_getElem?_getD, List.getElem?_take, hi, h1, gI]
      have HG := hid hget; have HCL := hid hcl
      clear hget hcl
      rw [show ((4 : Nat) : Int) = 4 from rfl]
      go_upto_region 14 with fail
      have M2 := M.alloc (cs U8 (zs 32)) 23 (by decide)
      obtain ⟨g7, hg7⟩ : ∃ b, b = wr.heap.size := ⟨_, rfl⟩
      obtain ⟨w2, hw2⟩ : ∃ w2, w2 = wr.alloc (.cells (cs U8 (zs 32)) 23) := ⟨_, rfl⟩
      rw [← hg7, ← hw2] at M2
      rw [← hg7, ← hw2]
      clear hg7 hw2 M
      go_wp2_with fail
      go_loopw [8] (fun t wr => ∃ i : Nat, i ≤ 32 ∧ t = .int .i64 i ∧ Mm no w [(g7, cs U8 ((carL l).take i ++ zs (32 - i))), (g, cs I64 d ++ R), (w.heap.size, cs U8 (zs 32))] wr) (fun t _ => 32 - (intOf t).toNat)
      case atStart => exact ⟨0, by omega, rfl, M2⟩
      case round =>
        clear M2
        obtain ⟨i, hi, rfl, M⟩ := hrel
        by_cases hlt : i < 32
        · have q1 : (i : Int) < 32 := by omega
          have q2 : (i : Int) < n := by omega
          have hL := hid (show ((carL l).take i ++ (zs (32 - i) : List (BitVec 8))).length = 32 by simp [HCL.out]; omega)
          go_upto_region 17 with fail
          refine wp_region_seqF 7 [58, 59, 60, 61, 62, 63, 64] [] [] [] (.op 7 .done) (Mm no w _) (by kernel_rfl) (by kernel_rfl) (fun d _ _ _ _ h => by cases d <;> exact h) (by rfl) M.size (fun _ _ h k => h.sf k) M (by kernel_rfl) ?_
          simp only [List.take_succ_cons, List.take_zero]
          refine SeqA.pure (.int .i64 i) (fun w' => by go_simp) rfl rfl ?_
          refine SeqA.pure (.slice (some ⟨g, 0, none⟩) n cap) (fun w' => by go_simp) rfl rfl ?_
          refine SeqA.pure (.int .i64 i) (fun w' => by go_simp) rfl rfl ?_
          refine SeqA.pure (.pointer (some ⟨g, i, none⟩)) (fun w' => by go_simp) rfl rfl ?_
          refine SeqA.read (I64 (gI d i)) (fun w' M => by have c0 := cell_gI (M.row (b := g) (c := cs I64 d ++ R) (by simp)) (i := i) (by rw [← HN.out]; omega); go_simp) rfl rfl ?_
          simp only [Act.put, List.setIfInBounds_toArray, List.set_cons_succ, List.set_cons_zero]
          refine SeqA.pure (U8 (BitVec.ofNat 8 (gI d i))) (fun w' => by have q := cvi_8 (P := Try.prog) w' 3 5 (gI d i) (by kernel_rfl) Try.underlying5; go_simp) rfl rfl ?_
          refine SeqA.pure (.pointer (some ⟨g7, i, none⟩)) (fun w' => by go_simp) rfl rfl ?_
          refine SeqA.nil (fun w1 M2 hz => ?_)
          show wpT _ _ _ _ _ _
          simp only [Act.put, List.setIfInBounds_toArray, List.set_cons_succ, List.set_cons_zero]
          refine wpT_stc M2 0 (U8 (BitVec.ofNat 8 (gI d i))) (cs U8 (((carL l).take i ++ zs (32 - i)).set i (BitVec.ofNat 8 (gI d i)))) inf_u8 rfl rfl rfl rfl (by go_simp) (by go_simp) (by have := (by rw [hL]; exact hlt : i < ((carL l).take i ++ zs (32 - i)).length); first | (simp; done) | (simpa using this) | (simp; omega)) (by simp [go_sem]) (cs_set _ _) rfl (fun w3 M4 => ?_)
          dsimp only [List.set] at M4
          dsimp only [wpT]
          go_wp2_with fail
          go_roundw
          case rel => exact ⟨i + 1, by omega, by go_num, by
              have e := take_set_zs (carL l) HCL.out i hlt
              rw [HG.out i hlt] at e
              rw [← e]; exact M4⟩
          case measure => simp [intOf]; omega
        · have : i = 32 := by omega
          subst this
          have e : (carL l).take 32 ++ (zs (32 - 32) : List (BitVec 8)) = carL l := by rw [List.take_of_length_le (by rw [HCL.out]; exact Nat.le_refl _)]; simp [zs]
          rw [e] at M
          clear e
          go_upto_region 18 with fail
          have r2 := M.row (b := g7) (c := cs U8 (carL l)) (by simp)
          have f3 := M.free (b := w.heap.size) (c := cs U8 (zs 32)) (by simp)
          have r3 := M.row (b := w.heap.size) (c := cs U8 (zs 32)) (by simp)
          have hkl := HCL.out
          go_wp2_with fail
          have M3 := M.set 2 (cs U8 (carL l)) rfl
          dsimp only [List.set] at M3
          have r4 := M3.row (b := w.heap.size) (c := cs U8 (carL l)) (by simp)
          refine bodyPost_ret (res_row (b := w.heap.size) rfl Try.underlying23 rfl inf_key _ _ rfl (by rw [r4]; simp [HCL.out])) rfl ?_
          rw [r4]
          exact ⟨rfl, M3.end_⟩
end Go.Proofs.Ytgneclfnfnpmkaa
