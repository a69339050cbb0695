/-
  Walks of reference 01: digits; own work.
  Walks of reference 01: what is over goes up; own work.
  Walks of reference 01: digits, carried; own work.
  Walks of reference 01: what is left; own work.
  Walks of reference 01: sums, differences, products; own work.
-/
import Derived.Test.YtgclegdgngldoaaDoorFe7
import Derived.Test.YtgclegdgngldoaaDoorEdw
import Derived.Test.YtgclegdgngldoaaDoorCelI
set_option linter.unusedSimpArgs false
set_option linter.unusedVariables false
namespace Go.Proofs.YtgclegdgngldoaaDoor
open Go.RowKit Fp

def pr (i : Nat) : Nat := if i = 0 then 237 else if i = 31 then 127 else 255
set_option maxHeartbeats 1000000 in
theorem rprime_any (w : World) (i : Nat) (hi : i < 32) :
    Calls Tryd.prog 113 #[.int .i64 i] w fun e w' => e = .returned (I64 (pr i)) ∧ w = w' := by
  by_cases h0 : i = 0
  · subst h0
    go_enter Tryd.func113, Tryd.ntmps113
    go_wp2_with fail
    go_ret
    exact ⟨rfl, rfl⟩
  · by_cases h1 : i = 31
    · subst h1
      clear h0
      go_enter Tryd.func113, Tryd.ntmps113
      go_wp2_with fail
      go_ret
      exact ⟨rfl, rfl⟩
    · have e0 : ((i : Int) == 0) = false := by simp; omega
      have e1 : ((i : Int) == 31) = false := by simp; omega
      have e : pr i = 255 := by unfold pr; rw [if_neg h0, if_neg h1]
      rw [e]
      clear h0 h1 e
      go_enter Tryd.func113, Tryd.ntmps113
      go_wp2_with fail
      go_ret
      exact ⟨rfl, rfl⟩
theorem take_map_succ (a : List (BitVec 8)) (i : Nat) (h : i < a.length) : (a.take (i + 1)).map (·.toNat) = (a.take i).map (·.toNat) ++ [(g8 a i).toNat] := by
  rw [List.take_succ_eq_append_getElem h, List.map_append]
  unfold g8
  rw [List.getD_eq_getElem?_getD, List.getElem?_eq_getElem h]; rfl
set_option maxRecDepth 100000 in
set_option maxHeartbeats 1000000 in
theorem rdigits_any (w : World) (a : List (BitVec 8)) (ha : a.length = 32) :
    Calls Tryd.prog 112 #[.agg (cs U8 a)] w fun e w' => ∃ u, e = .returned u ∧ OI w' w.heap.size u (a.map (·.toNat)) ∧ Below w.heap.size w w' := by
  have M0 := Mm.start no w
  have M1 := M0.alloc (cs U8 a) 23 (by decide)
  have HA := hid ha
  clear ha
  go_enter Tryd.func112, Tryd.ntmps112
  go_wp2_with fail
  obtain ⟨w1, hw1⟩ : ∃ w1, w1 = w.alloc (.cells (cs U8 a) 23) := ⟨_, rfl⟩
  have hz1 : w1.heap.size = w.heap.size + 1 := by rw [hw1]; simp
  rw [← hw1] at M1 ⊢
  have HZ := hid hz1
  clear hw1 hz1
  go_loopw [3, 4] (fun u t wr => ∃ i : Nat, i ≤ 32 ∧ t = .int .i64 i ∧ OI wr (w.heap.size + 1) u ((a.take i).map (·.toNat)) ∧ Below (w.heap.size + 1) w1 wr) (fun _ t _ => 32 - (intOf t).toNat)
  case atStart => exact ⟨0, by omega, rfl, OI.nil _ _, Below.refl _ _⟩
  case round =>
    obtain ⟨i, hi, rfl, hov, hbw⟩ := hrel
    have hz := hbw.size
    have hz1 := HZ.out
    by_cases hlt : i < 32
    · have k1 := cell_g8 ((below_row hbw (by omega)).trans (M1.row (b := w.heap.size) (c := cs U8 a) (by simp))) (i := i) (by rw [HA.out]; exact hlt)
      have q0 : (0 : Int) ≤ i := by omega
      have q1 : (i : Int) < 32 := by omega
      have hlen : Hid (((a.take i).map (·.toNat)).length + 1 ≤ 1073741824) := hid (by simp; omega)
      have hts := hid (take_map_succ a i (by rw [HA.out]; exact hlt))
      clear hz1
      go_wp2_with (refine wpList_api rfl (.tmp 9) (.tmp 14) rfl (w.heap.size + 1) _ _ ((a.take i).map (·.toNat)) [(g8 a i).toNat] rfl (OI.alloc hov _) rfl (IS.one _ _ _ rfl _) hlen.out (by have := HZ.out; simp; omega) ?_; rintro v3 w4 hown3 hg3 -; have HB4 := oi_below1 _ hbw hov (by have := HZ.out; omega) hg3)
      go_roundw
      case rel => exact ⟨i + 1, by omega, by go_num, by rw [hts.out]; exact hown3, HB4⟩
      case measure => simp [intOf]; omega
    · have : i = 32 := by omega
      subst this
      have e32 : a.take 32 = a := List.take_of_length_le (by rw [HA.out]; exact Nat.le_refl _)
      rw [e32] at hov
      have HV := hid hov
      clear hov e32
      go_wp2_with fail
      go_ret
      exact ⟨_, rfl, HV.out.mono (by omega), M1.end_.trans (hbw.mono (by omega))⟩
end Go.Proofs.YtgclegdgngldoaaDoor
set_option linter.unusedSimpArgs false
set_option linter.unusedVariables false
namespace Go.Proofs.YtgclegdgngldoaaDoor
open Go.RowKit Fp

theorem IS.cellD {w : World} {a : Option Addr} {n cap : Nat} {l : List Nat} (h : IS w (.slice a n cap) l) (hn : n = l.length) (i : Nat) (hi : i < l.length) : ∃ b o, a = some ⟨b, o, none⟩ ∧ b < w.heap.size ∧ ∀ i, i < l.length → w.cell? ⟨b, o + i, none⟩ = some (I64 (gI l i)) := by
  have hne : l ≠ [] := by intro e; rw [e] at hi; simp at hi
  have h2 := h.open hne
  obtain ⟨b, o, cap', e, _, hc⟩ := h2
  injection e with e1 e2 e3
  refine ⟨b, o, e1, ?_, hc⟩
  have := hc i hi
  rw [cell_rowOf] at this
  exact row_lt (Array.getElem?_eq_some_iff.1 this).1
theorem spC_succ (l : List Nat) (i : Nat) : spC l (i + 1) = (l.getD i 0 + spC l i) / 256 := rfl
theorem spC_zero (l : List Nat) : spC l 0 = 0 := rfl
attribute [local irreducible] spC spL
set_option maxRecDepth 100000 in
set_option maxHeartbeats 2000000 in
theorem rspread_any (w : World) (v : Value) (l : List Nat) (hv : IS w v l) (hb : ∀ x ∈ l, x ≤ 288230376151711744) (hlen : l.length ≤ 1000) :
    Calls Tryd.prog 114 #[v] w fun e w' => ∃ u, e = .returned u ∧ OI w' w.heap.size u (spr l) ∧ Below w.heap.size w w' := by
  obtain ⟨n, hn⟩ : ∃ n, n = l.length := ⟨_, rfl⟩
  obtain ⟨av, cv, rfl, hcv⟩ := hv.shape' n hn.symm
  have hnl : n ≤ 1000 := by omega
  have HC : Hid (∀ i, i < l.length → ∃ b o, av = some ⟨b, o, none⟩ ∧ b < w.heap.size ∧ ∀ i, i < l.length → w.cell? ⟨b, o + i, none⟩ = some (I64 (gI l i))) := hid fun i hi => IS.cellD hv hn i hi
  have HB := hid hb; have HN := hid hn
  have HCC := hid (spC_le hb)
  clear hv hb hlen hn
  go_enter Tryd.func114, Tryd.ntmps114
  go_wp2_with fail
  go_loopw [3, 4, 5] (fun u c t wr => ∃ i : Nat, i ≤ n ∧ t = .int .i64 i ∧ c = I64 (spC l i) ∧ OI wr w.heap.size u (spL l i) ∧ Below w.heap.size w wr) (fun _ _ t _ => n - (intOf t).toNat)
  case atStart => exact ⟨0, by omega, rfl, by rw [spC_zero]; rfl, by rw [spL_zero]; exact OI.nil _ _, Below.refl _ _⟩
  case round =>
    obtain ⟨i, hi, rfl, rfl, hov, hbw⟩ := hrel
    have hz := hbw.size
    have hcl := HCC.out i
    obtain ⟨c, hc⟩ : ∃ c, c = spC l i := ⟨_, rfl⟩
    rw [← hc] at hcl ⊢
    by_cases hlt : i < n
    · obtain ⟨b, o, rfl, hbs, hcell⟩ := HC.out i (by rw [← HN.out]; exact hlt)
      have c0 : wr.cell? ⟨b, o + i, none⟩ = some (I64 (gI l i)) := (hbw.cell (p := ⟨b, o + i, none⟩) hbs).trans (hcell i (by rw [← HN.out]; exact hlt))
      obtain ⟨x, hx⟩ : ∃ x, x = gI l i := ⟨_, rfl⟩
      rw [← hx] at c0
      have hxl : x ≤ 288230376151711744 := by rw [hx]; exact getD_le HB.out i
      obtain ⟨s, hs⟩ : ∃ s, s = x + c := ⟨_, rfl⟩
      have q0 : IntKind.i64.wrap ((x : Int) + (c : Int)) = (s : Int) := by rw [IntKind.wrap_i64]; omega
      have q1 : (0 : Int) ≤ s := by omega
      have q2 : (s : Int) ≤ 1000000000000000000 := by omega
      have hlen : Hid ((spL l i).length + 1 ≤ 1073741824) := hid (by rw [spL_len]; omega)
      have HS := hid hs; have HX := hid hx; have HCN := hid hc
      clear hcell hs hx hc hcl hxl
      go_wp2_with (refine wpList_api rfl (.tmp 19) (.tmp 22) rfl w.heap.size _ _ (spL l i) [s % 256] rfl (OI.alloc hov _) rfl (IS.one _ _ _ rfl _) hlen.out (by simp; omega) ?_; rintro v3 w4 hown3 hg3 -; have HB4 := oi_below1 _ hbw hov hz hg3)
      go_roundw
      case rel => exact ⟨i + 1, by omega, by go_num, by
          have e : spC l (i + 1) = s / 256 := by rw [spC_succ, HS.out, HX.out, HCN.out]; rfl
          rw [e]; go_num, by
          rw [spL_succ]
          have e : (l.getD i 0 + spC l i) % 256 = s % 256 := by rw [HS.out, HX.out, HCN.out]; rfl
          rw [e]; exact hown3, HB4⟩
      case measure => simp [intOf]; omega
    · have : i = n := by omega
      subst this
      have hlen : Hid ((spL l i).length + 1 ≤ 1073741824) := hid (by rw [spL_len]; omega)
      have HCN := hid hc
      clear hc hcl
      go_wp2_with (refine wpList_api rfl (.tmp 26) (.tmp 28) rfl w.heap.size _ _ (spL l i) [c] rfl (OI.alloc hov _) rfl (IS.one _ _ _ rfl _) hlen.out (by simp; omega) ?_; rintro v3 w4 hown3 hg3 -; have HB4 := oi_below1 _ hbw hov hz hg3)
      go_ret
      refine ⟨_, rfl, ?_, HB4⟩
      unfold spr
      rw [← HN.out, ← HCN.out]; exact hown3
end Go.Proofs.YtgclegdgngldoaaDoor
set_option linter.unusedSimpArgs false
set_option linter.unusedVariables false
namespace Go.Proofs.YtgclegdgngldoaaDoor
open Go.RowKit Fp
theorem cvi_8 {P : Program} (w : World) (src dst : TypeId) (x : Nat) (hs : (P.underlying src).isSome = true) (hd : P.underlying dst = some (.int .u8)) : (convert src dst (I64 x)).run P w = .ok (U8 (BitVec.ofNat 8 x)) w := by
  obtain ⟨d, hd'⟩ := Option.isSome_iff_exists.mp hs
  have e : Value.int .u8 (IntKind.u8.wrap (x : Int)) = U8 (BitVec.ofNat 8 x) := by
    rw [u8_wrap]; congr 1 <;> (apply BitVec.eq_of_toNat_eq; rw [BitVec.toNat_ofInt, BitVec.toNat_ofNat]; omega)
  simp [convert, run_underlying hd', run_underlying hd, Conv.intToInt, e]
theorem fL_zero (d : List Nat) : fL d 0 = List.replicate 32 0 := rfl
theorem fL_succ (d : List Nat) (i : Nat) : fL d (i + 1) = if i < 32 then (fL d i).set i ((fL d i).getD i 0 + d.getD i 0) else (fL d i).set (i - 32) ((fL d i).getD (i - 32) 0 + 38 * d.getD i 0) := rfl
theorem rdn_succ (l : List Nat) (n : Nat) : rdn l (n + 1) = spr (fL (rdn l n) (rdn l n).length) := rfl
theorem take_set_zs (l : List (BitVec 8)) (hl : l.length = 32) (j : Nat) (hj : j < 32) : (l.take j ++ (zs (32 - j) : List (BitVec 8))).set j (l.getD j 0) = l.take (j + 1) ++ zs (32 - (j + 1)) := by
  have h1 : (l.take j).length = j := by simp; omega
  rw [List.set_append_right _ _ (by omega), h1, Nat.sub_self]
  obtain ⟨m, hm⟩ : ∃ m, 32 - j = m + 1 := ⟨31 - j, by omega⟩
  have hj' : j < l.length := by omega
  rw [List.take_succ_eq_append_getElem hj', List.append_assoc]
  congr 1
  rw [hm, show 32 - (j + 1) = m by omega]
  simp only [zs, List.replicate_succ, List.set_cons_zero, List.singleton_append]
  congr 1
  rw [List.getD_eq_getElem?_getD, List.getElem?_eq_getElem hj']; rfl
def z32 : List Nat := List.replicate 32 0
theorem rd_mk (w : World) : (Instr.makeSlice 133 (.int .i64 32) (.int .i64 32)).run Tryd.prog w = .ok (.slice (some ⟨w.heap.size, 0, none⟩) 32 32) (w.alloc (.cells (cs I64 z32 ++ #[]) 3)) := by kernel_rfl
attribute [local irreducible] fL rdn
set_option maxRecDepth 100000 in
set_option maxHeartbeats 4000000 in
theorem rcarried_any (w : World) (v : Value) (l : List Nat) (hv : IS w v l) (hb : ∀ x ∈ l, x ≤ 2147483648) (hlen : l.length ≤ 64) (h32 : 32 ≤ l.length) :
    Calls Tryd.prog 97 #[v] w fun e w' => e = .returned (.agg (cs U8 (carL l))) ∧ Below w.heap.size w w' := by
  have M0 := Mm.start no w
  have M1 := M0.alloc (cs U8 (zs 32)) 23 (by decide)
  have HV := hid hv; have HB := hid (rdn_le hb hlen); have HSP := hid (carL_spec l hb hlen h32)
  have HLN := hid hlen; have H32 := hid h32
  obtain ⟨w1, hw1⟩ : ∃ w1, w1 = w.alloc (.cells (cs U8 (zs 32)) 23) := ⟨_, rfl⟩
  have hb1 : Below w.heap.size w w1 := by rw [hw1]; exact (Below.refl _ _).alloc (Nat.le_refl _) _
  rw [← hw1] at M1
  have hv1 : IS w1 v l := hv.below hb1
  have hz : Below w1.heap.size w1 (w1.alloc (.cells #[] 3)) := (Below.refl _ _).alloc (Nat.le_refl _) _
  have he : OI (w1.alloc (.cells #[] 3)) w1.heap.size (.slice (some ⟨w1.heap.size, 0, none⟩) 0 0) [] := OI.lit w1 [] #[] rfl 0 rfl (by decide) _ (Nat.le_refl _)
  have HV1 := hid (hv1.below hz); have HE := hid he; have HZ := hid hz; have HW1 := hid hw1
  clear hv hb hlen h32 hw1 hb1 hv1 hz he
  go_enter Tryd.func97, Tryd.ntmps97
  go_upto_region 1 with fail
  rw [← HW1.out]
  go_wp2_with (refine wpList_api rfl (.tmp 9) (.tmp 10) rfl w1.heap.size _ _ [] l rfl HE.out rfl HV1.out (by have := HLN.out; simp; omega) (by simp) ?_; rintro v3 w4 hown3 hg3 -; have HB4 := oi_below HZ.out HE.out (by simp) hg3)
  rw [List.nil_append] at hown3
  have hne : l ≠ [] := by intro e; have := H32.out; rw [e] at this; simp at this
  obtain ⟨g0, cap0, R00, rfl, hcap0, hmx0, -, M4⟩ := M1.take HB4 hown3 hne
  have M4' : Mm no w [(g0, cs I64 (rdn l 0) ++ R00), (w.heap.size, cs U8 (zs 32))] w4 := by rw [show rdn l 0 = l by unfold rdn; rfl]; exact M4
  have hl0 : l.length = (rdn l 0).length := by rw [show rdn l 0 = l by unfold rdn; rfl]
  clear M1 M4 hown3 hg3 hne HV1 HE HZ HW1 HB4 M0
  rw [hl0] at hcap0 ⊢
  have HCP := hid hcap0; have HMX := hid hmx0
  obtain ⟨n0, hn0⟩ : ∃ n, n = (rdn l 0).length := ⟨_, rfl⟩
  rw [← hn0]
  have HN0 := hid hn0
  clear hl0 hcap0 hmx0 hn0
  go_loopw [3, 4] (fun u t wr => ∃ (r g cap : Nat) (R : Array Value), r ≤ 4 ∧ t = .int .i64 r ∧ u = .slice (some ⟨g, 0, none⟩) (rdn l r).length cap ∧ (rdn l r).length ≤ cap ∧ cap ≤ maxLen ∧ Mm no w [(g, cs I64 (rdn l r) ++ R), (w.heap.size, cs U8 (zs 32))] wr) (fun _ t _ => 4 - (intOf t).toNat)
  case atStart => exact ⟨0, g0, cap0, R00, by omega, rfl, by rw [HN0.out], HCP.out, HMX.out, M4'⟩
  case round =>
    clear M4' HCP HMX HN0
    obtain ⟨r, g, cap, R, hr, rfl, rfl, hcap, hmx, M⟩ := hrel
    obtain ⟨hln, hle⟩ := HB.out r
    obtain ⟨d, hd⟩ : ∃ d, d = rdn l r := ⟨_, rfl⟩
    rw [← hd] at hcap M hln hle ⊢
    obtain ⟨n, hn⟩ : ∃ n, n = d.length := ⟨_, rfl⟩
    rw [← hn] at hcap hln ⊢
    have HN := hid hn; have HD := hid hd; have HLE := hid hle; have HCAP := hid hcap; have HMX := hid hmx
    have hcapi : (n : Int) ≤ cap := by omega
    clear hn hd hle hmx
    by_cases hr4 : r < 4
    · have hC : ∀ x ∈ d, x ≤ 70368744177664 := fun x hx => by
        have h1 := HLE.out x hx
        have h2 : 32 ^ r ≤ 32 ^ 3 := Nat.pow_le_pow_right (by decide) (by omega)
        have h3 : 32 ^ r * 2147483648 ≤ 32 ^ 3 * 2147483648 := Nat.mul_le_mul_right _ h2
        have h4 : 32 ^ 3 * 2147483648 = 70368744177664 := by decide
        omega
      have HC := hid hC
      clear hC
      go_upto_region 5 with fail
      have hmk := rd_mk
      obtain ⟨R0, hR0⟩ : ∃ R0, R0 = (#[] : Array Value) := ⟨_, rfl⟩
      rw [← hR0] at hmk
      clear hR0
      have M2 := M.alloc (cs I64 z32 ++ R0) 3 (by decide)
      obtain ⟨gl, hgl⟩ : ∃ b, b = wr.heap.size := ⟨_, rfl⟩
      go_upto_region 6 with fail
      obtain ⟨w2, hw2⟩ : ∃ w2, w2 = wr.alloc (.cells (cs I64 z32 ++ R0) 3) := ⟨_, rfl⟩
      rw [← hgl, ← hw2] at M2
      rw [← hgl, ← hw2]
      have M3 : Mm no w [(gl, cs I64 (fL d 0) ++ R0), (g, cs I64 d ++ R), (w.heap.size, cs U8 (zs 32))] w2 := by rw [fL_zero]; exact M2
      clear hgl hw2 M2 M hmk
      go_wp2_with fail
      go_loopw [6] (fun t wr => ∃ i : Nat, i ≤ n ∧ t = .int .i64 i ∧ Mm no w [(gl, cs I64 (fL d i) ++ R0), (g, cs I64 d ++ R), (w.heap.size, cs U8 (zs 32))] wr) (fun t _ => n - (intOf t).toNat)
      case atStart => exact ⟨0, by omega, rfl, M3⟩
      case round =>
        clear M3
        obtain ⟨i, hi, rfl, M⟩ := hrel
        have hfb := fL_le HC.out i
        have hfB : ∀ j, gI (fL d i) j ≤ 171138785836900000 := fun j => by
          have h1 := getD_le hfb j
          have h2 : i * (38 * 70368744177664) ≤ 64 * (38 * 70368744177664) := Nat.mul_le_mul_right _ (by omega)
          have h3 : 64 * (38 * 70368744177664) ≤ 171138785836900000 := by decide
          exact Nat.le_trans h1 (Nat.le_trans h2 h3)
        have hdB : gI d i ≤ 70368744177664 := getD_le HC.out i
        have HFB := hid hfB
        clear hfb hfB
        by_cases hlt : i < n
        · by_cases hi32 : i < 32
          · have hf1 := HFB.out i
            go_upto_region 10 with fail
            refine wp_region_seq 12 [25, 26, 27, 28, 29, 30, 31, 32, 33, 34, 35, 36] [] [] [] (.op 12 .done) (Mm no w _) (by kernel_rfl) (by kernel_rfl) (by kernel_rfl) (fun d _ _ _ _ h => by cases d <;> exact h) (by rfl) M.size (fun _ _ h k => h.sf k) M ?_
            simp only [List.take_succ_cons, List.take_zero]
            refine SeqA.pure (.slice (some ⟨gl, 0, none⟩) 32 32) (fun w' => by go_simp) rfl rfl ?_
            refine SeqA.pure (.int .i64 i) (fun w' => by go_simp) rfl rfl ?_
            refine SeqA.pure (.slice (some ⟨gl, 0, none⟩) 32 32) (fun w' => by go_simp) rfl rfl ?_
            refine SeqA.pure (.int .i64 i) (fun w' => by go_simp) rfl rfl ?_
            refine SeqA.pure (.pointer (some ⟨gl, i, none⟩)) (fun w' => by go_simp) rfl rfl ?_
            simp only [Act.put, List.setIfInBounds_toArray, List.set_cons_succ, List.set_cons_zero]
            refine SeqA.read (I64 (gI (fL d i) i)) (fun w' M => by have c0 := cell_gI (M.row (b := gl) (c := cs I64 (fL d i) ++ R0) (by simp)) (i := i) (by rw [fL_len]; omega); go_simp) rfl rfl ?_
            refine SeqA.pure (.slice (some ⟨g, 0, none⟩) n cap) (fun w' => by go_simp) rfl rfl ?_
            refine SeqA.pure (.int .i64 i) (fun w' => by go_simp) rfl rfl ?_
            refine SeqA.pure (.pointer (some ⟨g, i, none⟩)) (fun w' => by go_simp) rfl rfl ?_
            refine SeqA.read (I64 (gI d i)) (fun w' M => by have c0 := cell_gI (M.row (b := g) (c := cs I64 d ++ R) (by simp)) (i := i) (by rw [← HN.out]; omega); go_simp) rfl rfl ?_
            refine SeqA.pure (I64 (gI (fL d i) i + gI d i)) (fun w' => by have q := i64w ((gI (fL d i) i : Int) + (gI d i : Int)) (by omega) (by omega); go_simp) rfl rfl ?_
            simp only [Act.put, List.setIfInBounds_toArray, List.set_cons_succ, List.set_cons_zero]
            refine SeqA.pure (.pointer (some ⟨gl, i, none⟩)) (fun w' => by go_simp) rfl rfl ?_
            refine SeqA.nil (fun w1 M2 hz => ?_)
            show wpT _ _ _ _ _ _
            simp only [Act.put, List.setIfInBounds_toArray, List.set_cons_succ, List.set_cons_zero]
            refine wpT_stc M2 0 (I64 (gI (fL d i) i + gI d i)) (cs I64 ((fL d i).set i (gI (fL d i) i + gI d i)) ++ R0) inf_int rfl rfl rfl rfl (by go_simp) (by go_simp) (by have := (by rw [fL_len]; omega : i < (fL d i).length); first | (simp; done) | (simpa using this) | (simp; omega)) (by simp [go_sem]) (set_gI (by rw [fL_len]; omega) _) rfl (fun w3 M4 => ?_)
            dsimp only [List.set] at M4
            dsimp only [wpT]
            go_wp2_with fail
            go_roundw
            case rel => exact ⟨i + 1, by omega, by go_num, by rw [fL_succ, if_pos hi32]; exact M4⟩
            case measure => simp [intOf]; omega
          · obtain ⟨h, hh⟩ : ∃ h, h = i - 32 := ⟨_, rfl⟩
            have hhI : ((i : Int) - 32) = (h : Int) := by omega
            have HH := hid hhI; have HHN := hid hh
            have hh32 : h < 32 := by omega
            have hf1 := HFB.out h
            have q9 : (h : Int) < 32 := by omega
            clear hhI hh
            go_upto_region 11 with fail
            refine wp_region_seq 15 [37, 38, 39, 40, 41, 42, 43, 44, 45, 46, 47, 48, 49, 50, 51] [] [] [] (.op 15 .done) (Mm no w _) (by kernel_rfl) (by kernel_rfl) (by kernel_rfl) (fun d _ _ _ _ h => by cases d <;> exact h) (by rfl) M.size (fun _ _ h k => h.sf k) M ?_
            simp only [List.take_succ_cons, List.take_zero]
            refine SeqA.pure (.slice (some ⟨gl, 0, none⟩) 32 32) (fun w' => by go_simp) rfl rfl ?_
            refine SeqA.pure (.int .i64 i) (fun w' => by go_simp) rfl rfl ?_
            refine SeqA.pure (.int .i64 h) (fun w' => by have q := HH.out; have q2 := i64w (h : Int) (by omega) (by omega); go_simp) rfl rfl ?_
            refine SeqA.pure (.slice (some ⟨gl, 0, none⟩) 32 32) (fun w' => by go_simp) rfl rfl ?_
            refine SeqA.pure (.int .i64 i) (fun w' => by go_simp) rfl rfl ?_
            simp only [Act.put, List.setIfInBounds_toArray, List.set_cons_succ, List.set_cons_zero]
            refine SeqA.pure (.int .i64 h) (fun w' => by have q := HH.out; have q2 := i64w (h : Int) (by omega) (by omega); go_simp) rfl rfl ?_
            refine SeqA.pure (.pointer (some ⟨gl, h, none⟩)) (fun w' => by go_simp) rfl rfl ?_
            refine SeqA.read (I64 (gI (fL d i) h)) (fun w' M => by have c0 := cell_gI (M.row (b := gl) (c := cs I64 (fL d i) ++ R0) (by simp)) (i := h) (by rw [fL_len]; omega); go_simp) rfl rfl ?_
            refine SeqA.pure (.slice (some ⟨g, 0, none⟩) n cap) (fun w' => by go_simp) rfl rfl ?_
            refine SeqA.pure (.int .i64 i) (fun w' => by go_simp) rfl rfl ?_
            refine SeqA.pure (.pointer (some ⟨g, i, none⟩)) (fun w' => by go_simp) rfl rfl ?_
            simp only [Act.put, List.setIfInBounds_toArray, List.set_cons_succ, List.set_cons_zero]
            refine SeqA.read (I64 (gI d i)) (fun w' M => by have c0 := cell_gI (M.row (b := g) (c := cs I64 d ++ R) (by simp)) (i := i) (by rw [← HN.out]; omega); go_simp) rfl rfl ?_
            refine SeqA.pure (I64 (38 * gI d i)) (fun w' => by have q := i64w (38 * (gI d i : Int)) (by omega) (by omega); go_simp) rfl rfl ?_
            refine SeqA.pure (I64 (gI (fL d i) h + 38 * gI d i)) (fun w' => by have q := i64w ((gI (fL d i) h : Int) + 38 * (gI d i : Int)) (by omega) (by omega); go_simp) rfl rfl ?_
            refine SeqA.pure (.pointer (some ⟨gl, h, none⟩)) (fun w' => by go_simp) rfl rfl ?_
            refine SeqA.nil (fun w1 M2 hz => ?_)
            show wpT _ _ _ _ _ _
            simp only [Act.put, List.setIfInBounds_toArray, List.set_cons_succ, List.set_cons_zero]
            refine wpT_stc M2 0 (I64 (gI (fL d i) h + 38 * gI d i)) (cs I64 ((fL d i).set h (gI (fL d i) h + 38 * gI d i)) ++ R0) inf_int rfl rfl rfl rfl (by go_simp) (by go_simp) (by have := (by rw [fL_len]; omega : h < (fL d i).length); first | (simp; done) | (simpa using this) | (simp; omega)) (by simp [go_sem]) (set_gI (by rw [fL_len]; omega) _) rfl (fun w3 M4 => ?_)
            dsimp only [List.set] at M4
            dsimp only [wpT]
            go_wp2_with fail
            go_roundw
            case rel => exact ⟨i + 1, by omega, by go_num, by rw [fL_succ, if_neg hi32, ← HHN.out]; exact M4⟩
            case measure => simp [intOf]; omega
        · have : i = n := by omega
          subst this
          have hl : (fL d i).length = 32 := fL_len d i
          have hI : IS wr (.slice (some ⟨gl, 0, none⟩) 32 32) (fL d i) := M.is (R := R0) (by simp) hl.symm (by decide) (by decide)
          have hfb : ∀ x ∈ fL d i, x ≤ 288230376151711744 := fun x hx => by
            have h1 := fL_le HC.out i x hx
            have h2 : i * (38 * 70368744177664) ≤ 64 * (38 * 70368744177664) := Nat.mul_le_mul_right _ (by omega)
            omega
          have HI := hid hI; have HFB2 := hid hfb; have HL := hid hl
          clear hI hfb hl hi hlt hdB
          go_wp2_with fail
          with_reducible refine ((rspread_any wr _ (fL d i) HI.out HFB2.out (by rw [HL.out]; decide)).mono ?_)
          rintro e w5 ⟨u, rfl, hou, hb5⟩
          have hsl : (spr (fL d i)).length = 33 := by rw [spr_len, HL.out]
          obtain ⟨g6, cap6, R6, rfl, hc6, hx6, -, M6⟩ := M.take hb5 hou (by intro e; rw [e] at hsl; simp at hsl)
          have hrd : spr (fL d i) = rdn l (r + 1) := by rw [rdn_succ, ← HD.out, ← HN.out]
          rw [hrd] at hc6 M6 hsl ⊢
          have M7 := M6.sub (H' := [(g6, cs I64 (rdn l (r + 1)) ++ R6), (w.heap.size, cs U8 (zs 32))]) (.cons_cons _ (.cons _ (.cons _ (List.Sublist.refl _))))
          have HC6 := hid hc6; have HX6 := hid hx6
          rw [hsl]
          have HSL := hid hsl
          clear hc6 hx6 hou hb5 M6 M hsl hrd
          dsimp only
          go_wp2_with fail
          go_roundw
          case rel => exact ⟨r + 1, g6, cap6, R6, by omega, by go_num, by rw [HSL.out], HC6.out, HX6.out, M7⟩
          case measure => simp [intOf]; omega
    · have : r = 4 := by omega
      subst this
      obtain ⟨hcl, -⟩ := HSP.out
      have hn33 : 32 ≤ n := by
        have e : rdn l 4 = spr (fL (rdn l 3) (rdn l 3).length) := rdn_succ l 3
        rw [HN.out, HD.out, e, spr_len, fL_len]; omega
      have hget : ∀ i, i < 32 → (carL l).getD i 0 = BitVec.ofNat 8 (gI d i) := fun i hi => by
        unfold carL
        rw [← HD.out]
        have h1 : i < d.length := by rw [← HN.out]; omega
        simp [List.getD_eq_getElem?_getD, List.getElem?_take, hi, h1, gI]
      have HG := hid hget; have HCL := hid hcl
      clear hget hcl
      rw [show ((4 : Nat) : Int) = 4 from rfl]
      go_upto_region 14 with fail
      have M2 := M.alloc (cs U8 (zs 32)) 23 (by decide)
      obtain ⟨g7, hg7⟩ : ∃ b, b = wr.heap.size := ⟨_, rfl⟩
      obtain ⟨w2, hw2⟩ : ∃ w2, w2 = wr.alloc (.cells (cs U8 (zs 32)) 23) := ⟨_, rfl⟩
      rw [← hg7, ← hw2] at M2
      rw [← hg7, ← hw2]
      clear hg7 hw2 M
      go_wp2_with fail
      go_loopw [8] (fun t wr => ∃ i : Nat, i ≤ 32 ∧ t = .int .i64 i ∧ Mm no w [(g7, cs U8 ((carL l).take i ++ zs (32 - i))), (g, cs I64 d ++ R), (w.heap.size, cs U8 (zs 32))] wr) (fun t _ => 32 - (intOf t).toNat)
      case atStart => exact ⟨0, by omega, rfl, M2⟩
      case round =>
        clear M2
        obtain ⟨i, hi, rfl, M⟩ := hrel
        by_cases hlt : i < 32
        · have q1 : (i : Int) < 32 := by omega
          have q2 : (i : Int) < n := by omega
          have hL := hid (show ((carL l).take i ++ (zs (32 - i) : List (BitVec 8))).length = 32 by simp [HCL.out]; omega)
          go_upto_region 17 with fail
          refine wp_region_seqF 7 [58, 59, 60, 61, 62, 63, 64] [] [] [] (.op 7 .done) (Mm no w _) (by kernel_rfl) (by kernel_rfl) (fun d _ _ _ _ h => by cases d <;> exact h) (by rfl) M.size (fun _ _ h k => h.sf k) M (by kernel_rfl) ?_
          simp only [List.take_succ_cons, List.take_zero]
          refine SeqA.pure (.int .i64 i) (fun w' => by go_simp) rfl rfl ?_
          refine SeqA.pure (.slice (some ⟨g, 0, none⟩) n cap) (fun w' => by go_simp) rfl rfl ?_
          refine SeqA.pure (.int .i64 i) (fun w' => by go_simp) rfl rfl ?_
          refine SeqA.pure (.pointer (some ⟨g, i, none⟩)) (fun w' => by go_simp) rfl rfl ?_
          refine SeqA.read (I64 (gI d i)) (fun w' M => by have c0 := cell_gI (M.row (b := g) (c := cs I64 d ++ R) (by simp)) (i := i) (by rw [← HN.out]; omega); go_simp) rfl rfl ?_
          simp only [Act.put, List.setIfInBounds_toArray, List.set_cons_succ, List.set_cons_zero]
          refine SeqA.pure (U8 (BitVec.ofNat 8 (gI d i))) (fun w' => by have q := cvi_8 (P := Tryd.prog) w' 3 5 (gI d i) (by kernel_rfl) Tryd.underlying5; go_simp) rfl rfl ?_
          refine SeqA.pure (.pointer (some ⟨g7, i, none⟩)) (fun w' => by go_simp) rfl rfl ?_
          refine SeqA.nil (fun w1 M2 hz => ?_)
          show wpT _ _ _ _ _ _
          simp only [Act.put, List.setIfInBounds_toArray, List.set_cons_succ, List.set_cons_zero]
          refine wpT_stc M2 0 (U8 (BitVec.ofNat 8 (gI d i))) (cs U8 (((carL l).take i ++ zs (32 - i)).set i (BitVec.ofNat 8 (gI d i)))) inf_u8 rfl rfl rfl rfl (by go_simp) (by go_simp) (by have := (by rw [hL]; exact hlt : i < ((carL l).take i ++ zs (32 - i)).length); first | (simp; done) | (simpa using this) | (simp; omega)) (by simp [go_sem]) (cs_set _ _) rfl (fun w3 M4 => ?_)
          dsimp only [List.set] at M4
          dsimp only [wpT]
          go_wp2_with fail
          go_roundw
          case rel => exact ⟨i + 1, by omega, by go_num, by
              have e := take_set_zs (carL l) HCL.out i hlt
              rw [HG.out i hlt] at e
              rw [← e]; exact M4⟩
          case measure => simp [intOf]; omega
        · have : i = 32 := by omega
          subst this
          have e : (carL l).take 32 ++ (zs (32 - 32) : List (BitVec 8)) = carL l := by rw [List.take_of_length_le (by rw [HCL.out]; exact Nat.le_refl _)]; simp [zs]
          rw [e] at M
          clear e
          go_upto_region 18 with fail
          have r2 := M.row (b := g7) (c := cs U8 (carL l)) (by simp)
          have f3 := M.free (b := w.heap.size) (c := cs U8 (zs 32)) (by simp)
          have r3 := M.row (b := w.heap.size) (c := cs U8 (zs 32)) (by simp)
          have hkl := HCL.out
          go_wp2_with fail
          have M3 := M.set 2 (cs U8 (carL l)) rfl
          dsimp only [List.set] at M3
          have r4 := M3.row (b := w.heap.size) (c := cs U8 (carL l)) (by simp)
          refine bodyPost_ret (res_row (b := w.heap.size) rfl Tryd.underlying23 rfl inf_key _ _ rfl (by rw [r4]; simp [HCL.out])) rfl ?_
          rw [r4]
          exact ⟨rfl, M3.end_⟩
end Go.Proofs.YtgclegdgngldoaaDoor
set_option linter.unusedSimpArgs false
set_option linter.unusedVariables false
namespace Go.Proofs.YtgclegdgngldoaaDoor
open Go.RowKit Fp
theorem rprime_b (w : World) (i : Nat) (hi : i < 32) :
    Calls Tryd.prog 113 #[.int .i64 i] w fun e w' => e = .returned (I64 (prd i)) ∧ Below w.heap.size w w' :=
  (rprime_any w i hi).mono fun e w' ⟨h1, h2⟩ => ⟨h1, by rw [h2]; exact Below.refl _ _⟩
attribute [local irreducible] prd P ls
set_option maxRecDepth 100000 in
set_option maxHeartbeats 2000000 in
theorem ratl_any (w : World) (a : List (BitVec 8)) (ha : a.length = 32) :
    Calls Tryd.prog 110 #[.agg (cs U8 a)] w fun e w' => e = .returned (.bool (decide (P ≤ leN a))) ∧ Below w.heap.size w w' := by
  have M0 := Mm.start no w
  have M1 := M0.alloc (cs U8 a) 23 (by decide)
  have HA := hid ha
  obtain ⟨res, hres⟩ : ∃ b, b = decide (P ≤ leN a) := ⟨_, rfl⟩
  rw [← hres]
  have HR := hid hres
  clear ha hres
  go_enter Tryd.func110, Tryd.ntmps110
  go_wp2_with fail
  go_loopw [3] (fun t wr => ∃ j : Nat, j ≤ 32 ∧ t = .int .i64 ((j : Int) - 1) ∧ (∀ k, j ≤ k → k < 32 → (a.getD k 0).toNat = prd k) ∧ Mm no w [(w.heap.size, cs U8 a)] wr) (fun t _ => (intOf t + 1).toNat)
  case atStart => exact ⟨32, by omega, rfl, fun k h1 h2 => by omega, M1⟩
  case round =>
    clear M1 M0
    obtain ⟨j, hj, rfl, hall, M⟩ := hrel
    have HALL := hid hall
    clear hall
    by_cases hj0 : 0 < j
    · obtain ⟨i, rfl⟩ : ∃ i, j = i + 1 := ⟨j - 1, by omega⟩
      have hi32 : i < 32 := by omega
      have ei : (((i + 1 : Nat) : Int) - 1) = (i : Int) := by omega
      rw [ei]
      have q0 : (0 : Int) ≤ i := by omega
      have q1 : (i : Int) < 32 := by omega
      by_cases hpe : (g8 a i).toNat = prd i
      · have heq : (((g8 a i).toNat : Int) != (prd i : Int)) = false := by simp [hpe]
        have HPE := hid hpe
        have HEQ := hid heq
        clear hpe heq ei
        go_upto_region 4 with fail
        have heq := HEQ.out
        refine wp_region_seq 7 [8, 9, 10, 11, 12, 13, 14] [] [] [] (.done) (Mm no w _) (by kernel_rfl) (by kernel_rfl) (by kernel_rfl) (fun d _ _ _ _ h => by cases d <;> exact h) (by rfl) M.size (fun _ _ h k => h.sf k) M ?_
        simp only [List.take_succ_cons, List.take_zero]
        refine SeqA.pure (.int .i64 i) (fun w' => by go_simp) rfl rfl ?_
        refine SeqA.pure (.pointer (some ⟨w.heap.size, i, none⟩)) (fun w' => by go_simp) rfl rfl ?_
        refine SeqA.read (U8 (g8 a i)) (fun w' M => by have c0 := cell_g8 (M.row (b := w.heap.size) (c := cs U8 a) (by simp)) (i := i) (by rw [HA.out]; exact hi32); go_simp) rfl rfl ?_
        refine SeqA.pure (I64 (g8 a i).toNat) (fun w' => by go_simp) rfl rfl ?_
        refine SeqA.pure (.int .i64 i) (fun w' => by go_simp) rfl rfl ?_
        simp only [Act.put, List.setIfInBounds_toArray, List.set_cons_succ, List.set_cons_zero]
        refine SeqA.call _ _ _ (fun w' => by go_simp) (fun w' hI _ => rprime_b w' i hi32) M.size rfl rfl ?_
        refine SeqA.pure (.bool false) (fun w' => by have q := heq; go_simp) rfl rfl ?_
        refine SeqA.nil (fun w1 M2 hz => ?_)
        show wpT _ _ _ _ _ _
        simp only [Act.put, List.setIfInBounds_toArray, List.set_cons_succ, List.set_cons_zero]
        dsimp only [wpT]
        go_wp2_with fail
        clear heq
        go_roundw
        case rel => exact ⟨i, by omega, by go_num, fun k h1 h2 => by
            by_cases hk : k = i
            · subst hk; exact HPE.out
            · exact HALL.out k (by omega) h2, M2⟩
        case measure => simp [intOf]
      · have hne : (((g8 a i).toNat : Int) != (prd i : Int)) = true := by simp; omega
        have HPE := hid hpe
        have HNE := hid hne
        clear hpe hne ei
        go_upto_region 4 with fail
        have hne := HNE.out
        refine wp_region_seq 7 [8, 9, 10, 11, 12, 13, 14] [] [] [] (.done) (Mm no w _) (by kernel_rfl) (by kernel_rfl) (by kernel_rfl) (fun d _ _ _ _ h => by cases d <;> exact h) (by rfl) M.size (fun _ _ h k => h.sf k) M ?_
        simp only [List.take_succ_cons, List.take_zero]
        refine SeqA.pure (.int .i64 i) (fun w' => by go_simp) rfl rfl ?_
        refine SeqA.pure (.pointer (some ⟨w.heap.size, i, none⟩)) (fun w' => by go_simp) rfl rfl ?_
        refine SeqA.read (U8 (g8 a i)) (fun w' M => by have c0 := cell_g8 (M.row (b := w.heap.size) (c := cs U8 a) (by simp)) (i := i) (by rw [HA.out]; exact hi32); go_simp) rfl rfl ?_
        refine SeqA.pure (I64 (g8 a i).toNat) (fun w' => by go_simp) rfl rfl ?_
        refine SeqA.pure (.int .i64 i) (fun w' => by go_simp) rfl rfl ?_
        simp only [Act.put, List.setIfInBounds_toArray, List.set_cons_succ, List.set_cons_zero]
        refine SeqA.call _ _ _ (fun w' => by go_simp) (fun w' hI _ => rprime_b w' i hi32) M.size rfl rfl ?_
        refine SeqA.pure (.bool true) (fun w' => by have q := hne; go_simp) rfl rfl ?_
        refine SeqA.nil (fun w1 M2 hz => ?_)
        show wpT _ _ _ _ _ _
        simp only [Act.put, List.setIfInBounds_toArray, List.set_cons_succ, List.set_cons_zero]
        dsimp only [wpT]
        go_upto_region 5 with fail
        clear hne
        have M := M2
        refine wp_region_seq 8 [15, 16, 17, 18, 19, 20, 21, 2] [] [] [] (.done) (Mm no w _) (by kernel_rfl) (by kernel_rfl) (by kernel_rfl) (fun d _ _ _ _ h => by cases d <;> exact h) (by rfl) M.size (fun _ _ h k => h.sf k) M ?_
        simp only [List.take_succ_cons, List.take_zero]
        refine SeqA.pure (.int .i64 i) (fun w' => by go_simp) rfl rfl ?_
        refine SeqA.pure (.pointer (some ⟨w.heap.size, i, none⟩)) (fun w' => by go_simp) rfl rfl ?_
        refine SeqA.read (U8 (g8 a i)) (fun w' M => by have c0 := cell_g8 (M.row (b := w.heap.size) (c := cs U8 a) (by simp)) (i := i) (by rw [HA.out]; exact hi32); go_simp) rfl rfl ?_
        refine SeqA.pure (I64 (g8 a i).toNat) (fun w' => by go_simp) rfl rfl ?_
        refine SeqA.pure (.int .i64 i) (fun w' => by go_simp) rfl rfl ?_
        simp only [Act.put, List.setIfInBounds_toArray, List.set_cons_succ, List.set_cons_zero]
        refine SeqA.call _ _ _ (fun w' => by go_simp) (fun w' hI _ => rprime_b w' i hi32) M.size rfl rfl ?_
        refine SeqA.pure (.bool (decide (prd i < (g8 a i).toNat))) (fun w' => by go_simp) rfl rfl ?_
        refine SeqA.pure (.bool (decide (prd i < (g8 a i).toNat))) (fun w' => by go_simp) rfl rfl ?_
        refine SeqA.nil (fun w1 M2 hz => ?_)
        show wpT _ _ _ _ _ _
        simp only [Act.put, List.setIfInBounds_toArray, List.set_cons_succ, List.set_cons_zero]
        dsimp only [wpT]
        go_wp2_with fail
        go_ret
        refine ⟨?_, M2.end_⟩
        rw [HR.out, cmp_ne HA.out hi32 HALL.out HPE.out]; rfl
    · have : j = 0 := by omega
      subst this
      rw [show (((0 : Nat) : Int) - 1) = -1 from rfl]
      go_wp2_with fail
      go_ret
      refine ⟨?_, M.end_⟩
      rw [HR.out, cmp_eq HA.out (fun k h => HALL.out k (Nat.zero_le _) h), decide_eq_true (Nat.le_refl _)]; rfl
set_option maxRecDepth 100000 in
set_option maxHeartbeats 2000000 in
theorem rless_any (w : World) (a : List (BitVec 8)) (ha : a.length = 32) (hP : P ≤ leN a) :
    Calls Tryd.prog 111 #[.agg (cs U8 a)] w fun e w' => e = .returned (.agg (cs U8 (kb (leN a - P)))) ∧ Below w.heap.size w w' := by
  have M0 := Mm.start no w
  have M1 := ((M0.alloc (cs U8 a) 23 (by decide)).alloc (cs U8 (zs 32)) 23 (by decide))
  simp only [World.size_alloc] at M1
  have HE := hid (ls_end ha hP); have HSP := hid (ls_spec ha); have H0 := hid (ls_zero a); have HS := hid (ls_succ a)
  clear ha hP
  go_enter Tryd.func111, Tryd.ntmps111
  go_wp2_with fail
  go_loopw [3, 4] (fun c t wr => ∃ i : Nat, i ≤ 32 ∧ t = .int .i64 i ∧ c = I64 (ls a i).2 ∧ Mm no w [(w.heap.size + 1, cs U8 (zs 32)), (w.heap.size, cs U8 (ls a i).1)] wr) (fun _ t _ => 32 - (intOf t).toNat)
  case atStart => exact ⟨0, by omega, rfl, by rw [H0.out]; rfl, by rw [H0.out]; exact M1⟩
  case round =>
    clear M1 M0
    obtain ⟨i, hi, rfl, rfl, M⟩ := hrel
    obtain ⟨hl, hc1, -⟩ := HSP.out i hi
    have hL := hid hl
    clear hl
    obtain ⟨c, hc⟩ : ∃ c, c = (ls a i).2 := ⟨_, rfl⟩
    rw [← hc] at hc1 ⊢
    have HC := hid hc
    clear hc
    by_cases hi32 : i < 32
    · obtain ⟨x, hxx⟩ : ∃ x, x = (g8 (ls a i).1 i).toNat := ⟨_, rfl⟩
      have hx : (((g8 (ls a i).1 i).toNat : Nat) : Int) = (x : Int) := by omega
      have hxl : x < 256 := by rw [hxx]; exact (g8 (ls a i).1 i).isLt
      have hpl := prd_le i
      have HXX := hid hxx; have HX := hid hx
      clear hxx hx
      have q0 : (0 : Int) ≤ i := by omega
      have q1 : (i : Int) < 32 := by omega
      go_upto_region 5 with fail
      have hx := HX.out
      refine wp_region_seq 10 [10, 11, 12, 13, 14, 15, 16, 17, 18, 5] [] [] [] (.done) (Mm no w _) (by kernel_rfl) (by kernel_rfl) (by kernel_rfl) (fun d _ _ _ _ h => by cases d <;> exact h) (by rfl) M.size (fun _ _ h k => h.sf k) M ?_
      simp only [List.take_succ_cons, List.take_zero]
      refine SeqA.pure (.int .i64 i) (fun w' => by go_simp) rfl rfl ?_
      refine SeqA.pure (.pointer (some ⟨w.heap.size, i, none⟩)) (fun w' => by go_simp) rfl rfl ?_
      refine SeqA.read (U8 (g8 (ls a i).1 i)) (fun w' M => by have c0 := cell_g8 (M.row (b := w.heap.size) (c := cs U8 (ls a i).1) (by simp)) (i := i) (by rw [hL]; exact hi32); go_simp) rfl rfl ?_
      refine SeqA.pure (I64 x) (fun w' => by have q := hx; go_simp) rfl rfl ?_
      refine SeqA.pure (.int .i64 i) (fun w' => by go_simp) rfl rfl ?_
      simp only [Act.put, List.setIfInBounds_toArray, List.set_cons_succ, List.set_cons_zero]
      refine SeqA.call _ _ _ (fun w' => by go_simp) (fun w' hI _ => rprime_b w' i hi32) M.size rfl rfl ?_
      refine SeqA.pure (.int .i64 ((x : Int) - (prd i : Int))) (fun w' => by have q := i64w ((x : Int) - (prd i : Int)) (by omega) (by omega); go_simp) rfl rfl ?_
      refine SeqA.pure (I64 c) (fun w' => by go_simp) rfl rfl ?_
      refine SeqA.pure (.int .i64 ((x : Int) - (prd i : Int) - (c : Int))) (fun w' => by have q := i64w ((x : Int) - (prd i : Int) - (c : Int)) (by omega) (by omega); go_simp) rfl rfl ?_
      refine SeqA.pure (.int .i64 ((x : Int) - (prd i : Int) - (c : Int))) (fun w' => by go_simp) rfl rfl ?_
      refine SeqA.nil (fun w1 M2 hz => ?_)
      show wpT _ _ _ _ _ _
      simp only [Act.put, List.setIfInBounds_toArray, List.set_cons_succ, List.set_cons_zero]
      dsimp only [wpT]
      go_upto_region 6 with fail
      clear hx
      obtain ⟨p, hp⟩ : ∃ p, p = prd i := ⟨_, rfl⟩
      rw [← hp] at hpl ⊢
      have HP := hid hp
      clear hp M
      have M := M2
      clear M2
      by_cases hneg : x < p + c
      · obtain ⟨m, hm⟩ : ∃ m, m = x + 256 - p - c := ⟨_, rfl⟩
        have e1 : (x : Int) - p - c < 0 := by omega
        have e2 : (x : Int) - p - c + 256 = (m : Int) := by omega
        have HM := hid hm
        have HN := hid hneg
        clear hm hneg
        go_upto_region 10 with fail
        clear e1 e2
        refine wp_region_seqF 4 [23, 24, 25, 26] [] [] [] (.op 4 .done) (Mm no w _) (by kernel_rfl) (by kernel_rfl) (fun d _ _ _ _ h => by cases d <;> exact h) (by rfl) M.size (fun _ _ h k => h.sf k) M (by kernel_rfl) ?_
        simp only [List.take_succ_cons, List.take_zero]
        refine SeqA.pure (.int .i64 i) (fun w' => by go_simp) rfl rfl ?_
        refine SeqA.pure (I64 m) (fun w' => by go_simp) rfl rfl ?_
        refine SeqA.pure (U8 (BitVec.ofNat 8 m)) (fun w' => by have q := cvi_8 (P := Tryd.prog) w' 3 5 m (by kernel_rfl) Tryd.underlying5; go_simp) rfl rfl ?_
        refine SeqA.pure (.pointer (some ⟨w.heap.size, i, none⟩)) (fun w' => by go_simp) rfl rfl ?_
        refine SeqA.nil (fun w1 M2 hz => ?_)
        show wpT _ _ _ _ _ _
        simp only [Act.put, List.setIfInBounds_toArray, List.set_cons_succ, List.set_cons_zero]
        refine wpT_stc M2 1 (U8 (BitVec.ofNat 8 m)) (cs U8 ((ls a i).1.set i (BitVec.ofNat 8 m))) inf_u8 rfl rfl rfl rfl (by go_simp) (by go_simp) (by have := (by rw [hL]; exact hi32 : i < (ls a i).1.length); first | (simp; done) | (simpa using this) | (simp; omega)) (by simp [go_sem]) (cs_set _ _) rfl (fun w3 M4 => ?_)
        dsimp only [List.set] at M4
        dsimp only [wpT]
        go_wp2_with fail
        go_roundw
        case rel => exact ⟨i + 1, by omega, by go_num, by
            rw [HS.out]
            have e : ((ls a i).1.getD i 0).toNat < prd i + (ls a i).2 := by have := HN.out; rw [HXX.out, HP.out, HC.out] at this; exact this
            show _ = I64 (if ((ls a i).1.getD i 0).toNat < prd i + (ls a i).2 then 1 else 0)
            rw [if_pos e]; rfl, by
            rw [HS.out]
            have e := HM.out
            rw [HXX.out, HP.out, HC.out] at e
            rw [e] at M4; exact M4⟩
        case measure => simp [intOf]; omega
      · obtain ⟨m, hm⟩ : ∃ m, m = x - p - c := ⟨_, rfl⟩
        have e2 : (x : Int) - p - c = (m : Int) := by omega
        have e1 : ¬ ((m : Int) < 0) := by omega
        have HM := hid hm
        have HN := hid hneg
        rw [e2]
        clear hm hneg e2
        go_upto_region 10 with fail
        clear e1
        refine wp_region_seqF 4 [23, 24, 25, 26] [] [] [] (.op 4 .done) (Mm no w _) (by kernel_rfl) (by kernel_rfl) (fun d _ _ _ _ h => by cases d <;> exact h) (by rfl) M.size (fun _ _ h k => h.sf k) M (by kernel_rfl) ?_
        simp only [List.take_succ_cons, List.take_zero]
        refine SeqA.pure (.int .i64 i) (fun w' => by go_simp) rfl rfl ?_
        refine SeqA.pure (I64 m) (fun w' => by go_simp) rfl rfl ?_
        refine SeqA.pure (U8 (BitVec.ofNat 8 m)) (fun w' => by have q := cvi_8 (P := Tryd.prog) w' 3 5 m (by kernel_rfl) Tryd.underlying5; go_simp) rfl rfl ?_
        refine SeqA.pure (.pointer (some ⟨w.heap.size, i, none⟩)) (fun w' => by go_simp) rfl rfl ?_
        refine SeqA.nil (fun w1 M2 hz => ?_)
        show wpT _ _ _ _ _ _
        simp only [Act.put, List.setIfInBounds_toArray, List.set_cons_succ, List.set_cons_zero]
        refine wpT_stc M2 1 (U8 (BitVec.ofNat 8 m)) (cs U8 ((ls a i).1.set i (BitVec.ofNat 8 m))) inf_u8 rfl rfl rfl rfl (by go_simp) (by go_simp) (by have := (by rw [hL]; exact hi32 : i < (ls a i).1.length); first | (simp; done) | (simpa using this) | (simp; omega)) (by simp [go_sem]) (cs_set _ _) rfl (fun w3 M4 => ?_)
        dsimp only [List.set] at M4
        dsimp only [wpT]
        go_wp2_with fail
        go_roundw
        case rel => exact ⟨i + 1, by omega, by go_num, by
            rw [HS.out]
            have e : ¬ ((ls a i).1.getD i 0).toNat < prd i + (ls a i).2 := by have := HN.out; rw [HXX.out, HP.out, HC.out] at this; exact this
            show _ = I64 (if ((ls a i).1.getD i 0).toNat < prd i + (ls a i).2 then 1 else 0)
            rw [if_neg e]; rfl, by
            rw [HS.out]
            have e : BitVec.ofNat 8 m = BitVec.ofNat 8 (((ls a i).1.getD i 0).toNat + 256 - prd i - (ls a i).2) := by
              have h1 := HM.out
              have h2 := HN.out
              have h3 : m + 256 = x + 256 - p - c := by omega
              rw [HXX.out, HP.out, HC.out] at h3
              apply BitVec.eq_of_toNat_eq
              rw [BitVec.toNat_ofNat, BitVec.toNat_ofNat]
              show m % 256 = (((ls a i).1.getD i 0).toNat + 256 - prd i - (ls a i).2) % 256
              have h4 : ((ls a i).1.getD i 0).toNat + 256 - prd i - (ls a i).2 = m + 256 := h3.symm
              rw [h4]; omega
            rw [e] at M4; exact M4⟩
        case measure => simp [intOf]; omega
    · have : i = 32 := by omega
      subst this
      rw [HE.out] at M
      go_upto_region 11 with fail
      have r2 := M.row (b := w.heap.size) (c := cs U8 (kb (leN a - P))) (by simp)
      have f3 := M.free (b := w.heap.size + 1) (c := cs U8 (zs 32)) (by simp)
      have r3 := M.row (b := w.heap.size + 1) (c := cs U8 (zs 32)) (by simp)
      have hkl := kb_len (leN a - P)
      go_wp2_with fail
      have M3 := M.set 0 (cs U8 (kb (leN a - P))) rfl
      dsimp only [List.set] at M3
      have r4 := M3.row (b := w.heap.size + 1) (c := cs U8 (kb (leN a - P))) (by simp)
      refine bodyPost_ret (res_row (b := w.heap.size + 1) rfl Tryd.underlying23 rfl inf_key _ _ rfl (by rw [r4]; simp)) rfl ?_
      rw [r4]
      exact ⟨rfl, M3.end_⟩
def mvk (c : Array Value) : Nat := vd (c.toList.map fun v => (intOf v).toNat)
theorem mvk_cs (l : List (BitVec 8)) : mvk (cs U8 l) = leN l := by
  unfold mvk leN
  congr 1
  simp [cs, intOf, U8, Function.comp_def]
set_option maxRecDepth 100000 in
set_option maxHeartbeats 2000000 in
theorem rcanon_any (w : World) (a : List (BitVec 8)) (ha : a.length = 32) :
    Calls Tryd.prog 94 #[.agg (cs U8 a)] w fun e w' => e = .returned (.agg (cs U8 (cn (leN a)))) ∧ Below w.heap.size w w' := by
  have M0 := Mm.start no w
  have M1 := ((M0.alloc (cs U8 a) 23 (by decide)).alloc (cs U8 (zs 32)) 23 (by decide))
  simp only [World.size_alloc] at M1
  have HK := hid (kb_leN ha); have HLT := hid (leN_lt32 ha)
  clear ha
  go_enter Tryd.func94, Tryd.ntmps94
  go_wp2_with fail
  go_loopw [4] (fun _ wr => ∃ v : Nat, v < M256 ∧ v % P = leN a % P ∧ Mm no w [(w.heap.size + 1, cs U8 (zs 32)), (w.heap.size, cs U8 (kb v))] wr) (fun _ wr => mvk (wr.rowOf w.heap.size))
  case atStart => exact ⟨leN a, HLT.out, rfl, by rw [HK.out]; exact M1⟩
  case round =>
    clear M1 M0
    obtain ⟨v, hv, hp, M⟩ := hrel
    have hmv : mvk (wr.rowOf w.heap.size) = v := by rw [M.row (b := w.heap.size) (c := cs U8 (kb v)) (by simp), mvk_cs, leN_kb hv]
    have HMV := hid hmv; have HV := hid hv; have HP := hid hp
    clear hmv hv hp
    have r1 := M.row (b := w.heap.size) (c := cs U8 (kb v)) (by simp)
    have hkl := kb_len v
    have hatl := ratl_any wr (kb v) (kb_len v)
    rw [leN_kb HV.out] at hatl
    have HATL := hid hatl
    clear hatl
    by_cases hle : P ≤ v
    · have hd : decide (P ≤ v) = true := decide_eq_true hle
      have HLE := hid hle; have HD := hid hd
      clear hle hd
      go_wp2_with fail
      with_reducible refine ((HATL.out).mono ?_)
      rintro e w2 ⟨rfl, hb2⟩
      rw [HD.out]
      have M2 := M.below hb2
      clear r1 hb2
      have r2 := M2.row (b := w.heap.size) (c := cs U8 (kb v)) (by simp)
      have hls := rless_any w2 (kb v) (kb_len v) (by rw [leN_kb HV.out]; exact HLE.out)
      rw [leN_kb HV.out] at hls
      have HLS := hid hls
      clear hls
      dsimp only
      go_wp2_with fail
      with_reducible refine ((HLS.out).mono ?_)
      rintro e w3 ⟨rfl, hb3⟩
      have M3 := M2.below hb3
      clear r2 hb3
      have r3 := M3.row (b := w.heap.size) (c := cs U8 (kb v)) (by simp)
      have f3 := M3.free (b := w.heap.size) (c := cs U8 (kb v)) (by simp)
      have hkl2 := kb_len (v - P)
      dsimp only
      go_wp2_with fail
      have M4 := M3.set 1 (cs U8 (kb (v - P))) rfl
      dsimp only [List.set] at M4
      have hlt2 : v - P < v := by have := P_pos; have := HLE.out; omega
      go_roundw
      case rel => exact ⟨v - P, by have := HV.out; omega, by rw [← HP.out]; exact (Nat.mod_eq_sub_mod (by have := HLE.out; omega)).symm, M4⟩
      case measure =>
        rw [M4.row (b := w.heap.size) (c := cs U8 (kb (v - P))) (by simp), mvk_cs, HMV.out, leN_kb (by have := HV.out; omega)]
        exact hlt2
    · have hd : decide (P ≤ v) = false := decide_eq_false hle
      have HLE := hid hle; have HD := hid hd
      clear hle hd
      go_wp2_with fail
      with_reducible refine ((HATL.out).mono ?_)
      rintro e w2 ⟨rfl, hb2⟩
      rw [HD.out]
      have M2 := M.below hb2
      clear r1 hb2
      have r2 := M2.row (b := w.heap.size) (c := cs U8 (kb v)) (by simp)
      have f3 := M2.free (b := w.heap.size + 1) (c := cs U8 (zs 32)) (by simp)
      have r3 := M2.row (b := w.heap.size + 1) (c := cs U8 (zs 32)) (by simp)
      dsimp only
      go_wp2_with fail
      have M3 := M2.set 0 (cs U8 (kb v)) rfl
      dsimp only [List.set] at M3
      have r4 := M3.row (b := w.heap.size + 1) (c := cs U8 (kb v)) (by simp)
      refine bodyPost_ret (res_row (b := w.heap.size + 1) rfl Tryd.underlying23 rfl inf_key _ _ rfl (by rw [r4]; simp)) rfl ?_
      rw [r4]
      have e : kb v = cn (leN a) := by unfold cn; rw [← HP.out, Nat.mod_eq_of_lt (by have := HLE.out; omega)]
      exact ⟨by rw [e], M3.end_⟩
end Go.Proofs.YtgclegdgngldoaaDoor
set_option linter.unusedSimpArgs false
set_option linter.unusedVariables false
namespace Go.Proofs.YtgclegdgngldoaaDoor
open Go.RowKit Fp
attribute [local irreducible] prd P aD sD mI mO carL
theorem carL_cn {l : List Nat} (h : ∀ x ∈ l, x ≤ 2147483648) (hl : l.length ≤ 64) (h32 : 32 ≤ l.length) {n : Nat} (hn : vd l % P = n % P) : (carL l).length = 32 ∧ cn (leN (carL l)) = cn n := by
  obtain ⟨h1, h2⟩ := carL_spec l h hl h32
  exact ⟨h1, cn_eq (h2.trans hn)⟩
set_option maxRecDepth 100000 in
set_option maxHeartbeats 4000000 in
theorem radd_any (w : World) (a b : List (BitVec 8)) (ha : a.length = 32) (hb : b.length = 32) :
    Calls Tryd.prog 95 #[.agg (cs U8 a), .agg (cs U8 b)] w fun e w' => e = .returned (.agg (cs U8 (cn (leN a + leN b)))) ∧ Below w.heap.size w w' := by
  have HSP := hid (aD_spec ha hb)
  have HCN := hid (carL_cn (l := aD a b 32) (fun x hx => by have := (aD_spec ha hb 32 (Nat.le_refl _)).2.1 x hx; omega) (by rw [(aD_spec ha hb 32 (Nat.le_refl _)).1]; decide) (by rw [(aD_spec ha hb 32 (Nat.le_refl _)).1]; decide) (by rw [aD_end ha hb]))
  have H0 := hid (aD_zero a b); have HS := hid (aD_succ a b)
  have M0 := Mm.start no w
  have M1 := (((M0.alloc (cs U8 a) 23 (by decide)).alloc (cs U8 b) 23 (by decide)).alloc (cs U8 (zs 32)) 23 (by decide))
  simp only [World.size_alloc] at M1
  have HA := hid ha; have HB := hid hb
  clear ha hb
  go_enter Tryd.func95, Tryd.ntmps95
  go_upto_region 1 with fail
  obtain ⟨w1, hw1⟩ : ∃ w1, w1 = (((w.alloc (.cells (cs U8 a) 23)).alloc (.cells (cs U8 b) 23)).alloc (.cells (cs U8 (zs 32)) 23)) := ⟨_, rfl⟩
  rw [← hw1] at M1 ⊢
  clear hw1
  have r1 := M1.row (b := w.heap.size) (c := cs U8 a) (by simp)
  have hal := HA.out
  go_wp2_with fail
  with_reducible refine ((rdigits_any w1 a HA.out).mono ?_)
  rintro e w2 ⟨u, rfl, hou, hb2⟩
  have hne : a.map (·.toNat) ≠ [] := by intro e; have := HA.out; rw [List.map_eq_nil_iff] at e; rw [e] at this; cases this
  obtain ⟨g, cap, R, rfl, hcap, hmx, hge, M2⟩ := M1.take hb2 hou hne
  rw [List.length_map, HA.out] at hcap ⊢
  have HCAP := hid hcap; have HMX := hid hmx
  have hcapi : (32 : Int) ≤ cap := by omega
  clear r1 hal hou hb2 hne hcap hmx hge M1 M0
  dsimp only
  go_wp2_with fail
  go_loopw [6] (fun t wr => ∃ i : Nat, i ≤ 32 ∧ t = .int .i64 i ∧ Mm no w [(g, cs I64 (aD a b i) ++ R), (w.heap.size + 1 + 1, cs U8 (zs 32)), (w.heap.size + 1, cs U8 b), (w.heap.size, cs U8 a)] wr) (fun t _ => 32 - (intOf t).toNat)
  case atStart => exact ⟨0, by omega, rfl, by rw [H0.out]; exact M2⟩
  case round =>
    clear M2
    obtain ⟨i, hi, rfl, M⟩ := hrel
    obtain ⟨hl, hle, -⟩ := HSP.out i hi
    have hL := hid hl
    by_cases hi32 : i < 32
    · have hx1 : gI (aD a b i) i ≤ 255 + i * 255 := getD_le hle i
      have hx2 := (g8 b i).isLt
      have q0 : (0 : Int) ≤ i := by omega
      have q1 : (i : Int) < 32 := by omega
      clear hle hl
      go_upto_region 5 with fail
      refine wp_region_seq 12 [13, 14, 15, 16, 17, 18, 19, 20, 21, 22, 23, 24] [] [] [] (.op 12 .done) (Mm no w _) (by kernel_rfl) (by kernel_rfl) (by kernel_rfl) (fun d _ _ _ _ h => by cases d <;> exact h) (by rfl) M.size (fun _ _ h k => h.sf k) M ?_
      simp only [List.take_succ_cons, List.take_zero]
      refine SeqA.pure (.slice (some ⟨g, 0, none⟩) 32 cap) (fun w' => by go_simp) rfl rfl ?_
      refine SeqA.pure (.int .i64 i) (fun w' => by go_simp) rfl rfl ?_
      refine SeqA.pure (.slice (some ⟨g, 0, none⟩) 32 cap) (fun w' => by go_simp) rfl rfl ?_
      refine SeqA.pure (.int .i64 i) (fun w' => by go_simp) rfl rfl ?_
      refine SeqA.pure (.pointer (some ⟨g, i, none⟩)) (fun w' => by go_simp) rfl rfl ?_
      simp only [Act.put, List.setIfInBounds_toArray, List.set_cons_succ, List.set_cons_zero]
      refine SeqA.read (I64 (gI (aD a b i) i)) (fun w' M => by have c0 := cell_gI (M.row (b := g) (c := cs I64 (aD a b i) ++ R) (by simp)) (i := i) (by rw [hL]; exact hi32); go_simp) rfl rfl ?_
      refine SeqA.pure (.int .i64 i) (fun w' => by go_simp) rfl rfl ?_
      refine SeqA.pure (.pointer (some ⟨w.heap.size + 1, i, none⟩)) (fun w' => by go_simp) rfl rfl ?_
      refine SeqA.read (U8 (g8 b i)) (fun w' M => by have c0 := cell_g8 (M.row (b := w.heap.size + 1) (c := cs U8 b) (by simp)) (i := i) (by rw [HB.out]; exact hi32); go_simp) rfl rfl ?_
      refine SeqA.pure (I64 (g8 b i).toNat) (fun w' => by go_simp) rfl rfl ?_
      refine SeqA.pure (I64 (gI (aD a b i) i + (g8 b i).toNat)) (fun w' => by have q := i64w ((gI (aD a b i) i : Int) + ((g8 b i).toNat : Int)) (by omega) (by omega); go_simp) rfl rfl ?_
      simp only [Act.put, List.setIfInBounds_toArray, List.set_cons_succ, List.set_cons_zero]
      refine SeqA.pure (.pointer (some ⟨g, i, none⟩)) (fun w' => by go_simp) rfl rfl ?_
      refine SeqA.nil (fun w1 M2 hz => ?_)
      show wpT _ _ _ _ _ _
      simp only [Act.put, List.setIfInBounds_toArray, List.set_cons_succ, List.set_cons_zero]
      refine wpT_stc M2 0 (I64 (gI (aD a b i) i + (g8 b i).toNat)) (cs I64 ((aD a b i).set i (gI (aD a b i) i + (g8 b i).toNat)) ++ R) inf_int rfl rfl rfl rfl (by go_simp) (by go_simp) (by have := (by rw [hL]; exact hi32 : i < (aD a b i).length); first | (simp; done) | (simpa using this) | (simp; omega)) (by simp [go_sem]) (set_gI (by rw [hL]; exact hi32) _) rfl (fun w3 M4 => ?_)
      dsimp only [List.set] at M4
      dsimp only [wpT]
      go_wp2_with fail
      go_roundw
      case rel => exact ⟨i + 1, by omega, by go_num, by rw [HS.out]; exact M4⟩
      case measure => simp [intOf]; omega
    · have : i = 32 := by omega
      subst this
      have HL2 := hid hl
      have HB2 := hid (fun x hx => by have := hle x hx; omega : ∀ x ∈ aD a b 32, x ≤ 2147483648)
      clear hle hl hL
      have r4 := M.row (b := w.heap.size + 1 + 1) (c := cs U8 (zs 32)) (by simp)
      clear r4
      have HI := hid (M.is (g := g) (l := (aD a b 32)) (R := R) (n := 32) (cap := cap) (by simp) (HL2.out.symm) (HCAP.out) (HMX.out))
      go_upto_region 6 with fail
      go_wp2_with fail
      with_reducible refine ((rcarried_any wr _ (aD a b 32) HI.out HB2.out (by rw [HL2.out]; decide) (by rw [HL2.out]; decide)).mono ?_)
      rintro e w5 ⟨rfl, hb5⟩
      have M5 := M.below hb5
      clear hb5
      dsimp only
      go_wp2_with fail
      with_reducible refine ((rcanon_any w5 (carL (aD a b 32)) HCN.out.1).mono ?_)
      rintro e w6 ⟨rfl, hb6⟩
      have M6 := M5.below hb6
      rw [HCN.out.2]
      have r2 := M6.row (b := w.heap.size + 1 + 1) (c := cs U8 (zs 32)) (by simp)
      have f3 := M6.free (b := w.heap.size + 1 + 1) (c := cs U8 (zs 32)) (by simp)
      have hkl := cn_len (leN a + leN b)
      clear hb6
      dsimp only
      go_wp2_with fail
      have M7 := M6.set 1 (cs U8 (cn (leN a + leN b))) rfl
      dsimp only [List.set] at M7
      have r4 := M7.row (b := w.heap.size + 1 + 1) (c := cs U8 (cn (leN a + leN b))) (by simp)
      refine bodyPost_ret (res_row (b := w.heap.size + 1 + 1) rfl Tryd.underlying23 rfl inf_key _ _ rfl (by rw [r4]; simp)) rfl ?_
      rw [r4]
      exact ⟨rfl, M7.end_⟩
set_option maxRecDepth 100000 in
set_option maxHeartbeats 4000000 in
theorem rsub_any (w : World) (a b : List (BitVec 8)) (ha : a.length = 32) (hb : b.length = 32) :
    Calls Tryd.prog 96 #[.agg (cs U8 a), .agg (cs U8 b)] w fun e w' => e = .returned (.agg (cs U8 (cn (leN a + 4 * P - leN b)))) ∧ Below w.heap.size w w' := by
  have HSP := hid (sD_spec ha hb)
  have HCN := hid (carL_cn (l := sD a b 32) (fun x hx => by have := (sD_spec ha hb 32 (Nat.le_refl _)).2.1 x hx; omega) (by rw [(sD_spec ha hb 32 (Nat.le_refl _)).1]; decide) (by rw [(sD_spec ha hb 32 (Nat.le_refl _)).1]; decide) (by rw [show vd (sD a b 32) = leN a + 4 * P - leN b by have := sD_end ha hb; omega]))
  have H0 := hid (sD_zero a b); have HS := hid (sD_succ a b)
  have M0 := Mm.start no w
  have M1 := (((M0.alloc (cs U8 a) 23 (by decide)).alloc (cs U8 b) 23 (by decide)).alloc (cs U8 (zs 32)) 23 (by decide))
  simp only [World.size_alloc] at M1
  have HA := hid ha; have HB := hid hb
  clear ha hb
  go_enter Tryd.func96, Tryd.ntmps96
  go_upto_region 1 with fail
  obtain ⟨w1, hw1⟩ : ∃ w1, w1 = (((w.alloc (.cells (cs U8 a) 23)).alloc (.cells (cs U8 b) 23)).alloc (.cells (cs U8 (zs 32)) 23)) := ⟨_, rfl⟩
  rw [← hw1] at M1 ⊢
  clear hw1
  have r1 := M1.row (b := w.heap.size) (c := cs U8 a) (by simp)
  have hal := HA.out
  go_wp2_with fail
  with_reducible refine ((rdigits_any w1 a HA.out).mono ?_)
  rintro e w2 ⟨u, rfl, hou, hb2⟩
  have hne : a.map (·.toNat) ≠ [] := by intro e; have := HA.out; rw [List.map_eq_nil_iff] at e; rw [e] at this; cases this
  obtain ⟨g, cap, R, rfl, hcap, hmx, hge, M2⟩ := M1.take hb2 hou hne
  rw [List.length_map, HA.out] at hcap ⊢
  have HCAP := hid hcap; have HMX := hid hmx
  have hcapi : (32 : Int) ≤ cap := by omega
  clear r1 hal hou hb2 hne hcap hmx hge M1 M0
  dsimp only
  go_wp2_with fail
  go_loopw [6] (fun t wr => ∃ i : Nat, i ≤ 32 ∧ t = .int .i64 i ∧ Mm no w [(g, cs I64 (sD a b i) ++ R), (w.heap.size + 1 + 1, cs U8 (zs 32)), (w.heap.size + 1, cs U8 b), (w.heap.size, cs U8 a)] wr) (fun t _ => 32 - (intOf t).toNat)
  case atStart => exact ⟨0, by omega, rfl, by rw [H0.out]; exact M2⟩
  case round =>
    clear M2
    obtain ⟨i, hi, rfl, M⟩ := hrel
    obtain ⟨hl, hle, -⟩ := HSP.out i hi
    have hL := hid hl
    by_cases hi32 : i < 32
    · have hx1 : gI (sD a b i) i ≤ 255 + i * 1020 := getD_le hle i
      have hx2 := (g8 b i).isLt
      have hp1 := prd_le i
      have hp2 := prd_ge i
      obtain ⟨m, hm⟩ : ∃ m, m = gI (sD a b i) i + 4 * prd i - (g8 b i).toNat := ⟨_, rfl⟩
      have hmI : ((gI (sD a b i) i : Int) + 4 * (prd i : Int) - ((g8 b i).toNat : Int)) = (m : Int) := by omega
      have HM := hid hmI; have HMN := hid hm
      have hml : m ≤ 100000 := by omega
      have q0 : (0 : Int) ≤ i := by omega
      have q1 : (i : Int) < 32 := by omega
      clear hle hl hm hmI
      go_upto_region 5 with fail
      refine wp_region_seq 16 [13, 14, 15, 16, 17, 18, 19, 20, 21, 22, 23, 24, 25, 26, 27, 28] [] [] [] (.op 16 .done) (Mm no w _) (by kernel_rfl) (by kernel_rfl) (by kernel_rfl) (fun d _ _ _ _ h => by cases d <;> exact h) (by rfl) M.size (fun _ _ h k => h.sf k) M ?_
      simp only [List.take_succ_cons, List.take_zero]
      refine SeqA.pure (.slice (some ⟨g, 0, none⟩) 32 cap) (fun w' => by go_simp) rfl rfl ?_
      refine SeqA.pure (.int .i64 i) (fun w' => by go_simp) rfl rfl ?_
      refine SeqA.pure (.slice (some ⟨g, 0, none⟩) 32 cap) (fun w' => by go_simp) rfl rfl ?_
      refine SeqA.pure (.int .i64 i) (fun w' => by go_simp) rfl rfl ?_
      refine SeqA.pure (.pointer (some ⟨g, i, none⟩)) (fun w' => by go_simp) rfl rfl ?_
      simp only [Act.put, List.setIfInBounds_toArray, List.set_cons_succ, List.set_cons_zero]
      refine SeqA.read (I64 (gI (sD a b i) i)) (fun w' M => by have c0 := cell_gI (M.row (b := g) (c := cs I64 (sD a b i) ++ R) (by simp)) (i := i) (by rw [hL]; exact hi32); go_simp) rfl rfl ?_
      refine SeqA.pure (.int .i64 i) (fun w' => by go_simp) rfl rfl ?_
      refine SeqA.call _ _ _ (fun w' => by go_simp) (fun w' hI _ => rprime_b w' i hi32) M.size rfl rfl ?_
      refine SeqA.pure (I64 (4 * prd i)) (fun w' => by have q := i64w (4 * (prd i : Int)) (by omega) (by omega); go_simp) rfl rfl ?_
      refine SeqA.pure (I64 (gI (sD a b i) i + 4 * prd i)) (fun w' => by have q := i64w ((gI (sD a b i) i : Int) + 4 * (prd i : Int)) (by omega) (by omega); go_simp) rfl rfl ?_
      refine SeqA.pure (.int .i64 i) (fun w' => by go_simp) rfl rfl ?_
      simp only [Act.put, List.setIfInBounds_toArray, List.set_cons_succ, List.set_cons_zero]
      refine SeqA.pure (.pointer (some ⟨w.heap.size + 1, i, none⟩)) (fun w' => by go_simp) rfl rfl ?_
      refine SeqA.read (U8 (g8 b i)) (fun w' M => by have c0 := cell_g8 (M.row (b := w.heap.size + 1) (c := cs U8 b) (by simp)) (i := i) (by rw [HB.out]; exact hi32); go_simp) rfl rfl ?_
      refine SeqA.pure (I64 (g8 b i).toNat) (fun w' => by go_simp) rfl rfl ?_
      refine SeqA.pure (I64 m) (fun w' => by have q := HM.out; have q2 := i64w (m : Int) (by omega) (by omega); go_simp) rfl rfl ?_
      refine SeqA.pure (.pointer (some ⟨g, i, none⟩)) (fun w' => by go_simp) rfl rfl ?_
      refine SeqA.nil (fun w1 M2 hz => ?_)
      show wpT _ _ _ _ _ _
      simp only [Act.put, List.setIfInBounds_toArray, List.set_cons_succ, List.set_cons_zero]
      refine wpT_stc M2 0 (I64 m) (cs I64 ((sD a b i).set i m) ++ R) inf_int rfl rfl rfl rfl (by go_simp) (by go_simp) (by have := (by rw [hL]; exact hi32 : i < (sD a b i).length); first | (simp; done) | (simpa using this) | (simp; omega)) (by simp [go_sem]) (set_gI (by rw [hL]; exact hi32) _) rfl (fun w3 M4 => ?_)
      dsimp only [List.set] at M4
      dsimp only [wpT]
      go_wp2_with fail
      go_roundw
      case rel => exact ⟨i + 1, by omega, by go_num, by
          rw [HS.out]
          have e := HMN.out
          rw [e] at M4; exact M4⟩
      case measure => simp [intOf]; omega
    · have : i = 32 := by omega
      subst this
      have HL2 := hid hl
      have HB2 := hid (fun x hx => by have := hle x hx; omega : ∀ x ∈ sD a b 32, x ≤ 2147483648)
      clear hle hl hL
      have r4 := M.row (b := w.heap.size + 1 + 1) (c := cs U8 (zs 32)) (by simp)
      clear r4
      have HI := hid (M.is (g := g) (l := (sD a b 32)) (R := R) (n := 32) (cap := cap) (by simp) (HL2.out.symm) (HCAP.out) (HMX.out))
      go_upto_region 6 with fail
      go_wp2_with fail
      with_reducible refine ((rcarried_any wr _ (sD a b 32) HI.out HB2.out (by rw [HL2.out]; decide) (by rw [HL2.out]; decide)).mono ?_)
      rintro e w5 ⟨rfl, hb5⟩
      have M5 := M.below hb5
      clear hb5
      dsimp only
      go_wp2_with fail
      with_reducible refine ((rcanon_any w5 (carL (sD a b 32)) HCN.out.1).mono ?_)
      rintro e w6 ⟨rfl, hb6⟩
      have M6 := M5.below hb6
      rw [HCN.out.2]
      have r2 := M6.row (b := w.heap.size + 1 + 1) (c := cs U8 (zs 32)) (by simp)
      have f3 := M6.free (b := w.heap.size + 1 + 1) (c := cs U8 (zs 32)) (by simp)
      have hkl := cn_len (leN a + 4 * P - leN b)
      clear hb6
      dsimp only
      go_wp2_with fail
      have M7 := M6.set 1 (cs U8 (cn (leN a + 4 * P - leN b))) rfl
      dsimp only [List.set] at M7
      have r4 := M7.row (b := w.heap.size + 1 + 1) (c := cs U8 (cn (leN a + 4 * P - leN b))) (by simp)
      refine bodyPost_ret (res_row (b := w.heap.size + 1 + 1) rfl Tryd.underlying23 rfl inf_key _ _ rfl (by rw [r4]; simp)) rfl ?_
      rw [r4]
      exact ⟨rfl, M7.end_⟩
def z64 : List Nat := List.replicate 64 0
theorem rd_mk64 (w : World) : (Instr.makeSlice 133 (.int .i64 64) (.int .i64 64)).run Tryd.prog w = .ok (.slice (some ⟨w.heap.size, 0, none⟩) 64 64) (w.alloc (.cells (cs I64 z64 ++ #[]) 3)) := by kernel_rfl
set_option maxRecDepth 100000 in
set_option maxHeartbeats 4000000 in
theorem rmul_any (w : World) (a b : List (BitVec 8)) (ha : a.length = 32) (hb : b.length = 32) :
    Calls Tryd.prog 77 #[.agg (cs U8 a), .agg (cs U8 b)] w fun e w' => e = .returned (.agg (cs U8 (cn (leN a * leN b)))) ∧ Below w.heap.size w w' := by
  have HSP := hid (mO_spec ha hb)
  have HCN := hid (carL_cn (l := mO a b 32) (fun x hx => by have := (mO_spec ha hb 32 (Nat.le_refl _)).2.1 x hx; omega) (by rw [(mO_spec ha hb 32 (Nat.le_refl _)).1]; decide) (by rw [(mO_spec ha hb 32 (Nat.le_refl _)).1]; decide) (by rw [mO_end ha hb]))
  have HO0 := hid (mO_zero a b); have HOS := hid (mO_succ a b)
  have M0 := Mm.start no w
  have M1 := (((M0.alloc (cs U8 a) 23 (by decide)).alloc (cs U8 b) 23 (by decide)).alloc (cs U8 (zs 32)) 23 (by decide))
  simp only [World.size_alloc] at M1
  have HA := hid ha; have HB := hid hb
  clear ha hb
  go_enter Tryd.func77, Tryd.ntmps77
  go_upto_region 1 with fail
  obtain ⟨w1, hw1⟩ : ∃ w1, w1 = (((w.alloc (.cells (cs U8 a) 23)).alloc (.cells (cs U8 b) 23)).alloc (.cells (cs U8 (zs 32)) 23)) := ⟨_, rfl⟩
  rw [← hw1] at M1 ⊢
  clear hw1
  have hmk := rd_mk64
  obtain ⟨R, hR⟩ : ∃ R, R = (#[] : Array Value) := ⟨_, rfl⟩
  rw [← hR] at hmk
  have M2 := M1.alloc (cs I64 z64 ++ R) 3 (by decide)
  obtain ⟨g, hg⟩ : ∃ b, b = w1.heap.size := ⟨_, rfl⟩
  clear hR
  go_upto_region 2 with fail
  obtain ⟨w2, hw2⟩ : ∃ w2, w2 = w1.alloc (.cells (cs I64 z64 ++ R) 3) := ⟨_, rfl⟩
  rw [← hg, ← hw2] at M2
  rw [← hg, ← hw2]
  clear hg hw2 hmk M1 M0
  go_wp2_with fail
  go_loopw [6] (fun t wr => ∃ i : Nat, i ≤ 32 ∧ t = .int .i64 i ∧ Mm no w [(g, cs I64 (mO a b i) ++ R), (w.heap.size + 1 + 1, cs U8 (zs 32)), (w.heap.size + 1, cs U8 b), (w.heap.size, cs U8 a)] wr) (fun t _ => 32 - (intOf t).toNat)
  case atStart => exact ⟨0, by omega, rfl, by rw [HO0.out]; exact M2⟩
  case round =>
    clear M2
    obtain ⟨i, hi, rfl, M⟩ := hrel
    obtain ⟨hl, hle, -⟩ := HSP.out i hi
    by_cases hi32 : i < 32
    · obtain ⟨x, hx⟩ : ∃ x, x = (a.getD i 0).toNat := ⟨_, rfl⟩
      have hxl : x ≤ 255 := by rw [hx]; have := (a.getD i 0).isLt; omega
      have HMI := hid (mI_spec (b := b) (i := i) (x := x) hl HB.out hi32 hxl hle)
      obtain ⟨L, hLL⟩ : ∃ L, L = mO a b i := ⟨_, rfl⟩
      rw [← hLL] at HMI M
      have HLL := hid hLL
      have HI0 := hid (mI_zero L b i x); have HIS := hid (mI_succ L b i x)
      have hxI : ((g8 a i).toNat : Int) = (x : Int) := by rw [hx]; rfl
      have HX := hid hxI; have HXN := hid hx
      have q0 : (0 : Int) ≤ i := by omega
      have q1 : (i : Int) < 32 := by omega
      clear hl hle hx hxI hLL
      go_wp2_with fail
      obtain ⟨wo, hwo⟩ : ∃ wo, wo = wr := ⟨_, rfl⟩
      rw [← hwo] at M ⊢
      clear hwo
      go_loopw [7] (fun t wr => ∃ k : Nat, k ≤ 32 ∧ t = .int .i64 k ∧ Mm no w [(g, cs I64 (mI L b i x k) ++ R), (w.heap.size + 1 + 1, cs U8 (zs 32)), (w.heap.size + 1, cs U8 b), (w.heap.size, cs U8 a)] wr) (fun t _ => 32 - (intOf t).toNat)
      case atStart => exact ⟨0, by omega, rfl, by rw [HI0.out]; exact M⟩
      case round =>
        clear M
        obtain ⟨k, hk, rfl, M⟩ := hrel
        obtain ⟨hl, hle, -⟩ := HMI.out k hk
        have hL := hid hl
        by_cases hk32 : k < 32
        · obtain ⟨j, hj⟩ : ∃ j, j = i + k := ⟨_, rfl⟩
          have hj64 : j < 64 := by omega
          have hjI : ((i : Int) + (k : Int)) = (j : Int) := by omega
          have hx1 : gI (mI L b i x k) j ≤ i * 2080800 + k * 65025 := getD_le hle j
          obtain ⟨m, hm⟩ : ∃ m, m = x * (g8 b k).toNat := ⟨_, rfl⟩
          have hx2 := (g8 b k).isLt
          have hml : m ≤ 255 * 255 := by rw [hm]; exact Nat.mul_le_mul hxl (by omega)
          have hmI : ((x : Int) * ((g8 b k).toNat : Int)) = (m : Int) := by rw [hm]; simp
          have HM := hid hmI; have HJ := hid hjI; have HMN := hid hm; have HJN := hid hj
          have p0 : (0 : Int) ≤ k := by omega
          have p1 : (k : Int) < 32 := by omega
          have p2 : (j : Int) < 64 := by omega
          clear hl hle hm hmI hj hjI
          go_upto_region 8 with fail
          have hxl2 := hxl
          refine wp_region_seq 21 [17, 18, 19, 20, 21, 22, 23, 24, 25, 26, 27, 28, 29, 30, 31, 32, 33, 34, 35, 36, 37] [] [] [] (.op 21 .done) (Mm no w _) (by kernel_rfl) (by kernel_rfl) (by kernel_rfl) (fun d _ _ _ _ h => by cases d <;> exact h) (by rfl) M.size (fun _ _ h k => h.sf k) M ?_
          simp only [List.take_succ_cons, List.take_zero]
          refine SeqA.pure (.slice (some ⟨g, 0, none⟩) 64 64) (fun w' => by go_simp) rfl rfl ?_
          refine SeqA.pure (.int .i64 i) (fun w' => by go_simp) rfl rfl ?_
          refine SeqA.pure (.int .i64 k) (fun w' => by go_simp) rfl rfl ?_
          refine SeqA.pure (.int .i64 j) (fun w' => by have q := HJ.out; have q2 := i64w (j : Int) (by omega) (by omega); go_simp) rfl rfl ?_
          refine SeqA.pure (.slice (some ⟨g, 0, none⟩) 64 64) (fun w' => by go_simp) rfl rfl ?_
          simp only [Act.put, List.setIfInBounds_toArray, List.set_cons_succ, List.set_cons_zero]
          refine SeqA.pure (.int .i64 i) (fun w' => by go_simp) rfl rfl ?_
          refine SeqA.pure (.int .i64 k) (fun w' => by go_simp) rfl rfl ?_
          refine SeqA.pure (.int .i64 j) (fun w' => by have q := HJ.out; have q2 := i64w (j : Int) (by omega) (by omega); go_simp) rfl rfl ?_
          refine SeqA.pure (.pointer (some ⟨g, j, none⟩)) (fun w' => by go_simp) rfl rfl ?_
          refine SeqA.read (I64 (gI (mI L b i x k) j)) (fun w' M => by have c0 := cell_gI (M.row (b := g) (c := cs I64 (mI L b i x k) ++ R) (by simp)) (i := j) (by rw [hL]; exact hj64); go_simp) rfl rfl ?_
          refine SeqA.pure (.int .i64 i) (fun w' => by go_simp) rfl rfl ?_
          simp only [Act.put, List.setIfInBounds_toArray, List.set_cons_succ, List.set_cons_zero]
          refine SeqA.pure (.pointer (some ⟨w.heap.size, i, none⟩)) (fun w' => by go_simp) rfl rfl ?_
          refine SeqA.read (U8 (g8 a i)) (fun w' M => by have c0 := cell_g8 (M.row (b := w.heap.size) (c := cs U8 a) (by simp)) (i := i) (by rw [HA.out]; exact hi32); go_simp) rfl rfl ?_
          refine SeqA.pure (I64 x) (fun w' => by have q := HX.out; go_simp) rfl rfl ?_
          refine SeqA.pure (.int .i64 k) (fun w' => by go_simp) rfl rfl ?_
          refine SeqA.pure (.pointer (some ⟨w.heap.size + 1, k, none⟩)) (fun w' => by go_simp) rfl rfl ?_
          refine SeqA.read (U8 (g8 b k)) (fun w' M => by have c0 := cell_g8 (M.row (b := w.heap.size + 1) (c := cs U8 b) (by simp)) (i := k) (by rw [HB.out]; exact hk32); go_simp) rfl rfl ?_
          simp only [Act.put, List.setIfInBounds_toArray, List.set_cons_succ, List.set_cons_zero]
          refine SeqA.pure (I64 (g8 b k).toNat) (fun w' => by go_simp) rfl rfl ?_
          refine SeqA.pure (I64 m) (fun w' => by have q := HM.out; have q2 := i64w (m : Int) (by omega) (by omega); go_simp) rfl rfl ?_
          refine SeqA.pure (I64 (gI (mI L b i x k) j + m)) (fun w' => by have q := i64w ((gI (mI L b i x k) j : Int) + (m : Int)) (by omega) (by omega); go_simp) rfl rfl ?_
          refine SeqA.pure (.pointer (some ⟨g, j, none⟩)) (fun w' => by go_simp) rfl rfl ?_
          refine SeqA.nil (fun w1 M2 hz => ?_)
          show wpT _ _ _ _ _ _
          simp only [Act.put, List.setIfInBounds_toArray, List.set_cons_succ, List.set_cons_zero]
          refine wpT_stc M2 0 (I64 (gI (mI L b i x k) j + m)) (cs I64 ((mI L b i x k).set j (gI (mI L b i x k) j + m)) ++ R) inf_int rfl rfl rfl rfl (by go_simp) (by go_simp) (by have := (by rw [hL]; exact hj64 : j < (mI L b i x k).length); first | (simp; done) | (simpa using this) | (simp; omega)) (by simp [go_sem]) (set_gI (by rw [hL]; exact hj64) _) rfl (fun w3 M4 => ?_)
          dsimp only [List.set] at M4
          dsimp only [wpT]
          go_wp2_with fail
          go_roundw
          case rel => exact ⟨k + 1, by omega, by go_num, by
              rw [HIS.out]
              have e := HMN.out
              rw [e, HJN.out] at M4; exact M4⟩
          case measure => simp [intOf]; omega
        · have : k = 32 := by omega
          subst this
          rw [show ((32 : Nat) : Int) = 32 from rfl]
          go_wp2_with fail
          go_roundw
          case rel => exact ⟨i + 1, by omega, by go_num, by rw [HOS.out, ← HLL.out, ← HXN.out]; exact M⟩
          case measure => simp [intOf]; omega
    · have : i = 32 := by omega
      subst this
      have HL2 := hid hl
      have HB2 := hid (fun x hx => by have := hle x hx; omega : ∀ x ∈ mO a b 32, x ≤ 2147483648)
      clear hle hl
      have r4 := M.row (b := w.heap.size + 1 + 1) (c := cs U8 (zs 32)) (by simp)
      clear r4
      have HI := hid (M.is (g := g) (l := (mO a b 32)) (R := R) (n := 64) (cap := 64) (by simp) (HL2.out.symm) (Nat.le_refl _) (by decide))
      go_upto_region 9 with fail
      go_wp2_with fail
      with_reducible refine ((rcarried_any wr _ (mO a b 32) HI.out HB2.out (by rw [HL2.out]; decide) (by rw [HL2.out]; decide)).mono ?_)
      rintro e w5 ⟨rfl, hb5⟩
      have M5 := M.below hb5
      clear hb5
      dsimp only
      go_wp2_with fail
      with_reducible refine ((rcanon_any w5 (carL (mO a b 32)) HCN.out.1).mono ?_)
      rintro e w6 ⟨rfl, hb6⟩
      have M6 := M5.below hb6
      rw [HCN.out.2]
      have r2 := M6.row (b := w.heap.size + 1 + 1) (c := cs U8 (zs 32)) (by simp)
      have f3 := M6.free (b := w.heap.size + 1 + 1) (c := cs U8 (zs 32)) (by simp)
      have hkl := cn_len (leN a * leN b)
      clear hb6
      dsimp only
      go_wp2_with fail
      have M7 := M6.set 1 (cs U8 (cn (leN a * leN b))) rfl
      dsimp only [List.set] at M7
      have r4 := M7.row (b := w.heap.size + 1 + 1) (c := cs U8 (cn (leN a * leN b))) (by simp)
      refine bodyPost_ret (res_row (b := w.heap.size + 1 + 1) rfl Tryd.underlying23 rfl inf_key _ _ rfl (by rw [r4]; simp)) rfl ?_
      rw [r4]
      exact ⟨rfl, M7.end_⟩
end Go.Proofs.YtgclegdgngldoaaDoor
