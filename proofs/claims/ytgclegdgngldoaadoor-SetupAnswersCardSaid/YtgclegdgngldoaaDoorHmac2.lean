/-
  Walks of package hmac: the code; own work.
-/
import Derived.Test.YtgclegdgngldoaaDoorHmac1
set_option linter.unusedSimpArgs false
set_option linter.unusedVariables false
namespace Go.Proofs.YtgclegdgngldoaaDoor
open Go.RowKit

theorem BS.row {w : World} {g n : Nat} {L : List (BitVec 8)} (hr : w.rowOf g = cs U8 L) (hn : L.length = n) (hm : n ≤ maxLen) : BS w (.slice (some ⟨g, 0, none⟩) n n) L := by
  subst hn
  refine ⟨_, L.length, rfl, Nat.le_refl _, hm, fun _ => ⟨g, 0, rfl, fun i hi => ?_⟩⟩
  rw [cell_rowOf, hr]; simp [cs]
theorem ob_ne {g c n m b : Nat} (h : g ≠ b) : (Value.slice (some ⟨g, c, none⟩) n m).ownBlock ≠ some b := by
  intro e; cases c <;> simp [Value.ownBlock] at e <;> exact h e
theorem pad_lit (c : Int) (x : BitVec 8) (hc : U8 x = .int .u8 c) (w : World) (v : Value) (l : List (BitVec 8)) (hv : BS w v l) (hn : l.length ≤ 64) :
    Calls Tryd.prog 88 #[v, .int .u8 c] w fun e w' => ∃ u, e = .returned u ∧ OB w' w.heap.size u (Sh.padB l x) ∧ Below w.heap.size w w' := by rw [← hc]; exact pad_any w v l x hv hn
theorem pad_sep {w w' : World} {b : Nat} {u : Value} {l : List (BitVec 8)} (h : OB w' w.heap.size u l) (hb : b < w.heap.size) : l = [] ∨ u.ownBlock ≠ some b := .inr (fun e => by have := (h.lt b e).1; omega)
theorem sumfnD {w : World} {v : Value} {l D : List (BitVec 8)} (hD : D = Sh.sum l) (hK : KT w) (hk0 : 0 < w.heap.size) (hv : BS w v l) (hn : l.length ≤ 1073741824) :
    Calls Tryd.prog 85 #[v] w fun e w' => e = .returned (.agg (cs U8 D)) ∧ Below w.heap.size w w' := by
  rw [hD]; exact sum_any w v l hK hk0 hv hn
set_option maxRecDepth 100000 in
set_option maxHeartbeats 4000000 in
theorem mac_any (w : World) (v0 v1 : Value) (k m : List (BitVec 8)) (hT : KT w) (hk0 : 0 < w.heap.size) (h0 : BS w v0 k) (h1 : BS w v1 m) (hkl : k.length ≤ 1073741000) (hml : m.length ≤ 1073741000) :
    Calls Tryd.prog 64 #[v0, v1] w fun e w' => e = .returned (.agg (cs U8 (Sh.mac k m))) ∧ Below w.heap.size w w' := by
  obtain ⟨n, hn⟩ : ∃ n, n = k.length := ⟨_, rfl⟩
  obtain ⟨av, cv, rfl, hcv⟩ := h0.shape' n hn.symm
  have HN := hid hn
  obtain ⟨D, hD⟩ : ∃ D, D = Sh.sum (Sh.padB (Sh.key0 k) 54 ++ m) := ⟨_, rfl⟩
  have hDl : D.length = 32 := by rw [hD]; rfl
  obtain ⟨E, hE⟩ : ∃ E, E = Sh.sum (Sh.padB (Sh.key0 k) 92 ++ D) := ⟨_, rfl⟩
  have hEl : E.length = 32 := by rw [hE]; rfl
  have hmac : Sh.mac k m = E := by rw [hE, hD]; rfl
  have hp1 : (Sh.padB (Sh.key0 k) 54).length = 64 := Sh.padB_len _ _ (Sh.key0_len k)
  have hp2 : (Sh.padB (Sh.key0 k) 92).length = 64 := Sh.padB_len _ _ (Sh.key0_len k)
  have hkk := Sh.key0_len k
  rw [hmac]
  have HD := hid hD; have HE := hid hE; have HP1 := hid hp1; have HP2 := hid hp2; have HKK := hid hkk
  have ha : Below w.heap.size w (w.alloc (.cells (cs U8 (zs 32)) 23)) := (Below.refl _ _).alloc (Nat.le_refl _) _
  have hra : (w.alloc (.cells (cs U8 (zs 32)) 23)).rowOf w.heap.size = cs U8 (zs 32) := rowOf_alloc_at _ _ _ rfl
  have hfa : (w.alloc (.cells (cs U8 (zs 32)) 23)).free w.heap.size = true := free_alloc_at _ _ _ rfl
  have hsa : (w.alloc (.cells (cs U8 (zs 32)) 23)).heap.size = w.heap.size + 1 := by simp
  obtain ⟨wa, hwa⟩ : ∃ wa, wa = w.alloc (.cells (cs U8 (zs 32)) 23) := ⟨_, rfl⟩
  rw [← hwa] at ha hra hfa hsa
  have HWA := hid hwa
  clear hD hE hp1 hp2 hmac hn hwa hkk
  have HT : Hid (∀ wx, Below (w.heap.size + 1) wa wx → KT wx) := hid fun wx h => (hT.below ha hk0).below h (by omega)
  have HV1 : Hid (∀ wx, Below (w.heap.size + 1) wa wx → BS wx v1 m) := hid fun wx h => SV.below (SV.below h1 ha) (by rw [hsa]; exact h)
  have HS1 : Hid (∀ b, w.heap.size ≤ b → m = [] ∨ v1.ownBlock ≠ some b) := hid fun b hb => by
    by_cases hl : m = []
    · exact .inl hl
    · exact .inr (fun e => by have := SV.lt h1 b e (by simpa using hl); omega)
  have hva : BS wa (.slice av n cv) k := SV.below h0 ha
  by_cases h64 : (64 : Int) < n
  · obtain ⟨K, hK⟩ : ∃ K, K = Sh.sum k := ⟨_, rfl⟩
    have hKl : K.length = 32 := by rw [hK]; rfl
    have hkey : Sh.key0 k = K := by rw [hK]; unfold Sh.key0; rw [if_pos (by rw [← HN.out]; omega)]
    have HK := hid hK
    clear hK
    go_enter Tryd.func64, Tryd.ntmps64
    go_wp2_with fail
    rw [← HWA.out]
    with_reducible refine (sumfnD (D := K) HK.out (HT.out wa (Below.refl _ _)) (by omega) hva (by rw [← HN.out] at hkl; rw [← HN.out]; omega)).mono ?_
    rintro e wc ⟨rfl, hbc⟩
    dsimp only
    go_wp2_with fail
    obtain ⟨wb, hwb⟩ : ∃ wb, wb = wc.alloc (.cells (cs U8 K) 23) := ⟨_, rfl⟩
    have hrb : wb.rowOf wc.heap.size = cs U8 K := by rw [hwb]; exact rowOf_alloc_at _ _ _ rfl
    have hbb : Below wc.heap.size wc wb := by rw [hwb]; exact (Below.refl _ _).alloc (Nat.le_refl _) _
    rw [← hwb]
    clear hwb
    have hvk : BS wb (Value.slice (some ⟨wc.heap.size, 0, none⟩) 32 32) (Sh.key0 k) := by rw [hkey]; exact BS.row hrb hKl (by unfold maxLen; decide)
    have hzc := hbc.size
    have hBb : Below (w.heap.size + 1) wa wb := by rw [← hsa]; exact hbc.trans (hbb.mono hzc)
    have hzb : w.heap.size + 1 ≤ wb.heap.size := by have := hbb.size; omega

    -- now at New, in the world wb, the key in vk
    with_reducible refine (newS wb).mono ?_
    rintro e w1 ⟨b, rfl, hb, hs1, hb1⟩
    have hB1 : Below (w.heap.size + 1) wa w1 := hBb.trans (hb1.mono hzb)
    have hz1 := hb1.size
    have hl1 := hs1.lt
    have hvk1 : BS w1 (Value.slice (some ⟨wc.heap.size, 0, none⟩) 32 32) (Sh.key0 k) := hvk.below hb1
    dsimp only
    go_wp2_with fail
    with_reducible refine (pad_lit 54 54 rfl w1 (Value.slice (some ⟨wc.heap.size, 0, none⟩) 32 32) (Sh.key0 k) hvk1 HKK.out).mono ?_
    rintro e w2 ⟨u2, rfl, ho2, hb2⟩
    have hs2 := hs1.below hb2
    have hB2 := hB1.trans (hb2.mono (by omega))
    have hz2 := hb2.size
    dsimp only
    go_wp2_with fail
    with_reducible refine (writeS u2 _ (HT.out w2 hB2) (by omega) hs2 ho2.bs (pad_sep ho2 hl1) (by rw [HP1.out]; simp)).mono ?_
    rintro e w3 ⟨rfl, rv3, hs3, hf3, hg3⟩
    have hB3 := hB2.trans (hs_below hs2 hf3 (by omega : w.heap.size + 1 ≤ b))
    have hz3 := hf3.size
    rw [List.nil_append] at hs3
    dsimp only
    go_wp2_with fail
    with_reducible refine (writeS v1 m (HT.out w3 hB3) (by omega) hs3 (HV1.out w3 hB3) (HS1.out b (by omega)) (by rw [HP1.out]; omega)).mono ?_
    rintro e w4 ⟨rfl, rv4, hs4, hf4, hg4⟩
    have hB4 := hB3.trans (hs_below hs3 hf4 (by omega : w.heap.size + 1 ≤ b))
    have hz4 := hf4.size
    dsimp only
    go_wp2_with fail
    with_reducible refine (sumD HD.out (HT.out w4 hB4) (by omega) hs4 (by rw [List.length_append, HP1.out]; omega)).mono ?_
    rintro e w5 ⟨rfl, hb5⟩
    have hB5 := hB4.trans (hb5.mono (by omega))
    have hz5 := hb5.size
    dsimp only
    go_wp2_with fail
    have hc6 : Below w5.heap.size w5 (w5.alloc (.cells (cs U8 D) 23)) := (Below.refl _ _).alloc (Nat.le_refl _) _
    have hr6 : (w5.alloc (.cells (cs U8 D) 23)).rowOf w5.heap.size = cs U8 D := rowOf_alloc_at _ _ _ rfl
    have hs6 : (w5.alloc (.cells (cs U8 D) 23)).heap.size = w5.heap.size + 1 := by simp
    obtain ⟨w6, hw6⟩ : ∃ w6, w6 = w5.alloc (.cells (cs U8 D) 23) := ⟨_, rfl⟩
    rw [← hw6] at hc6 hr6 hs6
    rw [← hw6]
    clear hw6
    have hB6 := hB5.trans (hc6.mono (by omega))
    with_reducible refine (newS w6).mono ?_
    rintro e w7 ⟨b2, rfl, hb', hs7, hb7⟩
    have hB7 := hB6.trans (hb7.mono (by omega))
    have hz7 := hb7.size
    have hl7 := hs7.lt
    have hvk7 : BS w7 (Value.slice (some ⟨wc.heap.size, 0, none⟩) 32 32) (Sh.key0 k) := by
      have e1 : Below wb.heap.size wb w7 := ((((((hb1.trans (hb2.mono hz1)).trans (hs_below hs2 hf3 hb)).trans (hs_below hs3 hf4 hb)).trans (hb5.mono (by omega))).trans (hc6.mono (by omega))).trans (hb7.mono (by omega)))
      exact hvk.below e1
    dsimp only
    go_wp2_with fail
    with_reducible refine (pad_lit 92 92 rfl w7 (Value.slice (some ⟨wc.heap.size, 0, none⟩) 32 32) (Sh.key0 k) hvk7 HKK.out).mono ?_
    rintro e w8 ⟨u8, rfl, ho8, hb8⟩
    have hs8 := hs7.below hb8
    have hB8 := hB7.trans (hb8.mono (by omega))
    have hz8 := hb8.size
    dsimp only
    go_wp2_with fail
    with_reducible refine (writeS u8 _ (HT.out w8 hB8) (by omega) hs8 ho8.bs (pad_sep ho8 hl7) (by rw [HP2.out]; simp)).mono ?_
    rintro e w9 ⟨rfl, rv9, hs9, hf9, hg9⟩
    have hB9 := hB8.trans (hs_below hs8 hf9 (by omega : w.heap.size + 1 ≤ b2))
    have hz9 := hf9.size
    rw [List.nil_append] at hs9
    have hr9 : w9.rowOf w5.heap.size = cs U8 D := (below_row ((hb7.trans (hb8.mono (by omega))).trans (hs_below hs8 hf9 hb')) (by omega)).trans hr6
    have hbs9 : BS w9 (.slice (some ⟨w5.heap.size, 0, none⟩) 32 32) D := BS.row hr9 hDl (by unfold maxLen; decide)
    dsimp only
    go_wp2_with fail
    with_reducible refine (writeS _ D (HT.out w9 hB9) (by omega) hs9 hbs9 (.inr (ob_ne (by omega))) (by rw [HP2.out, hDl]; decide)).mono ?_
    rintro e w10 ⟨rfl, rv10, hs10, hf10, hg10⟩
    have hB10 := hB9.trans (hs_below hs9 hf10 (by omega : w.heap.size + 1 ≤ b2))
    have hz10 := hf10.size
    dsimp only
    go_wp2_with fail
    with_reducible refine (sumD HE.out (HT.out w10 hB10) (by omega) hs10 (by rw [List.length_append, HP2.out, hDl]; decide)).mono ?_
    rintro e w11 ⟨rfl, hb11⟩
    have hB11 := hB10.trans (hb11.mono (by omega))
    have q1 : w11.rowOf w.heap.size = cs U8 (zs 32) := (below_row hB11 (by omega)).trans hra
    have q2 : w11.free w.heap.size = true := (below_free hB11 (by omega)).trans hfa
    have HB11 := hid hB11
    clear hB11 hra hfa
    dsimp only
    go_wp2_with fail
    refine bodyPost_ret (res_row (b := w.heap.size) rfl Tryd.underlying23 rfl inf_key _ _ rfl ?_) rfl ?_
    · rw [rowOf_setRow_same _ q2]; simp [hEl]
    · rw [rowOf_setRow_same _ q2]
      exact ⟨rfl, below_setRow' (ha.trans (HB11.out.mono (by omega))) (Nat.le_refl _) _⟩
  · have hkey : Sh.key0 k = k := by unfold Sh.key0; rw [if_neg (by rw [← HN.out]; omega)]
    go_enter Tryd.func64, Tryd.ntmps64
    go_wp2_with fail
    rw [← HWA.out]
    obtain ⟨wb, hwb⟩ : ∃ wb, wb = wa := ⟨_, rfl⟩
    have hvk : BS wb (Value.slice av n cv) (Sh.key0 k) := by rw [hwb, hkey]; exact hva
    have hBb : Below (w.heap.size + 1) wa wb := by rw [hwb]; exact Below.refl _ _
    have hzb : w.heap.size + 1 ≤ wb.heap.size := by rw [hwb]; omega
    rw [← hwb]

    -- now at New, in the world wb, the key in vk
    with_reducible refine (newS wb).mono ?_
    rintro e w1 ⟨b, rfl, hb, hs1, hb1⟩
    have hB1 : Below (w.heap.size + 1) wa w1 := hBb.trans (hb1.mono hzb)
    have hz1 := hb1.size
    have hl1 := hs1.lt
    have hvk1 : BS w1 (Value.slice av n cv) (Sh.key0 k) := hvk.below hb1
    dsimp only
    go_wp2_with fail
    with_reducible refine (pad_lit 54 54 rfl w1 (Value.slice av n cv) (Sh.key0 k) hvk1 HKK.out).mono ?_
    rintro e w2 ⟨u2, rfl, ho2, hb2⟩
    have hs2 := hs1.below hb2
    have hB2 := hB1.trans (hb2.mono (by omega))
    have hz2 := hb2.size
    dsimp only
    go_wp2_with fail
    with_reducible refine (writeS u2 _ (HT.out w2 hB2) (by omega) hs2 ho2.bs (pad_sep ho2 hl1) (by rw [HP1.out]; simp)).mono ?_
    rintro e w3 ⟨rfl, rv3, hs3, hf3, hg3⟩
    have hB3 := hB2.trans (hs_below hs2 hf3 (by omega : w.heap.size + 1 ≤ b))
    have hz3 := hf3.size
    rw [List.nil_append] at hs3
    dsimp only
    go_wp2_with fail
    with_reducible refine (writeS v1 m (HT.out w3 hB3) (by omega) hs3 (HV1.out w3 hB3) (HS1.out b (by omega)) (by rw [HP1.out]; omega)).mono ?_
    rintro e w4 ⟨rfl, rv4, hs4, hf4, hg4⟩
    have hB4 := hB3.trans (hs_below hs3 hf4 (by omega : w.heap.size + 1 ≤ b))
    have hz4 := hf4.size
    dsimp only
    go_wp2_with fail
    with_reducible refine (sumD HD.out (HT.out w4 hB4) (by omega) hs4 (by rw [List.length_append, HP1.out]; omega)).mono ?_
    rintro e w5 ⟨rfl, hb5⟩
    have hB5 := hB4.trans (hb5.mono (by omega))
    have hz5 := hb5.size
    dsimp only
    go_wp2_with fail
    have hc6 : Below w5.heap.size w5 (w5.alloc (.cells (cs U8 D) 23)) := (Below.refl _ _).alloc (Nat.le_refl _) _
    have hr6 : (w5.alloc (.cells (cs U8 D) 23)).rowOf w5.heap.size = cs U8 D := rowOf_alloc_at _ _ _ rfl
    have hs6 : (w5.alloc (.cells (cs U8 D) 23)).heap.size = w5.heap.size + 1 := by simp
    obtain ⟨w6, hw6⟩ : ∃ w6, w6 = w5.alloc (.cells (cs U8 D) 23) := ⟨_, rfl⟩
    rw [← hw6] at hc6 hr6 hs6
    rw [← hw6]
    clear hw6
    have hB6 := hB5.trans (hc6.mono (by omega))
    with_reducible refine (newS w6).mono ?_
    rintro e w7 ⟨b2, rfl, hb', hs7, hb7⟩
    have hB7 := hB6.trans (hb7.mono (by omega))
    have hz7 := hb7.size
    have hl7 := hs7.lt
    have hvk7 : BS w7 (Value.slice av n cv) (Sh.key0 k) := by
      have e1 : Below wb.heap.size wb w7 := ((((((hb1.trans (hb2.mono hz1)).trans (hs_below hs2 hf3 hb)).trans (hs_below hs3 hf4 hb)).trans (hb5.mono (by omega))).trans (hc6.mono (by omega))).trans (hb7.mono (by omega)))
      exact hvk.below e1
    dsimp only
    go_wp2_with fail
    with_reducible refine (pad_lit 92 92 rfl w7 (Value.slice av n cv) (Sh.key0 k) hvk7 HKK.out).mono ?_
    rintro e w8 ⟨u8, rfl, ho8, hb8⟩
    have hs8 := hs7.below hb8
    have hB8 := hB7.trans (hb8.mono (by omega))
    have hz8 := hb8.size
    dsimp only
    go_wp2_with fail
    with_reducible refine (writeS u8 _ (HT.out w8 hB8) (by omega) hs8 ho8.bs (pad_sep ho8 hl7) (by rw [HP2.out]; simp)).mono ?_
    rintro e w9 ⟨rfl, rv9, hs9, hf9, hg9⟩
    have hB9 := hB8.trans (hs_below hs8 hf9 (by omega : w.heap.size + 1 ≤ b2))
    have hz9 := hf9.size
    rw [List.nil_append] at hs9
    have hr9 : w9.rowOf w5.heap.size = cs U8 D := (below_row ((hb7.trans (hb8.mono (by omega))).trans (hs_below hs8 hf9 hb')) (by omega)).trans hr6
    have hbs9 : BS w9 (.slice (some ⟨w5.heap.size, 0, none⟩) 32 32) D := BS.row hr9 hDl (by unfold maxLen; decide)
    dsimp only
    go_wp2_with fail
    with_reducible refine (writeS _ D (HT.out w9 hB9) (by omega) hs9 hbs9 (.inr (ob_ne (by omega))) (by rw [HP2.out, hDl]; decide)).mono ?_
    rintro e w10 ⟨rfl, rv10, hs10, hf10, hg10⟩
    have hB10 := hB9.trans (hs_below hs9 hf10 (by omega : w.heap.size + 1 ≤ b2))
    have hz10 := hf10.size
    dsimp only
    go_wp2_with fail
    with_reducible refine (sumD HE.out (HT.out w10 hB10) (by omega) hs10 (by rw [List.length_append, HP2.out, hDl]; decide)).mono ?_
    rintro e w11 ⟨rfl, hb11⟩
    have hB11 := hB10.trans (hb11.mono (by omega))
    have q1 : w11.rowOf w.heap.size = cs U8 (zs 32) := (below_row hB11 (by omega)).trans hra
    have q2 : w11.free w.heap.size = true := (below_free hB11 (by omega)).trans hfa
    have HB11 := hid hB11
    clear hB11 hra hfa
    dsimp only
    go_wp2_with fail
    refine bodyPost_ret (res_row (b := w.heap.size) rfl Tryd.underlying23 rfl inf_key _ _ rfl ?_) rfl ?_
    · rw [rowOf_setRow_same _ q2]; simp [hEl]
    · rw [rowOf_setRow_same _ q2]
      exact ⟨rfl, below_setRow' (ha.trans (HB11.out.mono (by omega))) (Nat.le_refl _) _⟩
end Go.Proofs.YtgclegdgngldoaaDoor
