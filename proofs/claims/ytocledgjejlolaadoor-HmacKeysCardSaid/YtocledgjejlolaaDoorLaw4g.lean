/-
  Law 04: HmacKeys; own work.
-/
import Derived.Test.YtocledgjejlolaaDoorLaw4c
set_option linter.unusedSimpArgs false
set_option linter.unusedVariables false
namespace Go.Proofs.YtocledgjejlolaaDoor
open Go.RowKit

theorem padB_zeros (k : List (BitVec 8)) (x : BitVec 8) (j : Nat) (h : k.length + j ≤ 64) : Sh.padB (k ++ Sh.zeros j) x = Sh.padB k x := by
  unfold Sh.padB Sh.zeros
  rw [List.append_assoc, List.replicate_append_replicate, List.length_append, List.length_replicate, show j + (64 - (k.length + j)) = 64 - k.length by omega]
theorem mac_zeros (k m : List (BitVec 8)) (j : Nat) (h : k.length + j ≤ 64) : Sh.mac (k ++ Sh.zeros j) m = Sh.mac k m := by
  have e1 : Sh.key0 (k ++ Sh.zeros j) = k ++ Sh.zeros j := by unfold Sh.key0; rw [if_neg (by simp [Sh.zeros]; omega)]
  have e2 : Sh.key0 k = k := by unfold Sh.key0; rw [if_neg (by omega)]
  unfold Sh.mac
  rw [e1, e2, padB_zeros _ _ _ h, padB_zeros _ _ _ h]
theorem mac_sum (k m : List (BitVec 8)) (h : 64 < k.length) : Sh.mac (Sh.sum k) m = Sh.mac k m := by
  have e1 : Sh.key0 (Sh.sum k) = Sh.sum k := by unfold Sh.key0; rw [if_neg (by rw [sum_len]; decide)]
  have e2 : Sh.key0 k = Sh.sum k := by unfold Sh.key0; rw [if_pos h]
  unfold Sh.mac
  rw [e1, e2]
set_option maxRecDepth 100000 in
set_option maxHeartbeats 4000000 in
theorem keys_walk (w : World) (v0 v1 : Value) (k m : List (BitVec 8)) (x : Int) (hx : 0 ≤ x ∧ x ≤ 255) (hT : KT w) (hk0 : 0 < w.heap.size) (h0 : BS w v0 k) (h1 : BS w v1 m) :
    Calls Tryd.prog 10 #[v0, v1, .int .u8 x] w fun e w' => e = .returned (.bool true) ∧ Below w.heap.size w w' := by
  obtain ⟨c, rfl⟩ : ∃ c : Nat, x = c := ⟨x.toNat, by omega⟩
  obtain ⟨n, hn⟩ : ∃ n, n = k.length := ⟨_, rfl⟩
  obtain ⟨n1, hn1⟩ : ∃ n, n = m.length := ⟨_, rfl⟩
  obtain ⟨av, cv, rfl, hcv⟩ := h0.shape' n hn.symm
  obtain ⟨av1, cv1, rfl, hcv1⟩ := h1.shape' n1 hn1.symm
  obtain ⟨D, hD⟩ : ∃ D, D = Sh.mac k m := ⟨_, rfl⟩
  have hDl : D.length = 32 := by rw [hD]; rfl
  have HD := hid hD; have HN := hid hn; have HN1 := hid hn1; have H0 := hid h0; have H1 := hid h1
  clear hD hn hn1 h0 h1
  by_cases h3 : (1000 : Int) < n
  · go_enter Tryd.func10, Tryd.ntmps10
    go_wp2_with fail
    with_reducible refine (alive4_any w hT hk0).mono ?_
    rintro e w1 ⟨rfl, hb1⟩
    dsimp only
    go_wp2_with fail
    go_ret
    exact ⟨rfl, hb1⟩
  by_cases h4 : (1000 : Int) < n1
  · go_enter Tryd.func10, Tryd.ntmps10
    go_wp2_with fail
    with_reducible refine (alive4_any w hT hk0).mono ?_
    rintro e w1 ⟨rfl, hb1⟩
    dsimp only
    go_wp2_with fail
    go_ret
    exact ⟨rfl, hb1⟩
  have lk : k.length ≤ 1000 := by rw [← HN.out]; omega
  have lm : m.length ≤ 1000 := by rw [← HN1.out]; omega
  by_cases h64 : (64 : Int) < n
  · obtain ⟨S, hS⟩ : ∃ S, S = Sh.sum k := ⟨_, rfl⟩
    have hSl : S.length = 32 := by rw [hS]; rfl
    have HD' : Hid (D = Sh.mac S m) := hid (by rw [HD.out, hS, mac_sum k m (by rw [← HN.out]; omega)])
    have HS := hid hS
    clear hS
    go_enter Tryd.func10, Tryd.ntmps10
    go_wp2_with fail
    with_reducible refine (alive4_any w hT hk0).mono ?_
    rintro e w1 ⟨rfl, hb1⟩
    have hz1 := hb1.size
    dsimp only
    go_wp2_with (refine wpList_apb rfl (.const (.slice none 0 0)) (.tmp 19) rfl w1.heap.size _ _ [] k rfl (OB.nil _ _) rfl (H0.out.below hb1) (by simp; omega) (Nat.le_refl _) ?_; rintro v2 w2 hown2 hg2 -; have hb2 : Below w.heap.size w w2 := ob_below hb1 (OB.nil _ _) hz1 hg2; have hz2 := hb2.size)
    with_reducible refine (sumfnD HS.out (hT.below hb2 hk0) (by omega) (H0.out.below hb2) (by omega)).mono ?_
    rintro e w3 ⟨rfl, hb3⟩
    have hB3 := hb2.trans (hb3.mono hz2)
    have hz3 := hB3.size
    dsimp only
    go_wp2_with fail
    have hc4 : Below w3.heap.size w3 (w3.alloc (.cells (cs U8 S) 25)) := (Below.refl _ _).alloc (Nat.le_refl _) _
    have hr4 : (w3.alloc (.cells (cs U8 S) 25)).rowOf w3.heap.size = cs U8 S := rowOf_alloc_at _ _ _ rfl
    have hs4 : (w3.alloc (.cells (cs U8 S) 25)).heap.size = w3.heap.size + 1 := by simp
    obtain ⟨wx, hwx⟩ : ∃ wx, wx = w3.alloc (.cells (cs U8 S) 25) := ⟨_, rfl⟩
    rw [← hwx] at hc4 hr4 hs4
    rw [← hwx]
    clear hwx
    have hBx := hB3.trans (hc4.mono hz3)
    have hzx := hBx.size
    have hk' : BS wx (.slice (some ⟨w3.heap.size, 0, none⟩) 32 32) S := BS.row hr4 hSl (by unfold maxLen; decide)
    have hm' : S.length ≤ 1073741000 := by rw [hSl]; decide
    clear hr4 hSl
    have HK' := hid hk'; have HM' := hid hm'
    with_reducible refine (macD HD.out (hT.below hBx hk0) (by omega) (H0.out.below hBx) (H1.out.below hBx) (by omega) (by omega)).mono ?_
    rintro e wy ⟨rfl, hby⟩
    dsimp only
    go_wp2_with fail
    with_reducible refine (macD HD'.out (hT.below (hBx.trans (hby.mono hzx)) hk0) (by have := hby.size; omega) (BS.below HK'.out hby) (H1.out.below (hBx.trans (hby.mono hzx))) HM'.out (by omega)).mono ?_
    rintro e wz ⟨rfl, hbz⟩
    have hzy := hby.size
    dsimp only
    go_wp2_with fail
    go_ret
    exact ⟨rfl, (hBx.trans (hby.mono hzx)).trans (hbz.mono (by omega))⟩
  · have lk64 : k.length ≤ 64 := by rw [← HN.out]; omega
    go_enter Tryd.func10, Tryd.ntmps10
    go_wp2_with fail
    with_reducible refine (alive4_any w hT hk0).mono ?_
    rintro e w1 ⟨rfl, hb1⟩
    have hz1 := hb1.size
    dsimp only
    go_wp2_with (refine wpList_apb rfl (.const (.slice none 0 0)) (.tmp 19) rfl w1.heap.size _ _ [] k rfl (OB.nil _ _) rfl (H0.out.below hb1) (by simp; omega) (Nat.le_refl _) ?_; rintro v2 w2 hown2 hg2 -; have hb2 : Below w1.heap.size w1 w2 := ob_below (Below.refl _ _) (OB.nil _ _) (Nat.le_refl _) hg2; have hz2 := hb2.size)
    rw [List.nil_append] at hown2
    go_loopw [2, 7] (fun t u wr => ∃ (j d : Nat), k.length + j ≤ 64 ∧ d ≤ 255 ∧ t = .int .u8 (d : Int) ∧ OB wr w1.heap.size u (k ++ Sh.zeros j) ∧ Below w1.heap.size w1 wr) (fun _ u _ => 64 - (match u with | .slice _ n _ => n | _ => 0))
    case atStart => exact ⟨0, c, by omega, by omega, rfl, by simpa [Sh.zeros] using hown2, hb2⟩
    case round =>
      clear hown2 hb2 hz2 hg2
      obtain ⟨j, d, hj, hd, rfl, hou, hbw⟩ := hrel
      have hz := hbw.size
      have hlj : (k ++ Sh.zeros j).length = n + j := by rw [List.length_append, ← HN.out]; simp [Sh.zeros]
      have HLJ := hid hlj
      obtain ⟨au, cu, rfl, hcu⟩ := hou.bs.shape' (n + j) hlj
      clear hlj
      rw [← HN.out] at hj
      by_cases hgo : n + j < 64 ∧ 0 < d
      · obtain ⟨g1, g2⟩ := hgo
        have q1 : (n : Int) + j < 64 := by omega
        have q2 : (0 : Int) < d := by omega
        go_wp2_with (refine wpList_apb rfl (.tmp 34) (.tmp 35) rfl w1.heap.size _ _ (k ++ Sh.zeros j) [0] rfl (OB.alloc hou _) rfl (BS.one _ _ 0 rfl _) (by rw [HLJ.out]; simp; omega) (by simp; omega) ?_; rintro v3 w4 hown3 hg3 -; have HB4 := ob_below1 _ hbw hou hz hg3)
        obtain ⟨n6, c6, e6, hc6⟩ := hown3.bs.shape' (n + j + 1) (by rw [List.length_append, HLJ.out]; rfl)
        go_roundw
        case rel => exact ⟨j + 1, d - 1, by rw [← HN.out]; omega, by omega, by go_num, by rw [show k ++ Sh.zeros (j + 1) = k ++ Sh.zeros j ++ [0] by rw [List.append_assoc]; congr 1; simp [Sh.zeros, List.replicate_succ']]; exact hown3, HB4⟩
        case measure => rw [e6]; simp; omega
      · have HD' : Hid (D = Sh.mac (k ++ Sh.zeros j) m) := hid (by rw [HD.out, mac_zeros k m j (by rw [← HN.out]; omega)])
        have hk' := hou.bs
        have hm' : (k ++ Sh.zeros j).length ≤ 1073741000 := by rw [HLJ.out]; omega
        have hBx : Below w.heap.size w wr := hb1.trans (hbw.mono hz1)
        have hzx := hBx.size
        clear hou
        rcases Nat.lt_or_ge (n + j) 64 with g1 | g1
        · have g2 : d = 0 := by omega
          subst g2
          have q1 : (n : Int) + j < 64 := by omega
          go_wp2_with fail
          have HK' := hid hk'; have HM' := hid hm'
          with_reducible refine (macD HD.out (hT.below hBx hk0) (by omega) (H0.out.below hBx) (H1.out.below hBx) (by omega) (by omega)).mono ?_
          rintro e wy ⟨rfl, hby⟩
          dsimp only
          go_wp2_with fail
          with_reducible refine (macD HD'.out (hT.below (hBx.trans (hby.mono hzx)) hk0) (by have := hby.size; omega) (BS.below HK'.out hby) (H1.out.below (hBx.trans (hby.mono hzx))) HM'.out (by omega)).mono ?_
          rintro e wz ⟨rfl, hbz⟩
          have hzy := hby.size
          dsimp only
          go_wp2_with fail
          go_ret
          exact ⟨rfl, (hBx.trans (hby.mono hzx)).trans (hbz.mono (by omega))⟩
        · have q1 : ¬ (n : Int) + j < 64 := by omega
          go_wp2_with fail
          have HK' := hid hk'; have HM' := hid hm'
          with_reducible refine (macD HD.out (hT.below hBx hk0) (by omega) (H0.out.below hBx) (H1.out.below hBx) (by omega) (by omega)).mono ?_
          rintro e wy ⟨rfl, hby⟩
          dsimp only
          go_wp2_with fail
          with_reducible refine (macD HD'.out (hT.below (hBx.trans (hby.mono hzx)) hk0) (by have := hby.size; omega) (BS.below HK'.out hby) (H1.out.below (hBx.trans (hby.mono hzx))) HM'.out (by omega)).mono ?_
          rintro e wz ⟨rfl, hbz⟩
          have hzy := hby.size
          dsimp only
          go_wp2_with fail
          go_ret
          exact ⟨rfl, (hBx.trans (hby.mono hzx)).trans (hbz.mono (by omega))⟩
end Go.Proofs.YtocledgjejlolaaDoor
