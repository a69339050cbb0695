/-
  Law 03: ShaPieces; own work.
-/
import Derived.Test.YtocledgjejlolaaDoorLaw3c
import Derived.Test.YtocledgjejlolaaDoorApp
set_option linter.unusedSimpArgs false
set_option linter.unusedVariables false
namespace Go.Proofs.YtocledgjejlolaaDoor
open Go.RowKit

/-- a slice of slices of bytes -/
def BBS (w : World) (v : Value) (L : List (List (BitVec 8))) : Prop := ∃ a cap, v = .slice a L.length cap ∧ L.length ≤ cap ∧ (0 < L.length → ∃ b o, a = some ⟨b, o, none⟩ ∧ b < w.heap.size ∧ ∀ i, i < L.length → ∃ x n c, w.cell? ⟨b, o + i, none⟩ = some (.slice x n c) ∧ BS w (.slice x n c) (L.getD i []))
set_option maxRecDepth 100000 in
set_option maxHeartbeats 1000000 in
theorem pieces_walk (w : World) (v : Value) (L : List (List (BitVec 8))) (hT : KT w) (hk0 : 0 < w.heap.size) (hv : BBS w v L) :
    Calls Tryd.prog 4 #[v] w fun e w' => e = .returned (.bool true) ∧ Below w.heap.size w w' := by
  obtain ⟨av, cv, rfl, hcv, hcells⟩ := hv
  obtain ⟨N, hN⟩ : ∃ N, N = L.length := ⟨_, rfl⟩
  rw [← hN] at hcv hcells ⊢
  have HC := hid hcells
  clear hcells hN
  go_enter Tryd.func4, Tryd.ntmps4
  go_wp2_with fail
  refine (alive_any w hT hk0).mono ?_
  rintro e w1 ⟨rfl, hb1⟩
  have hz1 := hb1.size
  dsimp only
  go_wp2_with fail
  refine (newS w1).mono ?_
  rintro e w2 ⟨b, rfl, hb, hs2, hb2⟩
  have hB2 : Below w.heap.size w w2 := hb1.trans (hb2.mono hz1)
  have hz2 := hb2.size
  have hbl := hs2.lt
  dsimp only
  go_wp2_with fail
  go_loopw [4, 5] (fun u t wr => ∃ (i : Nat) (all : List (BitVec 8)) (rv : Value), i ≤ 30 ∧ i ≤ N ∧ t = .int .i64 i ∧ all.length ≤ 300 * i ∧ OB wr (b + 1) u all ∧ HS wr b all rv ∧ (∀ g, u.ownBlock = some g → rv.ownBlock ≠ some g) ∧ Below w.heap.size w wr) (fun _ t _ => 30 - (intOf t).toNat)
  case atStart => exact ⟨0, [], _, by omega, by omega, rfl, by simp, OB.nil _ _, hs2, (fun g h => by cases h), hB2⟩
  case round =>
    obtain ⟨i, all, rv, hi, hiN, rfl, hal, hou, hs, hsep, hbw⟩ := hrel
    have hz := hbw.size
    have hl := hs.lt
    by_cases hlt : i < N ∧ i < 30
    · obtain ⟨bp, op, rfl, hbp, hcl⟩ := HC.out (by omega)
      obtain ⟨x, n, c, hci, hbs⟩ := hcl i hlt.1
      obtain ⟨li, hli⟩ : ∃ li, li = L.getD i [] := ⟨_, rfl⟩
      rw [← hli] at hbs
      obtain ⟨x', c', e1, hcc⟩ := hbs.shape
      injection e1 with e1 e2 e3
      subst e1; subst e3
      have HN := hid e2
      have hci' : wr.cell? ⟨bp, op + i, none⟩ = some (.slice x n c) := (hbw.cell (p := ⟨bp, op + i, none⟩) hbp).trans hci
      have g0 : (i : Int) < N := by omega
      have g1 : (i : Int) < 30 := by omega
      have HCI := hid hci
      clear hli hci hcl e2
      by_cases h300 : (300 : Int) < n
      · go_wp2_with fail
        go_roundw
        case rel => exact ⟨i + 1, all, rv, by omega, by omega, by go_num, by omega, hou, hs, hsep, hbw⟩
        case measure => simp [intOf]; omega
      · have hbs' : BS wr (.slice x n c) li := SV.below hbs hbw
        obtain ⟨D, hD⟩ : ∃ D, D = Sh.sum (all ++ li) := ⟨_, rfl⟩
        have hDl : D.length = 32 := by rw [hD]; rfl
        have HD := hid hD
        clear hD
        go_wp2_with (refine wpList_apbd rfl (.tmp 27) (.tmp 31) rfl (b + 1) _ _ all li rfl hou rfl hbs' (by rw [← HN.out]; omega) (by omega) ?_; rintro v3 w3 hown3 hg3 hd3; have hB3 : Below w.heap.size w w3 := ow_belowb hbw (hou.mono (by omega)) (by omega) hg3; have hci3 := (hB3.cell (p := ⟨bp, op + i, none⟩) hbp).trans HCI.out)
        have hz3 := hB3.size
        have hg3' : Fr (fun k => some k = u4.ownBlock) wr w3 := Fr.of_grown hg3
        have hs3 : HS w3 b all rv := hs.fr hg3' (fun e => by have := hou.lt b e.symm; omega) (fun g hg e => hsep g e.symm hg)
        have hbs3 : BS w3 (.slice x n c) li := SV.below hbs hB3
        have hwz := hg3.size
        have hsepx : li = [] ∨ (Value.slice x n c).ownBlock ≠ some b := by
          by_cases hl0 : li = []
          · exact .inl hl0
          · exact .inr (fun e => by have := SV.lt hbs b e (by simpa using hl0); omega)
        refine (writeS _ li (hT.below hB3 hk0) (by omega) hs3 hbs3 hsepx (by rw [← HN.out]; omega)).mono ?_
        rintro e w4 ⟨rfl, rv4, hs4, hf4, hg4⟩
        have hB4 : Below w.heap.size w w4 := hB3.trans (hs_below hs3 hf4 (by omega))
        have hsep4 : ∀ g, v3.ownBlock = some g → rv4.ownBlock ≠ some g := fun g hg e => by
          have h1 := hg4 g e; have h2 := hown3.lt g hg; omega
        have hown4 : OB w4 (b + 1) v3 (all ++ li) := hown3.fr hf4 (fun g hg hk => by
          have h2 := hown3.lt g hg
          rcases hk with hk | hk
          · omega
          · rcases hd3 with h3 | h3
            · exact hsep g (h3 ▸ hg) hk.symm
            · rw [hg] at h3; injection h3 with h3; have := hs.rvge g hk.symm; omega)
        obtain ⟨M, hM⟩ : ∃ M, M = (all ++ li).length := ⟨_, rfl⟩
        have hMle : M ≤ 300 * (i + 1) := by rw [hM, List.length_append, ← HN.out]; omega
        obtain ⟨a3, c3, rfl, hc3⟩ := hown4.bs.shape' M hM.symm
        have HM := hid hM
        clear hM
        have hL := lenS hs4
        rw [← HM.out] at hL
        have hz4 := hB4.size
        dsimp only
        go_wp2_with fail
        refine hL.mono ?_
        rintro e w5 ⟨rfl, rfl⟩
        dsimp only
        go_wp2_with fail
        refine (sumD HD.out (hT.below hB4 hk0) (by omega) hs4 (by rw [← HM.out]; omega)).mono ?_
        rintro e w5 ⟨rfl, hb5⟩
        have hB5 : Below w.heap.size w w5 := hB4.trans (hb5.mono hz4)
        have hR := rsum_any w5 _ (all ++ li) (hown4.bs.below hb5) (by rw [← HM.out]; omega)
        rw [← HD.out] at hR
        have HR := hid hR
        have hz5 := hB5.size
        clear hR
        dsimp only
        go_wp2_with fail
        refine HR.out.mono ?_
        rintro e w6 ⟨rfl, hb6⟩
        have hB6 : Below w.heap.size w w6 := hB5.trans (hb6.mono hz5)
        have hz6 := hB6.size
        have hs6 := (hs4.below hb5).below hb6
        dsimp only
        go_wp2_with fail
        refine (sumD HD.out (hT.below hB6 hk0) (by omega) hs6 (by rw [← HM.out]; omega)).mono ?_
        rintro e w7 ⟨rfl, hb7⟩
        have hB7 : Below w.heap.size w w7 := hB6.trans (hb7.mono hz6)
        have hz7 := hB7.size
        have hS := sum_any w7 _ (all ++ li) (hT.below hB7 hk0) (by omega) (((hown4.bs.below hb5).below hb6).below hb7) (by rw [← HM.out]; omega)
        rw [← HD.out] at hS
        have HS' := hid hS
        clear hS
        dsimp only
        go_wp2_with fail
        refine HS'.out.mono ?_
        rintro e w8 ⟨rfl, hb8⟩
        have hB8 : Below w.heap.size w w8 := hB7.trans (hb8.mono hz7)
        have hbb : Below w4.heap.size w4 w8 := ((hb5.trans (hb6.mono hb5.size)).trans (hb7.mono (Nat.le_trans hb5.size hb6.size))).trans (hb8.mono (Nat.le_trans hb5.size (Nat.le_trans hb6.size hb7.size)))
        dsimp only
        go_wp2_with fail
        go_roundw
        case rel => exact ⟨i + 1, all ++ li, rv4, by omega, by omega, by go_num, by rw [← HM.out]; omega, hown4.fr (Fr.of_below hbb) (fun _ _ h => h), hs4.below hbb, hsep4, hB8⟩
        case measure => simp [intOf]; omega
    · have g0 : ¬ ((i : Int) < N ∧ (i : Int) < 30) := by omega
      go_wp2_with fail
      all_goals
        go_ret
        exact ⟨rfl, hbw⟩
end Go.Proofs.YtocledgjejlolaaDoor
