/-
  Law 03: ShaSums; own work.
-/
import Derived.Test.YtocledgjejlolaaDoorLaw3a
set_option linter.unusedSimpArgs false
set_option linter.unusedVariables false
namespace Go.Proofs.YtocledgjejlolaaDoor
open Go.RowKit

set_option maxHeartbeats 1000000 in
theorem sums_walk (w : World) (v : Value) (l : List (BitVec 8)) (hT : KT w) (hk0 : 0 < w.heap.size) (hv : BS w v l) :
    Calls Tryd.prog 3 #[v] w fun e w' => e = .returned (.bool true) ∧ Below w.heap.size w w' := by
  obtain ⟨n, hn⟩ : ∃ n, n = l.length := ⟨_, rfl⟩
  obtain ⟨av, cv, rfl, hcv⟩ := hv.shape' n hn.symm
  have HN := hid hn
  clear hn
  obtain ⟨D, hD⟩ : ∃ D, D = Sh.sum l := ⟨_, rfl⟩
  have hDl : D.length = 32 := by rw [hD]; rfl
  have HD := hid hD
  clear hD
  by_cases h3 : (3000 : Int) < n
  · go_enter Tryd.func3, Tryd.ntmps3
    go_wp2_with fail
    refine (alive_any w hT hk0).mono ?_
    rintro e w1 ⟨rfl, hb1⟩
    dsimp only
    go_wp2_with fail
    go_ret
    exact ⟨rfl, hb1⟩
  · go_enter Tryd.func3, Tryd.ntmps3
    go_wp2_with fail
    refine (alive_any w hT hk0).mono ?_
    rintro e w1 ⟨rfl, hb1⟩
    have hz1 := hb1.size
    dsimp only
    go_wp2_with fail
    have hS := sum_any w1 _ l (hT.below hb1 hk0) (by omega) (hv.below hb1) (by rw [← HN.out]; omega)
    rw [← HD.out] at hS
    refine hS.mono ?_
    rintro e w2 ⟨rfl, hb2⟩
    dsimp only
    go_wp2_with fail
    have hR := rsum_any w2 _ l ((hv.below hb1).below hb2) (by rw [← HN.out]; omega)
    rw [← HD.out] at hR
    refine hR.mono ?_
    rintro e w3 ⟨rfl, hb3⟩
    have hz2 := hb2.size
    dsimp only
    go_wp2_with fail
    go_ret
    exact ⟨rfl, (hb1.trans (hb2.mono hz1)).trans (hb3.mono (by omega))⟩
end Go.Proofs.YtocledgjejlolaaDoor
