/-
  Law 04: HmacTags; own work.
-/
import Derived.Test.YtocledgjejlolaaDoorLaw4a
import Derived.Test.YtocledgjejlolaaDoorRef4f
set_option linter.unusedSimpArgs false
set_option linter.unusedVariables false
namespace Go.Proofs.YtocledgjejlolaaDoor
open Go.RowKit

theorem extractD {w : World} {v0 v1 : Value} {k m D : List (BitVec 8)} (hD : D = Sh.mac k m) (hT : KT w) (hk0 : 0 < w.heap.size) (h0 : BS w v0 k) (h1 : BS w v1 m) (hkl : k.length ≤ 1073741000) (hml : m.length ≤ 1073741000) :
    Calls Tryd.prog 35 #[v0, v1] w fun e w' => e = .returned (.agg (cs U8 D)) ∧ Below w.heap.size w w' := by
  rw [hD]; exact extract_any w v0 v1 k m hT hk0 h0 h1 hkl hml
theorem rextractD {w : World} {v0 v1 : Value} {k m D : List (BitVec 8)} (hD : D = Sh.mac k m) (h0 : BS w v0 k) (h1 : BS w v1 m) (hkl : k.length ≤ 1073740000) (hml : m.length ≤ 1073740000) :
    Calls Tryd.prog 36 #[v0, v1] w fun e w' => e = .returned (.agg (cs U8 D)) ∧ Below w.heap.size w w' := by
  rw [hD]; exact rextract_any w v0 v1 k m h0 h1 hkl hml
set_option maxHeartbeats 1000000 in
theorem tags_walk (w : World) (v0 v1 : Value) (k m : List (BitVec 8)) (hT : KT w) (hk0 : 0 < w.heap.size) (h0 : BS w v0 k) (h1 : BS w v1 m) :
    Calls Tryd.prog 11 #[v0, v1] w fun e w' => e = .returned (.bool true) ∧ Below w.heap.size w w' := by
  obtain ⟨n, hn⟩ : ∃ n, n = k.length := ⟨_, rfl⟩
  obtain ⟨n1, hn1⟩ : ∃ n, n = m.length := ⟨_, rfl⟩
  obtain ⟨av, cv, rfl, hcv⟩ := h0.shape' n hn.symm
  obtain ⟨av1, cv1, rfl, hcv1⟩ := h1.shape' n1 hn1.symm
  obtain ⟨D, hD⟩ : ∃ D, D = Sh.mac k m := ⟨_, rfl⟩
  have hDl : D.length = 32 := by rw [hD]; rfl
  have HD := hid hD; have HN := hid hn; have HN1 := hid hn1; have H0 := hid h0; have H1 := hid h1
  clear hD hn hn1 h0 h1
  by_cases h3 : (1000 : Int) < n
  · go_enter Tryd.func11, Tryd.ntmps11
    go_wp2_with fail
    with_reducible refine (alive4_any w hT hk0).mono ?_
    rintro e w1 ⟨rfl, hb1⟩
    dsimp only
    go_wp2_with fail
    go_ret
    exact ⟨rfl, hb1⟩
  by_cases h4 : (1000 : Int) < n1
  · go_enter Tryd.func11, Tryd.ntmps11
    go_wp2_with fail
    with_reducible refine (alive4_any w hT hk0).mono ?_
    rintro e w1 ⟨rfl, hb1⟩
    dsimp only
    go_wp2_with fail
    go_ret
    exact ⟨rfl, hb1⟩
  go_enter Tryd.func11, Tryd.ntmps11
  go_wp2_with fail
  with_reducible refine (alive4_any w hT hk0).mono ?_
  rintro e w1 ⟨rfl, hb1⟩
  have hz1 := hb1.size
  dsimp only
  go_wp2_with fail
  have lk : k.length ≤ 1000 := by rw [← HN.out]; omega
  have lm : m.length ≤ 1000 := by rw [← HN1.out]; omega
  with_reducible refine (macD HD.out (hT.below hb1 hk0) (by omega) (H0.out.below hb1) (H1.out.below hb1) (by omega) (by omega)).mono ?_
  rintro e w2 ⟨rfl, hb2⟩
  have hB2 := hb1.trans (hb2.mono hz1)
  have hz2 := hB2.size
  dsimp only
  go_wp2_with fail
  with_reducible refine (rmacD HD.out (H0.out.below hB2) (H1.out.below hB2) (by omega) (by omega)).mono ?_
  rintro e w3 ⟨rfl, hb3⟩
  have hB3 := hB2.trans (hb3.mono hz2)
  have hz3 := hB3.size
  dsimp only
  go_wp2_with fail
  with_reducible refine (extractD HD.out (hT.below hB3 hk0) (by omega) (H0.out.below hB3) (H1.out.below hB3) (by omega) (by omega)).mono ?_
  rintro e w4 ⟨rfl, hb4⟩
  have hB4 := hB3.trans (hb4.mono hz3)
  have hz4 := hB4.size
  dsimp only
  go_wp2_with fail
  with_reducible refine (rextractD HD.out (H0.out.below hB4) (H1.out.below hB4) (by omega) (by omega)).mono ?_
  rintro e w5 ⟨rfl, hb5⟩
  have hB5 := hB4.trans (hb5.mono hz4)
  dsimp only
  go_wp2_with fail
  go_ret
  exact ⟨rfl, hB5⟩
end Go.Proofs.YtocledgjejlolaaDoor
