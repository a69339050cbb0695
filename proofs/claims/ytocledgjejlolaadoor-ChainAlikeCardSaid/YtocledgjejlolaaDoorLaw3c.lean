/-
  Law 03: ShaSplit; own work.
-/
import Derived.Test.YtocledgjejlolaaDoorLaw3a
set_option linter.unusedSimpArgs false
set_option linter.unusedVariables false
namespace Go.Proofs.YtocledgjejlolaaDoor
open Go.RowKit

theorem BS.headn {w : World} {a : Option Addr} {n cap : Nat} {l : List (BitVec 8)} (h : BS w (.slice a n cap) l) (hn : l.length = n) (k c : Nat) (hk : k ≤ n) (hc : k ≤ c) (hm : c ≤ cap) :
    BS w (.slice a k c) (l.take k) := by subst hn; exact h.head k c hk hc hm
theorem BS.tail0 {w : World} {a : Option Addr} {n cap : Nat} {l : List (BitVec 8)} (h : BS w (.slice a n cap) l) (hn : l.length = n) (k : Nat) (hk : n ≤ k) : BS w (.slice a (n - k) 0) (l.drop k) := by
  have e : l.drop k = [] := List.drop_eq_nil_of_le (by omega)
  rw [e, show n - k = 0 by omega]
  exact ⟨a, 0, rfl, Nat.le_refl _, Nat.zero_le _, fun h => absurd rfl h⟩
theorem BS.tailm {w : World} {a : Option Addr} {n cap : Nat} {l : List (BitVec 8)} (h : BS w (.slice a n cap) l) (hn : l.length = n) (k : Nat) (hk : k ≤ n) : BS w (.slice (Option.map (fun x => x.add k) a) (n - k) (cap - k)) (l.drop k) := by
  subst hn
  by_cases hl : l = []
  · subst hl
    obtain ⟨_, c, e, h1, h2, _⟩ := h
    injection e with e1 e2 e3
    subst e3
    simp only [List.length_nil, Nat.zero_sub, List.drop_nil]
    exact ⟨_, cap - k, rfl, Nat.zero_le _, by omega, fun h => absurd rfl h⟩
  · obtain ⟨b, o, c, e, h1, _⟩ := h.open hl
    injection e with e1 e2 e3
    subst e1
    exact h.tail k hk _ (fun _ => by simp [Addr.add])
set_option maxRecDepth 100000 in
set_option maxHeartbeats 1000000 in
theorem split_walk (w : World) (v : Value) (l : List (BitVec 8)) (x : Int) (hx : 0 ≤ x ∧ x ≤ 65535) (hT : KT w) (hk0 : 0 < w.heap.size) (hv : BS w v l) :
    Calls Tryd.prog 6 #[v, .int .u16 x] w fun e w' => e = .returned (.bool true) ∧ Below w.heap.size w w' := by
  obtain ⟨n, hn⟩ : ∃ n, n = l.length := ⟨_, rfl⟩
  obtain ⟨av, cv, rfl, hcv⟩ := hv.shape' n hn.symm
  have HN := hid hn
  clear hn
  obtain ⟨D, hD⟩ : ∃ D, D = Sh.sum l := ⟨_, rfl⟩
  have hDl : D.length = 32 := by rw [hD]; rfl
  have HD := hid hD
  clear hD
  by_cases h3 : (3000 : Int) < n
  · go_enter Tryd.func6, Tryd.ntmps6
    go_wp2_with fail
    refine (alive_any w hT hk0).mono ?_
    rintro e w1 ⟨rfl, hb1⟩
    dsimp only
    go_wp2_with fail
    go_ret
    exact ⟨rfl, hb1⟩
  · obtain ⟨k, hk, hmin⟩ : ∃ k : Nat, k ≤ n ∧ (if (n : Int) < x then (n : Int) else x) = (k : Int) := by
      by_cases h : (n : Int) < x
      · exact ⟨n, Nat.le_refl _, by rw [if_pos h]⟩
      · exact ⟨x.toNat, by omega, by rw [if_neg h]; omega⟩
    rcases (Classical.em (cv = k)) with hck | hck
    · subst hck
      go_enter Tryd.func6, Tryd.ntmps6
      go_wp2_with fail
      refine (alive_any w hT hk0).mono ?_
      rintro e w1 ⟨rfl, hb1⟩
      have hz1 := hb1.size
      dsimp only
      go_wp2_with fail
      refine (newS w1).mono ?_
      rintro e w2 ⟨b, rfl, hb, hs2, hb2⟩
      have hk1 : KT w1 := hT.below hb1 hk0
      have hk2 : KT w2 := hk1.below hb2 (by omega)
      have hv2 : BS w2 (.slice av n cv) l := (hv.below hb1).below hb2
      have hB2 : Below w.heap.size w w2 := hb1.trans (hb2.mono hz1)
      have hz2 := hb2.size
      have hob : ∀ g, (Value.slice av n cv).ownBlock = some g → l ≠ [] → g < w.heap.size := fun g hg hl => SV.lt hv g hg (by simpa using hl)
      have q1 : (cv : Int) ≤ n := by omega
      have q2 : (cv : Int) ≤ cv := by omega
      have q0 : (0 : Int) ≤ cv := by omega
      dsimp only
      go_wp2_with fail
      have hsep : l.take cv = [] ∨ (Value.slice av cv cv).ownBlock ≠ some b := by
        by_cases hl : l = []
        · subst hl; exact .inl (by simp)
        · exact .inr (fun e => by have := hob b (by cases av <;> exact e) hl; omega)
      refine (writeS _ (l.take cv) hk2 (by omega) hs2 (hv2.headn HN.out.symm cv cv hk (by omega) (Nat.le_refl _)) hsep (by simp; rw [← HN.out]; omega)).mono ?_
      rintro e w3 ⟨rfl, rv3, hs3, hf3, hg3⟩
      have hB3 : Below w.heap.size w w3 := hB2.trans (hs_below hs2 hf3 (by omega))
      have hk3 : KT w3 := hT.below hB3 hk0
      have hv3 : BS w3 (.slice av n cv) l := SV.below hv (hB3)
      have hz3 := hB3.size
      dsimp only
      go_wp2_with fail
      have hown : ∀ v' : Value, v'.ownBlock = (Value.slice av n cv).ownBlock → l.drop cv = [] ∨ v'.ownBlock ≠ some b := fun v' e => by
        by_cases hl : l = []
        · subst hl; exact .inl (by simp)
        · exact .inr (fun e2 => by have := hob b (e ▸ e2) hl; omega)
      refine (writeS _ (l.drop cv) hk3 (by omega) hs3 (by have h0 := hv3.tail0 HN.out.symm cv (by omega); rwa [show n - cv = 0 by omega] at h0) (hown _ (by cases av <;> simp [Value.ownBlock, Addr.add] <;> split <;> rfl)) (by simp; rw [← HN.out]; omega)).mono ?_
      rintro e w4 ⟨rfl, rv4, hs4, hf4, hg4⟩
      rw [List.nil_append, List.take_append_drop] at hs4
      have hB4 : Below w.heap.size w w4 := hB3.trans (hs_below hs3 hf4 (by omega))
      have hz4 := hB4.size
      have hk4 : KT w4 := hT.below hB4 hk0
      dsimp only
      go_wp2_with fail
      refine (sumD HD.out hk4 (by omega) hs4 (by rw [← HN.out]; omega)).mono ?_
      rintro e w5 ⟨rfl, hb5⟩
      have hB5 : Below w.heap.size w w5 := hB4.trans (hb5.mono hz4)
      have hz5 := hB5.size
      have hSm := sum_any w5 _ l (hT.below hB5 hk0) (by omega) (SV.below hv hB5) (by rw [← HN.out]; omega)
      rw [← HD.out] at hSm
      have HSm := hid hSm
      clear hSm
      dsimp only
      go_wp2_with fail
      refine HSm.out.mono ?_
      rintro e w6 ⟨rfl, hb6⟩
      have hB6 : Below w.heap.size w w6 := hB5.trans (hb6.mono hz5)
      have hL := lenS ((hs4.below hb5).below hb6)
      rw [← HN.out] at hL
      dsimp only
      go_wp2_with fail
      refine hL.mono ?_
      rintro e w7 ⟨rfl, rfl⟩
      dsimp only
      go_wp2_with fail
      go_ret
      exact ⟨rfl, hB6⟩
    · skip
      go_enter Tryd.func6, Tryd.ntmps6
      go_wp2_with fail
      refine (alive_any w hT hk0).mono ?_
      rintro e w1 ⟨rfl, hb1⟩
      have hz1 := hb1.size
      dsimp only
      go_wp2_with fail
      refine (newS w1).mono ?_
      rintro e w2 ⟨b, rfl, hb, hs2, hb2⟩
      have hk1 : KT w1 := hT.below hb1 hk0
      have hk2 : KT w2 := hk1.below hb2 (by omega)
      have hv2 : BS w2 (.slice av n cv) l := (hv.below hb1).below hb2
      have hB2 : Below w.heap.size w w2 := hb1.trans (hb2.mono hz1)
      have hz2 := hb2.size
      have hob : ∀ g, (Value.slice av n cv).ownBlock = some g → l ≠ [] → g < w.heap.size := fun g hg hl => SV.lt hv g hg (by simpa using hl)
      have q1 : (k : Int) ≤ n := by omega
      have q2 : (k : Int) ≤ cv := by omega
      have q0 : (0 : Int) ≤ k := by omega
      dsimp only
      go_wp2_with fail
      have hsep : l.take k = [] ∨ (Value.slice av k cv).ownBlock ≠ some b := by
        by_cases hl : l = []
        · subst hl; exact .inl (by simp)
        · exact .inr (fun e => by have := hob b (by cases av <;> exact e) hl; omega)
      refine (writeS _ (l.take k) hk2 (by omega) hs2 (hv2.headn HN.out.symm k cv hk (by omega) (Nat.le_refl _)) hsep (by simp; rw [← HN.out]; omega)).mono ?_
      rintro e w3 ⟨rfl, rv3, hs3, hf3, hg3⟩
      have hB3 : Below w.heap.size w w3 := hB2.trans (hs_below hs2 hf3 (by omega))
      have hk3 : KT w3 := hT.below hB3 hk0
      have hv3 : BS w3 (.slice av n cv) l := SV.below hv (hB3)
      have hz3 := hB3.size
      dsimp only
      go_wp2_with fail
      have hown : ∀ v' : Value, v'.ownBlock = (Value.slice av n cv).ownBlock → l.drop k = [] ∨ v'.ownBlock ≠ some b := fun v' e => by
        by_cases hl : l = []
        · subst hl; exact .inl (by simp)
        · exact .inr (fun e2 => by have := hob b (e ▸ e2) hl; omega)
      refine (writeS _ (l.drop k) hk3 (by omega) hs3 (by first | exact hv3.tail0 HN.out.symm k (by omega) | exact hv3.tailm HN.out.symm k hk) (hown _ (by cases av <;> simp [Value.ownBlock, Addr.add] <;> split <;> rfl)) (by simp; rw [← HN.out]; omega)).mono ?_
      rintro e w4 ⟨rfl, rv4, hs4, hf4, hg4⟩
      rw [List.nil_append, List.take_append_drop] at hs4
      have hB4 : Below w.heap.size w w4 := hB3.trans (hs_below hs3 hf4 (by omega))
      have hz4 := hB4.size
      have hk4 : KT w4 := hT.below hB4 hk0
      dsimp only
      go_wp2_with fail
      refine (sumD HD.out hk4 (by omega) hs4 (by rw [← HN.out]; omega)).mono ?_
      rintro e w5 ⟨rfl, hb5⟩
      have hB5 : Below w.heap.size w w5 := hB4.trans (hb5.mono hz4)
      have hz5 := hB5.size
      have hSm := sum_any w5 _ l (hT.below hB5 hk0) (by omega) (SV.below hv hB5) (by rw [← HN.out]; omega)
      rw [← HD.out] at hSm
      have HSm := hid hSm
      clear hSm
      dsimp only
      go_wp2_with fail
      refine HSm.out.mono ?_
      rintro e w6 ⟨rfl, hb6⟩
      have hB6 : Below w.heap.size w w6 := hB5.trans (hb6.mono hz5)
      have hL := lenS ((hs4.below hb5).below hb6)
      rw [← HN.out] at hL
      dsimp only
      go_wp2_with fail
      refine hL.mono ?_
      rintro e w7 ⟨rfl, rfl⟩
      dsimp only
      go_wp2_with fail
      go_ret
      exact ⟨rfl, hB6⟩
end Go.Proofs.YtocledgjejlolaaDoor
