/-
  Package epoch: what a slice of slots is filtered to, what is put ahead of it; own work.
-/
import Derived.Test.YtgclegdgngldoaaDoorEp2
set_option linter.unusedSimpArgs false
set_option linter.unusedVariables false
namespace Go.Proofs.YtgclegdgngldoaaDoor
open Go.RowKit Fp
attribute [local irreducible] ESL EPS ROR
set_option maxRecDepth 100000 in
set_option maxHeartbeats 2000000 in
theorem pred_c (w : World) (nb : Nat) (now : Nat) (k : L8) (s : Ep.Sl) (hR : w.rowOf nb = #[.int .i64 now]) (hb : nb < w.heap.size) :
    Calls Tryd.prog 47 #[.agg (ESL k s), .pointer (some ⟨nb, 0, none⟩)] w fun e w' => e = .returned (.bool (decide (Ep.fin s.made ≤ now))) ∧ Below w.heap.size w w' := by
  have HNB : Hid (∀ w', Below w.heap.size w w' → w'.rowOf nb = #[.int .i64 now]) := hid fun w' h => (below_row h hb).trans hR
  clear hR
  have M0 := Mm.start no w
  go_enter Tryd.func47, Tryd.ntmps47
  have M2 := (M0.alloc (ESL k s) 83 (by decide))
  try simp only [World.size_alloc] at M2
  go_upto_region 1 with fail
  obtain ⟨w1, hw1⟩ : ∃ w1, w1 = (w.alloc (.cells (ESL k s) 83)) := ⟨_, rfl⟩
  rw [← hw1] at M2 ⊢
  clear hw1
  refine wp_region_lin (.op 0 (.op 1 (.op 2 (.op 3 (.op 4 (.op 5 .done)))))) (by rfl) ?_
  refine wpT_valp 4 (v := .pointer (some ⟨w.heap.size, 0, none⟩)) rfl rfl rfl (by go_simp) ?_
  refine wpT_valp 5 (v := .pointer (some ⟨w.heap.size, 1, none⟩)) rfl rfl rfl (by go_simp) ?_
  refine wpT_valp 6 (v := .int .i64 (Ep.fin s.made)) rfl rfl rfl (by have c0 := esl_c1 (M2.row (b := w.heap.size) (c := ESL k s) (by simp)); go_simp) ?_
  refine wpT_valp 7 (v := .int .i64 now) rfl rfl rfl (by have c0 := cell_one (HNB.out _ M2.end_); go_simp) ?_
  try simp only [Act.put, List.setIfInBounds_toArray, List.set_cons_succ, List.set_cons_zero]
  refine wpT_valp 8 (v := .bool (decide (Ep.fin s.made ≤ now))) rfl rfl rfl (by go_simp; try norm_cast) ?_
  refine wpT_valp 3 (v := .bool (decide (Ep.fin s.made ≤ now))) rfl rfl rfl (by go_simp) ?_
  dsimp only [wpT]
  try simp only [Act.put, List.setIfInBounds_toArray, List.set_cons_succ, List.set_cons_zero]
  go_wp2_with fail
  go_ret
  exact ⟨rfl, M2.end_⟩
theorem pred_x {w : World} {nb : Nat} {now : Nat} {r : Bool} (h : w.rowOf nb = #[.int .i64 now] ∧ nb < w.heap.size) (k : L8) (s : Ep.Sl) (hr : decide (Ep.fin s.made ≤ now) = r) :
    Calls Tryd.prog 47 #[.agg (ESL k s), .pointer (some ⟨nb, 0, none⟩)] w fun e w' => e = .returned (.bool r) ∧ Below w.heap.size w w' := by
  rw [← hr]; exact pred_c w nb now k s h.1 h.2
theorem live_eq {now : Nat} {s : Ep.Sl} {r : Bool} (h : Ep.live now s = !r) : decide (Ep.fin s.made ≤ now) = r := by
  unfold Ep.live at h
  cases r
  · simp at h; simp; omega
  · simp at h; simp; omega
set_option maxRecDepth 100000 in
set_option maxHeartbeats 2000000 in
theorem idxf_c (w : World) (g o n cap nb now : Nat) (L : List Ep.Sl) (k : L8) (hv : SV w (.slice (some ⟨g, o, none⟩) n cap) n (fl (e67 k) L)) (hn : L.length = n) (hnb : w.rowOf nb = #[.int .i64 now]) (hb : nb < w.heap.size)
    (i0 : Nat) (hall : ∀ j, j < i0 → ∀ s, L[j]? = some s → Ep.live now s = true) (r : Int) (hr : (i0 = n ∧ r = -1) ∨ (i0 < n ∧ r = i0 ∧ ∀ s, L[i0]? = some s → Ep.live now s = false)) :
    Calls Tryd.prog 67 #[.slice (some ⟨g, o, none⟩) n cap, .func (.func 47) #[] #[.pointer (some ⟨nb, 0, none⟩)]] w fun e w' => e = .returned (.int .i64 r) ∧ Below w.heap.size w w' := by
  have HNB : Hid (∀ w', Below w.heap.size w w' → w'.rowOf nb = #[.int .i64 now] ∧ nb < w'.heap.size) := hid fun w' h => ⟨(below_row h hb).trans hnb, Nat.lt_of_lt_of_le hb h.size⟩
  have HV := hid hv
  have HALL := hid hall
  have hm : n ≤ 9223372036854775807 := by obtain ⟨_, _, e, h1, h2, _⟩ := hv; injection e with e1 e2 e3; unfold maxLen at h2; omega
  have HR := hid hr
  have hi0 : i0 ≤ n := by rcases hr with h | h <;> omega
  clear hnb hv hall hr
  have M0 := Mm.start no w
  go_enter Tryd.func67, Tryd.ntmps67
  go_upto_region 1 with fail
  refine wp_region_lin (.op 0 (.op 1 (.op 2 .done))) (by rfl) ?_
  refine wpT_valp 6 (v := .slice (some ⟨g, o, none⟩) n cap) rfl rfl rfl (by go_simp) ?_
  refine wpT_valp 7 (v := .int .i64 n) rfl rfl rfl (by go_simp) ?_
  refine wpT_valp 8 (v := .int .i64 0) rfl rfl rfl (by go_simp) ?_
  dsimp only [wpT]
  try simp only [Act.put, List.setIfInBounds_toArray, List.set_cons_succ, List.set_cons_zero]
  go_wp2_with fail
  go_loopw [8] (fun x wr => ∃ i : Nat, i ≤ i0 ∧ x = .int .i64 i ∧ Mm no w [] wr) (fun x _ => n - (intOf x).toNat)
  case atStart => exact ⟨0, by omega, rfl, M0⟩
  case round =>
    clear M0
    obtain ⟨i, hi, rfl, M⟩ := hrel
    by_cases hin : i < n
    · have hlt : (i : Int) < (n : Int) := by omega
      have hi00 : (0 : Int) ≤ (i : Int) := by omega
      obtain ⟨s, hs⟩ : ∃ s, L[i]? = some s := ⟨_, List.getElem?_eq_getElem (by omega)⟩
      have HEL : Hid (∀ w', Below w.heap.size w w' → exLoad Tryd.prog 83 (.pointer (some ⟨g, o + i * 67, none⟩)) w' = .ok (.value (.agg (ESL k s))) w') := hid fun w' h =>
        sv_load (e67_len k) Tryd.underlying83 rfl inf_esl (by decide) (SV.below HV.out h) hs (ESL k s) rfl
      by_cases hlt0 : i < i0
      · have HP := hid (live_eq (r := false) (now := now) (s := s) (by rw [HALL.out i hlt0 s hs]; rfl))
        clear hs
        go_upto_region 3 with fail
        refine wp_region_lin (.op 0 (.op 1 .done)) (by rfl) ?_
        refine wpT_valp 10 (v := .int .i64 i) rfl rfl rfl (by go_simp) ?_
        refine wpT_valp 5 (v := .int .i64 i) rfl rfl rfl (by go_simp) ?_
        dsimp only [wpT]
        try simp only [Act.put, List.setIfInBounds_toArray, List.set_cons_succ, List.set_cons_zero]
        go_upto_region 4 with fail
        refine wp_region_lin (.op 0 (.op 1 (.op 2 (.op 3 (.op 4 (.op 5 .done)))))) (by rfl) ?_
        refine wpT_valp 11 (v := .func (.func 47) #[] #[.pointer (some ⟨nb, 0, none⟩)]) rfl rfl rfl (by go_simp) ?_
        refine wpT_valp 12 (v := .slice (some ⟨g, o, none⟩) n cap) rfl rfl rfl (by go_simp) ?_
        refine wpT_valp 13 (v := .int .i64 i) rfl rfl rfl (by go_simp) ?_
        refine wpT_valp 14 (v := .pointer (some ⟨g, o + i * 67, none⟩)) rfl rfl rfl (by go_simp) ?_
        try simp only [Act.put, List.setIfInBounds_toArray, List.set_cons_succ, List.set_cons_zero]
        refine wpT_ldy 15 (.pointer (some ⟨g, o + i * 67, none⟩)) (.agg (ESL k s)) rfl rfl rfl (by go_simp) (HEL.out _ M.end_) rfl ?_
        refine wpT_callv 16 M (v := .bool false) rfl rfl rfl (by go_simp) (pred_x (HNB.out _ M.end_) k s HP.out) (fun w1 M2 => ?_)
        dsimp only [wpT]
        try simp only [Act.put, List.setIfInBounds_toArray, List.set_cons_succ, List.set_cons_zero]
        go_wp2_with fail
        go_roundw
        case rel => exact ⟨i + 1, by omega, by simp, M2⟩
        case measure => simp only [intOf]; omega
      · obtain rfl : i = i0 := by omega
        have hr2 : r = i ∧ Ep.live now s = false := by
          rcases HR.out with h | h
          · omega
          · exact ⟨h.2.1, h.2.2 s hs⟩
        obtain ⟨rfl, hd⟩ := hr2
        have HP := hid (live_eq (r := true) (now := now) (s := s) (by rw [hd]; rfl))
        clear hs hd
        go_upto_region 3 with fail
        refine wp_region_lin (.op 0 (.op 1 .done)) (by rfl) ?_
        refine wpT_valp 10 (v := .int .i64 i) rfl rfl rfl (by go_simp) ?_
        refine wpT_valp 5 (v := .int .i64 i) rfl rfl rfl (by go_simp) ?_
        dsimp only [wpT]
        try simp only [Act.put, List.setIfInBounds_toArray, List.set_cons_succ, List.set_cons_zero]
        go_upto_region 4 with fail
        refine wp_region_lin (.op 0 (.op 1 (.op 2 (.op 3 (.op 4 (.op 5 .done)))))) (by rfl) ?_
        refine wpT_valp 11 (v := .func (.func 47) #[] #[.pointer (some ⟨nb, 0, none⟩)]) rfl rfl rfl (by go_simp) ?_
        refine wpT_valp 12 (v := .slice (some ⟨g, o, none⟩) n cap) rfl rfl rfl (by go_simp) ?_
        refine wpT_valp 13 (v := .int .i64 i) rfl rfl rfl (by go_simp) ?_
        refine wpT_valp 14 (v := .pointer (some ⟨g, o + i * 67, none⟩)) rfl rfl rfl (by go_simp) ?_
        try simp only [Act.put, List.setIfInBounds_toArray, List.set_cons_succ, List.set_cons_zero]
        refine wpT_ldy 15 (.pointer (some ⟨g, o + i * 67, none⟩)) (.agg (ESL k s)) rfl rfl rfl (by go_simp) (HEL.out _ M.end_) rfl ?_
        refine wpT_callv 16 M (v := .bool true) rfl rfl rfl (by go_simp) (pred_x (HNB.out _ M.end_) k s HP.out) (fun w1 M2 => ?_)
        dsimp only [wpT]
        try simp only [Act.put, List.setIfInBounds_toArray, List.set_cons_succ, List.set_cons_zero]
        go_upto_region 5 with fail
        refine wp_region_lin (.op 0 (.op 1 .done)) (by rfl) ?_
        refine wpT_valp 17 (v := .int .i64 i) rfl rfl rfl (by go_simp) ?_
        refine wpT_valp 4 (v := .int .i64 i) rfl rfl rfl (by go_simp) ?_
        dsimp only [wpT]
        try simp only [Act.put, List.setIfInBounds_toArray, List.set_cons_succ, List.set_cons_zero]
        go_wp2_with fail
        go_ret
        exact ⟨rfl, M2.end_⟩
    · obtain rfl : i = n := by omega
      have hr2 : r = -1 := by
        rcases HR.out with h | h
        · exact h.2
        · omega
      subst hr2
      go_upto_region 7 with fail
      refine wp_region_lin (.op 0 .done) (by rfl) ?_
      refine wpT_valp 4 (v := .int .i64 (-1)) rfl rfl rfl (by go_simp) ?_
      dsimp only [wpT]
      try simp only [Act.put, List.setIfInBounds_toArray, List.set_cons_succ, List.set_cons_zero]
      go_wp2_with fail
      go_ret
      exact ⟨rfl, M.end_⟩
theorem ld_esl {w : World} {g off : Nat} {cu : Array Value} {k : L8} {s : Ep.Sl} (h : w.rowOf g = cu) (hx : cu.extract off (off + 67) = ESL k s) (hs : off + 67 ≤ cu.size) : exLoad Tryd.prog 83 (.pointer (some ⟨g, off, none⟩)) w = .ok (.value (.agg (ESL k s))) w := by
  rw [x_loadm w Tryd.underlying83 rfl inf_esl g off (by rw [h]; exact hs), h, hx]
/-- the first that p does not let by -/
theorem first_not {α : Type} (p : α → Bool) (L : List α) : (∀ x ∈ L, p x = true) ∨ ∃ (i : Nat) (x : α), L[i]? = some x ∧ p x = false ∧ ∀ j, j < i → ∀ y, L[j]? = some y → p y = true := by
  induction L with
  | nil => exact .inl fun _ h => by cases h
  | cons a L ih =>
    cases ha : p a with
    | false => exact .inr ⟨0, a, rfl, ha, fun j hj => by omega⟩
    | true =>
      rcases ih with h | ⟨i, x, h1, h2, h3⟩
      · exact .inl fun x hx => by rcases List.mem_cons.1 hx with e | e; exact e ▸ ha; exact h x e
      · refine .inr ⟨i + 1, x, h1, h2, fun j hj y hy => ?_⟩
        cases j with
        | zero => simp at hy; exact hy ▸ ha
        | succ j => exact h3 j (by omega) y (by simpa using hy)
set_option maxRecDepth 100000 in
set_option maxHeartbeats 2000000 in
theorem delf_c (w : World) (base nb now : Nat) (v : Value) (L : List Ep.Sl) (k : L8) (h0 : 0 < L.length) (hO : Ow w base 67 v L.length (fl (e67 k) L)) (hnb : w.rowOf nb = #[.int .i64 now]) (hb : nb < w.heap.size) (hne : obk v ≠ some nb) :
    Calls Tryd.prog 46 #[v, .func (.func 47) #[] #[.pointer (some ⟨nb, 0, none⟩)]] w fun e w' =>
      ∃ v', e = .returned v' ∧ Ow w' base 67 v' (L.filter (Ep.live now)).length (fl (e67 k) (L.filter (Ep.live now))) ∧ Fr (fun g => obk v = some g) w w' ∧ obk v' = obk v := by
  obtain ⟨n, hn⟩ : ∃ n, L.length = n := ⟨_, rfl⟩
  rw [hn] at hO h0
  have hsv := hO.sv
  rcases id hO.2 with ⟨a, rfl, h00⟩ | ⟨g, cap, cur, T, rfl, h1, hT, h2, h3, h4, h5, h6, h7⟩
  · omega
  obtain ⟨c1, hc1⟩ : ∃ c, c = cap + 1 := ⟨_, rfl⟩
  have hobk : obk (.slice (some ⟨g, 0, none⟩) n (cap + 1)) = some g := rfl
  rw [hobk] at hne ⊢
  rw [← hc1] at hsv hO h3 h4 h5 hobk ⊢
  have hgn : g ≠ nb := fun e => hne (by rw [e])
  rcases first_not (Ep.live now) L with hall | ⟨i0, s0, hs0, hd0, hall⟩
  · have HIX := hid (idxf_c w g 0 n c1 nb now L k hsv hn hnb hb n (fun j hj s hs => hall s (List.mem_of_getElem? hs)) (-1) (.inl ⟨rfl, rfl⟩))
    have ef : L.filter (Ep.live now) = L := List.filter_eq_self.2 hall
    rw [ef, hn]
    have HO := hid hO
    have HNB : Hid (∀ w', Below w.heap.size w w' → w'.rowOf nb = #[.int .i64 now] ∧ nb < w'.heap.size) := hid fun w' h => ⟨(below_row h hb).trans hnb, Nat.lt_of_lt_of_le hb h.size⟩
    clear hall ef hnb hsv h2 h5 h6 h7 hO
    have hfin : ∀ w', Mm no w [] w' → Ow w' base 67 (.slice (some ⟨g, 0, none⟩) n c1) n (fl (e67 k) L) ∧ Fr (fun x => some g = some x) w w' := fun w' M => ⟨HO.out.below M.end_, M.fr.mono (fun _ _ h => h.elim)⟩
    have M0 := Mm.start no w
    go_enter Tryd.func46, Tryd.ntmps46
    go_upto_region 1 with fail
    refine wp_region_lin (.op 0 (.op 1 (.op 2 (.op 3 .done)))) (by rfl) ?_
    refine wpT_valp 8 (v := .slice (some ⟨g, 0, none⟩) n c1) rfl rfl rfl (by go_simp) ?_
    refine wpT_valp 9 (v := .func (.func 47) #[] #[.pointer (some ⟨nb, 0, none⟩)]) rfl rfl rfl (by go_simp) ?_
    refine wpT_callv 10 M0 (v := .int .i64 (-1)) rfl rfl rfl (by go_simp) (HIX.out) (fun w1 M2 => ?_)
    refine wpT_valp 5 (v := .int .i64 (-1)) rfl rfl rfl (by go_simp) ?_
    dsimp only [wpT]
    try simp only [Act.put, List.setIfInBounds_toArray, List.set_cons_succ, List.set_cons_zero]
    go_upto_region 2 with fail
    refine wp_region_lin (.op 0 (.op 1 .done)) (by rfl) ?_
    refine wpT_valp 11 (v := .int .i64 (-1)) rfl rfl rfl (by go_simp) ?_
    refine wpT_valp 12 (v := .bool true) rfl rfl rfl (by go_simp) ?_
    dsimp only [wpT]
    try simp only [Act.put, List.setIfInBounds_toArray, List.set_cons_succ, List.set_cons_zero]
    go_upto_region 3 with fail
    refine wp_region_lin (.op 0 (.op 1 .done)) (by rfl) ?_
    refine wpT_valp 13 (v := .slice (some ⟨g, 0, none⟩) n c1) rfl rfl rfl (by go_simp) ?_
    refine wpT_valp 4 (v := .slice (some ⟨g, 0, none⟩) n c1) rfl rfl rfl (by go_simp) ?_
    dsimp only [wpT]
    try simp only [Act.put, List.setIfInBounds_toArray, List.set_cons_succ, List.set_cons_zero]
    go_wp2_with fail
    go_ret
    exact ⟨_, rfl, (hfin _ M2).1, (hfin _ M2).2, hobk⟩
  · have hi0 : i0 < n := by have := (List.getElem?_eq_some_iff.1 hs0).1; omega
    have HIX := hid (idxf_c w g 0 n c1 nb now L k hsv hn hnb hb i0 hall i0 (.inr ⟨hi0, rfl, fun s hs => by rw [hs0] at hs; injection hs with hs; exact hs ▸ hd0⟩))
    have HNB : Hid (∀ w', Fr (fun x => x = g) w w' → w'.rowOf nb = #[.int .i64 now] ∧ nb < w'.heap.size) := hid fun w' h => ⟨(h.row hb (fun e => hgn e.symm)).trans hnb, Nat.lt_of_lt_of_le hb h.size⟩
    have K0 := KI.start (e67_len k) hn h5 h6 h7 hall hs0 hd0
    have M0 := Mm.lend hT h2
    obtain ⟨j0, hj0⟩ : ∃ j, j = i0 + 1 := ⟨_, rfl⟩
    rw [← hj0] at K0
    have hmx : c1 ≤ 9223372036854775807 := by unfold maxLen at h4; omega
    have HJ := hid (show IntKind.i64.wrap ((i0 : Int) + 1) = (j0 : Int) by rw [i64w _ (by omega) (by omega), hj0]; rfl)
    have hj0n : j0 ≤ n := by omega
    have HK0 := hid K0
    have HH1 := hid h1
    have HH4 := hid h4
    clear hall hs0 hd0 hnb hsv h2 h5 h6 h7 hO K0 hj0 hc1 h1 h4
    have hnei : ¬ (i0 : Int) = -1 := by omega
    go_enter Tryd.func46, Tryd.ntmps46
    go_upto_region 1 with fail
    refine wp_region_lin (.op 0 (.op 1 (.op 2 (.op 3 .done)))) (by rfl) ?_
    refine wpT_valp 8 (v := .slice (some ⟨g, 0, none⟩) n c1) rfl rfl rfl (by go_simp) ?_
    refine wpT_valp 9 (v := .func (.func 47) #[] #[.pointer (some ⟨nb, 0, none⟩)]) rfl rfl rfl (by go_simp) ?_
    refine wpT_callv 10 M0 (v := .int .i64 i0) rfl rfl rfl (by go_simp) (HIX.out) (fun w1 M2 => ?_)
    refine wpT_valp 5 (v := .int .i64 i0) rfl rfl rfl (by go_simp) ?_
    dsimp only [wpT]
    try simp only [Act.put, List.setIfInBounds_toArray, List.set_cons_succ, List.set_cons_zero]
    go_upto_region 2 with fail
    refine wp_region_lin (.op 0 (.op 1 .done)) (by rfl) ?_
    refine wpT_valp 11 (v := .int .i64 i0) rfl rfl rfl (by go_simp) ?_
    refine wpT_valp 12 (v := .bool false) rfl rfl rfl (by go_simp) ?_
    dsimp only [wpT]
    try simp only [Act.put, List.setIfInBounds_toArray, List.set_cons_succ, List.set_cons_zero]
    go_upto_region 4 with fail
    refine wp_region_lin (.op 0 (.op 1 (.op 2 .done))) (by rfl) ?_
    refine wpT_valp 14 (v := .int .i64 i0) rfl rfl rfl (by go_simp) ?_
    refine wpT_valp 15 (v := .int .i64 j0) rfl rfl rfl (by have h := HJ.out; go_simp) ?_
    refine wpT_valp 6 (v := .int .i64 j0) rfl rfl rfl (by go_simp) ?_
    dsimp only [wpT]
    try simp only [Act.put, List.setIfInBounds_toArray, List.set_cons_succ, List.set_cons_zero]
    go_wp2_with fail
    go_loopw [5, 6] (fun x y wr => ∃ (i j : Nat) (cu : Array Value), j ≤ n ∧ x = .int .i64 i ∧ y = .int .i64 j ∧ KI (e67 k) 67 (Ep.live now) L n c1 cu i j ∧ Mm (fun x => x = g) w [(g, cu)] wr) (fun _ y _ => n - (intOf y).toNat)
    case atStart => exact ⟨i0, j0, cur, hj0n, rfl, rfl, HK0.out, M2⟩
    case round =>
      clear M2 M0 HK0
      obtain ⟨i, j, cu, hj, rfl, rfl, K, M⟩ := hrel
      have hsz : cu.size = c1 * 67 := K.sz
      have hij := K.ij
      have HK := hid K
      by_cases hjn : j < n
      · have hlt : (j : Int) < (n : Int) := by omega
        have hlt2 : (i : Int) < (n : Int) := by omega
        have hj00 : (0 : Int) ≤ (j : Int) := by omega
        have hi00 : (0 : Int) ≤ (i : Int) := by omega
        obtain ⟨s, hs⟩ : ∃ s, L[j]? = some s := ⟨_, List.getElem?_eq_getElem (by omega)⟩
        have HEX := hid (show cu.extract (j * 67) (j * 67 + 67) = ESL k s from KI.elt (enc := e67 k) (e67_len k) K hn hs)
        cases hlv : Ep.live now s with
        | true =>
          have HP := hid (live_eq (r := false) hlv)
          have HKK := hid (K.keep (e67_len k) hn h3 hs hlv (ESL k s) rfl one_ESL)
          clear hs hlv K
          go_upto_region 7 with fail
          refine wp_region_lin (.op 0 (.op 1 (.op 2 (.op 3 (.op 4 (.op 5 .done)))))) (by rfl) ?_
          refine wpT_valp 22 (v := .slice (some ⟨g, 0, none⟩) n c1) rfl rfl rfl (by go_simp) ?_
          refine wpT_valp 23 (v := .int .i64 j) rfl rfl rfl (by go_simp) ?_
          refine wpT_valp 24 (v := .pointer (some ⟨g, j * 67, none⟩)) rfl rfl rfl (by go_simp) ?_
          refine wpT_ldy 25 (.pointer (some ⟨g, j * 67, none⟩)) (.agg (ESL k s)) rfl rfl rfl (by go_simp) (ld_esl (M.row (b := g) (c := cu) (by simp)) HEX.out (by rw [hsz]; omega)) rfl ?_
          try simp only [Act.put, List.setIfInBounds_toArray, List.set_cons_succ, List.set_cons_zero]
          refine wpT_new (z := .agg (ZSL)) 7 M (by kernel_rfl) (by decide) rfl rfl rfl rfl (fun b1 w2 M3 => ?_)
          try dsimp only [Value.cells] at M3
          refine wpT_st0 M3 0 (ESL k s) inf_esl rfl rfl rfl rfl (by go_simp) (by go_simp) (by simp [ESL_size, hsz]) (by simp [ESL_size, hsz]) (by simp [go_sem]) rfl (fun w4 M5 => ?_)
          dsimp only [List.set] at M5
          dsimp only [wpT]
          try simp only [Act.put, List.setIfInBounds_toArray, List.set_cons_succ, List.set_cons_zero]
          go_upto_region 8 with fail
          refine wp_region_lin (.op 0 (.op 1 (.op 2 (.op 3 .done)))) (by rfl) ?_
          refine wpT_valp 26 (v := .func (.func 47) #[] #[.pointer (some ⟨nb, 0, none⟩)]) rfl rfl rfl (by go_simp) ?_
          refine wpT_ld0 27 Tryd.underlying83 rfl inf_esl (b1) (ESL k s) rfl rfl rfl (by go_simp) (M5.row (b := b1) (c := ESL k s) (by simp)) (by simp [ESL_size, hsz]) rfl ?_
          refine wpT_callv 28 M5 (v := .bool false) rfl rfl rfl (by go_simp) (pred_x (HNB.out _ M5.fr) k s HP.out) (fun w6 M7 => ?_)
          refine wpT_valp 29 (v := .bool true) rfl rfl rfl (by go_simp) ?_
          dsimp only [wpT]
          try simp only [Act.put, List.setIfInBounds_toArray, List.set_cons_succ, List.set_cons_zero]
          go_upto_region 9 with fail
          refine wp_region_lin (.op 0 (.op 1 (.op 2 (.op 3 (.op 4 .done))))) (by rfl) ?_
          refine wpT_valp 30 (v := .slice (some ⟨g, 0, none⟩) n c1) rfl rfl rfl (by go_simp) ?_
          refine wpT_valp 31 (v := .int .i64 i) rfl rfl rfl (by go_simp) ?_
          refine wpT_ld0 32 Tryd.underlying83 rfl inf_esl (b1) (ESL k s) rfl rfl rfl (by go_simp) (M7.row (b := b1) (c := ESL k s) (by simp)) (by simp [ESL_size, hsz]) rfl ?_
          refine wpT_valp 33 (v := .pointer (some ⟨g, i * 67, none⟩)) rfl rfl rfl (by go_simp) ?_
          try simp only [Act.put, List.setIfInBounds_toArray, List.set_cons_succ, List.set_cons_zero]
          refine wpT_stm (off := i * 67) M7 1 (ESL k s) _ inf_esl rfl rfl rfl rfl (by go_simp) (by go_simp) (by rw [hsz]; omega) (by simp) (by simp [go_sem]) rfl rfl (fun ws MS => ?_)
          obtain ⟨cu2, hcu2⟩ : ∃ c, c = cu.extract 0 (i * 67) ++ ESL k s ++ cu.extract (i * 67 + (ESL k s).size) cu.size := ⟨_, rfl⟩
          rw [← hcu2] at MS
          dsimp only [List.set] at MS
          dsimp only [wpT]
          try simp only [Act.put, List.setIfInBounds_toArray, List.set_cons_succ, List.set_cons_zero]
          go_wp2_with fail
          have K2 := HKK.out
          rw [← hcu2] at K2
          go_roundw
          case rel => exact ⟨i + 1, j + 1, cu2, by omega, by simp, by simp, K2, MS.sub (by simp)⟩
          case measure => simp only [intOf]; omega
        | false =>
          have HP := hid (live_eq (r := true) hlv)
          have HKK := hid (K.skip (e67_len k) hn hs hlv)
          clear hs hlv K
          go_upto_region 7 with fail
          refine wp_region_lin (.op 0 (.op 1 (.op 2 (.op 3 (.op 4 (.op 5 .done)))))) (by rfl) ?_
          refine wpT_valp 22 (v := .slice (some ⟨g, 0, none⟩) n c1) rfl rfl rfl (by go_simp) ?_
          refine wpT_valp 23 (v := .int .i64 j) rfl rfl rfl (by go_simp) ?_
          refine wpT_valp 24 (v := .pointer (some ⟨g, j * 67, none⟩)) rfl rfl rfl (by go_simp) ?_
          refine wpT_ldy 25 (.pointer (some ⟨g, j * 67, none⟩)) (.agg (ESL k s)) rfl rfl rfl (by go_simp) (ld_esl (M.row (b := g) (c := cu) (by simp)) HEX.out (by rw [hsz]; omega)) rfl ?_
          try simp only [Act.put, List.setIfInBounds_toArray, List.set_cons_succ, List.set_cons_zero]
          refine wpT_new (z := .agg (ZSL)) 7 M (by kernel_rfl) (by decide) rfl rfl rfl rfl (fun b1 w2 M3 => ?_)
          try dsimp only [Value.cells] at M3
          refine wpT_st0 M3 0 (ESL k s) inf_esl rfl rfl rfl rfl (by go_simp) (by go_simp) (by simp [ESL_size, hsz]) (by simp [ESL_size, hsz]) (by simp [go_sem]) rfl (fun w4 M5 => ?_)
          dsimp only [List.set] at M5
          dsimp only [wpT]
          try simp only [Act.put, List.setIfInBounds_toArray, List.set_cons_succ, List.set_cons_zero]
          go_upto_region 8 with fail
          refine wp_region_lin (.op 0 (.op 1 (.op 2 (.op 3 .done)))) (by rfl) ?_
          refine wpT_valp 26 (v := .func (.func 47) #[] #[.pointer (some ⟨nb, 0, none⟩)]) rfl rfl rfl (by go_simp) ?_
          refine wpT_ld0 27 Tryd.underlying83 rfl inf_esl (b1) (ESL k s) rfl rfl rfl (by go_simp) (M5.row (b := b1) (c := ESL k s) (by simp)) (by simp [ESL_size, hsz]) rfl ?_
          refine wpT_callv 28 M5 (v := .bool true) rfl rfl rfl (by go_simp) (pred_x (HNB.out _ M5.fr) k s HP.out) (fun w6 M7 => ?_)
          refine wpT_valp 29 (v := .bool false) rfl rfl rfl (by go_simp) ?_
          dsimp only [wpT]
          try simp only [Act.put, List.setIfInBounds_toArray, List.set_cons_succ, List.set_cons_zero]
          go_wp2_with fail
          go_roundw
          case rel => exact ⟨i, j + 1, cu, by omega, by simp, by simp, HKK.out, M7.sub (by simp)⟩
          case measure => simp only [intOf]; omega
      · obtain rfl : n = j := by omega
        have hi00 : (0 : Int) ≤ (i : Int) := by omega
        have hic : ¬ c1 = i := by omega
        have hile : (i : Int) ≤ (n : Int) := by omega
        have hile2 : (i : Int) ≤ (c1 : Int) := by omega
        have hfit : i * 67 + (n - i) * 67 ≤ c1 * 67 := by rw [← Nat.add_mul]; exact Nat.mul_le_mul_right _ (by omega)
        have HD := hid (K.done hn h3 (Builtin.zeroCells (Value.agg ZSL).cells (n - i)).toList (by simp [size_zeroCells, Value.cells]) (zero_one one_ZSL (by simp) _))
        clear K
        go_upto_region 11 with fail
        refine wp_region_lin (.op 0 (.op 1 (.op 2 (.op 3 .done)))) (by rfl) ?_
        refine wpT_valp 36 (v := .slice (some ⟨g, 0, none⟩) n c1) rfl rfl rfl (by go_simp) ?_
        refine wpT_valp 37 (v := .int .i64 i) rfl rfl rfl (by go_simp) ?_
        refine wpT_valp 38 (v := .slice (some ⟨g, i * 67, none⟩) (n - i) (c1 - i)) rfl rfl rfl (by go_simp) ?_
        refine wpT_gclear (g := g) (off := i * 67) (m := n - i) (c := c1 - i) M elt_esl 0 rfl rfl rfl rfl rfl (by go_simp) (by rw [hsz]; exact hfit) (by omega) (fun wc MC => ?_)
        dsimp only [List.set] at MC
        dsimp only [wpT]
        try simp only [Act.put, List.setIfInBounds_toArray, List.set_cons_succ, List.set_cons_zero]
        go_upto_region 12 with fail
        refine wp_region_lin (.op 0 (.op 1 (.op 2 (.op 3 .done)))) (by rfl) ?_
        refine wpT_valp 39 (v := .slice (some ⟨g, 0, none⟩) n c1) rfl rfl rfl (by go_simp) ?_
        refine wpT_valp 40 (v := .int .i64 i) rfl rfl rfl (by go_simp) ?_
        refine wpT_valp 41 (v := .slice (some ⟨g, 0, none⟩) i c1) rfl rfl rfl (by go_simp) ?_
        refine wpT_valp 4 (v := .slice (some ⟨g, 0, none⟩) i c1) rfl rfl rfl (by go_simp) ?_
        dsimp only [wpT]
        try simp only [Act.put, List.setIfInBounds_toArray, List.set_cons_succ, List.set_cons_zero]
        go_wp2_with fail
        go_ret
        obtain ⟨cap2, hcap2⟩ : ∃ c, c1 = c + 1 := ⟨c1 - 1, by omega⟩
        refine ⟨_, rfl, ?_, MC.fr.mono (fun x _ h => by rw [h]), by rw [hcap2]; rfl⟩
        obtain ⟨d1, d2, d3, d4⟩ := HD.out
        rw [← d4]
        obtain ⟨cap', rfl⟩ : ∃ c, c1 = c + 1 := ⟨c1 - 1, by omega⟩
        exact MC.ow (by simp) HH1.out (by omega) HH4.out d1 d2 d3
end Go.Proofs.YtgclegdgngldoaaDoor
