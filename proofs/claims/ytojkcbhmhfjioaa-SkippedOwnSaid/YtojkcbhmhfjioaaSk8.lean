/-
  The reference of law 18: Drop, Put; own work.
-/
import Derived.Test.YtojkcbhmhfjioaaSk7
set_option linter.unusedSimpArgs false
set_option linter.unusedVariables false
namespace Go.Proofs.Ytojkcbhmhfjioaa
open Go.RowKit
/-- what a call of the reference that turns the keys leaves behind -/
def RPost (w : World) (B : Nat) (v : Value) (most : Int) (res : List Sk.En × Int) : Ending → World → Prop := fun e w' =>
  ∃ v', e = .returned (.tuple #[.agg (RSR v' most), .int .i64 res.2]) ∧ Ow w' B 65 v' res.1.length (fl eE res.1) ∧ Below w.heap.size w w' ∧ ∀ g, obk v' = some g → obk v = some g ∨ w.heap.size ≤ g
theorem RPost.same {w w' : World} {B : Nat} {L : List Sk.En} {v : Value} (O : Ow w B 65 v L.length (fl eE L)) (hb : Below w.heap.size w w') (most q : Int) : RPost w B v most (L, q) (.returned (.tuple #[.agg (RSR v most), .int .i64 q])) w' :=
  ⟨v, rfl, O.below hb, hb, fun g hg => .inl hg⟩
theorem RPost.fin {w wr : World} {B n' : Nat} {v ua : Value} {L' : List Sk.En} {S1 : Nat → Prop} {H0 : List (Nat × Array Value)} {base : Nat} (OA : Ow wr base 65 ua n' (fl eE L')) (hn' : L'.length = n') (hB : B ≤ w.heap.size) (hbase : w.heap.size ≤ base) (hS1 : ∀ g, S1 g → g ∈ H0.map (·.1)) (hd : ∀ p ∈ H0, p.1 < base) (most q : Int)
    (hT1 : ∀ H' w', Mm S1 wr H' w' → Mm no w H' w') : ∀ H' w', Mm S1 wr H' w' → RPost w B v most (L', q) (.returned (.tuple #[.agg (RSR ua most), .int .i64 q])) w' := fun H' w' N => by
  have O1 : Ow w' base 65 ua L'.length (fl eE L') := by
    rw [hn']
    exact OA.fr N.fr (fun g hg hs => by
      obtain ⟨p, hp, rfl⟩ := List.mem_map.1 (hS1 g hs)
      have := hd p hp
      have := (OA.at_ _ hg).1
      omega)
  exact ⟨ua, rfl, O1.mono (fun g hg => by have := (O1.at_ g hg).1; omega), (hT1 _ _ N).end_, fun g hg => .inr (by have := (O1.at_ g hg).1; omega)⟩
theorem er_step {α : Type} {L : List α} {i k : Nat} {x : α} (hx : L[i]? = some x) : (L.take (i + 1)).eraseIdx k = (L.take i).eraseIdx k ++ (if i = k then [] else [x]) := by
  have hi : i < L.length := (List.getElem?_eq_some_iff.1 hx).1
  have hl : (L.take i).length = i := by rw [List.length_take]; omega
  rw [ki_take hx, eraseIdx_td, eraseIdx_td]
  obtain ⟨T, hT⟩ : ∃ T, T = L.take i := ⟨_, rfl⟩
  rw [← hT] at hl ⊢
  by_cases e : i = k
  · subst e
    rw [if_pos rfl, List.take_append_of_le_length (by omega), List.drop_eq_nil_of_le (by simp [hl]), List.drop_eq_nil_of_le (by omega), List.append_nil, List.append_nil]
  · rw [if_neg e]
    by_cases h : k < i
    · rw [List.take_append_of_le_length (by omega), List.drop_append_of_le_length (by omega), List.append_assoc]
    · have h1 : (T ++ [x]).take k = T ++ [x] := List.take_of_length_le (by simp [hl]; omega)
      have h2 : (T ++ [x]).drop (k + 1) = [] := List.drop_eq_nil_of_le (by simp [hl]; omega)
      have h3 : T.take k = T := List.take_of_length_le (by omega)
      have h4 : T.drop (k + 1) = [] := List.drop_eq_nil_of_le (by omega)
      rw [h1, h2, h3, h4, List.append_nil, List.append_nil]
attribute [local irreducible] ENR RSR wpT
set_option maxRecDepth 100000 in
set_option maxHeartbeats 4000000 in
theorem rdrop_c (w : World) (B : Nat) (a : Option Addr) (m c : Nat) (L : List Sk.En) (most : Int) (hO : Ow w B 65 (.slice a m c) L.length (fl eE L)) (hn : L.length = m) (hB : B ≤ w.heap.size) (h9 : m ≤ 100000) (p : Ky) (n : Int) :
    Calls Try.prog 16 #[.agg (RSR (.slice a m c) most), .agg (cs U8 p.l), .int .i64 n] w (RPost w B (.slice a m c) most (Sk.drop L p n)) := by
  have HO := hid hO
  have hv := hO.sv
  rw [hn] at hv
  have HV := hid hv
  have HLM := hid hn
  by_cases hf : Sk.find L p n < L.length
  · rw [show Sk.drop L p n = (L.eraseIdx (Sk.find L p n), 0) by unfold Sk.drop; rw [if_pos hf]]
    obtain ⟨k, hk⟩ : ∃ i, i = Sk.find L p n := ⟨_, rfl⟩
    rw [← hk] at hf ⊢
    obtain ⟨r, hr⟩ : ∃ r : Int, r = (k : Int) := ⟨_, rfl⟩
    have HNF := hid (show fndR L p n = r by unfold fndR; rw [← hk, if_pos hf, hr])
    have HRI := hid hr
    have hrl : ¬ r < 0 := by omega
    clear hO hv hn hk hf hr
    have M0 := Mm.start no w
    go_enter Try.func16, Try.ntmps16
    have M2 := (((M0.alloc (RSR (.slice a m c) most) 45 (by decide)).alloc (cs U8 p.l) 28 (by decide)).alloc (RSR (.slice none 0 0) 0) 45 (by decide))
    try simp only [World.size_alloc] at M2
    go_upto_region 1 with fail
    obtain ⟨w1, hw1⟩ : ∃ w1, w1 = (((w.alloc (.cells (RSR (.slice a m c) most) 45)).alloc (.cells (cs U8 p.l) 28)).alloc (.cells (RSR (.slice none 0 0) 0) 45)) := ⟨_, rfl⟩
    rw [← hw1] at M2 ⊢
    clear hw1
    refine wp_region_lin (.op 0 (.op 1 (.op 2 (.op 3 (.op 4 .done))))) (by rfl) ?_
    refine wpT_ld0 11 Try.underlying45 rfl inf_rst (w.heap.size) (RSR (.slice a m c) most) rfl rfl rfl (by go_simp) (M2.row (b := w.heap.size) (c := RSR (.slice a m c) most) (by simp)) (by simp [Ky.len, ENR_size, RSR_size]) rfl ?_
    refine wpT_ld0 12 Try.underlying28 rfl inf_key (w.heap.size + 1) (cs U8 p.l) rfl rfl rfl (by go_simp) (M2.row (b := w.heap.size + 1) (c := cs U8 p.l) (by simp)) (by simp [Ky.len, ENR_size, RSR_size]) rfl ?_
    refine wpT_valp 13 (v := .int .i64 n) rfl rfl rfl (by go_simp) ?_
    refine wpT_callv 14 M2 (v := .int .i64 r) rfl rfl rfl (by go_simp) (rfind_c w1 _ m c L most (HV.out.below M2.end_) HLM.out p n r HNF.out) (fun w3 M4 => ?_)
    try simp only [Act.put, List.setIfInBounds_toArray, List.set_cons_succ, List.set_cons_zero]
    refine wpT_valp 8 (v := .int .i64 r) rfl rfl rfl (by go_simp) ?_
    first | dsimp only [wpT] | refine wpT_fin ?_
    try simp only [Act.put, List.setIfInBounds_toArray, List.set_cons_succ, List.set_cons_zero]
    go_upto_region 2 with fail
    refine wp_region_lin (.op 0 (.op 1 .done)) (by rfl) ?_
    refine wpT_valp 15 (v := .int .i64 r) rfl rfl rfl (by go_simp) ?_
    refine wpT_valp 16 (v := .bool false) rfl rfl rfl (by go_simp) ?_
    first | dsimp only [wpT] | refine wpT_fin ?_
    try simp only [Act.put, List.setIfInBounds_toArray, List.set_cons_succ, List.set_cons_zero]
    go_upto_region 4 with fail
    obtain rfl := HRI.out
    refine wp_region_lin (.op 0 .done) (by rfl) ?_
    refine wpT_valp 9 (v := .slice none 0 0) rfl rfl rfl (by go_simp) ?_
    first | dsimp only [wpT] | refine wpT_fin ?_
    try simp only [Act.put, List.setIfInBounds_toArray, List.set_cons_succ, List.set_cons_zero]
    go_upto_region 5 with fail
    refine wp_region_lin (.op 0 .done) (by rfl) ?_
    refine wpT_valp 10 (v := .int .i64 0) rfl rfl rfl (by go_simp) ?_
    first | dsimp only [wpT] | refine wpT_fin ?_
    try simp only [Act.put, List.setIfInBounds_toArray, List.set_cons_succ, List.set_cons_zero]
    go_wp2_with fail
    go_loopw [9, 10] (fun u9 x wr => ∃ i n9 : Nat, i ≤ m ∧ x = .int .i64 i ∧ ((L.take i).eraseIdx k).length = n9 ∧ Ow wr (w.heap.size + 1 + 1 + 1) 65 u9 n9 (fl eE ((L.take i).eraseIdx k)) ∧ Mm no w [(w.heap.size + 1 + 1, RSR (.slice none 0 0) 0), (w.heap.size + 1, cs U8 p.l), (w.heap.size, RSR (.slice a m c) most)] wr) (fun _ x _ => m - (intOf x).toNat)
    case atStart => exact ⟨0, 0, by omega, rfl, by simp, by simpa using Ow.nil _ _ _ _, M4⟩
    case round =>
      clear M4
      obtain ⟨i, n9, hi, rfl, hn9, OU, M⟩ := hrel
      by_cases hin : i < m
      · have hlt : (i : Int) < (m : Int) := by omega
        have hi00 : (0 : Int) ≤ (i : Int) := by omega
        obtain ⟨x, hx⟩ : ∃ x, L[i]? = some x := ⟨_, List.getElem?_eq_getElem (by have := HLM.out; omega)⟩
        obtain ⟨i1, hi1⟩ : ∃ j, j = i + 1 := ⟨_, rfl⟩
        have HI1 := hid (show IntKind.i64.wrap ((i : Int) + 1) = (i1 : Int) by rw [i64w (by omega) (by omega), hi1]; rfl)
        have hst := er_step (k := k) hx
        rw [← hi1] at hst
        have hle9 : n9 ≤ i := by
          have h1 := List.length_eraseIdx_le (L.take i) k
          rw [List.length_take] at h1; omega
        have HII := hid hi1
        by_cases hik : i = k
        · rw [if_pos hik, List.append_nil] at hst
          have HST := hid hst
          have HN9 := hid hn9
          obtain rfl : k = i := hik.symm
          clear hx hi1 hst hn9 hik
          go_upto_region 6 with fail
          refine wp_region_lin (.op 0 (.op 1 (.op 2 (.op 3 (.op 4 .done))))) (by rfl) ?_
          refine wpT_valp 18 (v := .int .i64 k) rfl rfl rfl (by go_simp) ?_
          refine wpT_valp 19 (v := .pointer (some ⟨w.heap.size, 0, none⟩)) rfl rfl rfl (by go_simp) ?_
          refine wpT_valp 20 (v := .slice a m c) rfl rfl rfl (by have c0 := rs_c0 (M.row (b := w.heap.size) (c := RSR (.slice a m c) most) (by simp)); go_simp) ?_
          refine wpT_valp 21 (v := .int .i64 m) rfl rfl rfl (by go_simp) ?_
          try simp only [Act.put, List.setIfInBounds_toArray, List.set_cons_succ, List.set_cons_zero]
          refine wpT_valp 22 (v := .bool true) rfl rfl rfl (by go_simp) ?_
          first | dsimp only [wpT] | refine wpT_fin ?_
          try simp only [Act.put, List.setIfInBounds_toArray, List.set_cons_succ, List.set_cons_zero]
          go_upto_region 8 with fail
          refine wp_region_lin (.op 0 (.op 1 (.op 2 .done))) (by rfl) ?_
          refine wpT_valp 25 (v := .int .i64 k) rfl rfl rfl (by go_simp) ?_
          refine wpT_valp 26 (v := .int .i64 k) rfl rfl rfl (by go_simp) ?_
          refine wpT_valp 27 (v := .bool false) rfl rfl rfl (by go_simp) ?_
          first | dsimp only [wpT] | refine wpT_fin ?_
          try simp only [Act.put, List.setIfInBounds_toArray, List.set_cons_succ, List.set_cons_zero]
          go_upto_region 7 with fail
          refine wp_region_lin (.op 0 (.op 1 (.op 2 .done))) (by rfl) ?_
          refine wpT_valp 23 (v := .int .i64 k) rfl rfl rfl (by go_simp) ?_
          refine wpT_valp 24 (v := .int .i64 i1) rfl rfl rfl (by have h := HI1.out; go_simp) ?_
          refine wpT_valp 10 (v := .int .i64 i1) rfl rfl rfl (by go_simp) ?_
          first | dsimp only [wpT] | refine wpT_fin ?_
          try simp only [Act.put, List.setIfInBounds_toArray, List.set_cons_succ, List.set_cons_zero]
          go_wp2_with fail
          go_roundw
          case rel => exact ⟨i1, n9, by have := HII.out; omega, rfl, by rw [HST.out]; exact HN9.out, by rw [HST.out]; exact OU, M⟩
          case measure => have := HII.out; simp only [intOf]; omega
        · rw [if_neg hik] at hst
          have HST := hid hst
          have HN9 := hid hn9
          have hikz : ¬ (i : Int) = (k : Int) := by omega
          obtain ⟨g, o, c', e⟩ := sv_some eE_len (by decide) HV.out (by have := HLM.out; omega)
          injection e with e1 e2 e3
          subst e1
          clear e2 e3
          have HEL : Hid (∀ w', Below w.heap.size w w' → exLoad Try.prog 60 (.pointer (some ⟨g, o + i * 65, none⟩)) w' = .ok (.value (.agg (ENR x))) w') := hid fun w' h => sv_en (SV.below HV.out h) hx
          obtain ⟨S1, MR, hS1, hT1⟩ := M.rebase
          have HOM : Hid (∀ H' w', Mm S1 wr H' w' → Ow w' (w.heap.size + 1 + 1 + 1) 65 u9 n9 (fl eE ((L.take i).eraseIdx k))) := hid fun H' w' N => OU.fr N.fr (fun x hx h => by
            have h1 := hS1 x h
            have h2 := (OU.at_ x hx).1
            simp only [List.map_cons, List.map_nil, List.mem_cons, List.not_mem_nil, or_false] at h1
            omega)
          have M := MR
          clear hx hi1 hst hn9 hik MR hS1 OU
          go_upto_region 6 with fail
          refine wp_region_lin (.op 0 (.op 1 (.op 2 (.op 3 (.op 4 .done))))) (by rfl) ?_
          refine wpT_valp 18 (v := .int .i64 i) rfl rfl rfl (by go_simp) ?_
          refine wpT_valp 19 (v := .pointer (some ⟨w.heap.size, 0, none⟩)) rfl rfl rfl (by go_simp) ?_
          refine wpT_valp 20 (v := .slice (some ⟨g, o, none⟩) m c) rfl rfl rfl (by have c0 := rs_c0 (M.row (b := w.heap.size) (c := RSR (.slice (some ⟨g, o, none⟩) m c) most) (by simp)); go_simp) ?_
          refine wpT_valp 21 (v := .int .i64 m) rfl rfl rfl (by go_simp) ?_
          try simp only [Act.put, List.setIfInBounds_toArray, List.set_cons_succ, List.set_cons_zero]
          refine wpT_valp 22 (v := .bool true) rfl rfl rfl (by go_simp) ?_
          first | dsimp only [wpT] | refine wpT_fin ?_
          try simp only [Act.put, List.setIfInBounds_toArray, List.set_cons_succ, List.set_cons_zero]
          go_upto_region 8 with fail
          refine wp_region_lin (.op 0 (.op 1 (.op 2 .done))) (by rfl) ?_
          refine wpT_valp 25 (v := .int .i64 i) rfl rfl rfl (by go_simp) ?_
          refine wpT_valp 26 (v := .int .i64 k) rfl rfl rfl (by go_simp) ?_
          refine wpT_valp 27 (v := .bool true) rfl rfl rfl (by go_simp) ?_
          first | dsimp only [wpT] | refine wpT_fin ?_
          try simp only [Act.put, List.setIfInBounds_toArray, List.set_cons_succ, List.set_cons_zero]
          go_upto_region 9 with fail
          refine wp_region_lin (.op 0 (.op 1 (.op 2 (.op 3 (.op 4 (.op 5 (.op 6 (.op 7 (.op 8 .done))))))))) (by rfl) ?_
          refine wpT_valp 28 (v := u9) rfl rfl rfl (by go_simp) ?_
          refine wpT_valp 29 (v := .pointer (some ⟨w.heap.size, 0, none⟩)) rfl rfl rfl (by go_simp) ?_
          refine wpT_valp 30 (v := .slice (some ⟨g, o, none⟩) m c) rfl rfl rfl (by have c0 := rs_c0 (M.row (b := w.heap.size) (c := RSR (.slice (some ⟨g, o, none⟩) m c) most) (by simp)); go_simp) ?_
          refine wpT_valp 31 (v := .int .i64 i) rfl rfl rfl (by go_simp) ?_
          try simp only [Act.put, List.setIfInBounds_toArray, List.set_cons_succ, List.set_cons_zero]
          refine wpT_valp 32 (v := .pointer (some ⟨g, o + i * 65, none⟩)) rfl rfl rfl (by go_simp) ?_
          refine wpT_ldy 33 (.pointer (some ⟨g, o + i * 65, none⟩)) (.agg (ENR x)) rfl rfl rfl (by go_simp) (HEL.out _ (hT1 _ _ M).end_) rfl ?_
          refine wpT_one 34 _ M elt_ren (by decide) (ENR x) ENR_size rfl rfl rfl (by go_simp) rfl (fun gx wgx Mgx => ?_)
          have MZ := hT1 _ _ Mgx
          have hOx := HOM.out _ _ Mgx
          refine wpT_gapp 35 _ _ (MZ.sub (H' := [(w.heap.size + 1 + 1, RSR (.slice none 0 0) 0), (w.heap.size + 1, cs U8 p.l), (w.heap.size, RSR (.slice (some ⟨g, o, none⟩) m c) most)]) (by simp)) elt_ren (u9) (.slice (some ⟨gx, 0, none⟩) 1 1) n9 1 (fl eE ((L.take i).eraseIdx k)) (eE x) rfl rfl rfl rfl (by go_simp) hOx (by go_simp) (sv_row (Mgx.row (b := gx) (c := ENR x) (by simp)) (by unfold maxLen; decide)) (eE_len x) one_ENR (by omega) (by have := MZ.lt (b := w.heap.size + 1 + 1) (c := RSR (.slice none 0 0) 0) (by simp); omega) (fun x hx => by
            have h1 := (hOx.at_ x hx).1
            refine ⟨.inr (by omega), fun p hp e => ?_⟩
            (simp only [List.mem_cons, List.not_mem_nil, or_false] at hp; rcases hp with rfl | rfl | rfl <;> (dsimp only at e; omega))) (fun uy wOy Oy MOy _ _ => ?_)
          refine wpT_valp 9 (v := uy) rfl rfl rfl (by go_simp) ?_
          first | dsimp only [wpT] | refine wpT_fin ?_
          try simp only [Act.put, List.setIfInBounds_toArray, List.set_cons_succ, List.set_cons_zero]
          go_upto_region 7 with fail
          refine wp_region_lin (.op 0 (.op 1 (.op 2 .done))) (by rfl) ?_
          refine wpT_valp 23 (v := .int .i64 i) rfl rfl rfl (by go_simp) ?_
          refine wpT_valp 24 (v := .int .i64 i1) rfl rfl rfl (by have h := HI1.out; go_simp) ?_
          refine wpT_valp 10 (v := .int .i64 i1) rfl rfl rfl (by go_simp) ?_
          first | dsimp only [wpT] | refine wpT_fin ?_
          try simp only [Act.put, List.setIfInBounds_toArray, List.set_cons_succ, List.set_cons_zero]
          go_wp2_with fail
          rw [← fl_one (enc := eE) x, ← fl_append, ← HST.out] at Oy
          go_roundw
          case rel => exact ⟨i1, n9 + 1, by have := HII.out; omega, rfl, by rw [HST.out, List.length_append, HN9.out]; rfl, Oy, MOy⟩
          case measure => have := HII.out; simp only [intOf]; omega
      · obtain rfl : m = i := by omega
        rw [List.take_of_length_le (by have := HLM.out; omega)] at OU hn9
        obtain ⟨m1, hm1⟩ : ∃ j, j = n9 := ⟨_, rfl⟩
        subst hm1
        obtain ⟨af, cf, rfl, _⟩ := OU.shape
        obtain ⟨S1, MR, hS1, hT1⟩ := M.rebase
        have HFIN := hid (RPost.fin (v := .slice a m c) OU hn9 hB (by omega) hS1 (fun q hq => by
          simp only [List.mem_cons, List.not_mem_nil, or_false] at hq
          rcases hq with rfl | rfl | rfl <;> (dsimp only; omega)) most 0 hT1)
        have M := MR
        clear OU MR hS1 hT1 hn9
        go_upto_region 6 with fail
        refine wp_region_lin (.op 0 (.op 1 (.op 2 (.op 3 (.op 4 .done))))) (by rfl) ?_
        refine wpT_valp 18 (v := .int .i64 m) rfl rfl rfl (by go_simp) ?_
        refine wpT_valp 19 (v := .pointer (some ⟨w.heap.size, 0, none⟩)) rfl rfl rfl (by go_simp) ?_
        refine wpT_valp 20 (v := .slice a m c) rfl rfl rfl (by have c0 := rs_c0 (M.row (b := w.heap.size) (c := RSR (.slice a m c) most) (by simp)); go_simp) ?_
        refine wpT_valp 21 (v := .int .i64 m) rfl rfl rfl (by go_simp) ?_
        try simp only [Act.put, List.setIfInBounds_toArray, List.set_cons_succ, List.set_cons_zero]
        refine wpT_valp 22 (v := .bool false) rfl rfl rfl (by go_simp) ?_
        first | dsimp only [wpT] | refine wpT_fin ?_
        try simp only [Act.put, List.setIfInBounds_toArray, List.set_cons_succ, List.set_cons_zero]
        go_upto_region 10 with fail
        refine wp_region_lin (.op 0 (.op 1 (.op 2 .done))) (by rfl) ?_
        refine wpT_valp 36 (v := .slice af m1 cf) rfl rfl rfl (by go_simp) ?_
        refine wpT_valp 37 (v := .pointer (some ⟨w.heap.size, 0, none⟩)) rfl rfl rfl (by go_simp) ?_
        refine wpT_stc M 2 (.slice af m1 cf) (RSR (.slice af m1 cf) most) inf_slr rfl rfl rfl rfl (by go_simp) (by go_simp) (by simp [Ky.len, ENR_size, RSR_size]) (by simp [go_sem]) (rs_s0 _) rfl (fun w1 M2 => ?_)
        dsimp only [List.set] at M2
        first | dsimp only [wpT] | refine wpT_fin ?_
        try simp only [Act.put, List.setIfInBounds_toArray, List.set_cons_succ, List.set_cons_zero]
        go_upto_region 11 with fail
        refine wp_region_lin (.op 0 (.op 1 (.op 2 .done))) (by rfl) ?_
        refine wpT_ld0 38 Try.underlying45 rfl inf_rst (w.heap.size) (RSR (.slice af m1 cf) most) rfl rfl rfl (by go_simp) (M2.row (b := w.heap.size) (c := RSR (.slice af m1 cf) most) (by simp)) (by simp [Ky.len, ENR_size, RSR_size]) rfl ?_
        refine wpT_st0 M2 0 (RSR (.slice af m1 cf) most) inf_rst rfl rfl rfl rfl (by go_simp) (by go_simp) (by simp [Ky.len, ENR_size, RSR_size]) (by simp [Ky.len, ENR_size, RSR_size]) (by simp [go_sem]) rfl (fun w3 M4 => ?_)
        dsimp only [List.set] at M4
        refine wpT_valp 7 (v := .int .i64 0) rfl rfl rfl (by go_simp) ?_
        first | dsimp only [wpT] | refine wpT_fin ?_
        try simp only [Act.put, List.setIfInBounds_toArray, List.set_cons_succ, List.set_cons_zero]
        go_wp2_with fail
        have r5 := M4.row (b := w.heap.size + 1 + 1) (c := RSR (.slice af m1 cf) most) (by simp)
        refine bodyPost_ret (res_two rfl (rv_row Try.underlying45 rfl inf_rst (w.heap.size + 1 + 1) rfl (by rw [r5]; simp [Ky.len, ENR_size, RSR_size])) (rv_tmp _ _ rfl)) rfl ?_
        rw [r5]
        exact HFIN.out _ _ M4
  · rw [show Sk.drop L p n = (L, 9) by unfold Sk.drop; rw [if_neg hf]]
    obtain ⟨r, hr⟩ : ∃ r : Int, r = -1 := ⟨_, rfl⟩
    have HNF := hid (show fndR L p n = r by unfold fndR; rw [if_neg hf, hr])
    have hrl : r < 0 := by omega
    clear hO hv hn hf hr
    have M0 := Mm.start no w
    go_enter Try.func16, Try.ntmps16
    have M2 := (((M0.alloc (RSR (.slice a m c) most) 45 (by decide)).alloc (cs U8 p.l) 28 (by decide)).alloc (RSR (.slice none 0 0) 0) 45 (by decide))
    try simp only [World.size_alloc] at M2
    go_upto_region 1 with fail
    obtain ⟨w1, hw1⟩ : ∃ w1, w1 = (((w.alloc (.cells (RSR (.slice a m c) most) 45)).alloc (.cells (cs U8 p.l) 28)).alloc (.cells (RSR (.slice none 0 0) 0) 45)) := ⟨_, rfl⟩
    rw [← hw1] at M2 ⊢
    clear hw1
    refine wp_region_lin (.op 0 (.op 1 (.op 2 (.op 3 (.op 4 .done))))) (by rfl) ?_
    refine wpT_ld0 11 Try.underlying45 rfl inf_rst (w.heap.size) (RSR (.slice a m c) most) rfl rfl rfl (by go_simp) (M2.row (b := w.heap.size) (c := RSR (.slice a m c) most) (by simp)) (by simp [Ky.len, ENR_size, RSR_size]) rfl ?_
    refine wpT_ld0 12 Try.underlying28 rfl inf_key (w.heap.size + 1) (cs U8 p.l) rfl rfl rfl (by go_simp) (M2.row (b := w.heap.size + 1) (c := cs U8 p.l) (by simp)) (by simp [Ky.len, ENR_size, RSR_size]) rfl ?_
    refine wpT_valp 13 (v := .int .i64 n) rfl rfl rfl (by go_simp) ?_
    refine wpT_callv 14 M2 (v := .int .i64 r) rfl rfl rfl (by go_simp) (rfind_c w1 _ m c L most (HV.out.below M2.end_) HLM.out p n r HNF.out) (fun w3 M4 => ?_)
    try simp only [Act.put, List.setIfInBounds_toArray, List.set_cons_succ, List.set_cons_zero]
    refine wpT_valp 8 (v := .int .i64 r) rfl rfl rfl (by go_simp) ?_
    first | dsimp only [wpT] | refine wpT_fin ?_
    try simp only [Act.put, List.setIfInBounds_toArray, List.set_cons_succ, List.set_cons_zero]
    go_upto_region 2 with fail
    refine wp_region_lin (.op 0 (.op 1 .done)) (by rfl) ?_
    refine wpT_valp 15 (v := .int .i64 r) rfl rfl rfl (by go_simp) ?_
    refine wpT_valp 16 (v := .bool true) rfl rfl rfl (by go_simp) ?_
    first | dsimp only [wpT] | refine wpT_fin ?_
    try simp only [Act.put, List.setIfInBounds_toArray, List.set_cons_succ, List.set_cons_zero]
    go_upto_region 3 with fail
    refine wp_region_lin (.op 0 (.op 1 (.op 2 .done))) (by rfl) ?_
    refine wpT_ld0 17 Try.underlying45 rfl inf_rst (w.heap.size) (RSR (.slice a m c) most) rfl rfl rfl (by go_simp) (M4.row (b := w.heap.size) (c := RSR (.slice a m c) most) (by simp)) (by simp [Ky.len, ENR_size, RSR_size]) rfl ?_
    refine wpT_st0 M4 0 (RSR (.slice a m c) most) inf_rst rfl rfl rfl rfl (by go_simp) (by go_simp) (by simp [Ky.len, ENR_size, RSR_size]) (by simp [Ky.len, ENR_size, RSR_size]) (by simp [go_sem]) rfl (fun w5 M6 => ?_)
    dsimp only [List.set] at M6
    refine wpT_valp 7 (v := .int .i64 9) rfl rfl rfl (by go_simp) ?_
    first | dsimp only [wpT] | refine wpT_fin ?_
    try simp only [Act.put, List.setIfInBounds_toArray, List.set_cons_succ, List.set_cons_zero]
    go_wp2_with fail
    have r7 := M6.row (b := w.heap.size + 1 + 1) (c := RSR (.slice a m c) most) (by simp)
    refine bodyPost_ret (res_two rfl (rv_row Try.underlying45 rfl inf_rst (w.heap.size + 1 + 1) rfl (by rw [r7]; simp [Ky.len, ENR_size, RSR_size])) (rv_tmp _ _ rfl)) rfl ?_
    rw [r7]
    exact RPost.same HO.out M6.end_ _ _
set_option maxRecDepth 100000 in
set_option maxHeartbeats 4000000 in
theorem rput_c (w : World) (B : Nat) (a : Option Addr) (m c : Nat) (L : List Sk.En) (most : Int) (hO : Ow w B 65 (.slice a m c) L.length (fl eE L)) (hn : L.length = m) (hB : B ≤ w.heap.size) (h9 : m ≤ 100000) (p : Ky) (f : Int) (u : Value) (ks : List Ky) (hK : SV w u ks.length (fl eK ks)) (hmost : 0 ≤ most) :
    Calls Try.prog 15 #[.agg (RSR (.slice a m c) most), .agg (cs U8 p.l), .int .i64 f, u] w (RPost w B (.slice a m c) most (Sk.put most.toNat L p f ks)) := by
  have HO := hid hO
  have hv := hO.sv
  rw [hn] at hv
  have HV := hid hv
  have HLM := hid hn
  have HK0 := hid hK
  obtain ⟨n, hnk⟩ : ∃ n, ks.length = n := ⟨_, rfl⟩
  obtain ⟨ua, uc, rfl, hnc, hmx, _⟩ := hK
  rw [hnk] at HK0 hnc ⊢
  have hncl : n ≤ 9223372036854775807 := by unfold maxLen at hmx; omega
  unfold Sk.put
  rw [hnk, hn]
  have hn0 : (0 : Int) ≤ (n : Int) := by omega
  by_cases c1 : f < 0
  · rw [if_pos (.inl c1)]
    clear hO hv hn hnk hnc hmx
    have M0 := Mm.start no w
    go_enter Try.func15, Try.ntmps15
    have M2 := (((M0.alloc (RSR (.slice a m c) most) 45 (by decide)).alloc (cs U8 p.l) 28 (by decide)).alloc (RSR (.slice none 0 0) 0) 45 (by decide))
    try simp only [World.size_alloc] at M2
    go_upto_region 1 with fail
    obtain ⟨w1, hw1⟩ : ∃ w1, w1 = (((w.alloc (.cells (RSR (.slice a m c) most) 45)).alloc (.cells (cs U8 p.l) 28)).alloc (.cells (RSR (.slice none 0 0) 0) 45)) := ⟨_, rfl⟩
    rw [← hw1] at M2 ⊢
    clear hw1
    refine wp_region_lin (.op 0 (.op 1 (.op 2 (.op 3 (.op 4 (.op 5 (.op 6 (.op 7 (.op 8 (.op 9 (.op 10 (.op 11 (.op 12 .done))))))))))))) (by rfl) ?_
    refine wpT_valp 13 (v := .int .i64 f) rfl rfl rfl (by go_simp) ?_
    refine wpT_valp 14 (v := .bool true) rfl rfl rfl (by go_simp) ?_
    refine wpT_valp 15 (v := .bool true) rfl rfl rfl (by go_simp) ?_
    refine wpT_unx 16 rfl rfl (by simp [Region.wanted, yielded, Act.put]) ?_
    try simp only [Act.put, List.setIfInBounds_toArray, List.set_cons_succ, List.set_cons_zero]
    refine wpT_unx 17 rfl rfl (by simp [Region.wanted, yielded, Act.put]) ?_
    try simp only [Act.put, List.setIfInBounds_toArray, List.set_cons_succ, List.set_cons_zero]
    refine wpT_valp 18 (v := .bool true) rfl rfl rfl (by go_simp) ?_
    refine wpT_valp 19 (v := .bool true) rfl rfl rfl (by go_simp) ?_
    refine wpT_unx 20 rfl rfl (by simp [Region.wanted, yielded, Act.put]) ?_
    try simp only [Act.put, List.setIfInBounds_toArray, List.set_cons_succ, List.set_cons_zero]
    refine wpT_unx 21 rfl rfl (by simp [Region.wanted, yielded, Act.put]) ?_
    try simp only [Act.put, List.setIfInBounds_toArray, List.set_cons_succ, List.set_cons_zero]
    refine wpT_unx 22 rfl rfl (by simp [Region.wanted, yielded, Act.put]) ?_
    try simp only [Act.put, List.setIfInBounds_toArray, List.set_cons_succ, List.set_cons_zero]
    refine wpT_unx 23 rfl rfl (by simp [Region.wanted, yielded, Act.put]) ?_
    try simp only [Act.put, List.setIfInBounds_toArray, List.set_cons_succ, List.set_cons_zero]
    refine wpT_unx 24 rfl rfl (by simp [Region.wanted, yielded, Act.put]) ?_
    try simp only [Act.put, List.setIfInBounds_toArray, List.set_cons_succ, List.set_cons_zero]
    refine wpT_valp 25 (v := .bool true) rfl rfl rfl (by go_simp) ?_
    first | dsimp only [wpT] | refine wpT_fin ?_
    try simp only [Act.put, List.setIfInBounds_toArray, List.set_cons_succ, List.set_cons_zero]
    go_upto_region 2 with fail
    refine wp_region_lin (.op 0 (.op 1 (.op 2 .done))) (by rfl) ?_
    refine wpT_ld0 26 Try.underlying45 rfl inf_rst (w.heap.size) (RSR (.slice a m c) most) rfl rfl rfl (by go_simp) (M2.row (b := w.heap.size) (c := RSR (.slice a m c) most) (by simp)) (by simp [Ky.len, ENR_size, RSR_size]) rfl ?_
    refine wpT_st0 M2 0 (RSR (.slice a m c) most) inf_rst rfl rfl rfl rfl (by go_simp) (by go_simp) (by simp [Ky.len, ENR_size, RSR_size]) (by simp [Ky.len, ENR_size, RSR_size]) (by simp [go_sem]) rfl (fun w3 M4 => ?_)
    dsimp only [List.set] at M4
    refine wpT_valp 9 (v := .int .i64 2) rfl rfl rfl (by go_simp) ?_
    first | dsimp only [wpT] | refine wpT_fin ?_
    try simp only [Act.put, List.setIfInBounds_toArray, List.set_cons_succ, List.set_cons_zero]
    go_wp2_with fail
    have r5 := M4.row (b := w.heap.size + 1 + 1) (c := RSR (.slice a m c) most) (by simp)
    refine bodyPost_ret (res_two rfl (rv_row Try.underlying45 rfl inf_rst (w.heap.size + 1 + 1) rfl (by rw [r5]; simp [Ky.len, ENR_size, RSR_size])) (rv_tmp _ _ rfl)) rfl ?_
    rw [r5]
    exact RPost.same HO.out M4.end_ _ _
  by_cases c2 : 65535 < f
  · rw [if_pos (.inr (.inl c2))]
    clear hO hv hn hnk hnc hmx
    have M0 := Mm.start no w
    go_enter Try.func15, Try.ntmps15
    have M2 := (((M0.alloc (RSR (.slice a m c) most) 45 (by decide)).alloc (cs U8 p.l) 28 (by decide)).alloc (RSR (.slice none 0 0) 0) 45 (by decide))
    try simp only [World.size_alloc] at M2
    go_upto_region 1 with fail
    obtain ⟨w1, hw1⟩ : ∃ w1, w1 = (((w.alloc (.cells (RSR (.slice a m c) most) 45)).alloc (.cells (cs U8 p.l) 28)).alloc (.cells (RSR (.slice none 0 0) 0) 45)) := ⟨_, rfl⟩
    rw [← hw1] at M2 ⊢
    clear hw1
    refine wp_region_lin (.op 0 (.op 1 (.op 2 (.op 3 (.op 4 (.op 5 (.op 6 (.op 7 (.op 8 (.op 9 (.op 10 (.op 11 (.op 12 .done))))))))))))) (by rfl) ?_
    refine wpT_valp 13 (v := .int .i64 f) rfl rfl rfl (by go_simp) ?_
    refine wpT_valp 14 (v := .bool false) rfl rfl rfl (by go_simp) ?_
    refine wpT_valp 15 (v := .bool false) rfl rfl rfl (by go_simp) ?_
    refine wpT_valp 16 (v := .int .i64 f) rfl rfl (by simp [Region.wanted, yielded, Act.put]) (by go_simp) ?_
    try simp only [Act.put, List.setIfInBounds_toArray, List.set_cons_succ, List.set_cons_zero]
    refine wpT_valp 17 (v := .bool true) rfl rfl (by simp [Region.wanted, yielded, Act.put]) (by go_simp) ?_
    refine wpT_valp 18 (v := .bool true) rfl rfl rfl (by go_simp) ?_
    refine wpT_valp 19 (v := .bool true) rfl rfl rfl (by go_simp) ?_
    refine wpT_unx 20 rfl rfl (by simp [Region.wanted, yielded, Act.put]) ?_
    try simp only [Act.put, List.setIfInBounds_toArray, List.set_cons_succ, List.set_cons_zero]
    refine wpT_unx 21 rfl rfl (by simp [Region.wanted, yielded, Act.put]) ?_
    try simp only [Act.put, List.setIfInBounds_toArray, List.set_cons_succ, List.set_cons_zero]
    refine wpT_unx 22 rfl rfl (by simp [Region.wanted, yielded, Act.put]) ?_
    try simp only [Act.put, List.setIfInBounds_toArray, List.set_cons_succ, List.set_cons_zero]
    refine wpT_unx 23 rfl rfl (by simp [Region.wanted, yielded, Act.put]) ?_
    try simp only [Act.put, List.setIfInBounds_toArray, List.set_cons_succ, List.set_cons_zero]
    refine wpT_unx 24 rfl rfl (by simp [Region.wanted, yielded, Act.put]) ?_
    try simp only [Act.put, List.setIfInBounds_toArray, List.set_cons_succ, List.set_cons_zero]
    refine wpT_valp 25 (v := .bool true) rfl rfl rfl (by go_simp) ?_
    first | dsimp only [wpT] | refine wpT_fin ?_
    try simp only [Act.put, List.setIfInBounds_toArray, List.set_cons_succ, List.set_cons_zero]
    go_upto_region 2 with fail
    refine wp_region_lin (.op 0 (.op 1 (.op 2 .done))) (by rfl) ?_
    refine wpT_ld0 26 Try.underlying45 rfl inf_rst (w.heap.size) (RSR (.slice a m c) most) rfl rfl rfl (by go_simp) (M2.row (b := w.heap.size) (c := RSR (.slice a m c) most) (by simp)) (by simp [Ky.len, ENR_size, RSR_size]) rfl ?_
    refine wpT_st0 M2 0 (RSR (.slice a m c) most) inf_rst rfl rfl rfl rfl (by go_simp) (by go_simp) (by simp [Ky.len, ENR_size, RSR_size]) (by simp [Ky.len, ENR_size, RSR_size]) (by simp [go_sem]) rfl (fun w3 M4 => ?_)
    dsimp only [List.set] at M4
    refine wpT_valp 9 (v := .int .i64 2) rfl rfl rfl (by go_simp) ?_
    first | dsimp only [wpT] | refine wpT_fin ?_
    try simp only [Act.put, List.setIfInBounds_toArray, List.set_cons_succ, List.set_cons_zero]
    go_wp2_with fail
    have r5 := M4.row (b := w.heap.size + 1 + 1) (c := RSR (.slice a m c) most) (by simp)
    refine bodyPost_ret (res_two rfl (rv_row Try.underlying45 rfl inf_rst (w.heap.size + 1 + 1) rfl (by rw [r5]; simp [Ky.len, ENR_size, RSR_size])) (rv_tmp _ _ rfl)) rfl ?_
    rw [r5]
    exact RPost.same HO.out M4.end_ _ _
  have hd0 := i64w (n := 65535 - f) (by omega) (by omega)
  obtain ⟨d, hd⟩ : ∃ d, d = 65535 - f := ⟨_, rfl⟩
  rw [← hd] at hd0
  have HD := hid (show IntKind.i64.wrap (65535 - f) = d by rw [← hd]; exact hd0)
  by_cases c3 : 65535 - f < (n : Int)
  · rw [if_pos (.inr (.inr c3))]
    rw [← hd] at c3
    clear hO hv hn hnk hnc hmx hd hd0
    have M0 := Mm.start no w
    go_enter Try.func15, Try.ntmps15
    have M2 := (((M0.alloc (RSR (.slice a m c) most) 45 (by decide)).alloc (cs U8 p.l) 28 (by decide)).alloc (RSR (.slice none 0 0) 0) 45 (by decide))
    try simp only [World.size_alloc] at M2
    go_upto_region 1 with fail
    obtain ⟨w1, hw1⟩ : ∃ w1, w1 = (((w.alloc (.cells (RSR (.slice a m c) most) 45)).alloc (.cells (cs U8 p.l) 28)).alloc (.cells (RSR (.slice none 0 0) 0) 45)) := ⟨_, rfl⟩
    rw [← hw1] at M2 ⊢
    clear hw1
    refine wp_region_lin (.op 0 (.op 1 (.op 2 (.op 3 (.op 4 (.op 5 (.op 6 (.op 7 (.op 8 (.op 9 (.op 10 (.op 11 (.op 12 .done))))))))))))) (by rfl) ?_
    refine wpT_valp 13 (v := .int .i64 f) rfl rfl rfl (by go_simp) ?_
    refine wpT_valp 14 (v := .bool false) rfl rfl rfl (by go_simp) ?_
    refine wpT_valp 15 (v := .bool false) rfl rfl rfl (by go_simp) ?_
    refine wpT_valp 16 (v := .int .i64 f) rfl rfl (by simp [Region.wanted, yielded, Act.put]) (by go_simp) ?_
    try simp only [Act.put, List.setIfInBounds_toArray, List.set_cons_succ, List.set_cons_zero]
    refine wpT_valp 17 (v := .bool false) rfl rfl (by simp [Region.wanted, yielded, Act.put]) (by go_simp) ?_
    refine wpT_valp 18 (v := .bool false) rfl rfl rfl (by go_simp) ?_
    refine wpT_valp 19 (v := .bool false) rfl rfl rfl (by go_simp) ?_
    refine wpT_valp 20 (v := .slice ua n uc) rfl rfl (by simp [Region.wanted, yielded, Act.put]) (by go_simp) ?_
    refine wpT_valp 21 (v := .int .i64 n) rfl rfl (by simp [Region.wanted, yielded, Act.put]) (by go_simp) ?_
    try simp only [Act.put, List.setIfInBounds_toArray, List.set_cons_succ, List.set_cons_zero]
    refine wpT_valp 22 (v := .int .i64 f) rfl rfl (by simp [Region.wanted, yielded, Act.put]) (by go_simp) ?_
    refine wpT_valp 23 (v := .int .i64 d) rfl rfl (by simp [Region.wanted, yielded, Act.put]) (by have h := HD.out; go_simp) ?_
    refine wpT_valp 24 (v := .bool true) rfl rfl (by simp [Region.wanted, yielded, Act.put]) (by go_simp) ?_
    refine wpT_valp 25 (v := .bool true) rfl rfl rfl (by go_simp) ?_
    first | dsimp only [wpT] | refine wpT_fin ?_
    try simp only [Act.put, List.setIfInBounds_toArray, List.set_cons_succ, List.set_cons_zero]
    go_upto_region 2 with fail
    refine wp_region_lin (.op 0 (.op 1 (.op 2 .done))) (by rfl) ?_
    refine wpT_ld0 26 Try.underlying45 rfl inf_rst (w.heap.size) (RSR (.slice a m c) most) rfl rfl rfl (by go_simp) (M2.row (b := w.heap.size) (c := RSR (.slice a m c) most) (by simp)) (by simp [Ky.len, ENR_size, RSR_size]) rfl ?_
    refine wpT_st0 M2 0 (RSR (.slice a m c) most) inf_rst rfl rfl rfl rfl (by go_simp) (by go_simp) (by simp [Ky.len, ENR_size, RSR_size]) (by simp [Ky.len, ENR_size, RSR_size]) (by simp [go_sem]) rfl (fun w3 M4 => ?_)
    dsimp only [List.set] at M4
    refine wpT_valp 9 (v := .int .i64 2) rfl rfl rfl (by go_simp) ?_
    first | dsimp only [wpT] | refine wpT_fin ?_
    try simp only [Act.put, List.setIfInBounds_toArray, List.set_cons_succ, List.set_cons_zero]
    go_wp2_with fail
    have r5 := M4.row (b := w.heap.size + 1 + 1) (c := RSR (.slice a m c) most) (by simp)
    refine bodyPost_ret (res_two rfl (rv_row Try.underlying45 rfl inf_rst (w.heap.size + 1 + 1) rfl (by rw [r5]; simp [Ky.len, ENR_size, RSR_size])) (rv_tmp _ _ rfl)) rfl ?_
    rw [r5]
    exact RPost.same HO.out M4.end_ _ _
  rw [if_neg (by rintro (h | h | h) <;> omega)]
  have hn9 : n ≤ 65535 := by omega
  rw [← hd] at c3
  have hfb : (0 : Int) ≤ f ∧ f + n ≤ 65535 := by omega
  obtain ⟨res, hres⟩ : ∃ res : List Sk.En × Int, (if ∃ i : Nat, i < n ∧ Sk.find L p (f + (i : Nat)) < m then (L, 10) else if most.toNat < m + n then (L, 8) else (L ++ Sk.mk p f ks, 0)) = res := ⟨_, rfl⟩
  rw [hres]
  have HR10 := hid (show (∃ i : Nat, i < n ∧ Sk.find L p (f + (i : Nat)) < m) → res = (L, 10) from fun h => by rw [← hres, if_pos h])
  have HR8 := hid (show (¬ ∃ i : Nat, i < n ∧ Sk.find L p (f + (i : Nat)) < m) → most.toNat < m + n → res = (L, 8) from fun h h2 => by rw [← hres, if_neg h, if_pos h2])
  have HR0 := hid (show (¬ ∃ i : Nat, i < n ∧ Sk.find L p (f + (i : Nat)) < m) → ¬ most.toNat < m + n → res = (L ++ Sk.mk p f ks, 0) from fun h h2 => by rw [← hres, if_neg h, if_neg h2])
  clear hres
  have HFB := hid hfb
  have HLN := hid hnk
  have HLL := hid (show (fl eE L).length = m * 65 by rw [fl_len eE_len, hn])
  clear hO hv hn hnk hnc hmx hd hd0 hfb
  have M0 := Mm.start no w
  go_enter Try.func15, Try.ntmps15
  have M2 := (((M0.alloc (RSR (.slice a m c) most) 45 (by decide)).alloc (cs U8 p.l) 28 (by decide)).alloc (RSR (.slice none 0 0) 0) 45 (by decide))
  try simp only [World.size_alloc] at M2
  go_upto_region 1 with fail
  obtain ⟨w1, hw1⟩ : ∃ w1, w1 = (((w.alloc (.cells (RSR (.slice a m c) most) 45)).alloc (.cells (cs U8 p.l) 28)).alloc (.cells (RSR (.slice none 0 0) 0) 45)) := ⟨_, rfl⟩
  rw [← hw1] at M2 ⊢
  clear hw1
  refine wp_region_lin (.op 0 (.op 1 (.op 2 (.op 3 (.op 4 (.op 5 (.op 6 (.op 7 (.op 8 (.op 9 (.op 10 (.op 11 (.op 12 .done))))))))))))) (by rfl) ?_
  refine wpT_valp 13 (v := .int .i64 f) rfl rfl rfl (by go_simp) ?_
  refine wpT_valp 14 (v := .bool false) rfl rfl rfl (by go_simp) ?_
  refine wpT_valp 15 (v := .bool false) rfl rfl rfl (by go_simp) ?_
  refine wpT_valp 16 (v := .int .i64 f) rfl rfl (by simp [Region.wanted, yielded, Act.put]) (by go_simp) ?_
  try simp only [Act.put, List.setIfInBounds_toArray, List.set_cons_succ, List.set_cons_zero]
  refine wpT_valp 17 (v := .bool false) rfl rfl (by simp [Region.wanted, yielded, Act.put]) (by go_simp) ?_
  refine wpT_valp 18 (v := .bool false) rfl rfl rfl (by go_simp) ?_
  refine wpT_valp 19 (v := .bool false) rfl rfl rfl (by go_simp) ?_
  refine wpT_valp 20 (v := .slice ua n uc) rfl rfl (by simp [Region.wanted, yielded, Act.put]) (by go_simp) ?_
  refine wpT_valp 21 (v := .int .i64 n) rfl rfl (by simp [Region.wanted, yielded, Act.put]) (by go_simp) ?_
  try simp only [Act.put, List.setIfInBounds_toArray, List.set_cons_succ, List.set_cons_zero]
  refine wpT_valp 22 (v := .int .i64 f) rfl rfl (by simp [Region.wanted, yielded, Act.put]) (by go_simp) ?_
  refine wpT_valp 23 (v := .int .i64 d) rfl rfl (by simp [Region.wanted, yielded, Act.put]) (by have h := HD.out; go_simp) ?_
  refine wpT_valp 24 (v := .bool false) rfl rfl (by simp [Region.wanted, yielded, Act.put]) (by go_simp) ?_
  refine wpT_valp 25 (v := .bool false) rfl rfl rfl (by go_simp) ?_
  first | dsimp only [wpT] | refine wpT_fin ?_
  try simp only [Act.put, List.setIfInBounds_toArray, List.set_cons_succ, List.set_cons_zero]
  go_upto_region 3 with fail
  refine wp_region_lin (.op 0 .done) (by rfl) ?_
  refine wpT_valp 10 (v := .int .i64 0) rfl rfl rfl (by go_simp) ?_
  first | dsimp only [wpT] | refine wpT_fin ?_
  try simp only [Act.put, List.setIfInBounds_toArray, List.set_cons_succ, List.set_cons_zero]
  go_wp2_with fail
  go_loopw [10] (fun x wr => ∃ i : Nat, i ≤ n ∧ x = .int .i64 i ∧ (∀ j : Nat, j < i → ¬ Sk.find L p (f + j) < m) ∧ Mm no w [(w.heap.size + 1 + 1, RSR (.slice none 0 0) 0), (w.heap.size + 1, cs U8 p.l), (w.heap.size, RSR (.slice a m c) most)] wr) (fun x _ => n - (intOf x).toNat)
  case atStart => exact ⟨0, by omega, rfl, fun j hj => by omega, M2⟩
  case round =>
    clear M2
    obtain ⟨i, hi, rfl, hnf, M⟩ := hrel
    by_cases hin : i < n
    · have hlt : (i : Int) < (n : Int) := by omega
      have hF := HFB.out
      have HFI := hid (show IntKind.i64.wrap (f + (i : Int)) = f + (i : Int) from i64w (by omega) (by omega))
      obtain ⟨i1, hi1⟩ : ∃ j, j = i + 1 := ⟨_, rfl⟩
      have HI1 := hid (show IntKind.i64.wrap ((i : Int) + 1) = (i1 : Int) by rw [i64w (by omega) (by omega), hi1]; rfl)
      have HII := hid hi1
      have hnf' := hid hnf
      by_cases hh : Sk.find L p (f + (i : Int)) < m
      · obtain ⟨fr, hfr⟩ : ∃ r : Int, r = (Sk.find L p (f + (i : Int)) : Int) := ⟨_, rfl⟩
        have HNF := hid (show fndR L p (f + (i : Int)) = fr by unfold fndR; rw [if_pos (by rw [HLM.out]; exact hh), hfr])
        have hfr0 : (0 : Int) ≤ fr := by omega
        obtain rfl := HR10.out ⟨i, hin, hh⟩
        clear hnf hi1 hF hfr hh
        go_upto_region 4 with fail
        refine wp_region_lin (.op 0 (.op 1 (.op 2 (.op 3 .done)))) (by rfl) ?_
        refine wpT_valp 27 (v := .int .i64 i) rfl rfl rfl (by go_simp) ?_
        refine wpT_valp 28 (v := .slice ua n uc) rfl rfl rfl (by go_simp) ?_
        refine wpT_valp 29 (v := .int .i64 n) rfl rfl rfl (by go_simp) ?_
        refine wpT_valp 30 (v := .bool true) rfl rfl rfl (by go_simp) ?_
        first | dsimp only [wpT] | refine wpT_fin ?_
        try simp only [Act.put, List.setIfInBounds_toArray, List.set_cons_succ, List.set_cons_zero]
        go_upto_region 6 with fail
        refine wp_region_lin (.op 0 (.op 1 (.op 2 (.op 3 (.op 4 (.op 5 (.op 6 .done))))))) (by rfl) ?_
        refine wpT_ld0 33 Try.underlying45 rfl inf_rst (w.heap.size) (RSR (.slice a m c) most) rfl rfl rfl (by go_simp) (M.row (b := w.heap.size) (c := RSR (.slice a m c) most) (by simp)) (by simp [Ky.len, ENR_size, RSR_size]) rfl ?_
        refine wpT_ld0 34 Try.underlying28 rfl inf_key (w.heap.size + 1) (cs U8 p.l) rfl rfl rfl (by go_simp) (M.row (b := w.heap.size + 1) (c := cs U8 p.l) (by simp)) (by simp [Ky.len, ENR_size, RSR_size]) rfl ?_
        refine wpT_valp 35 (v := .int .i64 f) rfl rfl rfl (by go_simp) ?_
        refine wpT_valp 36 (v := .int .i64 i) rfl rfl rfl (by go_simp) ?_
        try simp only [Act.put, List.setIfInBounds_toArray, List.set_cons_succ, List.set_cons_zero]
        refine wpT_valp 37 (v := .int .i64 (f + i)) rfl rfl rfl (by have h := HFI.out; go_simp) ?_
        refine wpT_callv 38 M (v := .int .i64 fr) rfl rfl rfl (by go_simp) (rfind_c wr _ m c L most (HV.out.below M.end_) HLM.out p (f + i) fr HNF.out) (fun w1 M2 => ?_)
        refine wpT_valp 39 (v := .bool true) rfl rfl rfl (by go_simp) ?_
        first | dsimp only [wpT] | refine wpT_fin ?_
        try simp only [Act.put, List.setIfInBounds_toArray, List.set_cons_succ, List.set_cons_zero]
        go_upto_region 7 with fail
        refine wp_region_lin (.op 0 (.op 1 (.op 2 .done))) (by rfl) ?_
        refine wpT_ld0 40 Try.underlying45 rfl inf_rst (w.heap.size) (RSR (.slice a m c) most) rfl rfl rfl (by go_simp) (M2.row (b := w.heap.size) (c := RSR (.slice a m c) most) (by simp)) (by simp [Ky.len, ENR_size, RSR_size]) rfl ?_
        refine wpT_st0 M2 0 (RSR (.slice a m c) most) inf_rst rfl rfl rfl rfl (by go_simp) (by go_simp) (by simp [Ky.len, ENR_size, RSR_size]) (by simp [Ky.len, ENR_size, RSR_size]) (by simp [go_sem]) rfl (fun w3 M4 => ?_)
        dsimp only [List.set] at M4
        refine wpT_valp 9 (v := .int .i64 10) rfl rfl rfl (by go_simp) ?_
        first | dsimp only [wpT] | refine wpT_fin ?_
        try simp only [Act.put, List.setIfInBounds_toArray, List.set_cons_succ, List.set_cons_zero]
        go_wp2_with fail
        have r5 := M4.row (b := w.heap.size + 1 + 1) (c := RSR (.slice a m c) most) (by simp)
        refine bodyPost_ret (res_two rfl (rv_row Try.underlying45 rfl inf_rst (w.heap.size + 1 + 1) rfl (by rw [r5]; simp [Ky.len, ENR_size, RSR_size])) (rv_tmp _ _ rfl)) rfl ?_
        rw [r5]
        exact RPost.same HO.out M4.end_ _ _
      · have HNF := hid (show fndR L p (f + (i : Int)) = -1 by unfold fndR; rw [if_neg (by rw [HLM.out]; exact hh)])
        have HHH := hid hh
        clear hnf hi1 hF hh
        go_upto_region 4 with fail
        refine wp_region_lin (.op 0 (.op 1 (.op 2 (.op 3 .done)))) (by rfl) ?_
        refine wpT_valp 27 (v := .int .i64 i) rfl rfl rfl (by go_simp) ?_
        refine wpT_valp 28 (v := .slice ua n uc) rfl rfl rfl (by go_simp) ?_
        refine wpT_valp 29 (v := .int .i64 n) rfl rfl rfl (by go_simp) ?_
        refine wpT_valp 30 (v := .bool true) rfl rfl rfl (by go_simp) ?_
        first | dsimp only [wpT] | refine wpT_fin ?_
        try simp only [Act.put, List.setIfInBounds_toArray, List.set_cons_succ, List.set_cons_zero]
        go_upto_region 6 with fail
        refine wp_region_lin (.op 0 (.op 1 (.op 2 (.op 3 (.op 4 (.op 5 (.op 6 .done))))))) (by rfl) ?_
        refine wpT_ld0 33 Try.underlying45 rfl inf_rst (w.heap.size) (RSR (.slice a m c) most) rfl rfl rfl (by go_simp) (M.row (b := w.heap.size) (c := RSR (.slice a m c) most) (by simp)) (by simp [Ky.len, ENR_size, RSR_size]) rfl ?_
        refine wpT_ld0 34 Try.underlying28 rfl inf_key (w.heap.size + 1) (cs U8 p.l) rfl rfl rfl (by go_simp) (M.row (b := w.heap.size + 1) (c := cs U8 p.l) (by simp)) (by simp [Ky.len, ENR_size, RSR_size]) rfl ?_
        refine wpT_valp 35 (v := .int .i64 f) rfl rfl rfl (by go_simp) ?_
        refine wpT_valp 36 (v := .int .i64 i) rfl rfl rfl (by go_simp) ?_
        try simp only [Act.put, List.setIfInBounds_toArray, List.set_cons_succ, List.set_cons_zero]
        refine wpT_valp 37 (v := .int .i64 (f + i)) rfl rfl rfl (by have h := HFI.out; go_simp) ?_
        refine wpT_callv 38 M (v := .int .i64 (-1)) rfl rfl rfl (by go_simp) (rfind_c wr _ m c L most (HV.out.below M.end_) HLM.out p (f + i) (-1) HNF.out) (fun w1 M2 => ?_)
        refine wpT_valp 39 (v := .bool false) rfl rfl rfl (by go_simp) ?_
        first | dsimp only [wpT] | refine wpT_fin ?_
        try simp only [Act.put, List.setIfInBounds_toArray, List.set_cons_succ, List.set_cons_zero]
        go_upto_region 5 with fail
        refine wp_region_lin (.op 0 (.op 1 (.op 2 .done))) (by rfl) ?_
        refine wpT_valp 31 (v := .int .i64 i) rfl rfl rfl (by go_simp) ?_
        refine wpT_valp 32 (v := .int .i64 i1) rfl rfl rfl (by have h := HI1.out; go_simp) ?_
        refine wpT_valp 10 (v := .int .i64 i1) rfl rfl rfl (by go_simp) ?_
        first | dsimp only [wpT] | refine wpT_fin ?_
        try simp only [Act.put, List.setIfInBounds_toArray, List.set_cons_succ, List.set_cons_zero]
        go_wp2_with fail
        go_roundw
        case rel => exact ⟨i1, by have := HII.out; omega, rfl, fun j hj => by
          by_cases e : j = i
          · rw [e]; exact HHH.out
          · exact hnf'.out j (by have := HII.out; omega), M2⟩
        case measure => have := HII.out; simp only [intOf]; omega
    · obtain rfl : n = i := by omega
      have hnx : ¬ ∃ j : Nat, j < n ∧ Sk.find L p (f + (j : Nat)) < m := by rintro ⟨j, hj, h⟩; exact hnf j hj h
      obtain ⟨mn, hmn⟩ : ∃ j, j = m + n := ⟨_, rfl⟩
      have HMN := hid (show IntKind.i64.wrap ((m : Int) + (n : Int)) = (mn : Int) by rw [i64w (by omega) (by omega), hmn]; rfl)
      by_cases hfull : most < (mn : Int)
      · obtain rfl := HR8.out hnx (by omega)
        clear hnf hmn hnx
        go_upto_region 4 with fail
        refine wp_region_lin (.op 0 (.op 1 (.op 2 (.op 3 .done)))) (by rfl) ?_
        refine wpT_valp 27 (v := .int .i64 n) rfl rfl rfl (by go_simp) ?_
        refine wpT_valp 28 (v := .slice ua n uc) rfl rfl rfl (by go_simp) ?_
        refine wpT_valp 29 (v := .int .i64 n) rfl rfl rfl (by go_simp) ?_
        refine wpT_valp 30 (v := .bool false) rfl rfl rfl (by go_simp) ?_
        first | dsimp only [wpT] | refine wpT_fin ?_
        try simp only [Act.put, List.setIfInBounds_toArray, List.set_cons_succ, List.set_cons_zero]
        go_upto_region 8 with fail
        refine wp_region_lin (.op 0 (.op 1 (.op 2 (.op 3 (.op 4 (.op 5 (.op 6 (.op 7 (.op 8 .done))))))))) (by rfl) ?_
        refine wpT_valp 41 (v := .pointer (some ⟨w.heap.size, 0, none⟩)) rfl rfl rfl (by go_simp) ?_
        refine wpT_valp 42 (v := .slice a m c) rfl rfl rfl (by have c0 := rs_c0 (M.row (b := w.heap.size) (c := RSR (.slice a m c) most) (by simp)); go_simp) ?_
        refine wpT_valp 43 (v := .int .i64 m) rfl rfl rfl (by go_simp) ?_
        refine wpT_valp 44 (v := .slice ua n uc) rfl rfl rfl (by go_simp) ?_
        try simp only [Act.put, List.setIfInBounds_toArray, List.set_cons_succ, List.set_cons_zero]
        refine wpT_valp 45 (v := .int .i64 n) rfl rfl rfl (by go_simp) ?_
        refine wpT_valp 46 (v := .int .i64 mn) rfl rfl rfl (by have h := HMN.out; go_simp) ?_
        refine wpT_valp 47 (v := .pointer (some ⟨w.heap.size, 1, none⟩)) rfl rfl rfl (by go_simp) ?_
        refine wpT_valp 48 (v := .int .i64 most) rfl rfl rfl (by have c0 := rs_c1 (M.row (b := w.heap.size) (c := RSR (.slice a m c) most) (by simp)); go_simp) ?_
        refine wpT_valp 49 (v := .bool true) rfl rfl rfl (by go_simp) ?_
        first | dsimp only [wpT] | refine wpT_fin ?_
        try simp only [Act.put, List.setIfInBounds_toArray, List.set_cons_succ, List.set_cons_zero]
        go_upto_region 9 with fail
        refine wp_region_lin (.op 0 (.op 1 (.op 2 .done))) (by rfl) ?_
        refine wpT_ld0 50 Try.underlying45 rfl inf_rst (w.heap.size) (RSR (.slice a m c) most) rfl rfl rfl (by go_simp) (M.row (b := w.heap.size) (c := RSR (.slice a m c) most) (by simp)) (by simp [Ky.len, ENR_size, RSR_size]) rfl ?_
        refine wpT_st0 M 0 (RSR (.slice a m c) most) inf_rst rfl rfl rfl rfl (by go_simp) (by go_simp) (by simp [Ky.len, ENR_size, RSR_size]) (by simp [Ky.len, ENR_size, RSR_size]) (by simp [go_sem]) rfl (fun w1 M2 => ?_)
        dsimp only [List.set] at M2
        refine wpT_valp 9 (v := .int .i64 8) rfl rfl rfl (by go_simp) ?_
        first | dsimp only [wpT] | refine wpT_fin ?_
        try simp only [Act.put, List.setIfInBounds_toArray, List.set_cons_succ, List.set_cons_zero]
        go_wp2_with fail
        have r3 := M2.row (b := w.heap.size + 1 + 1) (c := RSR (.slice a m c) most) (by simp)
        refine bodyPost_ret (res_two rfl (rv_row Try.underlying45 rfl inf_rst (w.heap.size + 1 + 1) rfl (by rw [r3]; simp [Ky.len, ENR_size, RSR_size])) (rv_tmp _ _ rfl)) rfl ?_
        rw [r3]
        exact RPost.same HO.out M2.end_ _ _
      · obtain rfl := HR0.out hnx (by omega)
        have HMNE := hid hmn
        clear hnf hmn hnx hi
        go_upto_region 4 with fail
        refine wp_region_lin (.op 0 (.op 1 (.op 2 (.op 3 .done)))) (by rfl) ?_
        refine wpT_valp 27 (v := .int .i64 n) rfl rfl rfl (by go_simp) ?_
        refine wpT_valp 28 (v := .slice ua n uc) rfl rfl rfl (by go_simp) ?_
        refine wpT_valp 29 (v := .int .i64 n) rfl rfl rfl (by go_simp) ?_
        refine wpT_valp 30 (v := .bool false) rfl rfl rfl (by go_simp) ?_
        first | dsimp only [wpT] | refine wpT_fin ?_
        try simp only [Act.put, List.setIfInBounds_toArray, List.set_cons_succ, List.set_cons_zero]
        go_upto_region 8 with fail
        refine wp_region_lin (.op 0 (.op 1 (.op 2 (.op 3 (.op 4 (.op 5 (.op 6 (.op 7 (.op 8 .done))))))))) (by rfl) ?_
        refine wpT_valp 41 (v := .pointer (some ⟨w.heap.size, 0, none⟩)) rfl rfl rfl (by go_simp) ?_
        refine wpT_valp 42 (v := .slice a m c) rfl rfl rfl (by have c0 := rs_c0 (M.row (b := w.heap.size) (c := RSR (.slice a m c) most) (by simp)); go_simp) ?_
        refine wpT_valp 43 (v := .int .i64 m) rfl rfl rfl (by go_simp) ?_
        refine wpT_valp 44 (v := .slice ua n uc) rfl rfl rfl (by go_simp) ?_
        try simp only [Act.put, List.setIfInBounds_toArray, List.set_cons_succ, List.set_cons_zero]
        refine wpT_valp 45 (v := .int .i64 n) rfl rfl rfl (by go_simp) ?_
        refine wpT_valp 46 (v := .int .i64 mn) rfl rfl rfl (by have h := HMN.out; go_simp) ?_
        refine wpT_valp 47 (v := .pointer (some ⟨w.heap.size, 1, none⟩)) rfl rfl rfl (by go_simp) ?_
        refine wpT_valp 48 (v := .int .i64 most) rfl rfl rfl (by have c0 := rs_c1 (M.row (b := w.heap.size) (c := RSR (.slice a m c) most) (by simp)); go_simp) ?_
        refine wpT_valp 49 (v := .bool false) rfl rfl rfl (by go_simp) ?_
        first | dsimp only [wpT] | refine wpT_fin ?_
        try simp only [Act.put, List.setIfInBounds_toArray, List.set_cons_succ, List.set_cons_zero]
        go_upto_region 10 with fail
        refine wp_region_lin (.op 0 (.op 1 (.op 2 (.op 3 (.op 4 .done))))) (by rfl) ?_
        refine wpT_bs0 (T := 60) 51 M (by decide) rfl rfl rfl (by go_simp) (fun gb wB MB => ?_)
        replace MB := MB.sub (H' := [(w.heap.size + 1 + 1, RSR (.slice none 0 0) 0), (w.heap.size + 1, cs U8 p.l), (w.heap.size, RSR (.slice a m c) most)]) (by simp)
        refine wpT_valp 52 (v := .pointer (some ⟨w.heap.size, 0, none⟩)) rfl rfl rfl (by go_simp) ?_
        refine wpT_valp 53 (v := .slice a m c) rfl rfl rfl (by have c0 := rs_c0 (MB.row (b := w.heap.size) (c := RSR (.slice a m c) most) (by simp)); go_simp) ?_
        refine wpT_gapp 54 _ _ MB elt_ren (.slice (some ⟨gb, 0, none⟩) 0 0) (.slice a m c) 0 m [] (fl eE L) rfl rfl rfl rfl (by go_simp) (Ow.nil _ (w.heap.size + 1 + 1 + 1) 65 (some ⟨gb, 0, none⟩)) (by go_simp) (SV.below HV.out MB.end_) HLL.out (fl_one' (fun _ => one_ENR)) (by omega) (by have := MB.lt (b := w.heap.size + 1 + 1) (c := RSR (.slice none 0 0) 0) (by simp); omega) (fun x hx => by simp [obk] at hx) (fun ua2 wA OA MA _ _ => ?_)
        rw [Nat.zero_add, List.nil_append] at OA
        try simp only [Act.put, List.setIfInBounds_toArray, List.set_cons_succ, List.set_cons_zero]
        refine wpT_valp 11 (v := ua2) rfl rfl rfl (by go_simp) ?_
        first | dsimp only [wpT] | refine wpT_fin ?_
        try simp only [Act.put, List.setIfInBounds_toArray, List.set_cons_succ, List.set_cons_zero]
        go_upto_region 11 with fail
        refine wp_region_lin (.op 0 .done) (by rfl) ?_
        refine wpT_valp 12 (v := .int .i64 0) rfl rfl rfl (by go_simp) ?_
        first | dsimp only [wpT] | refine wpT_fin ?_
        try simp only [Act.put, List.setIfInBounds_toArray, List.set_cons_succ, List.set_cons_zero]
        go_wp2_with fail
        have hmn9 : m + n ≤ 200000 := by omega
        go_loopw [11, 12] (fun u11 x wr => ∃ i mi : Nat, i ≤ n ∧ x = .int .i64 i ∧ m + i = mi ∧ Ow wr (w.heap.size + 1 + 1 + 1) 65 u11 mi (fl eE (L ++ Sk.mk p f (ks.take i))) ∧ Mm no w [(w.heap.size + 1 + 1, RSR (.slice none 0 0) 0), (w.heap.size + 1, cs U8 p.l), (w.heap.size, RSR (.slice a m c) most)] wr) (fun _ x _ => n - (intOf x).toNat)
        case atStart => exact ⟨0, m, by omega, rfl, rfl, by simpa [Sk.mk] using OA, MA⟩
        case round =>
          clear MA OA
          obtain ⟨i, mi, hi, rfl, hmi, OU, M⟩ := hrel
          by_cases hin : i < n
          · have hlt : (i : Int) < (n : Int) := by omega
            have hi00 : (0 : Int) ≤ (i : Int) := by omega
            obtain ⟨k, hk⟩ : ∃ k, ks[i]? = some k := ⟨_, List.getElem?_eq_getElem (by have := HLN.out; omega)⟩
            have hF := HFB.out
            have HFI := hid (show IntKind.i64.wrap (f + (i : Int)) = f + (i : Int) from i64w (by omega) (by omega))
            obtain ⟨i1, hi1⟩ : ∃ j, j = i + 1 := ⟨_, rfl⟩
            have HI1 := hid (show IntKind.i64.wrap ((i : Int) + 1) = (i1 : Int) by rw [i64w (by omega) (by omega), hi1]; rfl)
            obtain ⟨kb, ko, kc, e⟩ := sv_some eK_len (by decide) HK0.out (by have := HLN.out; omega)
            injection e with e1 e2 e3
            subst e1
            clear e2 e3
            have HEL : Hid (∀ w', Below w.heap.size w w' → exLoad Try.prog 28 (.pointer (some ⟨kb, ko + i * 32, none⟩)) w' = .ok (.value (.agg (cs U8 k.l))) w') := hid fun w' h =>
              sv_load eK_len Try.underlying28 rfl inf_key (by decide) (SV.below HK0.out h) hk (cs U8 k.l) rfl
            obtain ⟨x, hx⟩ : ∃ x : Sk.En, x = ⟨p, k, f + (i : Int)⟩ := ⟨_, rfl⟩
            have HX := hid hx
            have HTK := hid (show fl eE (L ++ Sk.mk p f (ks.take i)) ++ eE x = fl eE (L ++ Sk.mk p f (ks.take i1)) by
              have h := fl_append (enc := eE) (L := L ++ Sk.mk p f (ks.take i)) [x]
              rw [fl_one] at h
              rw [hi1, ki_take hk, Sk.mk_append, ← List.append_assoc, ← h, hx, List.length_take, Nat.min_eq_left (by have := HLN.out; omega)])
            have HII := hid hi1
            have HMI := hid hmi
            obtain ⟨S1, MR, hS1, hT1⟩ := M.rebase
            have HOM : Hid (∀ H' w', Mm S1 wr H' w' → Ow w' (w.heap.size + 1 + 1 + 1) 65 u11 mi (fl eE (L ++ Sk.mk p f (ks.take i)))) := hid fun H' w' N => OU.fr N.fr (fun x hx h => by
              have h1 := hS1 x h
              have h2 := (OU.at_ x hx).1
              simp only [List.map_cons, List.map_nil, List.mem_cons, List.not_mem_nil, or_false] at h1
              omega)
            have hmi9 : mi ≤ 200000 := by omega
            have M := MR
            clear hk hi1 hx hF MR hS1 OU hmi
            go_upto_region 12 with fail
            refine wp_region_lin (.op 0 (.op 1 (.op 2 (.op 3 .done)))) (by rfl) ?_
            refine wpT_valp 55 (v := .int .i64 i) rfl rfl rfl (by go_simp) ?_
            refine wpT_valp 56 (v := .slice (some ⟨kb, ko, none⟩) n uc) rfl rfl rfl (by go_simp) ?_
            refine wpT_valp 57 (v := .int .i64 n) rfl rfl rfl (by go_simp) ?_
            refine wpT_valp 58 (v := .bool true) rfl rfl rfl (by go_simp) ?_
            first | dsimp only [wpT] | refine wpT_fin ?_
            try simp only [Act.put, List.setIfInBounds_toArray, List.set_cons_succ, List.set_cons_zero]
            go_upto_region 14 with fail
            refine wp_region_Z (fun v => v.rowOf (w.heap.size + 1) = cs U8 p.l ∧ exLoad Try.prog 28 (.pointer (some ⟨kb, ko + i * 32, none⟩)) v = .ok (.value (.agg (cs U8 k.l))) v) 12 (.yld [0, 1, 2, 3, 4, 5, 6, 7, 8, 9] (.op 10 (.op 11 (.rest (.op 12 .done))))) (by kernel_rfl) (by kernel_rfl) (by kernel_rfl) (fun d _ _ _ _ h => by cases d <;> exact h) ?_
            have M1 := M.drewN 1
            change wpZ _ _ _ _ _ _ (wr.drewN 1)
            obtain ⟨w2, hw2⟩ : ∃ w2, w2 = wr.drewN 1 := ⟨_, rfl⟩
            rw [← hw2] at M1 ⊢
            clear hw2
            refine wpZ_yld ?_
            refine wpYJd_op 61 (u11) rfl rfl rfl (fun w1 h => by go_simp) ?_
            refine wpYJd_ld 62 Try.underlying28 rfl inf_key (w.heap.size + 1) (cs U8 p.l) rfl rfl rfl (by go_simp) (fun _ h => h.1) (by simp [Ky.len, ENR_size, RSR_size]) rfl ?_
            refine wpYJd_op 63 (.slice (some ⟨kb, ko, none⟩) n uc) rfl rfl rfl (fun w1 h => by go_simp) ?_
            refine wpYJd_op 64 (.int .i64 i) rfl rfl rfl (fun w1 h => by go_simp) ?_
            refine wpYJd_op 65 (.pointer (some ⟨kb, ko + i * 32, none⟩)) rfl rfl rfl (fun w1 h => by go_simp) ?_
            try simp only [Act.put, List.setIfInBounds_toArray, List.set_cons_succ, List.set_cons_zero]
            refine wpYJd_ldy 66 (.pointer (some ⟨kb, ko + i * 32, none⟩)) (.agg (cs U8 k.l)) rfl rfl rfl (by go_simp) (fun w1 h => h.2) rfl ?_
            refine wpYJd_op 67 (.int .i64 f) rfl rfl rfl (fun w1 h => by go_simp) ?_
            refine wpYJd_op 68 (.int .i64 i) rfl rfl rfl (fun w1 h => by go_simp) ?_
            refine wpYJd_op 69 (.int .i64 (f + i)) rfl rfl rfl (fun w1 h => by have h := HFI.out; go_simp) ?_
            refine wpYJd_op 70 (.agg (ENR x)) rfl rfl rfl (fun w1 h => by have q := xb_ren4 w1 HX.out; go_simp) ?_
            show wpZ _ _ _ _ _ _ _
            try simp only [Act.put, List.setIfInBounds_toArray, List.set_cons_succ, List.set_cons_zero]
            refine wpZ_of (⟨M1.row (b := w.heap.size + 1) (c := cs U8 p.l) (by simp), (HEL.out _ (by first | exact (M1).end_ | exact (hT1 _ _ M1).end_))⟩) ?_
            refine wpT_one 71 _ M1 elt_ren (by decide) (ENR x) ENR_size rfl rfl rfl (by go_simp) rfl (fun gx wgx Mgx => ?_)
            refine wpZ_to ?_
            try simp only [Act.put, List.setIfInBounds_toArray, List.set_cons_succ, List.set_cons_zero]
            refine wpZ_of (⟨Mgx.row (b := w.heap.size + 1) (c := cs U8 p.l) (by simp), (HEL.out _ (by first | exact (Mgx).end_ | exact (hT1 _ _ Mgx).end_))⟩) ?_
            have MZ := hT1 _ _ Mgx
            have hOx := HOM.out _ _ Mgx
            refine wpT_gapp 72 _ _ (MZ.sub (H' := [(w.heap.size + 1 + 1, RSR (.slice none 0 0) 0), (w.heap.size + 1, cs U8 p.l), (w.heap.size, RSR (.slice a m c) most)]) (by simp)) elt_ren (u11) (.slice (some ⟨gx, 0, none⟩) 1 1) mi 1 (fl eE (L ++ Sk.mk p f (ks.take i))) (eE x) rfl rfl rfl rfl (by go_simp) hOx (by go_simp) (sv_row (Mgx.row (b := gx) (c := ENR x) (by simp)) (by unfold maxLen; decide)) (eE_len x) one_ENR (by omega) (by have := MZ.lt (b := w.heap.size + 1 + 1) (c := RSR (.slice none 0 0) 0) (by simp); omega) (fun x hx => by
              have h1 := (hOx.at_ x hx).1
              refine ⟨.inr (by omega), fun p hp e => ?_⟩
              (simp only [List.mem_cons, List.not_mem_nil, or_false] at hp; rcases hp with rfl | rfl | rfl <;> (dsimp only at e; omega))) (fun uy wOy Oy MOy _ _ => ?_)
            refine wpZ_to ?_
            try simp only [Act.put, List.setIfInBounds_toArray, List.set_cons_succ, List.set_cons_zero]
            refine wpZ_rest (⟨MOy.row (b := w.heap.size + 1) (c := cs U8 p.l) (by simp), (HEL.out _ (by first | exact (MOy).end_ | exact (hT1 _ _ MOy).end_))⟩) ?_
            refine wpT_valp 11 (v := uy) rfl rfl rfl (by go_simp) ?_
            first | dsimp only [wpT] | refine wpT_fin ?_
            try simp only [Act.put, List.setIfInBounds_toArray, List.set_cons_succ, List.set_cons_zero]
            go_upto_region 13 with fail
            refine wp_region_lin (.op 0 (.op 1 (.op 2 .done))) (by rfl) ?_
            refine wpT_valp 59 (v := .int .i64 i) rfl rfl rfl (by go_simp) ?_
            refine wpT_valp 60 (v := .int .i64 i1) rfl rfl rfl (by have h := HI1.out; go_simp) ?_
            refine wpT_valp 12 (v := .int .i64 i1) rfl rfl rfl (by go_simp) ?_
            first | dsimp only [wpT] | refine wpT_fin ?_
            try simp only [Act.put, List.setIfInBounds_toArray, List.set_cons_succ, List.set_cons_zero]
            go_wp2_with fail
            rw [HTK.out] at Oy
            go_roundw
            case rel => exact ⟨i1, mi + 1, by have := HII.out; omega, rfl, by have := HII.out; have := HMI.out; omega, Oy, MOy⟩
            case measure => have := HII.out; simp only [intOf]; omega
          · obtain rfl : n = i := by omega
            rw [List.take_of_length_le (by have := HLN.out; omega)] at OU
            obtain rfl : mi = mn := by have := HMNE.out; omega
            obtain ⟨af, cf, rfl, _⟩ := OU.shape
            obtain ⟨S1, MR, hS1, hT1⟩ := M.rebase
            have HFIN := hid (RPost.fin (v := .slice a m c) OU (by rw [List.length_append, Sk.mk_len, HLM.out, HLN.out]; exact hmi) hB (by omega) hS1 (fun q hq => by
              simp only [List.mem_cons, List.not_mem_nil, or_false] at hq
              rcases hq with rfl | rfl | rfl <;> (dsimp only; omega)) most 0 hT1)
            have M := MR
            clear OU MR hS1 hT1 hmi HMNE HMN hfull
            go_upto_region 12 with fail
            refine wp_region_lin (.op 0 (.op 1 (.op 2 (.op 3 .done)))) (by rfl) ?_
            refine wpT_valp 55 (v := .int .i64 n) rfl rfl rfl (by go_simp) ?_
            refine wpT_valp 56 (v := .slice ua n uc) rfl rfl rfl (by go_simp) ?_
            refine wpT_valp 57 (v := .int .i64 n) rfl rfl rfl (by go_simp) ?_
            refine wpT_valp 58 (v := .bool false) rfl rfl rfl (by go_simp) ?_
            first | dsimp only [wpT] | refine wpT_fin ?_
            try simp only [Act.put, List.setIfInBounds_toArray, List.set_cons_succ, List.set_cons_zero]
            go_upto_region 15 with fail
            refine wp_region_lin (.op 0 (.op 1 (.op 2 .done))) (by rfl) ?_
            refine wpT_valp 73 (v := .slice af mi cf) rfl rfl rfl (by go_simp) ?_
            refine wpT_valp 74 (v := .pointer (some ⟨w.heap.size, 0, none⟩)) rfl rfl rfl (by go_simp) ?_
            refine wpT_stc M 2 (.slice af mi cf) (RSR (.slice af mi cf) most) inf_slr rfl rfl rfl rfl (by go_simp) (by go_simp) (by simp [Ky.len, ENR_size, RSR_size]) (by simp [go_sem]) (rs_s0 _) rfl (fun w1 M2 => ?_)
            dsimp only [List.set] at M2
            first | dsimp only [wpT] | refine wpT_fin ?_
            try simp only [Act.put, List.setIfInBounds_toArray, List.set_cons_succ, List.set_cons_zero]
            go_upto_region 16 with fail
            refine wp_region_lin (.op 0 (.op 1 (.op 2 .done))) (by rfl) ?_
            refine wpT_ld0 75 Try.underlying45 rfl inf_rst (w.heap.size) (RSR (.slice af mi cf) most) rfl rfl rfl (by go_simp) (M2.row (b := w.heap.size) (c := RSR (.slice af mi cf) most) (by simp)) (by simp [Ky.len, ENR_size, RSR_size]) rfl ?_
            refine wpT_st0 M2 0 (RSR (.slice af mi cf) most) inf_rst rfl rfl rfl rfl (by go_simp) (by go_simp) (by simp [Ky.len, ENR_size, RSR_size]) (by simp [Ky.len, ENR_size, RSR_size]) (by simp [go_sem]) rfl (fun w3 M4 => ?_)
            dsimp only [List.set] at M4
            refine wpT_valp 9 (v := .int .i64 0) rfl rfl rfl (by go_simp) ?_
            first | dsimp only [wpT] | refine wpT_fin ?_
            try simp only [Act.put, List.setIfInBounds_toArray, List.set_cons_succ, List.set_cons_zero]
            go_wp2_with fail
            have r5 := M4.row (b := w.heap.size + 1 + 1) (c := RSR (.slice af mi cf) most) (by simp)
            refine bodyPost_ret (res_two rfl (rv_row Try.underlying45 rfl inf_rst (w.heap.size + 1 + 1) rfl (by rw [r5]; simp [Ky.len, ENR_size, RSR_size])) (rv_tmp _ _ rfl)) rfl ?_
            rw [r5]
            exact HFIN.out _ _ M4
end Go.Proofs.Ytojkcbhmhfjioaa
