/-
  Package epoch: what is put ahead of a slice of slots; own work.
-/
import Derived.Test.YtgclegdgngldoaaDoorEp3
import Derived.Lib.Overlaps
set_option linter.unusedSimpArgs false
set_option linter.unusedVariables false
namespace Go.Proofs.YtgclegdgngldoaaDoor
open Go.RowKit Fp
namespace INS
theorem sz1 {cz cz2 : Array Value} {e : List Value} {G : Nat} (h : cz.size = (G + 1) * 67) (h2 : cz2 = (cz.toList.take 0 ++ e ++ cz.toList.drop (0 + e.length)).toArray) (he : e.length = 67) : cz2.size = (G + 1) * 67 := by
  rw [h2]; simp [he, h]; omega
theorem sz2 {cu cu2 : Array Value} {F : List Value} {c n : Nat} (h : cu.size = c * 67) (h2 : cu2 = (cu.toList.take 67 ++ F ++ cu.toList.drop (67 + F.length)).toArray) (hF : F.length = n * 67) (hc : n + 1 ≤ c) : cu2.size = c * 67 := by
  rw [h2]; simp [hF, h]; omega
theorem fin1 {cz cz2 cz3 : Array Value} {e F : List Value} {G n : Nat} (h : cz.size = (G + 1) * 67) (h1 : ∀ u ∈ cz.toList, u.oneCell' = true) (h2 : cz2 = (cz.toList.take 0 ++ e ++ cz.toList.drop (0 + e.length)).toArray) (h3 : cz3 = (cz2.toList.take 67 ++ F ++ cz2.toList.drop (67 + F.length)).toArray) (he : e.length = 67) (hF : F.length = n * 67) (hn : n + 1 ≤ G + 1)
    (e1 : ∀ u ∈ e, u.oneCell' = true) (F1 : ∀ u ∈ F, u.oneCell' = true) : cz3.size = (G + 1) * 67 ∧ cz3.toList.take ((n + 1) * 67) = e ++ F ∧ ∀ u ∈ cz3.toList, u.oneCell' = true := by
  have c2 : cz2.toList = e ++ cz.toList.drop 67 := by rw [h2]; simp [he]
  have c3 : cz3.toList = e ++ (F ++ cz2.toList.drop (67 + F.length)) := by
    rw [h3]; simp only [List.append_assoc]
    rw [c2, List.take_append_of_le_length (by omega), List.take_of_length_le (by omega)]
  refine ⟨?_, ?_, ?_⟩
  · rw [← Array.length_toList, c3, c2]; simp [he, hF, h]; omega
  · rw [c3, ← List.append_assoc, List.take_append_of_le_length (by simp [he, hF]; omega), List.take_of_length_le (by simp [he, hF]; omega)]
  · intro u hu
    rw [c3, c2] at hu
    rcases List.mem_append.1 hu with hu | hu
    · exact e1 u hu
    · rcases List.mem_append.1 hu with hu | hu
      · exact F1 u hu
      · rcases List.mem_append.1 (List.mem_of_mem_drop hu) with hu | hu
        · exact e1 u hu
        · exact h1 u (List.mem_of_mem_drop hu)
theorem fin2 {cu cu2 cu3 : Array Value} {e F : List Value} {c n : Nat} (h : cu.size = c * 67) (h1 : ∀ u ∈ cu.toList, u.oneCell' = true) (h2 : cu2 = (cu.toList.take 67 ++ F ++ cu.toList.drop (67 + F.length)).toArray) (h3 : cu3 = (cu2.toList.take 0 ++ e ++ cu2.toList.drop (0 + e.length)).toArray) (he : e.length = 67) (hF : F.length = n * 67) (hn : n + 1 ≤ c)
    (e1 : ∀ u ∈ e, u.oneCell' = true) (F1 : ∀ u ∈ F, u.oneCell' = true) : cu3.size = c * 67 ∧ cu3.toList.take ((n + 1) * 67) = e ++ F ∧ ∀ u ∈ cu3.toList, u.oneCell' = true := by
  have hl : cu.toList.length = c * 67 := by simpa using h
  have l1 : (cu.toList.take 67).length = 67 := by rw [List.length_take, hl]; omega
  have c2 : cu2.toList = cu.toList.take 67 ++ (F ++ cu.toList.drop (67 + F.length)) := by rw [h2]; simp
  have c3 : cu3.toList = e ++ (F ++ cu.toList.drop (67 + F.length)) := by
    rw [h3]; simp only [List.take_zero, List.nil_append, Nat.zero_add, he]
    rw [c2, List.drop_append_of_le_length (by omega), List.drop_of_length_le (by omega), List.nil_append]
  refine ⟨?_, ?_, ?_⟩
  · rw [← Array.length_toList, c3]; simp [he, hF, h]; omega
  · rw [c3, ← List.append_assoc, List.take_append_of_le_length (by simp [he, hF]; omega), List.take_of_length_le (by simp [he, hF]; omega)]
  · intro u hu
    rw [c3] at hu
    rcases List.mem_append.1 hu with hu | hu
    · exact e1 u hu
    · rcases List.mem_append.1 hu with hu | hu
      · exact F1 u hu
      · exact h1 u (List.mem_of_mem_drop hu)
end INS
attribute [local irreducible] ESL EPS ROR
set_option maxRecDepth 100000 in
set_option maxHeartbeats 2000000 in
theorem ins_c (w : World) (base gx : Nat) (v : Value) (L : List Ep.Sl) (k : L8) (s : Ep.Sl) (hbase : base ≤ w.heap.size) (h0 : 0 < L.length) (h9 : L.length ≤ 1000) (hO : Ow w base 67 v L.length (fl (e67 k) L)) (X : TypeId) (hX : w.heap[gx]? = some (.cells (ESL k s) X (0, 0))) (hne : obk v ≠ some gx) :
    Calls Tryd.prog 45 #[v, .int .i64 0, .slice (some ⟨gx, 0, none⟩) 1 1] w fun e w' =>
      ∃ v', e = .returned v' ∧ Ow w' base 67 v' (L.length + 1) (fl (e67 k) (s :: L)) ∧ Fr (fun g => obk v = some g) w w' ∧ ∀ g, obk v' = some g → obk v = some g ∨ w.heap.size ≤ g := by
  obtain ⟨n, hn⟩ : ∃ n, L.length = n := ⟨_, rfl⟩
  rw [hn] at hO h0 h9 ⊢
  have hsv := hO.sv
  rcases id hO.2 with ⟨a, rfl, h00⟩ | ⟨g, cap, cur, T, rfl, h1, hT, h2, h3, h4, h5, h6, h7⟩
  · omega
  obtain ⟨c1, hc1⟩ : ∃ c, c = cap + 1 := ⟨_, rfl⟩
  have hobk : obk (.slice (some ⟨g, 0, none⟩) n (cap + 1)) = some g := rfl
  rw [hobk] at hne ⊢
  rw [← hc1] at hsv hO h3 h4 h5 hobk ⊢
  have hgx : gx ≠ g := fun e => hne (by rw [e])
  have hmx : c1 ≤ 9223372036854775807 := by unfold maxLen at h4; omega
  obtain ⟨n1, hn1⟩ : ∃ m, m = n + 1 := ⟨_, rfl⟩
  rw [← hn1]
  have hrx : w.rowOf gx = ESL k s := rowOf_eq hX
  have hltx : gx < w.heap.size := (Array.getElem?_eq_some_iff.1 hX).1
  have hxsv : ∀ w', w'.heap[gx]? = w.heap[gx]? → SV w' (.slice (some ⟨gx, 0, none⟩) 1 1) 1 (e67 k s) := fun w' h => by
    refine ⟨_, _, rfl, Nat.le_refl _, by unfold maxLen; omega, fun _ => ⟨gx, 0, rfl, fun i hi => ?_⟩⟩
    rw [cell_rowOf, Nat.zero_add, show w'.rowOf gx = ESL k s from by rw [← hrx]; simp [World.rowOf, h]]
    simp [e67]
  have HN1 := hid (show IntKind.i64.wrap ((n : Int) + 1) = (n1 : Int) by rw [i64w _ (by omega) (by omega), hn1]; rfl)
  have HN2 := hid (show IntKind.i64.wrap (n1 : Int) = (n1 : Int) by rw [i64w _ (by omega) (by omega)])
  have HN3 := hid (show n1 - 1 = n by omega)
  have hn0 : ¬ (0 : Int) = (n : Int) := by omega
  have hc0 : ¬ c1 = 0 := by omega
  have HNN := hid hn1
  have HW1 := hid (show IntKind.i64.wrap 1 = 1 by decide)
  by_cases hroom : n1 ≤ c1
  · have hgt : ¬ (c1 : Int) < (n1 : Int) := by omega
    have hle : (n1 : Int) ≤ (c1 : Int) := by omega
    have hc11 : ¬ c1 = 1 := by omega
    have hlt1 : (1 : Int) ≤ (n1 : Int) := by omega
    obtain ⟨c2, hc2⟩ : ∃ c, c = c1 - 1 := ⟨_, rfl⟩
    have HC2 := hid hc2.symm
    have hmn : n ≤ n1 := by omega
    have hmc : n ≤ c2 := by omega
    have M0 := Mm.lend hT h2
    have hsz : cur.size = c1 * 67 := h5
    have HOV : Hid ((callFunc 65 #[.slice (some ⟨gx, 0, none⟩) 1 1, .slice (some ⟨g, 67, none⟩) n c2]).run Tryd.prog w = .ok (.value (.bool false)) w) := by
      rw [run_callFunc_extern Tryd.func65 (by kernel_rfl) (by kernel_rfl) (by kernel_rfl) (e := Extern.SlicesOverlaps.overlaps #[71, 71] #[4]) (by kernel_rfl),
        Lib.run_overlaps_apart w 71 4 83 Tryd.underlying71 67 (fun w => by obtain ⟨i, hi0, hz0, hz1, hz2⟩ := info_parts elt_esl.i; simp [sizeOf, typeInfo, hi0, hz1]) ⟨gx, 0, none⟩ ⟨g, 67, none⟩ 1 1 n c2 hgx X T (ESL k s).size cur.size (by simp [World.shape?, hX]) (by simp [World.shape?, h2]) (by omega) (by simp [World.frozen?, hX]) (by simp [World.frozen?, hX])]
      rfl
    have HX : Hid (∀ w', Fr (fun x => x = g) w w' → SV w' (.slice (some ⟨gx, 0, none⟩) 1 1) 1 (e67 k s)) := hid fun w' h => hxsv w' (h.block gx hltx hgx)
    have HSRC : Hid (∀ j, j < (fl (e67 k) L).length → cur[0 + j]? = (fl (e67 k) L)[j]?) := hid fun j hj => by
      rw [fl_len (e67_len k), hn] at hj
      rw [Nat.zero_add, ← h6, List.getElem?_take_of_lt hj]; simp
    have HH1 := hid h1
    have HH4 := hid h4
    have HF := hid (fun cu2 cu3 a b => INS.fin2 (cu := cur) (cu2 := cu2) (cu3 := cu3) (e := e67 k s) (F := fl (e67 k) L) (c := c1) (n := n) hsz h7 a b (e67_len k s) (by rw [fl_len (e67_len k), hn]) (by omega) one_ESL (fl_one' (fun _ => one_ESL)))
    have hobk1 : obk (.slice (some ⟨g, 0, none⟩) n1 c1) = some g := by rw [hc1]; rfl
    clear hX hrx hxsv h2 h5 h6 h7 hO hsv h1 h4 hc1 hn1 hc2
    go_enter Tryd.func45, Tryd.ntmps45
    go_upto_region 1 with fail
    refine wp_region_lin (.op 0 (.op 1 (.op 2 .done))) (by rfl) ?_
    refine wpT_valp 10 (v := .slice (some ⟨g, 0, none⟩) n c1) rfl rfl rfl (by go_simp) ?_
    refine wpT_valp 11 (v := .int .i64 0) rfl rfl rfl (by go_simp) ?_
    refine wpT_valp 12 (v := .slice (some ⟨g, 0, none⟩) n c1) rfl rfl rfl (by go_simp) ?_
    dsimp only [wpT]
    try simp only [Act.put, List.setIfInBounds_toArray, List.set_cons_succ, List.set_cons_zero]
    go_upto_region 2 with fail
    refine wp_region_lin (.op 0 (.op 1 (.op 2 .done))) (by rfl) ?_
    refine wpT_valp 13 (v := .slice (some ⟨gx, 0, none⟩) 1 1) rfl rfl rfl (by go_simp) ?_
    refine wpT_valp 14 (v := .int .i64 1) rfl rfl rfl (by go_simp) ?_
    refine wpT_valp 7 (v := .int .i64 1) rfl rfl rfl (by go_simp) ?_
    dsimp only [wpT]
    try simp only [Act.put, List.setIfInBounds_toArray, List.set_cons_succ, List.set_cons_zero]
    go_upto_region 3 with fail
    refine wp_region_lin (.op 0 (.op 1 .done)) (by rfl) ?_
    refine wpT_valp 15 (v := .int .i64 1) rfl rfl rfl (by go_simp) ?_
    refine wpT_valp 16 (v := .bool false) rfl rfl rfl (by go_simp) ?_
    dsimp only [wpT]
    try simp only [Act.put, List.setIfInBounds_toArray, List.set_cons_succ, List.set_cons_zero]
    go_upto_region 5 with fail
    refine wp_region_lin (.op 0 (.op 1 (.op 2 .done))) (by rfl) ?_
    refine wpT_valp 18 (v := .slice (some ⟨g, 0, none⟩) n c1) rfl rfl rfl (by go_simp) ?_
    refine wpT_valp 19 (v := .int .i64 n) rfl rfl rfl (by go_simp) ?_
    refine wpT_valp 8 (v := .int .i64 n) rfl rfl rfl (by go_simp) ?_
    dsimp only [wpT]
    try simp only [Act.put, List.setIfInBounds_toArray, List.set_cons_succ, List.set_cons_zero]
    go_upto_region 6 with fail
    refine wp_region_lin (.op 0 (.op 1 (.op 2 .done))) (by rfl) ?_
    refine wpT_valp 20 (v := .int .i64 0) rfl rfl rfl (by go_simp) ?_
    refine wpT_valp 21 (v := .int .i64 n) rfl rfl rfl (by go_simp) ?_
    refine wpT_valp 22 (v := .bool false) rfl rfl rfl (by go_simp) ?_
    dsimp only [wpT]
    try simp only [Act.put, List.setIfInBounds_toArray, List.set_cons_succ, List.set_cons_zero]
    go_upto_region 8 with fail
    refine wp_region_lin (.op 0 (.op 1 (.op 2 (.op 3 (.op 4 (.op 5 .done)))))) (by rfl) ?_
    refine wpT_valp 26 (v := .int .i64 n) rfl rfl rfl (by go_simp) ?_
    refine wpT_valp 27 (v := .int .i64 1) rfl rfl rfl (by go_simp) ?_
    refine wpT_valp 28 (v := .int .i64 n1) rfl rfl rfl (by have h := HN1.out; go_simp) ?_
    refine wpT_valp 29 (v := .slice (some ⟨g, 0, none⟩) n c1) rfl rfl rfl (by go_simp) ?_
    try simp only [Act.put, List.setIfInBounds_toArray, List.set_cons_succ, List.set_cons_zero]
    refine wpT_valp 30 (v := .int .i64 c1) rfl rfl rfl (by go_simp) ?_
    refine wpT_valp 31 (v := .bool false) rfl rfl rfl (by go_simp) ?_
    dsimp only [wpT]
    try simp only [Act.put, List.setIfInBounds_toArray, List.set_cons_succ, List.set_cons_zero]
    go_upto_region 13 with fail
    refine wp_region_lin (.op 0 (.op 1 (.op 2 (.op 3 (.op 4 (.op 5 .done)))))) (by rfl) ?_
    refine wpT_valp 56 (v := .slice (some ⟨g, 0, none⟩) n c1) rfl rfl rfl (by go_simp) ?_
    refine wpT_valp 57 (v := .int .i64 n) rfl rfl rfl (by go_simp) ?_
    refine wpT_valp 58 (v := .int .i64 1) rfl rfl rfl (by go_simp) ?_
    refine wpT_valp 59 (v := .int .i64 n1) rfl rfl rfl (by have h := HN1.out; go_simp) ?_
    try simp only [Act.put, List.setIfInBounds_toArray, List.set_cons_succ, List.set_cons_zero]
    refine wpT_valp 60 (v := .slice (some ⟨g, 0, none⟩) n1 c1) rfl rfl rfl (by go_simp) ?_
    refine wpT_valp 0 (v := .slice (some ⟨g, 0, none⟩) n1 c1) rfl rfl rfl (by go_simp) ?_
    dsimp only [wpT]
    try simp only [Act.put, List.setIfInBounds_toArray, List.set_cons_succ, List.set_cons_zero]
    go_upto_region 14 with fail
    refine wp_region_lin (.op 0 (.op 1 (.op 2 (.op 3 (.op 4 (.op 5 (.op 6 (.op 7 .done)))))))) (by rfl) ?_
    refine wpT_valp 61 (v := .slice (some ⟨gx, 0, none⟩) 1 1) rfl rfl rfl (by go_simp) ?_
    refine wpT_valp 62 (v := .slice (some ⟨g, 0, none⟩) n1 c1) rfl rfl rfl (by go_simp) ?_
    refine wpT_valp 63 (v := .int .i64 0) rfl rfl rfl (by go_simp) ?_
    refine wpT_valp 64 (v := .int .i64 1) rfl rfl rfl (by go_simp) ?_
    try simp only [Act.put, List.setIfInBounds_toArray, List.set_cons_succ, List.set_cons_zero]
    refine wpT_valp 65 (v := .int .i64 1) rfl rfl rfl (by have h := HW1.out; go_simp) ?_
    refine wpT_valp 66 (v := .slice (some ⟨g, 67, none⟩) n c2) rfl rfl rfl (by have h := HN3.out; have h2 := HC2.out; go_simp) ?_
    refine wpT_valp 67 (v := .bool false) rfl rfl rfl (by have h := HOV.out; go_simp) ?_
    refine wpT_valp 68 (v := .bool true) rfl rfl rfl (by go_simp) ?_
    dsimp only [wpT]
    try simp only [Act.put, List.setIfInBounds_toArray, List.set_cons_succ, List.set_cons_zero]
    go_upto_region 15 with fail
    refine wp_region_X (fun v => True) (.yld [0, 1, 2, 3, 4, 5, 6, 7] (.op 8 .done)) (by kernel_rfl) (by kernel_rfl) (by kernel_rfl) (fun d _ _ _ _ h => by cases d <;> exact h) ?_
    have M1 := M0.drewN 1
    change wpX _ _ _ _ _ _ (w.drewN 1)
    obtain ⟨w2, hw2⟩ : ∃ w2, w2 = w.drewN 1 := ⟨_, rfl⟩
    rw [← hw2] at M1 ⊢
    clear hw2
    refine wpX_yld ?_
    refine wpYJd_op 69 (.slice (some ⟨g, 0, none⟩) n1 c1) rfl rfl rfl (fun w1 h => by go_simp) ?_
    refine wpYJd_op 70 (.int .i64 0) rfl rfl rfl (fun w1 h => by go_simp) ?_
    refine wpYJd_op 71 (.int .i64 1) rfl rfl rfl (fun w1 h => by go_simp) ?_
    refine wpYJd_op 72 (.int .i64 1) rfl rfl rfl (fun w1 h => by have h := HW1.out; go_simp) ?_
    refine wpYJd_op 73 (.slice (some ⟨g, 67, none⟩) n c2) rfl rfl rfl (fun w1 h => by have h := HN3.out; have h2 := HC2.out; go_simp) ?_
    try simp only [Act.put, List.setIfInBounds_toArray, List.set_cons_succ, List.set_cons_zero]
    refine wpYJd_op 74 (.slice (some ⟨g, 0, none⟩) n1 c1) rfl rfl rfl (fun w1 h => by go_simp) ?_
    refine wpYJd_op 75 (.int .i64 0) rfl rfl rfl (fun w1 h => by go_simp) ?_
    refine wpYJd_op 76 (.slice (some ⟨g, 0, none⟩) n1 c1) rfl rfl rfl (fun w1 h => by go_simp) ?_
    show wpX _ _ _ _ _ _ _
    try simp only [Act.put, List.setIfInBounds_toArray, List.set_cons_succ, List.set_cons_zero]
    refine wpX_of (by trivial) ?_
    refine wpT_gcopy (g := g) (off := 67) (dl := n) (dc := c2) (sl := n1) (sc := c1) (ad := ⟨g, 0, none⟩) 77 M1 elt_esl 0 rfl rfl rfl rfl rfl (by go_simp) (by go_simp) (fl (e67 k) L) n (by simp only [Nat.min_def]; split <;> (have := HNN.out; omega)) (by rw [fl_len (e67_len k), hn]) (row_src (M1.row (b := g) (c := cur) (by simp)) HSRC.out) (by rw [fl_len (e67_len k), hn, hsz]; have := HNN.out; omega) (fl_one' (fun _ => one_ESL)) (fun wc MC => ?_)
    dsimp only [List.set] at MC
    obtain ⟨cu2, hcu2⟩ : ∃ c, c = (cur.toList.take 67 ++ fl (e67 k) L ++ cur.toList.drop (67 + (fl (e67 k) L).length)).toArray := ⟨_, rfl⟩
    rw [← hcu2] at MC
    refine wpX_to ?_
    try simp only [Act.put, List.setIfInBounds_toArray, List.set_cons_succ, List.set_cons_zero]
    refine ⟨(by trivial), ?_⟩
    try simp only [Act.put, List.setIfInBounds_toArray, List.set_cons_succ, List.set_cons_zero]
    go_upto_region 16 with fail
    have hcu2s := INS.sz2 hsz hcu2 (by rw [fl_len (e67_len k), hn]) (by have := HNN.out; omega)
    refine wp_region_lin (.op 0 (.op 1 (.op 2 (.op 3 (.op 4 .done))))) (by rfl) ?_
    refine wpT_valp 78 (v := .slice (some ⟨g, 0, none⟩) n1 c1) rfl rfl rfl (by go_simp) ?_
    refine wpT_valp 79 (v := .int .i64 0) rfl rfl rfl (by go_simp) ?_
    refine wpT_valp 80 (v := .slice (some ⟨g, 0, none⟩) n1 c1) rfl rfl rfl (by go_simp) ?_
    refine wpT_valp 81 (v := .slice (some ⟨gx, 0, none⟩) 1 1) rfl rfl rfl (by go_simp) ?_
    try simp only [Act.put, List.setIfInBounds_toArray, List.set_cons_succ, List.set_cons_zero]
    refine wpT_gcopy (g := g) (off := 0) (dl := n1) (dc := c1) (sl := 1) (sc := 1) (ad := ⟨gx, 0, none⟩) 82 MC elt_esl 0 rfl rfl rfl rfl rfl (by go_simp) (by go_simp) (e67 k s) 1 (by simp only [Nat.min_def]; split <;> (have := HNN.out; omega)) (e67_len k s) (sv_src (HX.out _ MC.fr)) (by rw [e67_len, hcu2s]; have := HNN.out; omega) one_ESL (fun wd MD => ?_)
    dsimp only [List.set] at MD
    obtain ⟨cu3, hcu3⟩ : ∃ c, c = (cu2.toList.take 0 ++ e67 k s ++ cu2.toList.drop (0 + (e67 k s).length)).toArray := ⟨_, rfl⟩
    rw [← hcu3] at MD
    dsimp only [wpT]
    try simp only [Act.put, List.setIfInBounds_toArray, List.set_cons_succ, List.set_cons_zero]
    go_upto_region 17 with fail
    refine wp_region_lin (.op 0 (.op 1 .done)) (by rfl) ?_
    refine wpT_valp 83 (v := .slice (some ⟨g, 0, none⟩) n1 c1) rfl rfl rfl (by go_simp) ?_
    refine wpT_valp 6 (v := .slice (some ⟨g, 0, none⟩) n1 c1) rfl rfl rfl (by go_simp) ?_
    dsimp only [wpT]
    try simp only [Act.put, List.setIfInBounds_toArray, List.set_cons_succ, List.set_cons_zero]
    go_wp2_with fail
    go_ret
    refine ⟨_, rfl, ?_, MD.fr.mono (fun x _ h => by rw [h]), fun x hx => .inl (by have q := hx.symm.trans hobk1; injection q with q; first | exact q.symm | (rw [q]))⟩
    obtain ⟨d1, d2, d3⟩ := HF.out cu2 cu3 hcu2 hcu3
    obtain ⟨cap', rfl⟩ : ∃ c, c1 = c + 1 := ⟨c1 - 1, by omega⟩
    rw [HNN.out] at hroom ⊢
    exact MD.ow (by simp) HH1.out hroom HH4.out d1 d2 d3
  · have hgt : (c1 : Int) < (n1 : Int) := by omega
    have hcn : c1 < n1 := by omega
    have hlt1 : (1 : Int) ≤ (n1 : Int) := by omega
    have hn12 : 2 ≤ n1 := by omega
    have HX : Hid (∀ w', Below w.heap.size w w' → SV w' (.slice (some ⟨gx, 0, none⟩) 1 1) 1 (e67 k s)) := hid fun w' h => hxsv w' (h.block gx hltx)
    have HV : Hid (∀ w', Below w.heap.size w w' → SV w' (.slice (some ⟨g, 0, none⟩) n c1) n (fl (e67 k) L)) := hid fun w' h => SV.below hsv h
    have HF := hid (fun G cz cz2 cz3 a b c d e => INS.fin1 (cz := cz) (cz2 := cz2) (cz3 := cz3) (e := e67 k s) (F := fl (e67 k) L) (G := G) (n := n) a b c d (e67_len k s) (by rw [fl_len (e67_len k), hn]) e one_ESL (fl_one' (fun _ => one_ESL)))
    clear hX hrx hxsv h2 h5 h6 h7 hO hsv h1 h4 hc1 hn1
    have M0 := Mm.start no w
    go_enter Tryd.func45, Tryd.ntmps45
    go_upto_region 1 with fail
    refine wp_region_lin (.op 0 (.op 1 (.op 2 .done))) (by rfl) ?_
    refine wpT_valp 10 (v := .slice (some ⟨g, 0, none⟩) n c1) rfl rfl rfl (by go_simp) ?_
    refine wpT_valp 11 (v := .int .i64 0) rfl rfl rfl (by go_simp) ?_
    refine wpT_valp 12 (v := .slice (some ⟨g, 0, none⟩) n c1) rfl rfl rfl (by go_simp) ?_
    dsimp only [wpT]
    try simp only [Act.put, List.setIfInBounds_toArray, List.set_cons_succ, List.set_cons_zero]
    go_upto_region 2 with fail
    refine wp_region_lin (.op 0 (.op 1 (.op 2 .done))) (by rfl) ?_
    refine wpT_valp 13 (v := .slice (some ⟨gx, 0, none⟩) 1 1) rfl rfl rfl (by go_simp) ?_
    refine wpT_valp 14 (v := .int .i64 1) rfl rfl rfl (by go_simp) ?_
    refine wpT_valp 7 (v := .int .i64 1) rfl rfl rfl (by go_simp) ?_
    dsimp only [wpT]
    try simp only [Act.put, List.setIfInBounds_toArray, List.set_cons_succ, List.set_cons_zero]
    go_upto_region 3 with fail
    refine wp_region_lin (.op 0 (.op 1 .done)) (by rfl) ?_
    refine wpT_valp 15 (v := .int .i64 1) rfl rfl rfl (by go_simp) ?_
    refine wpT_valp 16 (v := .bool false) rfl rfl rfl (by go_simp) ?_
    dsimp only [wpT]
    try simp only [Act.put, List.setIfInBounds_toArray, List.set_cons_succ, List.set_cons_zero]
    go_upto_region 5 with fail
    refine wp_region_lin (.op 0 (.op 1 (.op 2 .done))) (by rfl) ?_
    refine wpT_valp 18 (v := .slice (some ⟨g, 0, none⟩) n c1) rfl rfl rfl (by go_simp) ?_
    refine wpT_valp 19 (v := .int .i64 n) rfl rfl rfl (by go_simp) ?_
    refine wpT_valp 8 (v := .int .i64 n) rfl rfl rfl (by go_simp) ?_
    dsimp only [wpT]
    try simp only [Act.put, List.setIfInBounds_toArray, List.set_cons_succ, List.set_cons_zero]
    go_upto_region 6 with fail
    refine wp_region_lin (.op 0 (.op 1 (.op 2 .done))) (by rfl) ?_
    refine wpT_valp 20 (v := .int .i64 0) rfl rfl rfl (by go_simp) ?_
    refine wpT_valp 21 (v := .int .i64 n) rfl rfl rfl (by go_simp) ?_
    refine wpT_valp 22 (v := .bool false) rfl rfl rfl (by go_simp) ?_
    dsimp only [wpT]
    try simp only [Act.put, List.setIfInBounds_toArray, List.set_cons_succ, List.set_cons_zero]
    go_upto_region 8 with fail
    refine wp_region_lin (.op 0 (.op 1 (.op 2 (.op 3 (.op 4 (.op 5 .done)))))) (by rfl) ?_
    refine wpT_valp 26 (v := .int .i64 n) rfl rfl rfl (by go_simp) ?_
    refine wpT_valp 27 (v := .int .i64 1) rfl rfl rfl (by go_simp) ?_
    refine wpT_valp 28 (v := .int .i64 n1) rfl rfl rfl (by have h := HN1.out; go_simp) ?_
    refine wpT_valp 29 (v := .slice (some ⟨g, 0, none⟩) n c1) rfl rfl rfl (by go_simp) ?_
    try simp only [Act.put, List.setIfInBounds_toArray, List.set_cons_succ, List.set_cons_zero]
    refine wpT_valp 30 (v := .int .i64 c1) rfl rfl rfl (by go_simp) ?_
    refine wpT_valp 31 (v := .bool true) rfl rfl rfl (by go_simp) ?_
    dsimp only [wpT]
    try simp only [Act.put, List.setIfInBounds_toArray, List.set_cons_succ, List.set_cons_zero]
    go_upto_region 9 with fail
    refine wp_region_lin (.op 0 (.op 1 (.op 2 (.op 3 (.op 4 (.op 5 (.op 6 (.op 7 (.op 8 (.op 9 .done)))))))))) (by rfl) ?_
    refine wpT_valp 32 (v := .slice (some ⟨g, 0, none⟩) n c1) rfl rfl rfl (by go_simp) ?_
    refine wpT_valp 33 (v := .int .i64 0) rfl rfl rfl (by go_simp) ?_
    refine wpT_valp 34 (v := .slice (some ⟨g, 0, none⟩) 0 c1) rfl rfl rfl (by go_simp) ?_
    refine wpT_valp 35 (v := .int .i64 n) rfl rfl rfl (by go_simp) ?_
    try simp only [Act.put, List.setIfInBounds_toArray, List.set_cons_succ, List.set_cons_zero]
    refine wpT_valp 36 (v := .int .i64 1) rfl rfl rfl (by go_simp) ?_
    refine wpT_valp 37 (v := .int .i64 n1) rfl rfl rfl (by have h := HN1.out; go_simp) ?_
    refine wpT_valp 38 (v := .int .i64 0) rfl rfl rfl (by go_simp) ?_
    refine wpT_valp 39 (v := .int .i64 n1) rfl rfl rfl (by have h := HN2.out; go_simp) ?_
    refine wpT_gappz (a0 := some ⟨g, 0, none⟩) (c := c1) (m := n1) 40 M0 elt_esl Tryd.underlying3 rfl rfl rfl rfl (by go_simp) (by go_simp) (by have := HNN.out; omega) (by have := HNN.out; omega) (fun b2 G cz wz MZ hb2 hcz hG hGm hz1 => ?_)
    have hGm' : G + 1 ≤ 9223372036854775807 := by unfold maxLen at hGm; omega
    have hGn : ¬ G + 1 = 0 := by omega
    have hGn2 : ¬ G = 0 := by omega
    try simp only [Act.put, List.setIfInBounds_toArray, List.set_cons_succ, List.set_cons_zero]
    refine wpT_valp 9 (v := .slice (some ⟨b2, 0, none⟩) n1 (G + 1)) rfl rfl rfl (by go_simp) ?_
    dsimp only [wpT]
    try simp only [Act.put, List.setIfInBounds_toArray, List.set_cons_succ, List.set_cons_zero]
    go_upto_region 10 with fail
    refine wp_region_lin (.op 0 (.op 1 (.op 2 (.op 3 (.op 4 .done))))) (by rfl) ?_
    refine wpT_valp 41 (v := .slice (some ⟨b2, 0, none⟩) n1 (G + 1)) rfl rfl rfl (by go_simp) ?_
    refine wpT_valp 42 (v := .int .i64 0) rfl rfl rfl (by go_simp) ?_
    refine wpT_valp 43 (v := .slice (some ⟨b2, 0, none⟩) n1 (G + 1)) rfl rfl rfl (by go_simp) ?_
    refine wpT_valp 44 (v := .slice (some ⟨gx, 0, none⟩) 1 1) rfl rfl rfl (by go_simp) ?_
    try simp only [Act.put, List.setIfInBounds_toArray, List.set_cons_succ, List.set_cons_zero]
    refine wpT_gcopy (g := b2) (off := 0) (dl := n1) (dc := G + 1) (sl := 1) (sc := 1) (ad := ⟨gx, 0, none⟩) 45 MZ elt_esl 0 rfl rfl rfl rfl rfl (by go_simp) (by go_simp) (e67 k s) 1 (by simp [Nat.min_def]; have := HNN.out; omega) (e67_len k s) (sv_src (HX.out _ MZ.end_)) (by rw [e67_len, hcz]; have := HNN.out; omega) one_ESL (fun wc MC => ?_)
    dsimp only [List.set] at MC
    obtain ⟨cz2, hcz2⟩ : ∃ c, c = (cz.toList.take 0 ++ e67 k s ++ cz.toList.drop (0 + (e67 k s).length)).toArray := ⟨_, rfl⟩
    rw [← hcz2] at MC
    dsimp only [wpT]
    try simp only [Act.put, List.setIfInBounds_toArray, List.set_cons_succ, List.set_cons_zero]
    go_upto_region 11 with fail
    have hcz2s := INS.sz1 hcz hcz2 (e67_len k s)
    refine wp_region_X (fun v => True) (.yld [0, 1, 2, 3, 4, 5, 6, 7] (.op 8 .done)) (by kernel_rfl) (by kernel_rfl) (by kernel_rfl) (fun d _ _ _ _ h => by cases d <;> exact h) ?_
    have M1 := MC.drewN 1
    change wpX _ _ _ _ _ _ (wc.drewN 1)
    obtain ⟨w2, hw2⟩ : ∃ w2, w2 = wc.drewN 1 := ⟨_, rfl⟩
    rw [← hw2] at M1 ⊢
    clear hw2
    refine wpX_yld ?_
    refine wpYJd_op 46 (.slice (some ⟨b2, 0, none⟩) n1 (G + 1)) rfl rfl rfl (fun w1 h => by go_simp) ?_
    refine wpYJd_op 47 (.int .i64 0) rfl rfl rfl (fun w1 h => by go_simp) ?_
    refine wpYJd_op 48 (.int .i64 1) rfl rfl rfl (fun w1 h => by go_simp) ?_
    refine wpYJd_op 49 (.int .i64 1) rfl rfl rfl (fun w1 h => by have h := HW1.out; go_simp) ?_
    refine wpYJd_op 50 (.slice (some ⟨b2, 67, none⟩) n G) rfl rfl rfl (fun w1 h => by have h2 := HN3.out; go_simp) ?_
    try simp only [Act.put, List.setIfInBounds_toArray, List.set_cons_succ, List.set_cons_zero]
    refine wpYJd_op 51 (.slice (some ⟨g, 0, none⟩) n c1) rfl rfl rfl (fun w1 h => by go_simp) ?_
    refine wpYJd_op 52 (.int .i64 0) rfl rfl rfl (fun w1 h => by go_simp) ?_
    refine wpYJd_op 53 (.slice (some ⟨g, 0, none⟩) n c1) rfl rfl rfl (fun w1 h => by go_simp) ?_
    show wpX _ _ _ _ _ _ _
    try simp only [Act.put, List.setIfInBounds_toArray, List.set_cons_succ, List.set_cons_zero]
    refine wpX_of (by trivial) ?_
    refine wpT_gcopy (g := b2) (off := 67) (dl := n) (dc := G) (sl := n) (sc := c1) (ad := ⟨g, 0, none⟩) 54 M1 elt_esl 0 rfl rfl rfl rfl rfl (by go_simp) (by go_simp) (fl (e67 k) L) n (by simp) (by rw [fl_len (e67_len k), hn]) (sv_src (HV.out _ M1.end_)) (by rw [fl_len (e67_len k), hn, hcz2s]; have := HNN.out; omega) (fl_one' (fun _ => one_ESL)) (fun wd MD => ?_)
    dsimp only [List.set] at MD
    obtain ⟨cz3, hcz3⟩ : ∃ c, c = (cz2.toList.take 67 ++ fl (e67 k) L ++ cz2.toList.drop (67 + (fl (e67 k) L).length)).toArray := ⟨_, rfl⟩
    rw [← hcz3] at MD
    refine wpX_to ?_
    try simp only [Act.put, List.setIfInBounds_toArray, List.set_cons_succ, List.set_cons_zero]
    refine ⟨(by trivial), ?_⟩
    try simp only [Act.put, List.setIfInBounds_toArray, List.set_cons_succ, List.set_cons_zero]
    go_upto_region 12 with fail
    refine wp_region_lin (.op 0 (.op 1 .done)) (by rfl) ?_
    refine wpT_valp 55 (v := .slice (some ⟨b2, 0, none⟩) n1 (G + 1)) rfl rfl rfl (by go_simp) ?_
    refine wpT_valp 6 (v := .slice (some ⟨b2, 0, none⟩) n1 (G + 1)) rfl rfl rfl (by go_simp) ?_
    dsimp only [wpT]
    try simp only [Act.put, List.setIfInBounds_toArray, List.set_cons_succ, List.set_cons_zero]
    go_wp2_with fail
    go_ret
    refine ⟨_, rfl, ?_, MD.fr.mono (fun _ _ h => h.elim), fun x hx => .inr (by rw [show obk _ = some b2 from rfl] at hx; injection hx with hx; have := HNN.out; omega)⟩
    obtain ⟨d1, d2, d3⟩ := HF.out G cz cz2 cz3 hcz hz1 hcz2 hcz3 (by have := HNN.out; omega)
    rw [HNN.out] at hG ⊢
    exact MD.ow (by simp) (by omega) hG hGm d1 d2 d3
end Go.Proofs.YtgclegdgngldoaaDoor
