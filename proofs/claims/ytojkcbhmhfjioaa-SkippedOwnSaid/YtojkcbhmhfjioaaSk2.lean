/-
  Package skipped: a Store in memory; New, good, find; own work.
-/
import Derived.Test.YtojkcbhmhfjioaaSk1
import Derived.Deep.Cut
import Derived.Deep.CutBlock
set_option linter.unusedSimpArgs false
set_option linter.unusedVariables false
namespace Go.Proofs.Ytojkcbhmhfjioaa
open Go.RowKit
/-- a Store in memory, that has these keys -/
structure SO (w : World) (B b : Nat) (room : Int) (L : List Sk.En) (v : Value) : Prop where
  row : ∃ T, T ≠ 5 ∧ w.heap[b]? = some (.cells (STR room v) T (0, 0))
  bb : B ≤ b
  ow : Ow w B 65 v L.length (fl eE L)
  ne : obk v ≠ some b
/-- the blocks that it may write to -/
def SF (b : Nat) (v : Value) : Nat → Prop := fun g => g = b ∨ obk v = some g
section
variable {w w' : World} {B b : Nat} {room : Int} {L : List Sk.En} {v : Value}
theorem SO.lt (R : SO w B b room L v) : ∀ g, SF b v g → B ≤ g ∧ g < w.heap.size := by
  intro g hg
  rcases hg with rfl | hg
  · obtain ⟨T, hT, h⟩ := R.row
    exact ⟨R.bb, (Array.getElem?_eq_some_iff.1 h).1⟩
  · exact R.ow.at_ g hg
theorem SO.fr {F : Nat → Prop} (R : SO w B b room L v) (hf : Fr F w w') (hF : ∀ g, SF b v g → ¬ F g) : SO w' B b room L v := by
  obtain ⟨T, hT, h⟩ := R.row
  exact ⟨⟨T, hT, (hf.block b (R.lt b (.inl rfl)).2 (hF b (.inl rfl))).trans h⟩, R.bb, R.ow.fr hf (fun g hg => hF g (.inr hg)), R.ne⟩
theorem SO.below (R : SO w B b room L v) (hb : Below w.heap.size w w') : SO w' B b room L v := R.fr (Fr.of_below (S := fun _ => False) hb) (fun _ _ h => h)
theorem SO.rowOf (R : SO w B b room L v) : w.rowOf b = STR room v := by obtain ⟨T, hT, h⟩ := R.row; exact rowOf_eq h
theorem SO.mono (R : SO w B b room L v) {B' : Nat} (h : B' ≤ B) : SO w B' b room L v := ⟨R.row, Nat.le_trans h R.bb, R.ow.mono (fun g hg => Nat.le_trans h (R.ow.at_ g hg).1), R.ne⟩
theorem SO.new {w0 : World} {H : List (Nat × Array Value)} (M : Mm no w0 H w) (hb : w0.heap.size ≤ b) (hm : (b, STR room (.slice none 0 0)) ∈ H) : SO w w0.heap.size b room [] (.slice none 0 0) := by
  obtain ⟨_, T, hT, h⟩ := M.own _ hm
  exact ⟨⟨T, hT, h⟩, hb, Ow.nil _ _ _ _, by simp [obk]⟩
end
section
variable {S : Nat → Prop} {w0 w : World} {H : List (Nat × Array Value)}
theorem wpT_sbx {P : Program} {ops : Array Oper} {Q : Exit → Act → World → Prop} {i : Nat} {t : Tr} {a : Act} {o : Oper} {c : Array Value} {T : TypeId} (dst : Nat) (M : Mm S w0 H w) (hT : T ≠ 5) (hdst : o.dst = some dst) (ho : ops[i]? = some o) (hw : Region.wanted o (yielded ops a.tmps) = true)
    (hrun : (execOp a.eval o).run P w = .ok (.value (.pointer (some ⟨w.heap.size, 0, none⟩))) (w.alloc (.cells c T)))
    (h : ∀ b w', w0.heap.size ≤ b → Mm S w0 ((b, c) :: H) w' → wpT P ops Q t (a.put (some dst) (.pointer (some ⟨b, 0, none⟩))) w') : wpT P ops Q (.op i t) a w :=
  wpT_val ho hw hrun (by rw [hdst]; exact h _ _ M.size (M.alloc c T hT))
end
theorem xb_sto1 (w : World) (n : Int) : exBuild Try.prog 58 #[(0, .int .i64 n)] w = .ok (.value (.agg (STR n (.slice none 0 0)))) w := by
  unfold exBuild
  rw [run_build w 58 _ (STR n (.slice none 0 0)) ?_]
  · rfl
  rw [bp_sto, show (((Try.prog.info? 58).bind (·.zero)).getD undef).cells = (#[.int .i64 0, .slice none 0 0] : Array Value) by kernel_rfl]
  rfl
attribute [local irreducible] ENR STR
set_option maxRecDepth 100000 in
set_option maxHeartbeats 2000000 in
theorem snew_bad (w : World) (n : Int) (hn : ¬ (1 ≤ n ∧ n ≤ 1000)) : Calls Try.prog 11 #[.int .i64 n] w fun e w' => e = .returned (.pointer none) ∧ Below w.heap.size w w' := by
  by_cases h : n < 1
  · clear hn
    have M0 := Mm.start no w
    go_enter Try.func11, Try.ntmps11
    go_upto_region 1 with fail
    refine wp_region_lin (.op 0 (.op 1 (.op 2 (.op 3 (.op 4 (.op 5 .done)))))) (by rfl) ?_
    refine wpT_valp 3 (v := .int .i64 n) rfl rfl rfl (by go_simp) ?_
    refine wpT_valp 4 (v := .bool true) rfl rfl rfl (by go_simp) ?_
    refine wpT_valp 5 (v := .bool true) rfl rfl rfl (by go_simp) ?_
    refine wpT_unx 6 rfl rfl (by simp [Region.wanted, yielded, Act.put]) ?_
    try simp only [Act.put, List.setIfInBounds_toArray, List.set_cons_succ, List.set_cons_zero]
    refine wpT_unx 7 rfl rfl (by simp [Region.wanted, yielded, Act.put]) ?_
    try simp only [Act.put, List.setIfInBounds_toArray, List.set_cons_succ, List.set_cons_zero]
    refine wpT_valp 8 (v := .bool true) rfl rfl rfl (by go_simp) ?_
    first | dsimp only [wpT] | refine wpT_fin ?_
    try simp only [Act.put, List.setIfInBounds_toArray, List.set_cons_succ, List.set_cons_zero]
    go_upto_region 2 with fail
    refine wp_region_lin (.op 0 .done) (by rfl) ?_
    refine wpT_valp 2 (v := .pointer none) rfl rfl rfl (by go_simp) ?_
    first | dsimp only [wpT] | refine wpT_fin ?_
    try simp only [Act.put, List.setIfInBounds_toArray, List.set_cons_succ, List.set_cons_zero]
    go_wp2_with fail
    go_ret
    exact ⟨rfl, M0.end_⟩
  · have h2 : 1000 < n := by omega
    clear hn
    have M0 := Mm.start no w
    go_enter Try.func11, Try.ntmps11
    go_upto_region 1 with fail
    refine wp_region_lin (.op 0 (.op 1 (.op 2 (.op 3 (.op 4 (.op 5 .done)))))) (by rfl) ?_
    refine wpT_valp 3 (v := .int .i64 n) rfl rfl rfl (by go_simp) ?_
    refine wpT_valp 4 (v := .bool false) rfl rfl rfl (by go_simp) ?_
    refine wpT_valp 5 (v := .bool false) rfl rfl rfl (by go_simp) ?_
    refine wpT_valp 6 (v := .int .i64 n) rfl rfl (by simp [Region.wanted, yielded, Act.put]) (by go_simp) ?_
    try simp only [Act.put, List.setIfInBounds_toArray, List.set_cons_succ, List.set_cons_zero]
    refine wpT_valp 7 (v := .bool true) rfl rfl (by simp [Region.wanted, yielded, Act.put]) (by go_simp) ?_
    refine wpT_valp 8 (v := .bool true) rfl rfl rfl (by go_simp) ?_
    first | dsimp only [wpT] | refine wpT_fin ?_
    try simp only [Act.put, List.setIfInBounds_toArray, List.set_cons_succ, List.set_cons_zero]
    go_upto_region 2 with fail
    refine wp_region_lin (.op 0 .done) (by rfl) ?_
    refine wpT_valp 2 (v := .pointer none) rfl rfl rfl (by go_simp) ?_
    first | dsimp only [wpT] | refine wpT_fin ?_
    try simp only [Act.put, List.setIfInBounds_toArray, List.set_cons_succ, List.set_cons_zero]
    go_wp2_with fail
    go_ret
    exact ⟨rfl, M0.end_⟩
set_option maxRecDepth 100000 in
set_option maxHeartbeats 2000000 in
theorem snew_c (w : World) (n : Int) (h1 : 1 ≤ n) (h2 : n ≤ 1000) : Calls Try.prog 11 #[.int .i64 n] w fun e w' => ∃ b, e = .returned (.pointer (some ⟨b, 0, none⟩)) ∧ SO w' w.heap.size b n [] (.slice none 0 0) ∧ Below w.heap.size w w' := by
  have h3 : ¬ n < 1 := by omega
  have h4 : ¬ 1000 < n := by omega
  clear h1 h2
  have M0 := Mm.start no w
  go_enter Try.func11, Try.ntmps11
  go_upto_region 1 with fail
  refine wp_region_lin (.op 0 (.op 1 (.op 2 (.op 3 (.op 4 (.op 5 .done)))))) (by rfl) ?_
  refine wpT_valp 3 (v := .int .i64 n) rfl rfl rfl (by go_simp) ?_
  refine wpT_valp 4 (v := .bool false) rfl rfl rfl (by go_simp) ?_
  refine wpT_valp 5 (v := .bool false) rfl rfl rfl (by go_simp) ?_
  refine wpT_valp 6 (v := .int .i64 n) rfl rfl (by simp [Region.wanted, yielded, Act.put]) (by go_simp) ?_
  try simp only [Act.put, List.setIfInBounds_toArray, List.set_cons_succ, List.set_cons_zero]
  refine wpT_valp 7 (v := .bool false) rfl rfl (by simp [Region.wanted, yielded, Act.put]) (by go_simp) ?_
  refine wpT_valp 8 (v := .bool false) rfl rfl rfl (by go_simp) ?_
  first | dsimp only [wpT] | refine wpT_fin ?_
  try simp only [Act.put, List.setIfInBounds_toArray, List.set_cons_succ, List.set_cons_zero]
  go_upto_region 3 with fail
  refine wp_region_lin (.op 0 (.op 1 (.op 2 (.op 3 .done)))) (by rfl) ?_
  refine wpT_valp 9 (v := .int .i64 n) rfl rfl rfl (by go_simp) ?_
  refine wpT_valL 10 (v := .agg (STR n (.slice none 0 0))) rfl rfl rfl (by have q := xb_sto1 w n; go_simp) ?_
  refine wpT_sbx (c := STR n (.slice none 0 0)) (T := 58) 11 M0 (by decide) rfl rfl rfl (by go_simp) (fun gb wB hgb MB => ?_)
  refine wpT_valp 2 (v := .pointer (some ⟨gb, 0, none⟩)) rfl rfl rfl (by go_simp) ?_
  first | dsimp only [wpT] | refine wpT_fin ?_
  try simp only [Act.put, List.setIfInBounds_toArray, List.set_cons_succ, List.set_cons_zero]
  go_wp2_with fail
  go_ret
  exact ⟨gb, rfl, SO.new MB hgb (by simp), MB.end_⟩
set_option maxRecDepth 100000 in
set_option maxHeartbeats 2000000 in
theorem sgood_c (w : World) (b : Nat) (room : Int) (v : Value) (hR : w.rowOf b = STR room v) (hb : b < w.heap.size) :
    Calls Try.prog 38 #[.pointer (some ⟨b, 0, none⟩)] w fun e w' => e = .returned (.bool (decide (0 < room))) ∧ Below w.heap.size w w' := by
  have HROW : Hid (∀ w', Below w.heap.size w w' → w'.rowOf b = STR room v) := hid fun w' h => (below_row h hb).trans hR
  clear hR
  have M0 := Mm.start no w
  go_enter Try.func38, Try.ntmps38
  go_upto_region 1 with fail
  refine wp_region_lin (.op 0 (.op 1 (.op 2 (.op 3 (.op 4 (.op 5 (.op 6 (.op 7 (.op 8 (.op 9 .done)))))))))) (by rfl) ?_
  refine wpT_valp 3 (v := .pointer (some ⟨b, 0, none⟩)) rfl rfl rfl (by go_simp) ?_
  refine wpT_valp 4 (v := .bool true) rfl rfl rfl (by go_simp) ?_
  refine wpT_valp 5 (v := .bool true) rfl rfl rfl (by go_simp) ?_
  refine wpT_valp 6 (v := .pointer (some ⟨b, 0, none⟩)) rfl rfl (by simp [Region.wanted, yielded, Act.put]) (by go_simp) ?_
  try simp only [Act.put, List.setIfInBounds_toArray, List.set_cons_succ, List.set_cons_zero]
  refine wpT_valp 7 (v := .pointer (some ⟨b, 0, none⟩)) rfl rfl (by simp [Region.wanted, yielded, Act.put]) (by go_simp) ?_
  refine wpT_valp 8 (v := .pointer (some ⟨b, 0, none⟩)) rfl rfl (by simp [Region.wanted, yielded, Act.put]) (by go_simp) ?_
  refine wpT_valp 9 (v := .int .i64 room) rfl rfl (by simp [Region.wanted, yielded, Act.put]) (by have c0 := st_c0 (HROW.out _ M0.end_); go_simp) ?_
  refine wpT_valp 10 (v := .bool (decide (0 < room))) rfl rfl (by simp [Region.wanted, yielded, Act.put]) (by go_simp) ?_
  refine wpT_valp 11 (v := .bool (decide (0 < room))) rfl rfl rfl (by go_simp) ?_
  try simp only [Act.put, List.setIfInBounds_toArray, List.set_cons_succ, List.set_cons_zero]
  refine wpT_valp 2 (v := .bool (decide (0 < room))) rfl rfl rfl (by go_simp) ?_
  first | dsimp only [wpT] | refine wpT_fin ?_
  try simp only [Act.put, List.setIfInBounds_toArray, List.set_cons_succ, List.set_cons_zero]
  go_wp2_with fail
  go_ret
  exact ⟨rfl, M0.end_⟩
set_option maxRecDepth 100000 in
set_option maxHeartbeats 2000000 in
theorem sgood_nil (w : World) :
    Calls Try.prog 38 #[.pointer none] w fun e w' => e = .returned (.bool false) ∧ Below w.heap.size w w' := by
  have M0 := Mm.start no w
  go_enter Try.func38, Try.ntmps38
  go_upto_region 1 with fail
  refine wp_region_lin (.op 0 (.op 1 (.op 2 (.op 3 (.op 4 (.op 5 (.op 6 (.op 7 (.op 8 (.op 9 .done)))))))))) (by rfl) ?_
  refine wpT_valp 3 (v := .pointer none) rfl rfl rfl (by go_simp) ?_
  refine wpT_valp 4 (v := .bool false) rfl rfl rfl (by go_simp) ?_
  refine wpT_valp 5 (v := .bool false) rfl rfl rfl (by go_simp) ?_
  refine wpT_unx 6 rfl rfl (by simp [Region.wanted, yielded, Act.put]) ?_
  try simp only [Act.put, List.setIfInBounds_toArray, List.set_cons_succ, List.set_cons_zero]
  refine wpT_unx 7 rfl rfl (by simp [Region.wanted, yielded, Act.put]) ?_
  try simp only [Act.put, List.setIfInBounds_toArray, List.set_cons_succ, List.set_cons_zero]
  refine wpT_unx 8 rfl rfl (by simp [Region.wanted, yielded, Act.put]) ?_
  try simp only [Act.put, List.setIfInBounds_toArray, List.set_cons_succ, List.set_cons_zero]
  refine wpT_unx 9 rfl rfl (by simp [Region.wanted, yielded, Act.put]) ?_
  try simp only [Act.put, List.setIfInBounds_toArray, List.set_cons_succ, List.set_cons_zero]
  refine wpT_unx 10 rfl rfl (by simp [Region.wanted, yielded, Act.put]) ?_
  try simp only [Act.put, List.setIfInBounds_toArray, List.set_cons_succ, List.set_cons_zero]
  refine wpT_valp 11 (v := .bool false) rfl rfl rfl (by go_simp) ?_
  refine wpT_valp 2 (v := .bool false) rfl rfl rfl (by go_simp) ?_
  first | dsimp only [wpT] | refine wpT_fin ?_
  try simp only [Act.put, List.setIfInBounds_toArray, List.set_cons_succ, List.set_cons_zero]
  go_wp2_with fail
  go_ret
  exact ⟨rfl, M0.end_⟩
set_option maxRecDepth 100000 in
set_option maxHeartbeats 2000000 in
theorem spred_c (w : World) (nb pb : Nat) (p : Ky) (n : Int) (x : Sk.En) (hN : w.rowOf nb = #[.int .i64 n]) (hnb : nb < w.heap.size) (hP : w.rowOf pb = cs U8 p.l) (hpb : pb < w.heap.size) :
    Calls Try.prog 50 #[.agg (ENR x), .pointer (some ⟨nb, 0, none⟩), .pointer (some ⟨pb, 0, none⟩)] w fun e w' => e = .returned (.bool (Sk.hit p n x)) ∧ Below w.heap.size w w' := by
  have HNB : Hid (∀ w', Below w.heap.size w w' → w'.rowOf nb = #[.int .i64 n]) := hid fun w' h => (below_row h hnb).trans hN
  have HPB : Hid (∀ w', Below w.heap.size w w' → w'.rowOf pb = cs U8 p.l) := hid fun w' h => (below_row h hpb).trans hP
  obtain ⟨r, hr⟩ : ∃ r, r = Sk.hit p n x := ⟨_, rfl⟩
  rw [← hr]
  clear hN hP
  by_cases he : x.n = n
  · have HR := hid (show (x.pub.l == p.l) = r by
      rw [hr]; unfold Sk.hit
      rw [decide_eq_true he, Bool.true_and]
      by_cases hq : x.pub = p
      · rw [hq]; simp
      · rw [decide_eq_false hq]; simpa using fun h => hq (Ky.ext' h))
    clear hr
    have M0 := Mm.start no w
    go_enter Try.func50, Try.ntmps50
    have M2 := (M0.alloc (ENR x) 41 (by decide))
    try simp only [World.size_alloc] at M2
    go_upto_region 1 with fail
    obtain ⟨w1, hw1⟩ : ∃ w1, w1 = (w.alloc (.cells (ENR x) 41)) := ⟨_, rfl⟩
    rw [← hw1] at M2 ⊢
    clear hw1
    refine wp_region_lin (.op 0 (.op 1 (.op 2 (.op 3 (.op 4 (.op 5 (.op 6 (.op 7 (.op 8 (.op 9 (.op 10 .done))))))))))) (by rfl) ?_
    refine wpT_valp 5 (v := .pointer (some ⟨w.heap.size, 64, none⟩)) rfl rfl rfl (by go_simp) ?_
    refine wpT_valp 6 (v := .int .i64 x.n) rfl rfl rfl (by have c0 := en_c64 (M2.row (b := w.heap.size) (c := ENR x) (by simp)); go_simp) ?_
    refine wpT_valp 7 (v := .int .i64 n) rfl rfl rfl (by have c0 := sk_cell_one (HNB.out _ M2.end_); go_simp) ?_
    refine wpT_valp 8 (v := .bool true) rfl rfl rfl (by go_simp) ?_
    try simp only [Act.put, List.setIfInBounds_toArray, List.set_cons_succ, List.set_cons_zero]
    refine wpT_valp 9 (v := .bool true) rfl rfl rfl (by go_simp) ?_
    refine wpT_valp 10 (v := .pointer (some ⟨w.heap.size, 0, none⟩)) rfl rfl (by simp [Region.wanted, yielded, Act.put]) (by go_simp) ?_
    refine wpT_ldm 11 Try.underlying28 rfl inf_key (w.heap.size) 0 (ENR x) (cs U8 x.pub.l) rfl rfl rfl (by go_simp) (M2.row (b := w.heap.size) (c := ENR x) (by simp)) (by simp [Ky.len, ENR_size, STR_size]) (en_p0) (by simp [Region.wanted, yielded, Act.put]) ?_
    refine wpT_ld0 12 Try.underlying28 rfl inf_key (pb) (cs U8 p.l) rfl rfl rfl (by go_simp) (HPB.out _ M2.end_) (by simp [Ky.len, ENR_size, STR_size]) (by simp [Region.wanted, yielded, Act.put]) ?_
    refine wpT_valp 13 (v := .bool r) rfl rfl (by simp [Region.wanted, yielded, Act.put]) (by have q := eqin_key w1 x.pub.l p.l (by simp) (by simp); have h := HR.out; go_simp) ?_
    try simp only [Act.put, List.setIfInBounds_toArray, List.set_cons_succ, List.set_cons_zero]
    refine wpT_valp 14 (v := .bool r) rfl rfl rfl (by go_simp) ?_
    refine wpT_valp 4 (v := .bool r) rfl rfl rfl (by go_simp) ?_
    first | dsimp only [wpT] | refine wpT_fin ?_
    try simp only [Act.put, List.setIfInBounds_toArray, List.set_cons_succ, List.set_cons_zero]
    go_wp2_with fail
    go_ret
    exact ⟨rfl, M2.end_⟩
  · have hr2 : r = false := by rw [hr]; unfold Sk.hit; rw [decide_eq_false he]; rfl
    subst hr2
    clear hr
    have HR := hid (show True from trivial)
    have M0 := Mm.start no w
    go_enter Try.func50, Try.ntmps50
    have M2 := (M0.alloc (ENR x) 41 (by decide))
    try simp only [World.size_alloc] at M2
    go_upto_region 1 with fail
    obtain ⟨w1, hw1⟩ : ∃ w1, w1 = (w.alloc (.cells (ENR x) 41)) := ⟨_, rfl⟩
    rw [← hw1] at M2 ⊢
    clear hw1
    refine wp_region_lin (.op 0 (.op 1 (.op 2 (.op 3 (.op 4 (.op 5 (.op 6 (.op 7 (.op 8 (.op 9 (.op 10 .done))))))))))) (by rfl) ?_
    refine wpT_valp 5 (v := .pointer (some ⟨w.heap.size, 64, none⟩)) rfl rfl rfl (by go_simp) ?_
    refine wpT_valp 6 (v := .int .i64 x.n) rfl rfl rfl (by have c0 := en_c64 (M2.row (b := w.heap.size) (c := ENR x) (by simp)); go_simp) ?_
    refine wpT_valp 7 (v := .int .i64 n) rfl rfl rfl (by have c0 := sk_cell_one (HNB.out _ M2.end_); go_simp) ?_
    refine wpT_valp 8 (v := .bool false) rfl rfl rfl (by go_simp) ?_
    try simp only [Act.put, List.setIfInBounds_toArray, List.set_cons_succ, List.set_cons_zero]
    refine wpT_valp 9 (v := .bool false) rfl rfl rfl (by go_simp) ?_
    refine wpT_unx 10 rfl rfl (by simp [Region.wanted, yielded, Act.put]) ?_
    try simp only [Act.put, List.setIfInBounds_toArray, List.set_cons_succ, List.set_cons_zero]
    refine wpT_unx 11 rfl rfl (by simp [Region.wanted, yielded, Act.put]) ?_
    try simp only [Act.put, List.setIfInBounds_toArray, List.set_cons_succ, List.set_cons_zero]
    refine wpT_unx 12 rfl rfl (by simp [Region.wanted, yielded, Act.put]) ?_
    try simp only [Act.put, List.setIfInBounds_toArray, List.set_cons_succ, List.set_cons_zero]
    refine wpT_unx 13 rfl rfl (by simp [Region.wanted, yielded, Act.put]) ?_
    try simp only [Act.put, List.setIfInBounds_toArray, List.set_cons_succ, List.set_cons_zero]
    refine wpT_valp 14 (v := .bool false) rfl rfl rfl (by go_simp) ?_
    refine wpT_valp 4 (v := .bool false) rfl rfl rfl (by go_simp) ?_
    first | dsimp only [wpT] | refine wpT_fin ?_
    try simp only [Act.put, List.setIfInBounds_toArray, List.set_cons_succ, List.set_cons_zero]
    go_wp2_with fail
    go_ret
    exact ⟨rfl, M2.end_⟩
theorem spred_x {w : World} {nb pb : Nat} {p : Ky} {n : Int} {r : Bool} (h : w.rowOf nb = #[.int .i64 n] ∧ nb < w.heap.size) (h2 : w.rowOf pb = cs U8 p.l ∧ pb < w.heap.size) (x : Sk.En) (hr : Sk.hit p n x = r) :
    Calls Try.prog 50 #[.agg (ENR x), .pointer (some ⟨nb, 0, none⟩), .pointer (some ⟨pb, 0, none⟩)] w fun e w' => e = .returned (.bool r) ∧ Below w.heap.size w w' := by
  rw [← hr]; exact spred_c w nb pb p n x h.1 h.2 h2.1 h2.2
set_option maxRecDepth 100000 in
set_option maxHeartbeats 2000000 in
theorem sidx_c (w : World) (g o m cap nb pb : Nat) (p : Ky) (n : Int) (L : List Sk.En) (hv : SV w (.slice (some ⟨g, o, none⟩) m cap) m (fl eE L)) (hn : L.length = m) (hnb : w.rowOf nb = #[.int .i64 n] ∧ nb < w.heap.size) (hpb : w.rowOf pb = cs U8 p.l ∧ pb < w.heap.size)
    (i0 : Nat) (hall : ∀ j, j < i0 → ∀ s, L[j]? = some s → Sk.hit p n s = false) (r : Int) (hr : (i0 = m ∧ r = -1) ∨ (i0 < m ∧ r = i0 ∧ ∀ s, L[i0]? = some s → Sk.hit p n s = true)) :
    Calls Try.prog 49 #[.slice (some ⟨g, o, none⟩) m cap, .func (.func 50) #[] #[.pointer (some ⟨nb, 0, none⟩), .pointer (some ⟨pb, 0, none⟩)]] w fun e w' => e = .returned (.int .i64 r) ∧ Below w.heap.size w w' := by
  have HNB : Hid (∀ w', Below w.heap.size w w' → w'.rowOf nb = #[.int .i64 n] ∧ nb < w'.heap.size) := hid fun w' h => ⟨(below_row h hnb.2).trans hnb.1, Nat.lt_of_lt_of_le hnb.2 h.size⟩
  have HPB : Hid (∀ w', Below w.heap.size w w' → w'.rowOf pb = cs U8 p.l ∧ pb < w'.heap.size) := hid fun w' h => ⟨(below_row h hpb.2).trans hpb.1, Nat.lt_of_lt_of_le hpb.2 h.size⟩
  have HV := hid hv
  have HALL := hid hall
  have hm : m ≤ 9223372036854775807 := by obtain ⟨_, _, e, h1, h2, _⟩ := hv; injection e with e1 e2 e3; unfold maxLen at h2; omega
  have HR := hid hr
  have hi0 : i0 ≤ m := by rcases hr with h | h <;> omega
  clear hnb hpb hv hall hr
  have M0 := Mm.start no w
  go_enter Try.func49, Try.ntmps49
  go_upto_region 1 with fail
  refine wp_region_lin (.op 0 (.op 1 (.op 2 .done))) (by rfl) ?_
  refine wpT_valp 6 (v := .slice (some ⟨g, o, none⟩) m cap) rfl rfl rfl (by go_simp) ?_
  refine wpT_valp 7 (v := .int .i64 m) rfl rfl rfl (by go_simp) ?_
  refine wpT_valp 8 (v := .int .i64 0) rfl rfl rfl (by go_simp) ?_
  first | dsimp only [wpT] | refine wpT_fin ?_
  try simp only [Act.put, List.setIfInBounds_toArray, List.set_cons_succ, List.set_cons_zero]
  go_wp2_with fail
  go_loopw [8] (fun x wr => ∃ i : Nat, i ≤ i0 ∧ x = .int .i64 i ∧ Mm no w [] wr) (fun x _ => m - (intOf x).toNat)
  case atStart => exact ⟨0, by omega, rfl, M0⟩
  case round =>
    clear M0
    obtain ⟨i, hi, rfl, M⟩ := hrel
    by_cases hin : i < m
    · have hlt : (i : Int) < (m : Int) := by omega
      have hi00 : (0 : Int) ≤ (i : Int) := by omega
      obtain ⟨s, hs⟩ : ∃ s, L[i]? = some s := ⟨_, List.getElem?_eq_getElem (by omega)⟩
      have HEL : Hid (∀ w', Below w.heap.size w w' → exLoad Try.prog 41 (.pointer (some ⟨g, o + i * 65, none⟩)) w' = .ok (.value (.agg (ENR s))) w') := hid fun w' h =>
        sv_load eE_len Try.underlying41 rfl inf_en (by decide) (SV.below HV.out h) hs (ENR s) rfl
      by_cases hlt0 : i < i0
      · have HP := hid (HALL.out i hlt0 s hs)
        clear hs
        go_upto_region 3 with fail
        refine wp_region_lin (.op 0 (.op 1 .done)) (by rfl) ?_
        refine wpT_valp 10 (v := .int .i64 i) rfl rfl rfl (by go_simp) ?_
        refine wpT_valp 5 (v := .int .i64 i) rfl rfl rfl (by go_simp) ?_
        first | dsimp only [wpT] | refine wpT_fin ?_
        try simp only [Act.put, List.setIfInBounds_toArray, List.set_cons_succ, List.set_cons_zero]
        go_upto_region 4 with fail
        refine wp_region_lin (.op 0 (.op 1 (.op 2 (.op 3 (.op 4 (.op 5 .done)))))) (by rfl) ?_
        refine wpT_valp 11 (v := .func (.func 50) #[] #[.pointer (some ⟨nb, 0, none⟩), .pointer (some ⟨pb, 0, none⟩)]) rfl rfl rfl (by go_simp) ?_
        refine wpT_valp 12 (v := .slice (some ⟨g, o, none⟩) m cap) rfl rfl rfl (by go_simp) ?_
        refine wpT_valp 13 (v := .int .i64 i) rfl rfl rfl (by go_simp) ?_
        refine wpT_valp 14 (v := .pointer (some ⟨g, o + i * 65, none⟩)) rfl rfl rfl (by go_simp) ?_
        try simp only [Act.put, List.setIfInBounds_toArray, List.set_cons_succ, List.set_cons_zero]
        refine wpT_ldy 15 (.pointer (some ⟨g, o + i * 65, none⟩)) (.agg (ENR s)) rfl rfl rfl (by go_simp) (HEL.out _ M.end_) rfl ?_
        refine wpT_callv 16 M (v := .bool false) rfl rfl rfl (by go_simp) (spred_x (HNB.out _ M.end_) (HPB.out _ M.end_) s HP.out) (fun w1 M2 => ?_)
        first | dsimp only [wpT] | refine wpT_fin ?_
        try simp only [Act.put, List.setIfInBounds_toArray, List.set_cons_succ, List.set_cons_zero]
        go_wp2_with fail
        go_roundw
        case rel => exact ⟨i + 1, by omega, by simp, M2⟩
        case measure => simp only [intOf]; omega
      · obtain rfl : i = i0 := by omega
        have hr2 : r = i ∧ Sk.hit p n s = true := by
          rcases HR.out with h | h
          · omega
          · exact ⟨h.2.1, h.2.2 s hs⟩
        obtain ⟨rfl, hd⟩ := hr2
        have HP := hid hd
        clear hs hd
        go_upto_region 3 with fail
        refine wp_region_lin (.op 0 (.op 1 .done)) (by rfl) ?_
        refine wpT_valp 10 (v := .int .i64 i) rfl rfl rfl (by go_simp) ?_
        refine wpT_valp 5 (v := .int .i64 i) rfl rfl rfl (by go_simp) ?_
        first | dsimp only [wpT] | refine wpT_fin ?_
        try simp only [Act.put, List.setIfInBounds_toArray, List.set_cons_succ, List.set_cons_zero]
        go_upto_region 4 with fail
        refine wp_region_lin (.op 0 (.op 1 (.op 2 (.op 3 (.op 4 (.op 5 .done)))))) (by rfl) ?_
        refine wpT_valp 11 (v := .func (.func 50) #[] #[.pointer (some ⟨nb, 0, none⟩), .pointer (some ⟨pb, 0, none⟩)]) rfl rfl rfl (by go_simp) ?_
        refine wpT_valp 12 (v := .slice (some ⟨g, o, none⟩) m cap) rfl rfl rfl (by go_simp) ?_
        refine wpT_valp 13 (v := .int .i64 i) rfl rfl rfl (by go_simp) ?_
        refine wpT_valp 14 (v := .pointer (some ⟨g, o + i * 65, none⟩)) rfl rfl rfl (by go_simp) ?_
        try simp only [Act.put, List.setIfInBounds_toArray, List.set_cons_succ, List.set_cons_zero]
        refine wpT_ldy 15 (.pointer (some ⟨g, o + i * 65, none⟩)) (.agg (ENR s)) rfl rfl rfl (by go_simp) (HEL.out _ M.end_) rfl ?_
        refine wpT_callv 16 M (v := .bool true) rfl rfl rfl (by go_simp) (spred_x (HNB.out _ M.end_) (HPB.out _ M.end_) s HP.out) (fun w1 M2 => ?_)
        first | dsimp only [wpT] | refine wpT_fin ?_
        try simp only [Act.put, List.setIfInBounds_toArray, List.set_cons_succ, List.set_cons_zero]
        go_upto_region 5 with fail
        refine wp_region_lin (.op 0 (.op 1 .done)) (by rfl) ?_
        refine wpT_valp 17 (v := .int .i64 i) rfl rfl rfl (by go_simp) ?_
        refine wpT_valp 4 (v := .int .i64 i) rfl rfl rfl (by go_simp) ?_
        first | dsimp only [wpT] | refine wpT_fin ?_
        try simp only [Act.put, List.setIfInBounds_toArray, List.set_cons_succ, List.set_cons_zero]
        go_wp2_with fail
        go_ret
        exact ⟨rfl, M2.end_⟩
    · obtain rfl : i = m := by omega
      have hr2 : r = -1 := by
        rcases HR.out with h | h
        · exact h.2
        · omega
      subst hr2
      go_upto_region 7 with fail
      refine wp_region_lin (.op 0 .done) (by rfl) ?_
      refine wpT_valp 4 (v := .int .i64 (-1)) rfl rfl rfl (by go_simp) ?_
      first | dsimp only [wpT] | refine wpT_fin ?_
      try simp only [Act.put, List.setIfInBounds_toArray, List.set_cons_succ, List.set_cons_zero]
      go_wp2_with fail
      go_ret
      exact ⟨rfl, M.end_⟩
set_option maxRecDepth 100000 in
set_option maxHeartbeats 2000000 in
theorem sidx_0 (w : World) (a : Option Addr) (cap : Nat) (fv : Value) :
    Calls Try.prog 49 #[.slice a 0 cap, fv] w fun e w' => e = .returned (.int .i64 (-1)) ∧ Below w.heap.size w w' := by
  have M0 := Mm.start no w
  go_enter Try.func49, Try.ntmps49
  go_upto_region 1 with fail
  refine wp_region_lin (.op 0 (.op 1 (.op 2 .done))) (by rfl) ?_
  refine wpT_valp 6 (v := .slice a 0 cap) rfl rfl rfl (by go_simp) ?_
  refine wpT_valp 7 (v := .int .i64 0) rfl rfl rfl (by go_simp) ?_
  refine wpT_valp 8 (v := .int .i64 0) rfl rfl rfl (by go_simp) ?_
  first | dsimp only [wpT] | refine wpT_fin ?_
  try simp only [Act.put, List.setIfInBounds_toArray, List.set_cons_succ, List.set_cons_zero]
  go_wp2_with fail
  go_loopw [8] (fun x wr => x = .int .i64 0 ∧ Mm no w [] wr) (fun x _ => 0)
  case atStart => exact ⟨rfl, M0⟩
  case round =>
    clear M0
    obtain ⟨rfl, M⟩ := hrel
    go_wp2_with fail
    go_ret
    exact ⟨rfl, M.end_⟩
/-- what find answers -/
def fndR (L : List Sk.En) (p : Ky) (n : Int) : Int := if Sk.find L p n < L.length then (Sk.find L p n : Nat) else -1
set_option maxRecDepth 100000 in
set_option maxHeartbeats 2000000 in
theorem sfind_c (w : World) (B b : Nat) (room : Int) (L : List Sk.En) (v : Value) (R : SO w B b room L v) (p : Ky) (n : Int) (r : Int) (hr : fndR L p n = r) :
    Calls Try.prog 39 #[.pointer (some ⟨b, 0, none⟩), .agg (cs U8 p.l), .int .i64 n] w fun e w' => e = .returned (.int .i64 r) ∧ Below w.heap.size w w' := by
  have HROW : Hid (∀ w', Below w.heap.size w w' → w'.rowOf b = STR room v) := hid fun w' h => (R.below h).rowOf
  have HIX : Hid (∀ w', Below w.heap.size w w' → ∀ {nb pb : Nat}, w'.rowOf nb = #[.int .i64 n] → nb < w'.heap.size → w'.rowOf pb = cs U8 p.l → pb < w'.heap.size →
      Calls Try.prog 49 #[v, .func (.func 50) #[] #[.pointer (some ⟨nb, 0, none⟩), .pointer (some ⟨pb, 0, none⟩)]] w' fun e w'' => e = .returned (.int .i64 r) ∧ Below w'.heap.size w' w'') := by
    refine hid fun w' hb nb pb h1 h2 h3 h4 => ?_
    have hsv := (R.below hb).ow.sv
    by_cases h0 : L.length = 0
    · obtain ⟨a, cap, rfl, _⟩ := R.ow.shape
      have hr1 : r = -1 := by rw [← hr]; unfold fndR; rw [if_neg (by omega)]
      rw [hr1, h0]; exact sidx_0 w' a cap _
    · obtain ⟨g, o, cap, rfl⟩ := sv_some eE_len (by decide) hsv (by omega)
      refine sidx_c w' g o L.length cap nb pb p n L hsv rfl ⟨h1, h2⟩ ⟨h3, h4⟩ (Sk.find L p n) (Sk.find_all L p n) r ?_
      by_cases hf : Sk.find L p n < L.length
      · exact .inr ⟨hf, by rw [← hr]; unfold fndR; rw [if_pos hf], Sk.find_hit L p n hf⟩
      · exact .inl ⟨by have := Sk.find_le L p n; omega, by rw [← hr]; unfold fndR; rw [if_neg hf]⟩
  obtain ⟨a, cap, hv, _⟩ := R.ow.shape
  clear R hr
  have M0 := Mm.start no w
  go_enter Try.func39, Try.ntmps39
  have M2 := ((M0.alloc (cs U8 p.l) 28 (by decide)).alloc (#[.int .i64 n]) 3 (by decide))
  try simp only [World.size_alloc] at M2
  go_upto_region 1 with fail
  obtain ⟨w1, hw1⟩ : ∃ w1, w1 = ((w.alloc (.cells (cs U8 p.l) 28)).alloc (.cells (#[.int .i64 n]) 3)) := ⟨_, rfl⟩
  rw [← hw1] at M2 ⊢
  clear hw1
  refine wp_region_lin (.op 0 (.op 1 (.op 2 (.op 3 (.op 4 (.op 5 (.op 6 .done))))))) (by rfl) ?_
  refine wpT_valp 7 (v := .pointer (some ⟨b, 0, none⟩)) rfl rfl rfl (by go_simp) ?_
  refine wpT_valp 8 (v := .pointer (some ⟨b, 0, none⟩)) rfl rfl rfl (by go_simp) ?_
  refine wpT_valp 9 (v := .pointer (some ⟨b, 1, none⟩)) rfl rfl rfl (by go_simp) ?_
  refine wpT_valp 10 (v := v) rfl rfl rfl (by have c0 := st_c1 (HROW.out _ M2.end_); go_simp) ?_
  try simp only [Act.put, List.setIfInBounds_toArray, List.set_cons_succ, List.set_cons_zero]
  refine wpT_valp 11 (v := .func (.func 50) #[] #[.pointer (some ⟨w.heap.size + 1, 0, none⟩), .pointer (some ⟨w.heap.size, 0, none⟩)]) rfl rfl rfl (by go_simp) ?_
  refine wpT_callv 12 M2 (v := .int .i64 r) rfl rfl rfl (by go_simp) (HIX.out _ (M2.end_) (M2.row (b := w.heap.size + 1) (c := #[.int .i64 n]) (by simp)) (M2.lt (b := w.heap.size + 1) (c := #[.int .i64 n]) (by simp)) (M2.row (b := w.heap.size) (c := cs U8 p.l) (by simp)) (M2.lt (b := w.heap.size) (c := cs U8 p.l) (by simp))) (fun w3 M4 => ?_)
  refine wpT_valp 6 (v := .int .i64 r) rfl rfl rfl (by go_simp) ?_
  first | dsimp only [wpT] | refine wpT_fin ?_
  try simp only [Act.put, List.setIfInBounds_toArray, List.set_cons_succ, List.set_cons_zero]
  go_wp2_with fail
  go_ret
  exact ⟨rfl, M4.end_⟩
end Go.Proofs.Ytojkcbhmhfjioaa
