/-
  Law 26: item; own work.
-/
import Derived.Test.YtojkcbhmhfjioaaLk6
set_option linter.unusedSimpArgs false
set_option linter.unusedVariables false
namespace Go.Proofs.Ytojkcbhmhfjioaa
open Go.RowKit Lk
theorem Mm.setOwn {S : Nat → Prop} {w0 w : World} {H : List (Nat × Array Value)} (M : Mm S w0 H w) {g : Nat} (c : Array Value) (h0 : w0.heap.size ≤ g) (hn : g ∉ H.map (·.1)) : Mm S w0 H (w.setRow g c) :=
  ⟨⟨M.fr.os, M.fr.tape, M.fr.output, by simpa using M.fr.size, fun k hk hS => (heap_setRow_other (by omega)).trans (M.fr.block k hk hS)⟩,
    fun p hp => by
      obtain ⟨h1, T, hT, hb⟩ := M.own p hp
      refine ⟨h1, T, hT, ?_⟩
      rw [heap_setRow_other (fun e => hn (by rw [← e]; exact List.mem_map.2 ⟨p, hp, rfl⟩))]
      exact hb, M.nd⟩
theorem all_by {l : B8} {N : Nat} {b : BitVec 8} (hl : l.length = N) (h : ∀ j, j < N → l[j]? = some b) : l = List.replicate N b := by
  apply List.ext_getElem?
  intro j
  by_cases hj : j < N
  · rw [h j hj, List.getElem?_replicate, if_pos hj]
  · rw [List.getElem?_eq_none (by omega), List.getElem?_eq_none (by simp; omega)]
theorem item_fin {w wr : World} {gz N : Nat} {l : B8} {b : BitVec 8} {B : Nat} (hrep : l = List.replicate N b) (hB : w.heap.size + 1 < B) {S1 : Nat → Prop} {c c' : Array Value} (H : List (Nat × Array Value)) (wz : World) (hS1 : ∀ g, S1 g → g ∈ [(w.heap.size + 1, c), (w.heap.size, c')].map (·.1)) (OU : OB wr B (.slice (some ⟨gz, 0, none⟩) N N) l) (M1 : Mm S1 wr H wz) : BW wz (.slice (some ⟨gz, 0, none⟩) N N) (List.replicate N b) := by
  subst hrep
  have hg := (OU.at_ gz rfl).1
  have := OU.fr' M1.fr (fun g hg1 hs => by
    simp only [Value.ownBlock, Option.some.injEq] at hg1
    subst hg1
    have := hS1 _ hs
    simp only [List.map_cons, List.map_nil, List.mem_cons, List.not_mem_nil, or_false] at this
    omega)
  exact ⟨this.bs, fun g hg => (this.at_ g hg).2⟩
/-- how many bytes are put -/
def A6.n (x : A6) : Int := if 200 < x.q then x.size else 736
set_option maxRecDepth 100000
attribute [local irreducible] STR RSR AC6 wpT
set_option maxHeartbeats 4000000 in
theorem item_b (w : World) (x : A6) (h : ¬ (0 ≤ x.n ∧ x.n ≤ 2000)) :
    Calls Try.prog 32 #[.agg (AC6 x)] w fun e w' => e = .returned (.tuple #[.agg (ITR 0 (.slice none 0 0)), .bool false]) ∧ Below w.heap.size w w' := by
  unfold A6.n at h
  by_cases hq : 200 < x.q
  · rw [if_pos hq] at h
    by_cases h0 : x.size < 0
    · clear h
      have M0 := Mm.start no w
      go_enter Try.func32, Try.ntmps32
      have M2 := ((M0.alloc (AC6 x) 69 (by decide)).alloc (ITR 0 (.slice none 0 0)) 75 (by decide))
      try simp only [World.size_alloc] at M2
      go_upto_region 1 with fail
      obtain ⟨w1, hw1⟩ : ∃ w1, w1 = ((w.alloc (.cells (AC6 x) 69)).alloc (.cells (ITR 0 (.slice none 0 0)) 75)) := ⟨_, rfl⟩
      rw [← hw1] at M2 ⊢
      clear hw1
      refine wp_region_lin (.op 0 .done) (by rfl) ?_
      refine wpT_valp 4 (v := .int .i64 736) rfl rfl rfl (by go_simp) ?_
      first | dsimp only [wpT] | refine wpT_fin ?_
      try simp only [Act.put, List.setIfInBounds_toArray, List.set_cons_succ, List.set_cons_zero]
      go_upto_region 2 with fail
      refine wp_region_lin (.op 0 (.op 1 (.op 2 .done))) (by rfl) ?_
      refine wpT_valp 7 (v := .pointer (some ⟨w.heap.size, 0, none⟩)) rfl rfl rfl (by go_simp) ?_
      refine wpT_valp 8 (v := .int .u8 x.q) rfl rfl rfl (by have c0 := a6_c0 (M2.row (b := w.heap.size) (c := AC6 x) (by simp)); go_simp) ?_
      refine wpT_valp 9 (v := .bool true) rfl rfl rfl (by go_simp) ?_
      first | dsimp only [wpT] | refine wpT_fin ?_
      try simp only [Act.put, List.setIfInBounds_toArray, List.set_cons_succ, List.set_cons_zero]
      go_upto_region 3 with fail
      refine wp_region_lin (.op 0 (.op 1 (.op 2 .done))) (by rfl) ?_
      refine wpT_valp 10 (v := .pointer (some ⟨w.heap.size, 5, none⟩)) rfl rfl rfl (by go_simp) ?_
      refine wpT_valp 11 (v := .int .i64 x.size) rfl rfl rfl (by have c0 := a6_c5 (M2.row (b := w.heap.size) (c := AC6 x) (by simp)); go_simp) ?_
      refine wpT_valp 4 (v := .int .i64 x.size) rfl rfl rfl (by go_simp) ?_
      first | dsimp only [wpT] | refine wpT_fin ?_
      try simp only [Act.put, List.setIfInBounds_toArray, List.set_cons_succ, List.set_cons_zero]
      go_upto_region 4 with fail
      refine wp_region_lin (.op 0 (.op 1 (.op 2 (.op 3 (.op 4 (.op 5 .done)))))) (by rfl) ?_
      refine wpT_valp 12 (v := .int .i64 x.size) rfl rfl rfl (by go_simp) ?_
      refine wpT_valp 13 (v := .bool true) rfl rfl rfl (by go_simp) ?_
      refine wpT_valp 14 (v := .bool true) rfl rfl rfl (by go_simp) ?_
      refine wpT_unx 15 rfl rfl (by simp [Region.wanted, yielded, Act.put]) ?_
      try simp only [Act.put, List.setIfInBounds_toArray, List.set_cons_succ, List.set_cons_zero]
      refine wpT_unx 16 rfl rfl (by simp [Region.wanted, yielded, Act.put]) ?_
      try simp only [Act.put, List.setIfInBounds_toArray, List.set_cons_succ, List.set_cons_zero]
      refine wpT_valp 17 (v := .bool true) rfl rfl rfl (by go_simp) ?_
      first | dsimp only [wpT] | refine wpT_fin ?_
      try simp only [Act.put, List.setIfInBounds_toArray, List.set_cons_succ, List.set_cons_zero]
      go_upto_region 5 with fail
      refine wp_region_lin (.op 0 (.op 1 (.op 2 .done))) (by rfl) ?_
      refine wpT_valL 18 (v := .agg (ITR 0 (.slice none 0 0))) rfl rfl rfl (by have q := xb_rit0 w1; go_simp) ?_
      refine wpT_st0 M2 0 (ITR 0 (.slice none 0 0)) inf_rit rfl rfl rfl rfl (by go_simp) (by go_simp) (by simp [ITR_size, STR_size, RSR_size, AC6_size]) (by simp [ITR_size, STR_size, RSR_size, AC6_size]) (by simp [go_sem]) rfl (fun w3 M4 => ?_)
      dsimp only [List.set] at M4
      refine wpT_valp 3 (v := .bool false) rfl rfl rfl (by go_simp) ?_
      first | dsimp only [wpT] | refine wpT_fin ?_
      try simp only [Act.put, List.setIfInBounds_toArray, List.set_cons_succ, List.set_cons_zero]
      go_wp2_with fail
      have r5 := M4.row (b := w.heap.size + 1) (c := ITR 0 (.slice none 0 0)) (by simp)
      refine bodyPost_ret (res_two rfl (rv_row Try.underlying75 rfl inf_rit (w.heap.size + 1) rfl (by rw [r5]; simp [ITR_size, STR_size, RSR_size, AC6_size])) (rv_tmp _ _ rfl)) rfl ?_
      rw [r5]
      exact ⟨rfl, M4.end_⟩
    · have h1 : 2000 < x.size := by omega
      clear h
      have M0 := Mm.start no w
      go_enter Try.func32, Try.ntmps32
      have M2 := ((M0.alloc (AC6 x) 69 (by decide)).alloc (ITR 0 (.slice none 0 0)) 75 (by decide))
      try simp only [World.size_alloc] at M2
      go_upto_region 1 with fail
      obtain ⟨w1, hw1⟩ : ∃ w1, w1 = ((w.alloc (.cells (AC6 x) 69)).alloc (.cells (ITR 0 (.slice none 0 0)) 75)) := ⟨_, rfl⟩
      rw [← hw1] at M2 ⊢
      clear hw1
      refine wp_region_lin (.op 0 .done) (by rfl) ?_
      refine wpT_valp 4 (v := .int .i64 736) rfl rfl rfl (by go_simp) ?_
      first | dsimp only [wpT] | refine wpT_fin ?_
      try simp only [Act.put, List.setIfInBounds_toArray, List.set_cons_succ, List.set_cons_zero]
      go_upto_region 2 with fail
      refine wp_region_lin (.op 0 (.op 1 (.op 2 .done))) (by rfl) ?_
      refine wpT_valp 7 (v := .pointer (some ⟨w.heap.size, 0, none⟩)) rfl rfl rfl (by go_simp) ?_
      refine wpT_valp 8 (v := .int .u8 x.q) rfl rfl rfl (by have c0 := a6_c0 (M2.row (b := w.heap.size) (c := AC6 x) (by simp)); go_simp) ?_
      refine wpT_valp 9 (v := .bool true) rfl rfl rfl (by go_simp) ?_
      first | dsimp only [wpT] | refine wpT_fin ?_
      try simp only [Act.put, List.setIfInBounds_toArray, List.set_cons_succ, List.set_cons_zero]
      go_upto_region 3 with fail
      refine wp_region_lin (.op 0 (.op 1 (.op 2 .done))) (by rfl) ?_
      refine wpT_valp 10 (v := .pointer (some ⟨w.heap.size, 5, none⟩)) rfl rfl rfl (by go_simp) ?_
      refine wpT_valp 11 (v := .int .i64 x.size) rfl rfl rfl (by have c0 := a6_c5 (M2.row (b := w.heap.size) (c := AC6 x) (by simp)); go_simp) ?_
      refine wpT_valp 4 (v := .int .i64 x.size) rfl rfl rfl (by go_simp) ?_
      first | dsimp only [wpT] | refine wpT_fin ?_
      try simp only [Act.put, List.setIfInBounds_toArray, List.set_cons_succ, List.set_cons_zero]
      go_upto_region 4 with fail
      refine wp_region_lin (.op 0 (.op 1 (.op 2 (.op 3 (.op 4 (.op 5 .done)))))) (by rfl) ?_
      refine wpT_valp 12 (v := .int .i64 x.size) rfl rfl rfl (by go_simp) ?_
      refine wpT_valp 13 (v := .bool false) rfl rfl rfl (by go_simp) ?_
      refine wpT_valp 14 (v := .bool false) rfl rfl rfl (by go_simp) ?_
      refine wpT_valp 15 (v := .int .i64 x.size) rfl rfl (by simp [Region.wanted, yielded, Act.put]) (by go_simp) ?_
      try simp only [Act.put, List.setIfInBounds_toArray, List.set_cons_succ, List.set_cons_zero]
      refine wpT_valp 16 (v := .bool true) rfl rfl (by simp [Region.wanted, yielded, Act.put]) (by go_simp) ?_
      refine wpT_valp 17 (v := .bool true) rfl rfl rfl (by go_simp) ?_
      first | dsimp only [wpT] | refine wpT_fin ?_
      try simp only [Act.put, List.setIfInBounds_toArray, List.set_cons_succ, List.set_cons_zero]
      go_upto_region 5 with fail
      refine wp_region_lin (.op 0 (.op 1 (.op 2 .done))) (by rfl) ?_
      refine wpT_valL 18 (v := .agg (ITR 0 (.slice none 0 0))) rfl rfl rfl (by have q := xb_rit0 w1; go_simp) ?_
      refine wpT_st0 M2 0 (ITR 0 (.slice none 0 0)) inf_rit rfl rfl rfl rfl (by go_simp) (by go_simp) (by simp [ITR_size, STR_size, RSR_size, AC6_size]) (by simp [ITR_size, STR_size, RSR_size, AC6_size]) (by simp [go_sem]) rfl (fun w3 M4 => ?_)
      dsimp only [List.set] at M4
      refine wpT_valp 3 (v := .bool false) rfl rfl rfl (by go_simp) ?_
      first | dsimp only [wpT] | refine wpT_fin ?_
      try simp only [Act.put, List.setIfInBounds_toArray, List.set_cons_succ, List.set_cons_zero]
      go_wp2_with fail
      have r5 := M4.row (b := w.heap.size + 1) (c := ITR 0 (.slice none 0 0)) (by simp)
      refine bodyPost_ret (res_two rfl (rv_row Try.underlying75 rfl inf_rit (w.heap.size + 1) rfl (by rw [r5]; simp [ITR_size, STR_size, RSR_size, AC6_size])) (rv_tmp _ _ rfl)) rfl ?_
      rw [r5]
      exact ⟨rfl, M4.end_⟩
  · rw [if_neg hq] at h
    exact absurd (by decide) h
set_option maxHeartbeats 4000000 in
theorem item_c (w : World) (x : A6) {N : Nat} (hN : x.n = N) (hN2 : N ≤ 2000) :
    Calls Try.prog 32 #[.agg (AC6 x)] w fun e w' => ∃ gz : Nat, e = .returned (.tuple #[.agg (ITR x.too (.slice (some ⟨gz, 0, none⟩) N N)), .bool true]) ∧ BW w' (.slice (some ⟨gz, 0, none⟩) N N) (List.replicate N x.by_) ∧ w.heap.size ≤ gz ∧ Below w.heap.size w w' := by
  unfold A6.n at hN
  have hN0 : (0 : Int) ≤ (N : Int) := by omega
  have hN3 : (N : Int) ≤ 2000 := by omega
  by_cases hq : 200 < x.q
  · rw [if_pos hq] at hN
    have HNS := hid hN
    clear hN
    have M0 := Mm.start no w
    go_enter Try.func32, Try.ntmps32
    have M2 := ((M0.alloc (AC6 x) 69 (by decide)).alloc (ITR 0 (.slice none 0 0)) 75 (by decide))
    try simp only [World.size_alloc] at M2
    go_upto_region 1 with fail
    obtain ⟨w1, hw1⟩ : ∃ w1, w1 = ((w.alloc (.cells (AC6 x) 69)).alloc (.cells (ITR 0 (.slice none 0 0)) 75)) := ⟨_, rfl⟩
    rw [← hw1] at M2 ⊢
    clear hw1
    refine wp_region_lin (.op 0 .done) (by rfl) ?_
    refine wpT_valp 4 (v := .int .i64 736) rfl rfl rfl (by go_simp) ?_
    first | dsimp only [wpT] | refine wpT_fin ?_
    try simp only [Act.put, List.setIfInBounds_toArray, List.set_cons_succ, List.set_cons_zero]
    go_upto_region 2 with fail
    refine wp_region_lin (.op 0 (.op 1 (.op 2 .done))) (by rfl) ?_
    refine wpT_valp 7 (v := .pointer (some ⟨w.heap.size, 0, none⟩)) rfl rfl rfl (by go_simp) ?_
    refine wpT_valp 8 (v := .int .u8 x.q) rfl rfl rfl (by have c0 := a6_c0 (M2.row (b := w.heap.size) (c := AC6 x) (by simp)); go_simp) ?_
    refine wpT_valp 9 (v := .bool true) rfl rfl rfl (by go_simp) ?_
    first | dsimp only [wpT] | refine wpT_fin ?_
    try simp only [Act.put, List.setIfInBounds_toArray, List.set_cons_succ, List.set_cons_zero]
    go_upto_region 3 with fail
    refine wp_region_lin (.op 0 (.op 1 (.op 2 .done))) (by rfl) ?_
    refine wpT_valp 10 (v := .pointer (some ⟨w.heap.size, 5, none⟩)) rfl rfl rfl (by go_simp) ?_
    refine wpT_valp 11 (v := .int .i64 N) rfl rfl rfl (by have c0 := a6_c5 (M2.row (b := w.heap.size) (c := AC6 x) (by simp)); have h := HNS.out; rw [h] at c0; go_simp) ?_
    refine wpT_valp 4 (v := .int .i64 N) rfl rfl rfl (by go_simp) ?_
    first | dsimp only [wpT] | refine wpT_fin ?_
    try simp only [Act.put, List.setIfInBounds_toArray, List.set_cons_succ, List.set_cons_zero]
    go_upto_region 4 with fail
    refine wp_region_lin (.op 0 (.op 1 (.op 2 (.op 3 (.op 4 (.op 5 .done)))))) (by rfl) ?_
    refine wpT_valp 12 (v := .int .i64 N) rfl rfl rfl (by go_simp) ?_
    refine wpT_valp 13 (v := .bool false) rfl rfl rfl (by go_simp) ?_
    refine wpT_valp 14 (v := .bool false) rfl rfl rfl (by go_simp) ?_
    refine wpT_valp 15 (v := .int .i64 N) rfl rfl (by simp [Region.wanted, yielded, Act.put]) (by go_simp) ?_
    try simp only [Act.put, List.setIfInBounds_toArray, List.set_cons_succ, List.set_cons_zero]
    refine wpT_valp 16 (v := .bool false) rfl rfl (by simp [Region.wanted, yielded, Act.put]) (by go_simp) ?_
    refine wpT_valp 17 (v := .bool false) rfl rfl rfl (by go_simp) ?_
    first | dsimp only [wpT] | refine wpT_fin ?_
    try simp only [Act.put, List.setIfInBounds_toArray, List.set_cons_succ, List.set_cons_zero]
    go_upto_region 6 with fail
    refine wp_region_lin (.op 0 (.op 1 (.op 2 .done))) (by rfl) ?_
    refine wpT_valp 19 (v := .int .i64 N) rfl rfl rfl (by go_simp) ?_
    refine wpT_mkz 20 N _ _ M2 rfl rfl rfl rfl (by go_simp) (by go_simp) (by omega) (fun gz wz BZ Mz hz1 OZ => ?_)
    have hz2 := M2.lt (b := w.heap.size + 1) (c := ITR 0 (.slice none 0 0)) (by simp)
    refine wpT_valp 5 (v := .slice (some ⟨gz, 0, none⟩) N N) rfl rfl rfl (by go_simp) ?_
    first | dsimp only [wpT] | refine wpT_fin ?_
    try simp only [Act.put, List.setIfInBounds_toArray, List.set_cons_succ, List.set_cons_zero]
    go_upto_region 7 with fail
    refine wp_region_lin (.op 0 (.op 1 (.op 2 .done))) (by rfl) ?_
    refine wpT_valp 21 (v := .slice (some ⟨gz, 0, none⟩) N N) rfl rfl rfl (by go_simp) ?_
    refine wpT_valp 22 (v := .int .i64 N) rfl rfl rfl (by go_simp) ?_
    refine wpT_valp 23 (v := .int .i64 0) rfl rfl rfl (by go_simp) ?_
    first | dsimp only [wpT] | refine wpT_fin ?_
    try simp only [Act.put, List.setIfInBounds_toArray, List.set_cons_succ, List.set_cons_zero]
    go_wp2_with fail
    go_loopw [23] (fun t wr => ∃ (i : Nat) (l : B8), i ≤ N ∧ t = .int .i64 i ∧ l.length = N ∧ (∀ j, j < i → l[j]? = some x.by_) ∧ OB wr (w.heap.size + 1 + 1) (.slice (some ⟨gz, 0, none⟩) N N) l ∧ Mm no w [(w.heap.size + 1, ITR 0 (.slice none 0 0)), (w.heap.size, AC6 x)] wr) (fun t _ => N - (intOf t).toNat)
    case atStart => exact ⟨0, _, by omega, rfl, by simp [zs], (fun j hj => by omega), OZ.mono (by omega), Mz⟩
    case round =>
      clear Mz OZ BZ
      obtain ⟨i, l, hi, rfl, hln, hall, OU, M⟩ := hrel
      have hgz := (OU.at_ gz rfl).1
      by_cases hin : i < N
      · have hlt : (i : Int) < (N : Int) := by omega
        have hi00 : (0 : Int) ≤ (i : Int) := by omega
        have HLN := hid hln
        have HALL := hid hall
        obtain ⟨i1, hi1⟩ : ∃ j, j = i + 1 := ⟨_, rfl⟩
        have HI1 := hid (show IntKind.i64.wrap ((i : Int) + 1) = (i1 : Int) by rw [i64w (by omega) (by omega), hi1]; rfl)
        have HII := hid hi1
        clear hi1 hln hall
        go_upto_region 8 with fail
        refine wp_region_lin (.op 0 .done) (by rfl) ?_
        refine wpT_valp 24 (v := .bool true) rfl rfl rfl (by go_simp) ?_
        first | dsimp only [wpT] | refine wpT_fin ?_
        try simp only [Act.put, List.setIfInBounds_toArray, List.set_cons_succ, List.set_cons_zero]
        go_upto_region 9 with fail
        refine wp_region_lin (.op 0 (.op 1 .done)) (by rfl) ?_
        refine wpT_valp 25 (v := .int .i64 i) rfl rfl rfl (by go_simp) ?_
        refine wpT_valp 6 (v := .int .i64 i) rfl rfl rfl (by go_simp) ?_
        first | dsimp only [wpT] | refine wpT_fin ?_
        try simp only [Act.put, List.setIfInBounds_toArray, List.set_cons_succ, List.set_cons_zero]
        go_upto_region 10 with fail
        refine wp_region_lin (.op 0 (.op 1 (.op 2 (.op 3 (.op 4 (.op 5 .done)))))) (by rfl) ?_
        refine wpT_valp 26 (v := .slice (some ⟨gz, 0, none⟩) N N) rfl rfl rfl (by go_simp) ?_
        refine wpT_valp 27 (v := .int .i64 i) rfl rfl rfl (by go_simp) ?_
        refine wpT_valp 28 (v := .pointer (some ⟨w.heap.size, 1, none⟩)) rfl rfl rfl (by go_simp) ?_
        refine wpT_valp 29 (v := U8 x.by_) rfl rfl rfl (by have c0 := a6_c1 (M.row (b := w.heap.size) (c := AC6 x) (by simp)); go_simp) ?_
        try simp only [Act.put, List.setIfInBounds_toArray, List.set_cons_succ, List.set_cons_zero]
        refine wpT_valp 30 (v := .pointer (some ⟨gz, i, none⟩)) rfl rfl rfl (by go_simp) ?_
        obtain ⟨f1, f2, hset⟩ := OB.setc OU HLN.out i hin x.by_
        refine wpT_stb (U8 x.by_) inf_u8 rfl rfl rfl (by go_simp) (by go_simp) f2 (by simp [go_sem]) f1 rfl ?_
        have MT := M.setOwn (g := gz) ((wr.rowOf gz).setIfInBounds i (U8 x.by_)) (by omega) (by simp; omega)
        obtain ⟨wT, hwT⟩ : ∃ wT, wT = wr.setRow gz ((wr.rowOf gz).setIfInBounds i (U8 x.by_)) := ⟨_, rfl⟩
        rw [← hwT] at MT hset ⊢
        clear hwT f1 f2
        first | dsimp only [wpT] | refine wpT_fin ?_
        try simp only [Act.put, List.setIfInBounds_toArray, List.set_cons_succ, List.set_cons_zero]
        go_upto_region 11 with fail
        refine wp_region_lin (.op 0 (.op 1 .done)) (by rfl) ?_
        refine wpT_valp 31 (v := .int .i64 i1) rfl rfl rfl (by have h := HI1.out; go_simp) ?_
        refine wpT_valp 23 (v := .int .i64 i1) rfl rfl rfl (by go_simp) ?_
        first | dsimp only [wpT] | refine wpT_fin ?_
        try simp only [Act.put, List.setIfInBounds_toArray, List.set_cons_succ, List.set_cons_zero]
        go_wp2_with fail
        go_roundw
        case rel => exact ⟨i1, _, by have := HII.out; omega, rfl, by rw [List.length_set]; exact HLN.out, fun j hj => by
          rw [List.getElem?_set]
          by_cases e : i = j
          · rw [if_pos e, if_pos (by rw [HLN.out]; omega)]
          · rw [if_neg e]; exact HALL.out j (by have := HII.out; omega), hset, MT⟩
        case measure => have := HII.out; simp only [intOf]; omega
      · obtain rfl : N = i := by omega
        have hrep := all_by hln hall
        have HREP := hid hrep
        clear hln hall hrep
        go_upto_region 8 with fail
        refine wp_region_lin (.op 0 .done) (by rfl) ?_
        refine wpT_valp 24 (v := .bool false) rfl rfl rfl (by go_simp) ?_
        first | dsimp only [wpT] | refine wpT_fin ?_
        try simp only [Act.put, List.setIfInBounds_toArray, List.set_cons_succ, List.set_cons_zero]
        go_upto_region 12 with fail
        obtain ⟨S1, M1, hS1, hT1⟩ := M.rebase
        refine wp_region_lin (.op 0 (.op 1 (.op 2 (.op 3 (.op 4 (.op 5 .done)))))) (by rfl) ?_
        refine wpT_valp 32 (v := .pointer (some ⟨w.heap.size, 3, none⟩)) rfl rfl rfl (by go_simp) ?_
        refine wpT_valp 33 (v := .int .i64 x.too) rfl rfl rfl (by have c0 := a6_c3 (M1.row (b := w.heap.size) (c := AC6 x) (by simp)); go_simp) ?_
        refine wpT_valp 34 (v := .slice (some ⟨gz, 0, none⟩) N N) rfl rfl rfl (by go_simp) ?_
        refine wpT_valL 35 (v := .agg (ITR x.too (.slice (some ⟨gz, 0, none⟩) N N))) rfl rfl rfl (by have q := xb_rit2 wr x.too (some ⟨gz, 0, none⟩) N N; go_simp) ?_
        try simp only [Act.put, List.setIfInBounds_toArray, List.set_cons_succ, List.set_cons_zero]
        refine wpT_st0 M1 0 (ITR x.too (.slice (some ⟨gz, 0, none⟩) N N)) inf_rit rfl rfl rfl rfl (by go_simp) (by go_simp) (by simp [ITR_size, STR_size, RSR_size, AC6_size]) (by simp [ITR_size, STR_size, RSR_size, AC6_size]) (by simp [go_sem]) rfl (fun w1 M2 => ?_)
        dsimp only [List.set] at M2
        refine wpT_valp 3 (v := .bool true) rfl rfl rfl (by go_simp) ?_
        first | dsimp only [wpT] | refine wpT_fin ?_
        try simp only [Act.put, List.setIfInBounds_toArray, List.set_cons_succ, List.set_cons_zero]
        go_wp2_with fail
        have r3 := M2.row (b := w.heap.size + 1) (c := ITR x.too (.slice (some ⟨gz, 0, none⟩) N N)) (by simp)
        refine bodyPost_ret (res_two rfl (rv_row Try.underlying75 rfl inf_rit (w.heap.size + 1) rfl (by rw [r3]; simp [ITR_size, STR_size, RSR_size, AC6_size])) (rv_tmp _ _ rfl)) rfl ?_
        rw [r3]
        exact ⟨gz, rfl, item_fin HREP.out (by omega) _ _ hS1 OU M2, by omega, (hT1 _ _ M2).end_⟩
  · rw [if_neg hq] at hN
    obtain rfl : N = 736 := by omega
    clear hN hN2 hN0 hN3
    have M0 := Mm.start no w
    go_enter Try.func32, Try.ntmps32
    have M2 := ((M0.alloc (AC6 x) 69 (by decide)).alloc (ITR 0 (.slice none 0 0)) 75 (by decide))
    try simp only [World.size_alloc] at M2
    go_upto_region 1 with fail
    obtain ⟨w1, hw1⟩ : ∃ w1, w1 = ((w.alloc (.cells (AC6 x) 69)).alloc (.cells (ITR 0 (.slice none 0 0)) 75)) := ⟨_, rfl⟩
    rw [← hw1] at M2 ⊢
    clear hw1
    refine wp_region_lin (.op 0 .done) (by rfl) ?_
    refine wpT_valp 4 (v := .int .i64 736) rfl rfl rfl (by go_simp) ?_
    first | dsimp only [wpT] | refine wpT_fin ?_
    try simp only [Act.put, List.setIfInBounds_toArray, List.set_cons_succ, List.set_cons_zero]
    go_upto_region 2 with fail
    refine wp_region_lin (.op 0 (.op 1 (.op 2 .done))) (by rfl) ?_
    refine wpT_valp 7 (v := .pointer (some ⟨w.heap.size, 0, none⟩)) rfl rfl rfl (by go_simp) ?_
    refine wpT_valp 8 (v := .int .u8 x.q) rfl rfl rfl (by have c0 := a6_c0 (M2.row (b := w.heap.size) (c := AC6 x) (by simp)); go_simp) ?_
    refine wpT_valp 9 (v := .bool false) rfl rfl rfl (by go_simp) ?_
    first | dsimp only [wpT] | refine wpT_fin ?_
    try simp only [Act.put, List.setIfInBounds_toArray, List.set_cons_succ, List.set_cons_zero]
    go_upto_region 4 with fail
    refine wp_region_lin (.op 0 (.op 1 (.op 2 (.op 3 (.op 4 (.op 5 .done)))))) (by rfl) ?_
    refine wpT_valp 12 (v := .int .i64 736) rfl rfl rfl (by go_simp) ?_
    refine wpT_valp 13 (v := .bool false) rfl rfl rfl (by go_simp) ?_
    refine wpT_valp 14 (v := .bool false) rfl rfl rfl (by go_simp) ?_
    refine wpT_valp 15 (v := .int .i64 736) rfl rfl (by simp [Region.wanted, yielded, Act.put]) (by go_simp) ?_
    try simp only [Act.put, List.setIfInBounds_toArray, List.set_cons_succ, List.set_cons_zero]
    refine wpT_valp 16 (v := .bool false) rfl rfl (by simp [Region.wanted, yielded, Act.put]) (by go_simp) ?_
    refine wpT_valp 17 (v := .bool false) rfl rfl rfl (by go_simp) ?_
    first | dsimp only [wpT] | refine wpT_fin ?_
    try simp only [Act.put, List.setIfInBounds_toArray, List.set_cons_succ, List.set_cons_zero]
    go_upto_region 6 with fail
    refine wp_region_lin (.op 0 (.op 1 (.op 2 .done))) (by rfl) ?_
    refine wpT_valp 19 (v := .int .i64 736) rfl rfl rfl (by go_simp) ?_
    refine wpT_mkz 20 736 _ _ M2 rfl rfl rfl rfl (by go_simp) (by go_simp) (by omega) (fun gz wz BZ Mz hz1 OZ => ?_)
    have hz2 := M2.lt (b := w.heap.size + 1) (c := ITR 0 (.slice none 0 0)) (by simp)
    refine wpT_valp 5 (v := .slice (some ⟨gz, 0, none⟩) 736 736) rfl rfl rfl (by go_simp) ?_
    first | dsimp only [wpT] | refine wpT_fin ?_
    try simp only [Act.put, List.setIfInBounds_toArray, List.set_cons_succ, List.set_cons_zero]
    go_upto_region 7 with fail
    refine wp_region_lin (.op 0 (.op 1 (.op 2 .done))) (by rfl) ?_
    refine wpT_valp 21 (v := .slice (some ⟨gz, 0, none⟩) 736 736) rfl rfl rfl (by go_simp) ?_
    refine wpT_valp 22 (v := .int .i64 736) rfl rfl rfl (by go_simp) ?_
    refine wpT_valp 23 (v := .int .i64 0) rfl rfl rfl (by go_simp) ?_
    first | dsimp only [wpT] | refine wpT_fin ?_
    try simp only [Act.put, List.setIfInBounds_toArray, List.set_cons_succ, List.set_cons_zero]
    go_wp2_with fail
    go_loopw [23] (fun t wr => ∃ (i : Nat) (l : B8), i ≤ 736 ∧ t = .int .i64 i ∧ l.length = 736 ∧ (∀ j, j < i → l[j]? = some x.by_) ∧ OB wr (w.heap.size + 1 + 1) (.slice (some ⟨gz, 0, none⟩) 736 736) l ∧ Mm no w [(w.heap.size + 1, ITR 0 (.slice none 0 0)), (w.heap.size, AC6 x)] wr) (fun t _ => 736 - (intOf t).toNat)
    case atStart => exact ⟨0, _, by omega, rfl, by simp [zs], (fun j hj => by omega), OZ.mono (by omega), Mz⟩
    case round =>
      clear Mz OZ BZ
      obtain ⟨i, l, hi, rfl, hln, hall, OU, M⟩ := hrel
      have hgz := (OU.at_ gz rfl).1
      by_cases hin : i < 736
      · have hlt : (i : Int) < 736 := by omega
        have hi00 : (0 : Int) ≤ (i : Int) := by omega
        have HLN := hid hln
        have HALL := hid hall
        obtain ⟨i1, hi1⟩ : ∃ j, j = i + 1 := ⟨_, rfl⟩
        have HI1 := hid (show IntKind.i64.wrap ((i : Int) + 1) = (i1 : Int) by rw [i64w (by omega) (by omega), hi1]; rfl)
        have HII := hid hi1
        clear hi1 hln hall
        go_upto_region 8 with fail
        refine wp_region_lin (.op 0 .done) (by rfl) ?_
        refine wpT_valp 24 (v := .bool true) rfl rfl rfl (by go_simp) ?_
        first | dsimp only [wpT] | refine wpT_fin ?_
        try simp only [Act.put, List.setIfInBounds_toArray, List.set_cons_succ, List.set_cons_zero]
        go_upto_region 9 with fail
        refine wp_region_lin (.op 0 (.op 1 .done)) (by rfl) ?_
        refine wpT_valp 25 (v := .int .i64 i) rfl rfl rfl (by go_simp) ?_
        refine wpT_valp 6 (v := .int .i64 i) rfl rfl rfl (by go_simp) ?_
        first | dsimp only [wpT] | refine wpT_fin ?_
        try simp only [Act.put, List.setIfInBounds_toArray, List.set_cons_succ, List.set_cons_zero]
        go_upto_region 10 with fail
        refine wp_region_lin (.op 0 (.op 1 (.op 2 (.op 3 (.op 4 (.op 5 .done)))))) (by rfl) ?_
        refine wpT_valp 26 (v := .slice (some ⟨gz, 0, none⟩) 736 736) rfl rfl rfl (by go_simp) ?_
        refine wpT_valp 27 (v := .int .i64 i) rfl rfl rfl (by go_simp) ?_
        refine wpT_valp 28 (v := .pointer (some ⟨w.heap.size, 1, none⟩)) rfl rfl rfl (by go_simp) ?_
        refine wpT_valp 29 (v := U8 x.by_) rfl rfl rfl (by have c0 := a6_c1 (M.row (b := w.heap.size) (c := AC6 x) (by simp)); go_simp) ?_
        try simp only [Act.put, List.setIfInBounds_toArray, List.set_cons_succ, List.set_cons_zero]
        refine wpT_valp 30 (v := .pointer (some ⟨gz, i, none⟩)) rfl rfl rfl (by go_simp) ?_
        obtain ⟨f1, f2, hset⟩ := OB.setc OU HLN.out i hin x.by_
        refine wpT_stb (U8 x.by_) inf_u8 rfl rfl rfl (by go_simp) (by go_simp) f2 (by simp [go_sem]) f1 rfl ?_
        have MT := M.setOwn (g := gz) ((wr.rowOf gz).setIfInBounds i (U8 x.by_)) (by omega) (by simp; omega)
        obtain ⟨wT, hwT⟩ : ∃ wT, wT = wr.setRow gz ((wr.rowOf gz).setIfInBounds i (U8 x.by_)) := ⟨_, rfl⟩
        rw [← hwT] at MT hset ⊢
        clear hwT f1 f2
        first | dsimp only [wpT] | refine wpT_fin ?_
        try simp only [Act.put, List.setIfInBounds_toArray, List.set_cons_succ, List.set_cons_zero]
        go_upto_region 11 with fail
        refine wp_region_lin (.op 0 (.op 1 .done)) (by rfl) ?_
        refine wpT_valp 31 (v := .int .i64 i1) rfl rfl rfl (by have h := HI1.out; go_simp) ?_
        refine wpT_valp 23 (v := .int .i64 i1) rfl rfl rfl (by go_simp) ?_
        first | dsimp only [wpT] | refine wpT_fin ?_
        try simp only [Act.put, List.setIfInBounds_toArray, List.set_cons_succ, List.set_cons_zero]
        go_wp2_with fail
        go_roundw
        case rel => exact ⟨i1, _, by have := HII.out; omega, rfl, by rw [List.length_set]; exact HLN.out, fun j hj => by
          rw [List.getElem?_set]
          by_cases e : i = j
          · rw [if_pos e, if_pos (by rw [HLN.out]; omega)]
          · rw [if_neg e]; exact HALL.out j (by have := HII.out; omega), hset, MT⟩
        case measure => have := HII.out; simp only [intOf]; omega
      · obtain rfl : 736 = i := by omega
        have hrep := all_by hln hall
        have HREP := hid hrep
        clear hln hall hrep
        go_upto_region 8 with fail
        refine wp_region_lin (.op 0 .done) (by rfl) ?_
        refine wpT_valp 24 (v := .bool false) rfl rfl rfl (by go_simp) ?_
        first | dsimp only [wpT] | refine wpT_fin ?_
        try simp only [Act.put, List.setIfInBounds_toArray, List.set_cons_succ, List.set_cons_zero]
        go_upto_region 12 with fail
        obtain ⟨S1, M1, hS1, hT1⟩ := M.rebase
        refine wp_region_lin (.op 0 (.op 1 (.op 2 (.op 3 (.op 4 (.op 5 .done)))))) (by rfl) ?_
        refine wpT_valp 32 (v := .pointer (some ⟨w.heap.size, 3, none⟩)) rfl rfl rfl (by go_simp) ?_
        refine wpT_valp 33 (v := .int .i64 x.too) rfl rfl rfl (by have c0 := a6_c3 (M1.row (b := w.heap.size) (c := AC6 x) (by simp)); go_simp) ?_
        refine wpT_valp 34 (v := .slice (some ⟨gz, 0, none⟩) 736 736) rfl rfl rfl (by go_simp) ?_
        refine wpT_valL 35 (v := .agg (ITR x.too (.slice (some ⟨gz, 0, none⟩) 736 736))) rfl rfl rfl (by have q := xb_rit2 wr x.too (some ⟨gz, 0, none⟩) 736 736; go_simp) ?_
        try simp only [Act.put, List.setIfInBounds_toArray, List.set_cons_succ, List.set_cons_zero]
        refine wpT_st0 M1 0 (ITR x.too (.slice (some ⟨gz, 0, none⟩) 736 736)) inf_rit rfl rfl rfl rfl (by go_simp) (by go_simp) (by simp [ITR_size, STR_size, RSR_size, AC6_size]) (by simp [ITR_size, STR_size, RSR_size, AC6_size]) (by simp [go_sem]) rfl (fun w1 M2 => ?_)
        dsimp only [List.set] at M2
        refine wpT_valp 3 (v := .bool true) rfl rfl rfl (by go_simp) ?_
        first | dsimp only [wpT] | refine wpT_fin ?_
        try simp only [Act.put, List.setIfInBounds_toArray, List.set_cons_succ, List.set_cons_zero]
        go_wp2_with fail
        have r3 := M2.row (b := w.heap.size + 1) (c := ITR x.too (.slice (some ⟨gz, 0, none⟩) 736 736)) (by simp)
        refine bodyPost_ret (res_two rfl (rv_row Try.underlying75 rfl inf_rit (w.heap.size + 1) rfl (by rw [r3]; simp [ITR_size, STR_size, RSR_size, AC6_size])) (rv_tmp _ _ rfl)) rfl ?_
        rw [r3]
        exact ⟨gz, rfl, item_fin HREP.out (by omega) _ _ hS1 OU M2, by omega, (hT1 _ _ M2).end_⟩
end Go.Proofs.Ytojkcbhmhfjioaa
