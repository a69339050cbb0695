/-
  Package setup: Start, Answer; own work.
-/
import Derived.Test.YtgclegdgngldoaaDoorSu2
set_option linter.unusedSimpArgs false
set_option linter.unusedVariables false
namespace Go.Proofs.YtgclegdgngldoaaDoor
open Go.RowKit Fp
section
variable {ops : Array Oper} {Q : Exit → Act → World → Prop} {i : Nat} {t : Tr} {a : Act} {o : Oper} {S : Nat → Prop} {w0 w : World} {H : List (Nat × Array Value)}
theorem wpT_pairsO (dst n : Nat) (ps : Array (Nat × Operand)) (M : Mm S w0 H w) (L : List L8) (c : Array Value) (hcl : c.toList = pfl L) (h64 : ∀ k ∈ L, k.length = 64) (hLn : L.length = n) (hn : n = ps.size) (hn0 : 0 < n) (hn1 : n ≤ 1000) (hdst : o.dst = some dst) (ho : ops[i]? = some o) (hop : o.op = .buildSlice 77 n ps)
    (hc : Cont (fun i => some (i * 64, 64)) 0 (ps.map fun (i, x) => (i, a.eval x)).toList) (hs : (catP (ps.map fun (i, x) => (i, a.eval x)).toList).size = n * 64) (hcc : catP (ps.map fun (i, x) => (i, a.eval x)).toList = c) (hw : Region.wanted o (yielded ops a.tmps) = true)
    (h : ∀ b w', PO w' w.heap.size (.slice (some ⟨b, 0, none⟩) n n) L → Mm S w0 H w' → Below w.heap.size w w' → wpT Tryd.prog ops Q t (a.put (some dst) (.slice (some ⟨b, 0, none⟩) n n)) w') : wpT Tryd.prog ops Q (.op i t) a w := by
  obtain ⟨ie, z, h1, h2, h3, h4⟩ := pair_info
  have hf : Instr.fill (fun i => some (i * ie.size, ie.size)) ((Array.range (n * ie.size)).map (z.cells[· % z.cells.size]!)) (ps.map fun (i, x) => (i, a.eval x)).toList = some c := by
    rw [h3]
    have := fill_cat (fun i => some (i * 64, 64)) (ps.map fun (i, x) => (i, a.eval x)).toList #[] ((Array.range (n * 64)).map (z.cells[· % z.cells.size]!)) hc (by rw [hs]; simp)
    rw [Array.empty_append, Array.empty_append] at this
    rw [this, hcc]
  refine wpT_val (w' := w.alloc (.cells c 76)) (v := .slice (some ⟨w.heap.size, 0, none⟩) n n) ho hw ?_ ?_
  · obtain ⟨dst, op, ty, pos, after, guard⟩ := o
    subst hop
    simp only [execOp, Sem.run_bind]
    rw [run_buildSlice w 77 76 n _ c ie z Tryd.underlying77 h1 h2 (by rw [h3]; omega) (by rw [h3]; omega) hf]; rfl
  · rw [hdst]
    have hb : Below w.heap.size w (w.alloc (.cells c 76)) := (Below.refl _ _).alloc (Nat.le_refl _) _
    have hsz : c.size = n * 64 := by rw [← hcc]; exact hs
    have h5 := World.ownsRow_lit (base := w.heap.size) (e := 76) (size := 64) w c n (Nat.le_refl _) (by unfold maxLen; omega) hsz
    exact h _ _ ⟨by rw [hLn, ← hcl]; exact h5, h64⟩ (M.below hb) hb
theorem wpT_pairsO3 (dst : Nat) (x y z : Operand) (M : Mm S w0 H w) (k l m : L8) (hk : k.length = 64) (hl : l.length = 64) (hm : m.length = 64) (hdst : o.dst = some dst) (ho : ops[i]? = some o) (hop : o.op = .buildSlice 77 3 #[(0, x), (1, y), (2, z)])
    (hx : a.eval x = .agg (cs U8 k)) (hy : a.eval y = .agg (cs U8 l)) (hz : a.eval z = .agg (cs U8 m)) (hw : Region.wanted o (yielded ops a.tmps) = true)
    (h : ∀ b w', PO w' w.heap.size (.slice (some ⟨b, 0, none⟩) 3 3) [k, l, m] → Mm S w0 H w' → Below w.heap.size w w' → wpT Tryd.prog ops Q t (a.put (some dst) (.slice (some ⟨b, 0, none⟩) 3 3)) w') : wpT Tryd.prog ops Q (.op i t) a w := by
  have e : (Array.map (fun (x : Nat × Operand) => (x.1, a.eval x.2)) #[(0, x), (1, y), (2, z)]).toList = [(0, .agg (cs U8 k)), (1, .agg (cs U8 l)), (2, .agg (cs U8 m))] := by simp [hx, hy, hz]
  refine wpT_pairsO dst 3 #[(0, x), (1, y), (2, z)] M [k, l, m] (cs U8 (k ++ (l ++ m))) (by simp [cs, pfl]) (fun q hq => by simp only [List.mem_cons, List.not_mem_nil, or_false] at hq; rcases hq with rfl | rfl | rfl <;> assumption) rfl rfl (by decide) (by decide) hdst ho hop ?_ ?_ ?_ hw h
  · rw [e]; simp [Cont, Value.cells, hk, hl, hm]
  · rw [e]; simp [catP, Value.cells, hk, hl, hm]
  · rw [e]; simp [catP, Value.cells, cs_append]
end
/-- the pairs of who begins, and of who is spoken to -/
def Su.ps (a f L P O : L8) (h : Bool) : List (L8 × L8) := [(a, P), (f, L), (f, P)] ++ (if h then [(f, O)] else [])
def Su.qs (a f L P O : L8) (h : Bool) : List (L8 × L8) := [(P, a), (L, f), (P, f)] ++ (if h then [(O, f)] else [])
attribute [local irreducible] BR Su.pub Su.parts Sh.mac Sh.derive
set_option maxRecDepth 100000 in
set_option maxHeartbeats 2000000 in
theorem start_c (w : World) (a f L P O D : L8) (h : Bool) (er : Int) (ha : a.length = 32) (hf : f.length = 32) (hL : L.length = 32) (hP : P.length = 32) (hO : O.length = 32) (hD : D.length = 32)
    (HS : Hid (∀ w' v, Below w.heap.size w w' → PS w' v ((Su.ps a f L P O h).map cat2) → Calls Tryd.prog 33 #[v] w' fun e w'' => e = .returned (.tuple #[.agg (cs U8 D), .int .i64 er]) ∧ Below w'.heap.size w' w'')) :
    Calls Tryd.prog 12 #[.agg (cs U8 a), .agg (cs U8 f), .agg (BR L P O h)] w fun e w' => e = .returned (.tuple #[.agg (cs U8 D), .int .i64 er]) ∧ Below w.heap.size w w' := by
  cases h
  · replace HS : Hid (∀ w' v, Below w.heap.size w w' → PS w' v [a ++ P, f ++ L, f ++ P] → Calls Tryd.prog 33 #[v] w' fun e w'' => e = .returned (.tuple #[.agg (cs U8 D), .int .i64 er]) ∧ Below w'.heap.size w' w'') := HS
    have M0 := Mm.start no w
    go_enter Tryd.func12, Tryd.ntmps12
    have M2 := ((((M0.alloc (cs U8 a) 23 (by decide)).alloc (cs U8 f) 23 (by decide)).alloc (BR L P O false) 30 (by decide)).alloc (cs U8 (zs 32)) 23 (by decide))
    try simp only [World.size_alloc] at M2
    go_upto_region 1 with fail
    obtain ⟨w1, hw1⟩ : ∃ w1, w1 = ((((w.alloc (.cells (cs U8 a) 23)).alloc (.cells (cs U8 f) 23)).alloc (.cells (BR L P O false) 30)).alloc (.cells (cs U8 (zs 32)) 23)) := ⟨_, rfl⟩
    rw [← hw1] at M2 ⊢
    clear hw1
    refine wp_region_lin (.op 0 (.op 1 (.op 2 (.op 3 (.op 4 (.op 5 (.op 6 (.op 7 (.op 8 (.op 9 (.op 10 (.op 11 (.op 12 (.op 13 .done)))))))))))))) (by rfl) ?_
    refine wpT_ld0 9 Tryd.underlying23 rfl inf_key (w.heap.size) (cs U8 a) rfl rfl rfl (by go_simp) (M2.row (by simp)) (by simp [BR_size, ha, hf, hL, hP, hO, hD]) rfl ?_
    refine wpT_valp 10 (v := .pointer (some ⟨w.heap.size + 1 + 1, 32, none⟩)) rfl rfl rfl (by go_simp) ?_
    refine wpT_ldm 11 Tryd.underlying23 rfl inf_key (w.heap.size + 1 + 1) 32 (BR L P O false) (cs U8 P) rfl rfl rfl (by go_simp) (M2.row (by simp)) (by simp [BR_size, ha, hf, hL, hP, hO, hD]) (br_32 (by simp [BR_size, ha, hf, hL, hP, hO, hD]) (by simp [BR_size, ha, hf, hL, hP, hO, hD]) (by simp [BR_size, ha, hf, hL, hP, hO, hD])) rfl ?_
    refine wpT_valL 12 (v := .agg (cs U8 (a ++ P))) rfl rfl rfl (by have q := xb_prs w1 a P (by simp [BR_size, ha, hf, hL, hP, hO, hD]) (by simp [BR_size, ha, hf, hL, hP, hO, hD]); go_simp) ?_
    try simp only [Act.put, List.setIfInBounds_toArray, List.set_cons_succ, List.set_cons_zero]
    refine wpT_ld0 13 Tryd.underlying23 rfl inf_key (w.heap.size + 1) (cs U8 f) rfl rfl rfl (by go_simp) (M2.row (by simp)) (by simp [BR_size, ha, hf, hL, hP, hO, hD]) rfl ?_
    refine wpT_valp 14 (v := .pointer (some ⟨w.heap.size + 1 + 1, 0, none⟩)) rfl rfl rfl (by go_simp) ?_
    refine wpT_ldm 15 Tryd.underlying23 rfl inf_key (w.heap.size + 1 + 1) 0 (BR L P O false) (cs U8 L) rfl rfl rfl (by go_simp) (M2.row (by simp)) (by simp [BR_size, ha, hf, hL, hP, hO, hD]) (br_0 (by simp [BR_size, ha, hf, hL, hP, hO, hD]) (by simp [BR_size, ha, hf, hL, hP, hO, hD]) (by simp [BR_size, ha, hf, hL, hP, hO, hD])) rfl ?_
    refine wpT_valL 16 (v := .agg (cs U8 (f ++ L))) rfl rfl rfl (by have q := xb_prs w1 f L (by simp [BR_size, ha, hf, hL, hP, hO, hD]) (by simp [BR_size, ha, hf, hL, hP, hO, hD]); go_simp) ?_
    refine wpT_ld0 17 Tryd.underlying23 rfl inf_key (w.heap.size + 1) (cs U8 f) rfl rfl rfl (by go_simp) (M2.row (by simp)) (by simp [BR_size, ha, hf, hL, hP, hO, hD]) rfl ?_
    try simp only [Act.put, List.setIfInBounds_toArray, List.set_cons_succ, List.set_cons_zero]
    refine wpT_valp 18 (v := .pointer (some ⟨w.heap.size + 1 + 1, 32, none⟩)) rfl rfl rfl (by go_simp) ?_
    refine wpT_ldm 19 Tryd.underlying23 rfl inf_key (w.heap.size + 1 + 1) 32 (BR L P O false) (cs U8 P) rfl rfl rfl (by go_simp) (M2.row (by simp)) (by simp [BR_size, ha, hf, hL, hP, hO, hD]) (br_32 (by simp [BR_size, ha, hf, hL, hP, hO, hD]) (by simp [BR_size, ha, hf, hL, hP, hO, hD]) (by simp [BR_size, ha, hf, hL, hP, hO, hD])) rfl ?_
    refine wpT_valL 20 (v := .agg (cs U8 (f ++ P))) rfl rfl rfl (by have q := xb_prs w1 f P (by simp [BR_size, ha, hf, hL, hP, hO, hD]) (by simp [BR_size, ha, hf, hL, hP, hO, hD]); go_simp) ?_
    refine wpT_pairsO3 21 _ _ _ M2 (a ++ P) (f ++ L) (f ++ P) (by simp [BR_size, ha, hf, hL, hP, hO, hD]) (by simp [BR_size, ha, hf, hL, hP, hO, hD]) (by simp [BR_size, ha, hf, hL, hP, hO, hD]) rfl rfl rfl (by go_simp) (by go_simp) (by go_simp) rfl (fun g1 wp1 O1 Mp1 Bp1 => ?_)
    refine wpT_valp 8 (v := .slice (some ⟨g1, 0, none⟩) 3 3) rfl rfl rfl (by go_simp) ?_
    dsimp only [wpT]
    try simp only [Act.put, List.setIfInBounds_toArray, List.set_cons_succ, List.set_cons_zero]
    go_upto_region 2 with fail
    refine wp_region_lin (.op 0 (.op 1 .done)) (by rfl) ?_
    refine wpT_valp 22 (v := .pointer (some ⟨w.heap.size + 1 + 1, 96, none⟩)) rfl rfl rfl (by go_simp) ?_
    refine wpT_valp 23 (v := .bool false) rfl rfl rfl (by have c0 := br_96 (by simp [BR_size, ha, hf, hL, hP, hO, hD]) (by simp [BR_size, ha, hf, hL, hP, hO, hD]) (by simp [BR_size, ha, hf, hL, hP, hO, hD]) (Mp1.row (b := w.heap.size + 1 + 1) (c := BR L P O false) (by simp)); go_simp) ?_
    dsimp only [wpT]
    try simp only [Act.put, List.setIfInBounds_toArray, List.set_cons_succ, List.set_cons_zero]
    go_upto_region 4 with fail
    refine wp_region_lin (.op 0 (.op 1 (.op 2 (.op 3 (.op 4 (.op 5 .done)))))) (by rfl) ?_
    refine wpT_valp 31 (v := .slice (some ⟨g1, 0, none⟩) 3 3) rfl rfl rfl (by go_simp) ?_
    refine wpT_callv 32 Mp1 (v := .tuple #[.agg (cs U8 D), .int .i64 er]) rfl rfl rfl (by go_simp) (HS.out wp1 _ Mp1.end_ O1.ks) (fun w3 M4 => ?_)
    refine wpT_valp 33 (v := .agg (cs U8 D)) rfl rfl rfl (by go_simp) ?_
    refine wpT_valp 34 (v := .int .i64 er) rfl rfl rfl (by go_simp) ?_
    try simp only [Act.put, List.setIfInBounds_toArray, List.set_cons_succ, List.set_cons_zero]
    refine wpT_st0 M4 0 (cs U8 D) inf_key rfl rfl rfl rfl (by go_simp) (by go_simp) (by simp [BR_size, ha, hf, hL, hP, hO, hD]) (by simp [BR_size, ha, hf, hL, hP, hO, hD]) (by simp [go_sem]) rfl (fun w5 M6 => ?_)
    dsimp only [List.set] at M6
    refine wpT_valp 7 (v := .int .i64 er) rfl rfl rfl (by go_simp) ?_
    dsimp only [wpT]
    try simp only [Act.put, List.setIfInBounds_toArray, List.set_cons_succ, List.set_cons_zero]
    go_wp2_with fail
    have r7 := M6.row (b := w.heap.size + 1 + 1 + 1) (c := cs U8 D) (by simp)
    refine bodyPost_ret (res_two rfl (rv_row Tryd.underlying23 rfl inf_key (w.heap.size + 1 + 1 + 1) rfl (by rw [r7]; simp [BR_size, ha, hf, hL, hP, hO, hD])) (rv_tmp _ _ rfl)) rfl ?_
    rw [r7]
    exact ⟨rfl, M6.end_⟩
  · replace HS : Hid (∀ w' v, Below w.heap.size w w' → PS w' v ([a ++ P, f ++ L, f ++ P] ++ [f ++ O]) → Calls Tryd.prog 33 #[v] w' fun e w'' => e = .returned (.tuple #[.agg (cs U8 D), .int .i64 er]) ∧ Below w'.heap.size w' w'') := HS
    have M0 := Mm.start no w
    go_enter Tryd.func12, Tryd.ntmps12
    have M2 := ((((M0.alloc (cs U8 a) 23 (by decide)).alloc (cs U8 f) 23 (by decide)).alloc (BR L P O true) 30 (by decide)).alloc (cs U8 (zs 32)) 23 (by decide))
    try simp only [World.size_alloc] at M2
    go_upto_region 1 with fail
    obtain ⟨w1, hw1⟩ : ∃ w1, w1 = ((((w.alloc (.cells (cs U8 a) 23)).alloc (.cells (cs U8 f) 23)).alloc (.cells (BR L P O true) 30)).alloc (.cells (cs U8 (zs 32)) 23)) := ⟨_, rfl⟩
    rw [← hw1] at M2 ⊢
    clear hw1
    refine wp_region_lin (.op 0 (.op 1 (.op 2 (.op 3 (.op 4 (.op 5 (.op 6 (.op 7 (.op 8 (.op 9 (.op 10 (.op 11 (.op 12 (.op 13 .done)))))))))))))) (by rfl) ?_
    refine wpT_ld0 9 Tryd.underlying23 rfl inf_key (w.heap.size) (cs U8 a) rfl rfl rfl (by go_simp) (M2.row (by simp)) (by simp [BR_size, ha, hf, hL, hP, hO, hD]) rfl ?_
    refine wpT_valp 10 (v := .pointer (some ⟨w.heap.size + 1 + 1, 32, none⟩)) rfl rfl rfl (by go_simp) ?_
    refine wpT_ldm 11 Tryd.underlying23 rfl inf_key (w.heap.size + 1 + 1) 32 (BR L P O true) (cs U8 P) rfl rfl rfl (by go_simp) (M2.row (by simp)) (by simp [BR_size, ha, hf, hL, hP, hO, hD]) (br_32 (by simp [BR_size, ha, hf, hL, hP, hO, hD]) (by simp [BR_size, ha, hf, hL, hP, hO, hD]) (by simp [BR_size, ha, hf, hL, hP, hO, hD])) rfl ?_
    refine wpT_valL 12 (v := .agg (cs U8 (a ++ P))) rfl rfl rfl (by have q := xb_prs w1 a P (by simp [BR_size, ha, hf, hL, hP, hO, hD]) (by simp [BR_size, ha, hf, hL, hP, hO, hD]); go_simp) ?_
    try simp only [Act.put, List.setIfInBounds_toArray, List.set_cons_succ, List.set_cons_zero]
    refine wpT_ld0 13 Tryd.underlying23 rfl inf_key (w.heap.size + 1) (cs U8 f) rfl rfl rfl (by go_simp) (M2.row (by simp)) (by simp [BR_size, ha, hf, hL, hP, hO, hD]) rfl ?_
    refine wpT_valp 14 (v := .pointer (some ⟨w.heap.size + 1 + 1, 0, none⟩)) rfl rfl rfl (by go_simp) ?_
    refine wpT_ldm 15 Tryd.underlying23 rfl inf_key (w.heap.size + 1 + 1) 0 (BR L P O true) (cs U8 L) rfl rfl rfl (by go_simp) (M2.row (by simp)) (by simp [BR_size, ha, hf, hL, hP, hO, hD]) (br_0 (by simp [BR_size, ha, hf, hL, hP, hO, hD]) (by simp [BR_size, ha, hf, hL, hP, hO, hD]) (by simp [BR_size, ha, hf, hL, hP, hO, hD])) rfl ?_
    refine wpT_valL 16 (v := .agg (cs U8 (f ++ L))) rfl rfl rfl (by have q := xb_prs w1 f L (by simp [BR_size, ha, hf, hL, hP, hO, hD]) (by simp [BR_size, ha, hf, hL, hP, hO, hD]); go_simp) ?_
    refine wpT_ld0 17 Tryd.underlying23 rfl inf_key (w.heap.size + 1) (cs U8 f) rfl rfl rfl (by go_simp) (M2.row (by simp)) (by simp [BR_size, ha, hf, hL, hP, hO, hD]) rfl ?_
    try simp only [Act.put, List.setIfInBounds_toArray, List.set_cons_succ, List.set_cons_zero]
    refine wpT_valp 18 (v := .pointer (some ⟨w.heap.size + 1 + 1, 32, none⟩)) rfl rfl rfl (by go_simp) ?_
    refine wpT_ldm 19 Tryd.underlying23 rfl inf_key (w.heap.size + 1 + 1) 32 (BR L P O true) (cs U8 P) rfl rfl rfl (by go_simp) (M2.row (by simp)) (by simp [BR_size, ha, hf, hL, hP, hO, hD]) (br_32 (by simp [BR_size, ha, hf, hL, hP, hO, hD]) (by simp [BR_size, ha, hf, hL, hP, hO, hD]) (by simp [BR_size, ha, hf, hL, hP, hO, hD])) rfl ?_
    refine wpT_valL 20 (v := .agg (cs U8 (f ++ P))) rfl rfl rfl (by have q := xb_prs w1 f P (by simp [BR_size, ha, hf, hL, hP, hO, hD]) (by simp [BR_size, ha, hf, hL, hP, hO, hD]); go_simp) ?_
    refine wpT_pairsO3 21 _ _ _ M2 (a ++ P) (f ++ L) (f ++ P) (by simp [BR_size, ha, hf, hL, hP, hO, hD]) (by simp [BR_size, ha, hf, hL, hP, hO, hD]) (by simp [BR_size, ha, hf, hL, hP, hO, hD]) rfl rfl rfl (by go_simp) (by go_simp) (by go_simp) rfl (fun g1 wp1 O1 Mp1 Bp1 => ?_)
    refine wpT_valp 8 (v := .slice (some ⟨g1, 0, none⟩) 3 3) rfl rfl rfl (by go_simp) ?_
    dsimp only [wpT]
    try simp only [Act.put, List.setIfInBounds_toArray, List.set_cons_succ, List.set_cons_zero]
    go_upto_region 2 with fail
    refine wp_region_lin (.op 0 (.op 1 .done)) (by rfl) ?_
    refine wpT_valp 22 (v := .pointer (some ⟨w.heap.size + 1 + 1, 96, none⟩)) rfl rfl rfl (by go_simp) ?_
    refine wpT_valp 23 (v := .bool true) rfl rfl rfl (by have c0 := br_96 (by simp [BR_size, ha, hf, hL, hP, hO, hD]) (by simp [BR_size, ha, hf, hL, hP, hO, hD]) (by simp [BR_size, ha, hf, hL, hP, hO, hD]) (Mp1.row (b := w.heap.size + 1 + 1) (c := BR L P O true) (by simp)); go_simp) ?_
    dsimp only [wpT]
    try simp only [Act.put, List.setIfInBounds_toArray, List.set_cons_succ, List.set_cons_zero]
    go_upto_region 3 with fail
    refine wp_region_lin (.op 0 (.op 1 (.op 2 (.op 3 (.op 4 (.op 5 (.op 6 (.op 7 .done)))))))) (by rfl) ?_
    refine wpT_valp 24 (v := .slice (some ⟨g1, 0, none⟩) 3 3) rfl rfl rfl (by go_simp) ?_
    refine wpT_ld0 25 Tryd.underlying23 rfl inf_key (w.heap.size + 1) (cs U8 f) rfl rfl rfl (by go_simp) (Mp1.row (by simp)) (by simp [BR_size, ha, hf, hL, hP, hO, hD]) rfl ?_
    refine wpT_valp 26 (v := .pointer (some ⟨w.heap.size + 1 + 1, 64, none⟩)) rfl rfl rfl (by go_simp) ?_
    refine wpT_ldm 27 Tryd.underlying23 rfl inf_key (w.heap.size + 1 + 1) 64 (BR L P O true) (cs U8 O) rfl rfl rfl (by go_simp) (Mp1.row (by simp)) (by simp [BR_size, ha, hf, hL, hP, hO, hD]) (br_64 (by simp [BR_size, ha, hf, hL, hP, hO, hD]) (by simp [BR_size, ha, hf, hL, hP, hO, hD]) (by simp [BR_size, ha, hf, hL, hP, hO, hD])) rfl ?_
    try simp only [Act.put, List.setIfInBounds_toArray, List.set_cons_succ, List.set_cons_zero]
    refine wpT_valL 28 (v := .agg (cs U8 (f ++ O))) rfl rfl rfl (by have q := xb_prs wp1 f O (by simp [BR_size, ha, hf, hL, hP, hO, hD]) (by simp [BR_size, ha, hf, hL, hP, hO, hD]); go_simp) ?_
    refine wpT_pairs1 29 _ Mp1 (f ++ O) (by simp [BR_size, ha, hf, hL, hP, hO, hD]) rfl rfl rfl (by go_simp) rfl (fun g2 wp2 Mp2 Bp2 hg2 => ?_)
    have hsv := SV.pair (Mp2.row (b := g2) (c := cs U8 (f ++ O)) (by simp))
    replace Mp2 := Mp2.sub (H' := [(w.heap.size + 1 + 1 + 1, cs U8 (zs 32)), (w.heap.size + 1 + 1, BR L P O true), (w.heap.size + 1, cs U8 f), (w.heap.size, cs U8 a)]) (by simp)
    replace O1 := PO.below O1 Bp2
    have hz3 := Bp1.size
    have hz4 := Bp2.size
    refine wpT_app 30 _ _ Mp2 w1.heap.size (.slice (some ⟨g1, 0, none⟩) 3 3) (.slice (some ⟨g2, 0, none⟩) 1 1) [a ++ P, f ++ L, f ++ P] (f ++ O) rfl rfl rfl rfl (by go_simp) O1 (by go_simp) (by simp [BR_size, ha, hf, hL, hP, hO, hD]) hsv (by simp) (by omega) M2.size (fun g hg p hp => by have h1 := M2.lt (b := p.1) (c := p.2) hp; have h2 := (O1.at_ g hg).1; omega) (fun u3 wp3 O3 Mp3 _ _ => ?_)
    refine wpT_valp 8 (v := u3) rfl rfl rfl (by go_simp) ?_
    dsimp only [wpT]
    try simp only [Act.put, List.setIfInBounds_toArray, List.set_cons_succ, List.set_cons_zero]
    go_upto_region 4 with fail
    refine wp_region_lin (.op 0 (.op 1 (.op 2 (.op 3 (.op 4 (.op 5 .done)))))) (by rfl) ?_
    refine wpT_valp 31 (v := u3) rfl rfl rfl (by go_simp) ?_
    refine wpT_callv 32 Mp3 (v := .tuple #[.agg (cs U8 D), .int .i64 er]) rfl rfl rfl (by go_simp) (HS.out wp3 _ Mp3.end_ O3.ks) (fun w3 M4 => ?_)
    refine wpT_valp 33 (v := .agg (cs U8 D)) rfl rfl rfl (by go_simp) ?_
    refine wpT_valp 34 (v := .int .i64 er) rfl rfl rfl (by go_simp) ?_
    try simp only [Act.put, List.setIfInBounds_toArray, List.set_cons_succ, List.set_cons_zero]
    refine wpT_st0 M4 0 (cs U8 D) inf_key rfl rfl rfl rfl (by go_simp) (by go_simp) (by simp [BR_size, ha, hf, hL, hP, hO, hD]) (by simp [BR_size, ha, hf, hL, hP, hO, hD]) (by simp [go_sem]) rfl (fun w5 M6 => ?_)
    dsimp only [List.set] at M6
    refine wpT_valp 7 (v := .int .i64 er) rfl rfl rfl (by go_simp) ?_
    dsimp only [wpT]
    try simp only [Act.put, List.setIfInBounds_toArray, List.set_cons_succ, List.set_cons_zero]
    go_wp2_with fail
    have r7 := M6.row (b := w.heap.size + 1 + 1 + 1) (c := cs U8 D) (by simp)
    refine bodyPost_ret (res_two rfl (rv_row Tryd.underlying23 rfl inf_key (w.heap.size + 1 + 1 + 1) rfl (by rw [r7]; simp [BR_size, ha, hf, hL, hP, hO, hD])) (rv_tmp _ _ rfl)) rfl ?_
    rw [r7]
    exact ⟨rfl, M6.end_⟩
set_option maxRecDepth 100000 in
set_option maxHeartbeats 2000000 in
theorem answer_c (w : World) (a f L P O D : L8) (h : Bool) (er : Int) (ha : a.length = 32) (hf : f.length = 32) (hL : L.length = 32) (hP : P.length = 32) (hO : O.length = 32) (hD : D.length = 32)
    (HS : Hid (∀ w' v, Below w.heap.size w w' → PS w' v ((Su.qs a f L P O h).map cat2) → Calls Tryd.prog 33 #[v] w' fun e w'' => e = .returned (.tuple #[.agg (cs U8 D), .int .i64 er]) ∧ Below w'.heap.size w' w'')) :
    Calls Tryd.prog 18 #[.agg (BR L P O h), .agg (cs U8 a), .agg (cs U8 f)] w fun e w' => e = .returned (.tuple #[.agg (cs U8 D), .int .i64 er]) ∧ Below w.heap.size w w' := by
  cases h
  · replace HS : Hid (∀ w' v, Below w.heap.size w w' → PS w' v [P ++ a, L ++ f, P ++ f] → Calls Tryd.prog 33 #[v] w' fun e w'' => e = .returned (.tuple #[.agg (cs U8 D), .int .i64 er]) ∧ Below w'.heap.size w' w'') := HS
    have M0 := Mm.start no w
    go_enter Tryd.func18, Tryd.ntmps18
    have M2 := ((((M0.alloc (BR L P O false) 35 (by decide)).alloc (cs U8 a) 23 (by decide)).alloc (cs U8 f) 23 (by decide)).alloc (cs U8 (zs 32)) 23 (by decide))
    try simp only [World.size_alloc] at M2
    go_upto_region 1 with fail
    obtain ⟨w1, hw1⟩ : ∃ w1, w1 = ((((w.alloc (.cells (BR L P O false) 35)).alloc (.cells (cs U8 a) 23)).alloc (.cells (cs U8 f) 23)).alloc (.cells (cs U8 (zs 32)) 23)) := ⟨_, rfl⟩
    rw [← hw1] at M2 ⊢
    clear hw1
    refine wp_region_lin (.op 0 (.op 1 (.op 2 (.op 3 (.op 4 (.op 5 (.op 6 (.op 7 (.op 8 (.op 9 (.op 10 (.op 11 (.op 12 (.op 13 .done)))))))))))))) (by rfl) ?_
    refine wpT_valp 9 (v := .pointer (some ⟨w.heap.size, 32, none⟩)) rfl rfl rfl (by go_simp) ?_
    refine wpT_ldm 10 Tryd.underlying23 rfl inf_key (w.heap.size) 32 (BR L P O false) (cs U8 P) rfl rfl rfl (by go_simp) (M2.row (by simp)) (by simp [BR_size, ha, hf, hL, hP, hO, hD]) (br_32 (by simp [BR_size, ha, hf, hL, hP, hO, hD]) (by simp [BR_size, ha, hf, hL, hP, hO, hD]) (by simp [BR_size, ha, hf, hL, hP, hO, hD])) rfl ?_
    refine wpT_ld0 11 Tryd.underlying23 rfl inf_key (w.heap.size + 1) (cs U8 a) rfl rfl rfl (by go_simp) (M2.row (by simp)) (by simp [BR_size, ha, hf, hL, hP, hO, hD]) rfl ?_
    refine wpT_valL 12 (v := .agg (cs U8 (P ++ a))) rfl rfl rfl (by have q := xb_prs w1 P a (by simp [BR_size, ha, hf, hL, hP, hO, hD]) (by simp [BR_size, ha, hf, hL, hP, hO, hD]); go_simp) ?_
    try simp only [Act.put, List.setIfInBounds_toArray, List.set_cons_succ, List.set_cons_zero]
    refine wpT_valp 13 (v := .pointer (some ⟨w.heap.size, 0, none⟩)) rfl rfl rfl (by go_simp) ?_
    refine wpT_ldm 14 Tryd.underlying23 rfl inf_key (w.heap.size) 0 (BR L P O false) (cs U8 L) rfl rfl rfl (by go_simp) (M2.row (by simp)) (by simp [BR_size, ha, hf, hL, hP, hO, hD]) (br_0 (by simp [BR_size, ha, hf, hL, hP, hO, hD]) (by simp [BR_size, ha, hf, hL, hP, hO, hD]) (by simp [BR_size, ha, hf, hL, hP, hO, hD])) rfl ?_
    refine wpT_ld0 15 Tryd.underlying23 rfl inf_key (w.heap.size + 1 + 1) (cs U8 f) rfl rfl rfl (by go_simp) (M2.row (by simp)) (by simp [BR_size, ha, hf, hL, hP, hO, hD]) rfl ?_
    refine wpT_valL 16 (v := .agg (cs U8 (L ++ f))) rfl rfl rfl (by have q := xb_prs w1 L f (by simp [BR_size, ha, hf, hL, hP, hO, hD]) (by simp [BR_size, ha, hf, hL, hP, hO, hD]); go_simp) ?_
    refine wpT_valp 17 (v := .pointer (some ⟨w.heap.size, 32, none⟩)) rfl rfl rfl (by go_simp) ?_
    try simp only [Act.put, List.setIfInBounds_toArray, List.set_cons_succ, List.set_cons_zero]
    refine wpT_ldm 18 Tryd.underlying23 rfl inf_key (w.heap.size) 32 (BR L P O false) (cs U8 P) rfl rfl rfl (by go_simp) (M2.row (by simp)) (by simp [BR_size, ha, hf, hL, hP, hO, hD]) (br_32 (by simp [BR_size, ha, hf, hL, hP, hO, hD]) (by simp [BR_size, ha, hf, hL, hP, hO, hD]) (by simp [BR_size, ha, hf, hL, hP, hO, hD])) rfl ?_
    refine wpT_ld0 19 Tryd.underlying23 rfl inf_key (w.heap.size + 1 + 1) (cs U8 f) rfl rfl rfl (by go_simp) (M2.row (by simp)) (by simp [BR_size, ha, hf, hL, hP, hO, hD]) rfl ?_
    refine wpT_valL 20 (v := .agg (cs U8 (P ++ f))) rfl rfl rfl (by have q := xb_prs w1 P f (by simp [BR_size, ha, hf, hL, hP, hO, hD]) (by simp [BR_size, ha, hf, hL, hP, hO, hD]); go_simp) ?_
    refine wpT_pairsO3 21 _ _ _ M2 (P ++ a) (L ++ f) (P ++ f) (by simp [BR_size, ha, hf, hL, hP, hO, hD]) (by simp [BR_size, ha, hf, hL, hP, hO, hD]) (by simp [BR_size, ha, hf, hL, hP, hO, hD]) rfl rfl rfl (by go_simp) (by go_simp) (by go_simp) rfl (fun g1 wp1 O1 Mp1 Bp1 => ?_)
    refine wpT_valp 8 (v := .slice (some ⟨g1, 0, none⟩) 3 3) rfl rfl rfl (by go_simp) ?_
    dsimp only [wpT]
    try simp only [Act.put, List.setIfInBounds_toArray, List.set_cons_succ, List.set_cons_zero]
    go_upto_region 2 with fail
    refine wp_region_lin (.op 0 (.op 1 .done)) (by rfl) ?_
    refine wpT_valp 22 (v := .pointer (some ⟨w.heap.size, 96, none⟩)) rfl rfl rfl (by go_simp) ?_
    refine wpT_valp 23 (v := .bool false) rfl rfl rfl (by have c0 := br_96 (by simp [BR_size, ha, hf, hL, hP, hO, hD]) (by simp [BR_size, ha, hf, hL, hP, hO, hD]) (by simp [BR_size, ha, hf, hL, hP, hO, hD]) (Mp1.row (b := w.heap.size) (c := BR L P O false) (by simp)); go_simp) ?_
    dsimp only [wpT]
    try simp only [Act.put, List.setIfInBounds_toArray, List.set_cons_succ, List.set_cons_zero]
    go_upto_region 4 with fail
    refine wp_region_lin (.op 0 (.op 1 (.op 2 (.op 3 (.op 4 (.op 5 .done)))))) (by rfl) ?_
    refine wpT_valp 31 (v := .slice (some ⟨g1, 0, none⟩) 3 3) rfl rfl rfl (by go_simp) ?_
    refine wpT_callv 32 Mp1 (v := .tuple #[.agg (cs U8 D), .int .i64 er]) rfl rfl rfl (by go_simp) (HS.out wp1 _ Mp1.end_ O1.ks) (fun w3 M4 => ?_)
    refine wpT_valp 33 (v := .agg (cs U8 D)) rfl rfl rfl (by go_simp) ?_
    refine wpT_valp 34 (v := .int .i64 er) rfl rfl rfl (by go_simp) ?_
    try simp only [Act.put, List.setIfInBounds_toArray, List.set_cons_succ, List.set_cons_zero]
    refine wpT_st0 M4 0 (cs U8 D) inf_key rfl rfl rfl rfl (by go_simp) (by go_simp) (by simp [BR_size, ha, hf, hL, hP, hO, hD]) (by simp [BR_size, ha, hf, hL, hP, hO, hD]) (by simp [go_sem]) rfl (fun w5 M6 => ?_)
    dsimp only [List.set] at M6
    refine wpT_valp 7 (v := .int .i64 er) rfl rfl rfl (by go_simp) ?_
    dsimp only [wpT]
    try simp only [Act.put, List.setIfInBounds_toArray, List.set_cons_succ, List.set_cons_zero]
    go_wp2_with fail
    have r7 := M6.row (b := w.heap.size + 1 + 1 + 1) (c := cs U8 D) (by simp)
    refine bodyPost_ret (res_two rfl (rv_row Tryd.underlying23 rfl inf_key (w.heap.size + 1 + 1 + 1) rfl (by rw [r7]; simp [BR_size, ha, hf, hL, hP, hO, hD])) (rv_tmp _ _ rfl)) rfl ?_
    rw [r7]
    exact ⟨rfl, M6.end_⟩
  · replace HS : Hid (∀ w' v, Below w.heap.size w w' → PS w' v ([P ++ a, L ++ f, P ++ f] ++ [O ++ f]) → Calls Tryd.prog 33 #[v] w' fun e w'' => e = .returned (.tuple #[.agg (cs U8 D), .int .i64 er]) ∧ Below w'.heap.size w' w'') := HS
    have M0 := Mm.start no w
    go_enter Tryd.func18, Tryd.ntmps18
    have M2 := ((((M0.alloc (BR L P O true) 35 (by decide)).alloc (cs U8 a) 23 (by decide)).alloc (cs U8 f) 23 (by decide)).alloc (cs U8 (zs 32)) 23 (by decide))
    try simp only [World.size_alloc] at M2
    go_upto_region 1 with fail
    obtain ⟨w1, hw1⟩ : ∃ w1, w1 = ((((w.alloc (.cells (BR L P O true) 35)).alloc (.cells (cs U8 a) 23)).alloc (.cells (cs U8 f) 23)).alloc (.cells (cs U8 (zs 32)) 23)) := ⟨_, rfl⟩
    rw [← hw1] at M2 ⊢
    clear hw1
    refine wp_region_lin (.op 0 (.op 1 (.op 2 (.op 3 (.op 4 (.op 5 (.op 6 (.op 7 (.op 8 (.op 9 (.op 10 (.op 11 (.op 12 (.op 13 .done)))))))))))))) (by rfl) ?_
    refine wpT_valp 9 (v := .pointer (some ⟨w.heap.size, 32, none⟩)) rfl rfl rfl (by go_simp) ?_
    refine wpT_ldm 10 Tryd.underlying23 rfl inf_key (w.heap.size) 32 (BR L P O true) (cs U8 P) rfl rfl rfl (by go_simp) (M2.row (by simp)) (by simp [BR_size, ha, hf, hL, hP, hO, hD]) (br_32 (by simp [BR_size, ha, hf, hL, hP, hO, hD]) (by simp [BR_size, ha, hf, hL, hP, hO, hD]) (by simp [BR_size, ha, hf, hL, hP, hO, hD])) rfl ?_
    refine wpT_ld0 11 Tryd.underlying23 rfl inf_key (w.heap.size + 1) (cs U8 a) rfl rfl rfl (by go_simp) (M2.row (by simp)) (by simp [BR_size, ha, hf, hL, hP, hO, hD]) rfl ?_
    refine wpT_valL 12 (v := .agg (cs U8 (P ++ a))) rfl rfl rfl (by have q := xb_prs w1 P a (by simp [BR_size, ha, hf, hL, hP, hO, hD]) (by simp [BR_size, ha, hf, hL, hP, hO, hD]); go_simp) ?_
    try simp only [Act.put, List.setIfInBounds_toArray, List.set_cons_succ, List.set_cons_zero]
    refine wpT_valp 13 (v := .pointer (some ⟨w.heap.size, 0, none⟩)) rfl rfl rfl (by go_simp) ?_
    refine wpT_ldm 14 Tryd.underlying23 rfl inf_key (w.heap.size) 0 (BR L P O true) (cs U8 L) rfl rfl rfl (by go_simp) (M2.row (by simp)) (by simp [BR_size, ha, hf, hL, hP, hO, hD]) (br_0 (by simp [BR_size, ha, hf, hL, hP, hO, hD]) (by simp [BR_size, ha, hf, hL, hP, hO, hD]) (by simp [BR_size, ha, hf, hL, hP, hO, hD])) rfl ?_
    refine wpT_ld0 15 Tryd.underlying23 rfl inf_key (w.heap.size + 1 + 1) (cs U8 f) rfl rfl rfl (by go_simp) (M2.row (by simp)) (by simp [BR_size, ha, hf, hL, hP, hO, hD]) rfl ?_
    refine wpT_valL 16 (v := .agg (cs U8 (L ++ f))) rfl rfl rfl (by have q := xb_prs w1 L f (by simp [BR_size, ha, hf, hL, hP, hO, hD]) (by simp [BR_size, ha, hf, hL, hP, hO, hD]); go_simp) ?_
    refine wpT_valp 17 (v := .pointer (some ⟨w.heap.size, 32, none⟩)) rfl rfl rfl (by go_simp) ?_
    try simp only [Act.put, List.setIfInBounds_toArray, List.set_cons_succ, List.set_cons_zero]
    refine wpT_ldm 18 Tryd.underlying23 rfl inf_key (w.heap.size) 32 (BR L P O true) (cs U8 P) rfl rfl rfl (by go_simp) (M2.row (by simp)) (by simp [BR_size, ha, hf, hL, hP, hO, hD]) (br_32 (by simp [BR_size, ha, hf, hL, hP, hO, hD]) (by simp [BR_size, ha, hf, hL, hP, hO, hD]) (by simp [BR_size, ha, hf, hL, hP, hO, hD])) rfl ?_
    refine wpT_ld0 19 Tryd.underlying23 rfl inf_key (w.heap.size + 1 + 1) (cs U8 f) rfl rfl rfl (by go_simp) (M2.row (by simp)) (by simp [BR_size, ha, hf, hL, hP, hO, hD]) rfl ?_
    refine wpT_valL 20 (v := .agg (cs U8 (P ++ f))) rfl rfl rfl (by have q := xb_prs w1 P f (by simp [BR_size, ha, hf, hL, hP, hO, hD]) (by simp [BR_size, ha, hf, hL, hP, hO, hD]); go_simp) ?_
    refine wpT_pairsO3 21 _ _ _ M2 (P ++ a) (L ++ f) (P ++ f) (by simp [BR_size, ha, hf, hL, hP, hO, hD]) (by simp [BR_size, ha, hf, hL, hP, hO, hD]) (by simp [BR_size, ha, hf, hL, hP, hO, hD]) rfl rfl rfl (by go_simp) (by go_simp) (by go_simp) rfl (fun g1 wp1 O1 Mp1 Bp1 => ?_)
    refine wpT_valp 8 (v := .slice (some ⟨g1, 0, none⟩) 3 3) rfl rfl rfl (by go_simp) ?_
    dsimp only [wpT]
    try simp only [Act.put, List.setIfInBounds_toArray, List.set_cons_succ, List.set_cons_zero]
    go_upto_region 2 with fail
    refine wp_region_lin (.op 0 (.op 1 .done)) (by rfl) ?_
    refine wpT_valp 22 (v := .pointer (some ⟨w.heap.size, 96, none⟩)) rfl rfl rfl (by go_simp) ?_
    refine wpT_valp 23 (v := .bool true) rfl rfl rfl (by have c0 := br_96 (by simp [BR_size, ha, hf, hL, hP, hO, hD]) (by simp [BR_size, ha, hf, hL, hP, hO, hD]) (by simp [BR_size, ha, hf, hL, hP, hO, hD]) (Mp1.row (b := w.heap.size) (c := BR L P O true) (by simp)); go_simp) ?_
    dsimp only [wpT]
    try simp only [Act.put, List.setIfInBounds_toArray, List.set_cons_succ, List.set_cons_zero]
    go_upto_region 3 with fail
    refine wp_region_lin (.op 0 (.op 1 (.op 2 (.op 3 (.op 4 (.op 5 (.op 6 (.op 7 .done)))))))) (by rfl) ?_
    refine wpT_valp 24 (v := .slice (some ⟨g1, 0, none⟩) 3 3) rfl rfl rfl (by go_simp) ?_
    refine wpT_valp 25 (v := .pointer (some ⟨w.heap.size, 64, none⟩)) rfl rfl rfl (by go_simp) ?_
    refine wpT_ldm 26 Tryd.underlying23 rfl inf_key (w.heap.size) 64 (BR L P O true) (cs U8 O) rfl rfl rfl (by go_simp) (Mp1.row (by simp)) (by simp [BR_size, ha, hf, hL, hP, hO, hD]) (br_64 (by simp [BR_size, ha, hf, hL, hP, hO, hD]) (by simp [BR_size, ha, hf, hL, hP, hO, hD]) (by simp [BR_size, ha, hf, hL, hP, hO, hD])) rfl ?_
    refine wpT_ld0 27 Tryd.underlying23 rfl inf_key (w.heap.size + 1 + 1) (cs U8 f) rfl rfl rfl (by go_simp) (Mp1.row (by simp)) (by simp [BR_size, ha, hf, hL, hP, hO, hD]) rfl ?_
    try simp only [Act.put, List.setIfInBounds_toArray, List.set_cons_succ, List.set_cons_zero]
    refine wpT_valL 28 (v := .agg (cs U8 (O ++ f))) rfl rfl rfl (by have q := xb_prs wp1 O f (by simp [BR_size, ha, hf, hL, hP, hO, hD]) (by simp [BR_size, ha, hf, hL, hP, hO, hD]); go_simp) ?_
    refine wpT_pairs1 29 _ Mp1 (O ++ f) (by simp [BR_size, ha, hf, hL, hP, hO, hD]) rfl rfl rfl (by go_simp) rfl (fun g2 wp2 Mp2 Bp2 hg2 => ?_)
    have hsv := SV.pair (Mp2.row (b := g2) (c := cs U8 (O ++ f)) (by simp))
    replace Mp2 := Mp2.sub (H' := [(w.heap.size + 1 + 1 + 1, cs U8 (zs 32)), (w.heap.size + 1 + 1, cs U8 f), (w.heap.size + 1, cs U8 a), (w.heap.size, BR L P O true)]) (by simp)
    replace O1 := PO.below O1 Bp2
    have hz3 := Bp1.size
    have hz4 := Bp2.size
    refine wpT_app 30 _ _ Mp2 w1.heap.size (.slice (some ⟨g1, 0, none⟩) 3 3) (.slice (some ⟨g2, 0, none⟩) 1 1) [P ++ a, L ++ f, P ++ f] (O ++ f) rfl rfl rfl rfl (by go_simp) O1 (by go_simp) (by simp [BR_size, ha, hf, hL, hP, hO, hD]) hsv (by simp) (by omega) M2.size (fun g hg p hp => by have h1 := M2.lt (b := p.1) (c := p.2) hp; have h2 := (O1.at_ g hg).1; omega) (fun u3 wp3 O3 Mp3 _ _ => ?_)
    refine wpT_valp 8 (v := u3) rfl rfl rfl (by go_simp) ?_
    dsimp only [wpT]
    try simp only [Act.put, List.setIfInBounds_toArray, List.set_cons_succ, List.set_cons_zero]
    go_upto_region 4 with fail
    refine wp_region_lin (.op 0 (.op 1 (.op 2 (.op 3 (.op 4 (.op 5 .done)))))) (by rfl) ?_
    refine wpT_valp 31 (v := u3) rfl rfl rfl (by go_simp) ?_
    refine wpT_callv 32 Mp3 (v := .tuple #[.agg (cs U8 D), .int .i64 er]) rfl rfl rfl (by go_simp) (HS.out wp3 _ Mp3.end_ O3.ks) (fun w3 M4 => ?_)
    refine wpT_valp 33 (v := .agg (cs U8 D)) rfl rfl rfl (by go_simp) ?_
    refine wpT_valp 34 (v := .int .i64 er) rfl rfl rfl (by go_simp) ?_
    try simp only [Act.put, List.setIfInBounds_toArray, List.set_cons_succ, List.set_cons_zero]
    refine wpT_st0 M4 0 (cs U8 D) inf_key rfl rfl rfl rfl (by go_simp) (by go_simp) (by simp [BR_size, ha, hf, hL, hP, hO, hD]) (by simp [BR_size, ha, hf, hL, hP, hO, hD]) (by simp [go_sem]) rfl (fun w5 M6 => ?_)
    dsimp only [List.set] at M6
    refine wpT_valp 7 (v := .int .i64 er) rfl rfl rfl (by go_simp) ?_
    dsimp only [wpT]
    try simp only [Act.put, List.setIfInBounds_toArray, List.set_cons_succ, List.set_cons_zero]
    go_wp2_with fail
    have r7 := M6.row (b := w.heap.size + 1 + 1 + 1) (c := cs U8 D) (by simp)
    refine bodyPost_ret (res_two rfl (rv_row Tryd.underlying23 rfl inf_key (w.heap.size + 1 + 1 + 1) rfl (by rw [r7]; simp [BR_size, ha, hf, hL, hP, hO, hD])) (rv_tmp _ _ rfl)) rfl ?_
    rw [r7]
    exact ⟨rfl, M6.end_⟩
end Go.Proofs.YtgclegdgngldoaaDoor
