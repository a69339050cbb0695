/-
  Law 17: chains that no call made; own work.
-/
import Derived.Test.YtocledgjejlolaaDoorChnD
set_option linter.unusedSimpArgs false
set_option linter.unusedVariables false
namespace Go.Proofs.YtocledgjejlolaaDoor
open Go.RowKit
set_option maxRecDepth 100000 in
set_option maxHeartbeats 1000000 in
theorem next_nil (w : World) :
    Calls Tryd.prog 43 #[.pointer none] w fun e w' => e = .returned (.tuple #[.int .i64 0, .agg (cs U8 (zs 32)), .int .i64 1]) ∧ Below w.heap.size w w' := by
  go_enter Tryd.func43, Tryd.ntmps43
  go_wp2_with fail
  with_reducible refine (cgood_nil _).mono ?_
  rintro e w1 ⟨rfl, rfl⟩
  dsimp only
  go_wp2_with fail
  refine bodyPost_ret (res_three rfl (rv_tmp _ _ rfl) (rv_row Tryd.underlying25 rfl inf_key w.heap.size rfl (by rw [rowOf_alloc_at _ _ _ rfl]; simp)) (rv_tmp _ _ rfl)) rfl ?_
  rw [rowOf_alloc_at _ _ _ rfl]
  exact ⟨rfl, (Below.refl _ _).alloc (Nat.le_refl _) _⟩
set_option maxRecDepth 100000 in
set_option maxHeartbeats 1000000 in
theorem next_un (w : World) (b : Nat) (hb : b < w.heap.size) (h : w.cell? ⟨b, 0, none⟩ = some (.bool false)) :
    Calls Tryd.prog 43 #[.pointer (some ⟨b, 0, none⟩)] w fun e w' => e = .returned (.tuple #[.int .i64 0, .agg (cs U8 (zs 32)), .int .i64 1]) ∧ Below w.heap.size w w' := by
  go_enter Tryd.func43, Tryd.ntmps43
  go_wp2_with fail
  with_reducible refine (good_chain _ _ false (by rw [cell_rowOf, rowOf_alloc_past _ _ hb, ← cell_rowOf]; exact h)).mono ?_
  rintro e w1 ⟨rfl, rfl⟩
  dsimp only
  go_wp2_with fail
  refine bodyPost_ret (res_three rfl (rv_tmp _ _ rfl) (rv_row Tryd.underlying25 rfl inf_key w.heap.size rfl (by rw [rowOf_alloc_at _ _ _ rfl]; simp)) (rv_tmp _ _ rfl)) rfl ?_
  rw [rowOf_alloc_at _ _ _ rfl]
  exact ⟨rfl, (Below.refl _ _).alloc (Nat.le_refl _) _⟩
set_option maxRecDepth 100000 in
set_option maxHeartbeats 1000000 in
theorem upto_nil (w : World) (N : Int) :
    Calls Tryd.prog 45 #[.pointer none, .int .i64 N] w fun e w' => e = .returned (.tuple #[.slice none 0 0, .int .i64 1]) ∧ Below w.heap.size w w' := by
  go_enter Tryd.func45, Tryd.ntmps45
  go_wp2_with fail
  with_reducible refine (cgood_nil _).mono ?_
  rintro e w1 ⟨rfl, rfl⟩
  dsimp only
  go_wp2_with fail
  refine bodyPost_ret (res_two rfl (rv_tmp _ _ rfl) (rv_tmp _ _ rfl)) rfl ?_
  exact ⟨rfl, Below.refl _ _⟩
set_option maxRecDepth 100000 in
set_option maxHeartbeats 1000000 in
theorem upto_un (w : World) (b : Nat) (N : Int) (h : w.cell? ⟨b, 0, none⟩ = some (.bool false)) :
    Calls Tryd.prog 45 #[.pointer (some ⟨b, 0, none⟩), .int .i64 N] w fun e w' => e = .returned (.tuple #[.slice none 0 0, .int .i64 1]) ∧ Below w.heap.size w w' := by
  go_enter Tryd.func45, Tryd.ntmps45
  go_wp2_with fail
  with_reducible refine (good_chain _ _ false h).mono ?_
  rintro e w1 ⟨rfl, rfl⟩
  dsimp only
  go_wp2_with fail
  refine bodyPost_ret (res_two rfl (rv_tmp _ _ rfl) (rv_tmp _ _ rfl)) rfl ?_
  exact ⟨rfl, Below.refl _ _⟩
set_option maxRecDepth 100000 in
set_option maxHeartbeats 1000000 in
theorem at_nil (w : World) :
    Calls Tryd.prog 48 #[.pointer none] w fun e w' => e = .returned (.tuple #[.agg (cs U8 (zs 32)), .int .i64 0]) ∧ Below w.heap.size w w' := by
  go_enter Tryd.func48, Tryd.ntmps48
  go_wp2_with fail
  with_reducible refine (cgood_nil _).mono ?_
  rintro e w1 ⟨rfl, rfl⟩
  dsimp only
  go_wp2_with fail
  refine bodyPost_ret (res_two rfl (rv_row Tryd.underlying25 rfl inf_key w.heap.size rfl (by rw [rowOf_alloc_at _ _ _ rfl]; simp)) (rv_tmp _ _ rfl)) rfl ?_
  rw [rowOf_alloc_at _ _ _ rfl]
  exact ⟨rfl, (Below.refl _ _).alloc (Nat.le_refl _) _⟩
set_option maxRecDepth 100000 in
set_option maxHeartbeats 1000000 in
theorem at_un (w : World) (b : Nat) (hb : b < w.heap.size) (h : w.cell? ⟨b, 0, none⟩ = some (.bool false)) :
    Calls Tryd.prog 48 #[.pointer (some ⟨b, 0, none⟩)] w fun e w' => e = .returned (.tuple #[.agg (cs U8 (zs 32)), .int .i64 0]) ∧ Below w.heap.size w w' := by
  go_enter Tryd.func48, Tryd.ntmps48
  go_wp2_with fail
  with_reducible refine (good_chain _ _ false (by rw [cell_rowOf, rowOf_alloc_past _ _ hb, ← cell_rowOf]; exact h)).mono ?_
  rintro e w1 ⟨rfl, rfl⟩
  dsimp only
  go_wp2_with fail
  refine bodyPost_ret (res_two rfl (rv_row Tryd.underlying25 rfl inf_key w.heap.size rfl (by rw [rowOf_alloc_at _ _ _ rfl]; simp)) (rv_tmp _ _ rfl)) rfl ?_
  rw [rowOf_alloc_at _ _ _ rfl]
  exact ⟨rfl, (Below.refl _ _).alloc (Nat.le_refl _) _⟩

theorem pch_info : ∃ ie z, Tryd.prog.info? 65 = some ie ∧ ie.zero = some z ∧ ie.size = 1 ∧ z.cells.size = 1 := by
  have h : (Tryd.prog.info? 65).map (fun i => (i.zero, i.size)) = some (some (.pointer none), 1) := by kernel_rfl
  cases hi : Tryd.prog.info? 65 with
  | none => rw [hi] at h; cases h
  | some ie =>
    rw [hi] at h
    injection h with h
    injection h with h1 h2
    exact ⟨ie, _, rfl, h1, h2, rfl⟩
theorem wpT_pch2 {ops : Array Oper} {Q : Exit → Act → World → Prop} {i : Nat} {t : Tr} {a : Act} {o : Oper} {S : Nat → Prop} {w0 w : World} {H : List (Nat × Array Value)} (dst : Nat) (x y : Operand) (M : Mm S w0 H w) (p q : Option Addr) (hdst : o.dst = some dst) (ho : ops[i]? = some o) (hop : o.op = .buildSlice 85 2 #[(0, x), (1, y)])
    (hx : a.eval x = .pointer p) (hy : a.eval y = .pointer q) (hw : Region.wanted o (yielded ops a.tmps) = true)
    (h : ∀ b w', Mm S w0 ((b, #[.pointer p, .pointer q]) :: H) w' → wpT Tryd.prog ops Q t (a.put (some dst) (.slice (some ⟨b, 0, none⟩) 2 2)) w') : wpT Tryd.prog ops Q (.op i t) a w := by
  have e : (Array.map (fun (x : Nat × Operand) => (x.1, a.eval x.2)) #[(0, x), (1, y)]).toList = [(0, .pointer p), (1, .pointer q)] := by simp [hx, hy]
  obtain ⟨ie, z, h1, h2, h3, h4⟩ := pch_info
  refine wpT_bsl dst M #[.pointer p, .pointer q] ie z Tryd.underlying85 h1 h2 (by rw [h3]; omega) (by rw [h3]; omega) (by decide) hdst ho hop ?_ hw (fun b w' M _ _ => h b w' M)
  rw [h3]
  have := fill_cat (fun i => some (i * 1, 1)) [(0, .pointer p), (1, .pointer q)] #[] ((Array.range (2 * 1)).map (z.cells[· % z.cells.size]!)) (by simp [Cont, Value.cells]) (by simp [catP, Value.cells])
  rw [Array.empty_append, Array.empty_append] at this
  rw [e, this]; simp [catP, Value.cells]
theorem wpT_boxd {ops : Array Oper} {Q : Exit → Act → World → Prop} {i : Nat} {t : Tr} {a : Act} {o : Oper} {S : Nat → Prop} {w0 w : World} {H : List (Nat × Array Value)} (dst : Nat) {c : Array Value} {T : TypeId} (M : Mm S w0 H w) (hT : T ≠ 5) (hdst : o.dst = some dst) (ho : ops[i]? = some o) (hw : Region.wanted o (yielded ops a.tmps) = true)
    (hrun : (execOp a.eval o).run Tryd.prog w = .ok (.value (.pointer (some ⟨w.heap.size, 0, none⟩))) (w.alloc (.cells c T)))
    (h : ∀ b w', Mm S w0 ((b, c) :: H) w' → wpT Tryd.prog ops Q t (a.put (some dst) (.pointer (some ⟨b, 0, none⟩))) w') : wpT Tryd.prog ops Q (.op i t) a w :=
  wpT_val ho hw hrun (by rw [hdst]; exact h _ _ (M.alloc c T hT))
/-- the cells of a chain that no call made -/
def ZR : Array Value := #[.bool false] ++ cs U8 (zs 32) ++ #[.int .i64 0]
theorem zr_0 : ZR[0]? = some (.bool false) := rfl
theorem xb_zr (w : World) : exBuild Tryd.prog 84 #[] w = .ok (.value (.agg ZR)) w := by
  unfold exBuild; rw [run_build w _ #[] ZR (by kernel_rfl)]; rfl
theorem zrow {w : World} {b : Nat} (h : w.rowOf b = ZR) : w.cell? ⟨b, 0, none⟩ = some (.bool false) := by rw [cell_rowOf, h]; exact zr_0
attribute [local irreducible] CR Sh.nx Sh.ms Sh.nxk Sh.msk k1 ZR
set_option maxRecDepth 100000 in
set_option maxHeartbeats 4000000 in
theorem ChainNobody_w (w : World) (n : Int) (hT : KT w) (hk0 : 0 < w.heap.size) :
    Calls Tryd.prog 16 #[.int .i64 n] w fun e w' => e = .returned (.bool true) ∧ Below w.heap.size w w' := by
  have HK := hid (fun H w' (M : Mm no w H w') => kt_mm hT hk0 (fun h => h) M)
  clear hT
  have M0 := Mm.start no w
  go_enter Tryd.func16, Tryd.ntmps16
  go_upto_region 1 with fail
  refine wp_region_lin (.op 0 (.op 1 .done)) (by rfl) ?_
  refine wpT_callv 12 M0 (v := .bool true) rfl rfl rfl (by go_simp) (alive17_any w (HK.out _ _ M0).1 (HK.out _ _ M0).2) (fun w1 M2 => ?_)
  refine wpT_valp 13 (v := .bool false) rfl rfl rfl (by go_simp) ?_
  dsimp only [wpT]
  try simp only [Act.put, List.setIfInBounds_toArray, List.set_cons_succ, List.set_cons_zero]
  go_upto_region 3 with fail
  refine wp_region_lin (.op 0 (.op 1 (.op 2 (.op 3 (.op 4 .done))))) (by rfl) ?_
  refine wpT_valL 14 (v := .agg (ZR)) rfl rfl rfl (by have q := xb_zr w1; go_simp) ?_
  refine wpT_boxd 15 (c := ZR) (T := 84) M2 (by decide) rfl rfl rfl (by go_simp) (fun gz0 w3 M4 => ?_)
  refine wpT_pch2 16 _ _ M4 none (some ⟨gz0, 0, none⟩) rfl rfl rfl (by go_simp) (by go_simp) rfl (fun gs0 w5 M6 => ?_)
  refine wpT_valp 17 (v := .int .i64 2) rfl rfl rfl (by go_simp) ?_
  try simp only [Act.put, List.setIfInBounds_toArray, List.set_cons_succ, List.set_cons_zero]
  refine wpT_valp 18 (v := .int .i64 0) rfl rfl rfl (by go_simp) ?_
  dsimp only [wpT]
  try simp only [Act.put, List.setIfInBounds_toArray, List.set_cons_succ, List.set_cons_zero]
  go_wp2_with fail
  go_loopw [18] (fun t wr => ∃ i : Nat, i ≤ 2 ∧ t = .int .i64 i ∧ Mm no w [(gs0, #[.pointer none, .pointer (some ⟨gz0, 0, none⟩)]), (gz0, ZR)] wr) (fun t _ => 2 - (intOf t).toNat)
  case atStart => exact ⟨0, by omega, rfl, M6⟩
  case round =>
    clear M6
    obtain ⟨i, hi, rfl, M⟩ := hrel
    rcases (show i = 0 ∨ i = 1 ∨ i = 2 by omega) with rfl | rfl | rfl
    · go_upto_region 5 with fail
      refine wp_region_lin (.op 0 (.op 1 (.op 2 .done))) (by rfl) ?_
      refine wpT_valp 20 (v := .pointer (some ⟨gs0, 0, none⟩)) rfl rfl rfl (by go_simp) ?_
      refine wpT_valp 21 (v := .pointer none) rfl rfl rfl (by have c0 : wr.cell? ⟨gs0, 0, none⟩ = some (.pointer none) := (by rw [cell_rowOf, M.row (b := gs0) (c := #[.pointer none, .pointer (some ⟨gz0, 0, none⟩)]) (by simp)]; rfl); go_simp) ?_
      refine wpT_valp 4 (v := .pointer none) rfl rfl rfl (by go_simp) ?_
      dsimp only [wpT]
      try simp only [Act.put, List.setIfInBounds_toArray, List.set_cons_succ, List.set_cons_zero]
      go_upto_region 6 with fail
      refine wp_region_lin (.op 0 (.op 1 (.op 2 (.op 3 (.op 4 (.op 5 (.op 6 (.op 7 (.op 8 (.op 9 .done)))))))))) (by rfl) ?_
      refine wpT_valp 23 (v := .pointer none) rfl rfl rfl (by go_simp) ?_
      refine wpT_callv 24 M (v := .tuple #[.int .i64 0, .agg (cs U8 (zs 32)), .int .i64 1]) rfl rfl rfl (by go_simp) (next_nil wr) (fun w1 M2 => ?_)
      refine wpT_valp 22 (v := .tuple #[.int .i64 0, .agg (cs U8 (zs 32)), .int .i64 1]) rfl rfl rfl (by go_simp) ?_
      refine wpT_valp 25 (v := .int .i64 0) rfl rfl rfl (by go_simp) ?_
      try simp only [Act.put, List.setIfInBounds_toArray, List.set_cons_succ, List.set_cons_zero]
      refine wpT_valp 26 (v := .agg (cs U8 (zs 32))) rfl rfl rfl (by go_simp) ?_
      refine wpT_valp 27 (v := .int .i64 1) rfl rfl rfl (by go_simp) ?_
      refine wpT_new (z := .agg (cs U8 (zs 32))) 6 M2 (by kernel_rfl) (by decide) rfl rfl rfl rfl (fun b3 w4 M5 => ?_)
      try dsimp only [Value.cells] at M5
      refine wpT_valp 5 (v := .int .i64 0) rfl rfl rfl (by go_simp) ?_
      refine wpT_st0 M5 0 (cs U8 (zs 32)) inf_key rfl rfl rfl rfl (by go_simp) (by go_simp) (by simp []) (by simp []) (by simp [go_sem]) rfl (fun w6 M7 => ?_)
      dsimp only [List.set] at M7
      try simp only [Act.put, List.setIfInBounds_toArray, List.set_cons_succ, List.set_cons_zero]
      refine wpT_valp 7 (v := .int .i64 1) rfl rfl rfl (by go_simp) ?_
      dsimp only [wpT]
      try simp only [Act.put, List.setIfInBounds_toArray, List.set_cons_succ, List.set_cons_zero]
      go_upto_region 7 with fail
      refine wp_region_lin (.op 0 (.op 1 (.op 2 (.op 3 (.op 4 (.op 5 (.op 6 (.op 7 .done)))))))) (by rfl) ?_
      refine wpT_valp 29 (v := .pointer none) rfl rfl rfl (by go_simp) ?_
      refine wpT_valp 30 (v := .int .i64 n) rfl rfl rfl (by go_simp) ?_
      refine wpT_callv 31 M7 (v := .tuple #[.slice none 0 0, .int .i64 1]) rfl rfl rfl (by go_simp) (upto_nil w6 n) (fun w8 M9 => ?_)
      refine wpT_valp 28 (v := .tuple #[.slice none 0 0, .int .i64 1]) rfl rfl rfl (by go_simp) ?_
      try simp only [Act.put, List.setIfInBounds_toArray, List.set_cons_succ, List.set_cons_zero]
      refine wpT_valp 32 (v := .slice none 0 0) rfl rfl rfl (by go_simp) ?_
      refine wpT_valp 33 (v := .int .i64 1) rfl rfl rfl (by go_simp) ?_
      refine wpT_valp 8 (v := .slice none 0 0) rfl rfl rfl (by go_simp) ?_
      refine wpT_valp 9 (v := .int .i64 1) rfl rfl rfl (by go_simp) ?_
      dsimp only [wpT]
      try simp only [Act.put, List.setIfInBounds_toArray, List.set_cons_succ, List.set_cons_zero]
      go_upto_region 8 with fail
      refine wp_region_lin (.op 0 (.op 1 (.op 2 (.op 3 (.op 4 (.op 5 (.op 6 (.op 7 .done)))))))) (by rfl) ?_
      refine wpT_valp 35 (v := .pointer none) rfl rfl rfl (by go_simp) ?_
      refine wpT_callv 36 M9 (v := .tuple #[.agg (cs U8 (zs 32)), .int .i64 0]) rfl rfl rfl (by go_simp) (at_nil w8) (fun w10 M11 => ?_)
      refine wpT_valp 34 (v := .tuple #[.agg (cs U8 (zs 32)), .int .i64 0]) rfl rfl rfl (by go_simp) ?_
      refine wpT_valp 37 (v := .agg (cs U8 (zs 32))) rfl rfl rfl (by go_simp) ?_
      try simp only [Act.put, List.setIfInBounds_toArray, List.set_cons_succ, List.set_cons_zero]
      refine wpT_valp 38 (v := .int .i64 0) rfl rfl rfl (by go_simp) ?_
      refine wpT_new (z := .agg (cs U8 (zs 32))) 10 M11 (by kernel_rfl) (by decide) rfl rfl rfl rfl (fun b12 w13 M14 => ?_)
      try dsimp only [Value.cells] at M14
      refine wpT_st0 M14 0 (cs U8 (zs 32)) inf_key rfl rfl rfl rfl (by go_simp) (by go_simp) (by simp []) (by simp []) (by simp [go_sem]) rfl (fun w15 M16 => ?_)
      dsimp only [List.set] at M16
      refine wpT_valp 11 (v := .int .i64 0) rfl rfl rfl (by go_simp) ?_
      dsimp only [wpT]
      try simp only [Act.put, List.setIfInBounds_toArray, List.set_cons_succ, List.set_cons_zero]
      go_upto_region 9 with fail
      refine wp_region_lin (.op 0 (.op 1 (.op 2 (.op 3 (.op 4 (.op 5 (.op 6 (.op 7 (.op 8 (.op 9 (.op 10 (.op 11 (.op 12 (.op 13 (.op 14 (.op 15 (.op 16 (.op 17 (.op 18 (.op 19 (.op 20 (.op 21 (.op 22 (.op 23 (.op 24 (.op 25 (.op 26 (.op 27 (.op 28 .done))))))))))))))))))))))))))))) (by rfl) ?_
      refine wpT_valp 39 (v := .int .i64 0) rfl rfl rfl (by go_simp) ?_
      refine wpT_valp 40 (v := .bool false) rfl rfl rfl (by go_simp) ?_
      refine wpT_valp 41 (v := .bool false) rfl rfl rfl (by go_simp) ?_
      refine wpT_ld0 42 Tryd.underlying25 rfl inf_key (b3) (cs U8 (zs 32)) rfl rfl rfl (by go_simp) (M16.row (by simp)) (by simp []) (by simp [Region.wanted, yielded, Act.put]) ?_
      try simp only [Act.put, List.setIfInBounds_toArray, List.set_cons_succ, List.set_cons_zero]
      refine wpT_valL 43 (v := .agg (cs U8 (zs 32))) rfl rfl (by simp [Region.wanted, yielded, Act.put]) (by go_simp) ?_
      refine wpT_valp 44 (v := .bool false) rfl rfl (by simp [Region.wanted, yielded, Act.put]) (by have q := eqL w15 (zs 32) (by simp []); go_simp) ?_
      refine wpT_valp 45 (v := .bool false) rfl rfl rfl (by go_simp) ?_
      refine wpT_valp 46 (v := .bool false) rfl rfl rfl (by go_simp) ?_
      refine wpT_valp 47 (v := .int .i64 1) rfl rfl (by simp [Region.wanted, yielded, Act.put]) (by go_simp) ?_
      try simp only [Act.put, List.setIfInBounds_toArray, List.set_cons_succ, List.set_cons_zero]
      refine wpT_valp 48 (v := .bool false) rfl rfl (by simp [Region.wanted, yielded, Act.put]) (by go_simp) ?_
      refine wpT_valp 49 (v := .bool false) rfl rfl rfl (by go_simp) ?_
      refine wpT_valp 50 (v := .bool false) rfl rfl rfl (by go_simp) ?_
      refine wpT_valp 51 (v := .slice none 0 0) rfl rfl (by simp [Region.wanted, yielded, Act.put]) (by go_simp) ?_
      refine wpT_valp 52 (v := .int .i64 0) rfl rfl (by simp [Region.wanted, yielded, Act.put]) (by go_simp) ?_
      try simp only [Act.put, List.setIfInBounds_toArray, List.set_cons_succ, List.set_cons_zero]
      refine wpT_valp 53 (v := .bool false) rfl rfl (by simp [Region.wanted, yielded, Act.put]) (by go_simp) ?_
      refine wpT_valp 54 (v := .bool false) rfl rfl rfl (by go_simp) ?_
      refine wpT_valp 55 (v := .bool false) rfl rfl rfl (by go_simp) ?_
      refine wpT_valp 56 (v := .int .i64 1) rfl rfl (by simp [Region.wanted, yielded, Act.put]) (by go_simp) ?_
      refine wpT_valp 57 (v := .bool false) rfl rfl (by simp [Region.wanted, yielded, Act.put]) (by go_simp) ?_
      try simp only [Act.put, List.setIfInBounds_toArray, List.set_cons_succ, List.set_cons_zero]
      refine wpT_valp 58 (v := .bool false) rfl rfl rfl (by go_simp) ?_
      refine wpT_valp 59 (v := .bool false) rfl rfl rfl (by go_simp) ?_
      refine wpT_ld0 60 Tryd.underlying25 rfl inf_key (b12) (cs U8 (zs 32)) rfl rfl rfl (by go_simp) (M16.row (by simp)) (by simp []) (by simp [Region.wanted, yielded, Act.put]) ?_
      refine wpT_valL 61 (v := .agg (cs U8 (zs 32))) rfl rfl (by simp [Region.wanted, yielded, Act.put]) (by go_simp) ?_
      refine wpT_valp 62 (v := .bool false) rfl rfl (by simp [Region.wanted, yielded, Act.put]) (by have q := eqL w15 (zs 32) (by simp []); go_simp) ?_
      try simp only [Act.put, List.setIfInBounds_toArray, List.set_cons_succ, List.set_cons_zero]
      refine wpT_valp 63 (v := .bool false) rfl rfl rfl (by go_simp) ?_
      refine wpT_valp 64 (v := .bool false) rfl rfl rfl (by go_simp) ?_
      refine wpT_valp 65 (v := .int .i64 0) rfl rfl (by simp [Region.wanted, yielded, Act.put]) (by go_simp) ?_
      refine wpT_valp 66 (v := .bool false) rfl rfl (by simp [Region.wanted, yielded, Act.put]) (by go_simp) ?_
      refine wpT_valp 67 (v := .bool false) rfl rfl rfl (by go_simp) ?_
      dsimp only [wpT]
      try simp only [Act.put, List.setIfInBounds_toArray, List.set_cons_succ, List.set_cons_zero]
      go_wp2_with fail
      go_roundw
      case rel => exact ⟨1, by omega, rfl, M16.sub ((List.sublist_cons_self _ _).trans (List.sublist_cons_self _ _))⟩
      case measure => simp [intOf]
    · go_upto_region 5 with fail
      refine wp_region_lin (.op 0 (.op 1 (.op 2 .done))) (by rfl) ?_
      refine wpT_valp 20 (v := .pointer (some ⟨gs0, 1, none⟩)) rfl rfl rfl (by go_simp) ?_
      refine wpT_valp 21 (v := .pointer (some ⟨gz0, 0, none⟩)) rfl rfl rfl (by have c0 : wr.cell? ⟨gs0, 1, none⟩ = some (.pointer (some ⟨gz0, 0, none⟩)) := (by rw [cell_rowOf, M.row (b := gs0) (c := #[.pointer none, .pointer (some ⟨gz0, 0, none⟩)]) (by simp)]; rfl); go_simp) ?_
      refine wpT_valp 4 (v := .pointer (some ⟨gz0, 0, none⟩)) rfl rfl rfl (by go_simp) ?_
      dsimp only [wpT]
      try simp only [Act.put, List.setIfInBounds_toArray, List.set_cons_succ, List.set_cons_zero]
      go_upto_region 6 with fail
      refine wp_region_lin (.op 0 (.op 1 (.op 2 (.op 3 (.op 4 (.op 5 (.op 6 (.op 7 (.op 8 (.op 9 .done)))))))))) (by rfl) ?_
      refine wpT_valp 23 (v := .pointer (some ⟨gz0, 0, none⟩)) rfl rfl rfl (by go_simp) ?_
      refine wpT_callv 24 M (v := .tuple #[.int .i64 0, .agg (cs U8 (zs 32)), .int .i64 1]) rfl rfl rfl (by go_simp) (next_un wr gz0 (M.lt (b := gz0) (c := ZR) (by simp)) (zrow (M.row (b := gz0) (c := ZR) (by simp)))) (fun w1 M2 => ?_)
      refine wpT_valp 22 (v := .tuple #[.int .i64 0, .agg (cs U8 (zs 32)), .int .i64 1]) rfl rfl rfl (by go_simp) ?_
      refine wpT_valp 25 (v := .int .i64 0) rfl rfl rfl (by go_simp) ?_
      try simp only [Act.put, List.setIfInBounds_toArray, List.set_cons_succ, List.set_cons_zero]
      refine wpT_valp 26 (v := .agg (cs U8 (zs 32))) rfl rfl rfl (by go_simp) ?_
      refine wpT_valp 27 (v := .int .i64 1) rfl rfl rfl (by go_simp) ?_
      refine wpT_new (z := .agg (cs U8 (zs 32))) 6 M2 (by kernel_rfl) (by decide) rfl rfl rfl rfl (fun b3 w4 M5 => ?_)
      try dsimp only [Value.cells] at M5
      refine wpT_valp 5 (v := .int .i64 0) rfl rfl rfl (by go_simp) ?_
      refine wpT_st0 M5 0 (cs U8 (zs 32)) inf_key rfl rfl rfl rfl (by go_simp) (by go_simp) (by simp []) (by simp []) (by simp [go_sem]) rfl (fun w6 M7 => ?_)
      dsimp only [List.set] at M7
      try simp only [Act.put, List.setIfInBounds_toArray, List.set_cons_succ, List.set_cons_zero]
      refine wpT_valp 7 (v := .int .i64 1) rfl rfl rfl (by go_simp) ?_
      dsimp only [wpT]
      try simp only [Act.put, List.setIfInBounds_toArray, List.set_cons_succ, List.set_cons_zero]
      go_upto_region 7 with fail
      refine wp_region_lin (.op 0 (.op 1 (.op 2 (.op 3 (.op 4 (.op 5 (.op 6 (.op 7 .done)))))))) (by rfl) ?_
      refine wpT_valp 29 (v := .pointer (some ⟨gz0, 0, none⟩)) rfl rfl rfl (by go_simp) ?_
      refine wpT_valp 30 (v := .int .i64 n) rfl rfl rfl (by go_simp) ?_
      refine wpT_callv 31 M7 (v := .tuple #[.slice none 0 0, .int .i64 1]) rfl rfl rfl (by go_simp) (upto_un w6 gz0 n (zrow (M7.row (b := gz0) (c := ZR) (by simp)))) (fun w8 M9 => ?_)
      refine wpT_valp 28 (v := .tuple #[.slice none 0 0, .int .i64 1]) rfl rfl rfl (by go_simp) ?_
      try simp only [Act.put, List.setIfInBounds_toArray, List.set_cons_succ, List.set_cons_zero]
      refine wpT_valp 32 (v := .slice none 0 0) rfl rfl rfl (by go_simp) ?_
      refine wpT_valp 33 (v := .int .i64 1) rfl rfl rfl (by go_simp) ?_
      refine wpT_valp 8 (v := .slice none 0 0) rfl rfl rfl (by go_simp) ?_
      refine wpT_valp 9 (v := .int .i64 1) rfl rfl rfl (by go_simp) ?_
      dsimp only [wpT]
      try simp only [Act.put, List.setIfInBounds_toArray, List.set_cons_succ, List.set_cons_zero]
      go_upto_region 8 with fail
      refine wp_region_lin (.op 0 (.op 1 (.op 2 (.op 3 (.op 4 (.op 5 (.op 6 (.op 7 .done)))))))) (by rfl) ?_
      refine wpT_valp 35 (v := .pointer (some ⟨gz0, 0, none⟩)) rfl rfl rfl (by go_simp) ?_
      refine wpT_callv 36 M9 (v := .tuple #[.agg (cs U8 (zs 32)), .int .i64 0]) rfl rfl rfl (by go_simp) (at_un w8 gz0 (M9.lt (b := gz0) (c := ZR) (by simp)) (zrow (M9.row (b := gz0) (c := ZR) (by simp)))) (fun w10 M11 => ?_)
      refine wpT_valp 34 (v := .tuple #[.agg (cs U8 (zs 32)), .int .i64 0]) rfl rfl rfl (by go_simp) ?_
      refine wpT_valp 37 (v := .agg (cs U8 (zs 32))) rfl rfl rfl (by go_simp) ?_
      try simp only [Act.put, List.setIfInBounds_toArray, List.set_cons_succ, List.set_cons_zero]
      refine wpT_valp 38 (v := .int .i64 0) rfl rfl rfl (by go_simp) ?_
      refine wpT_new (z := .agg (cs U8 (zs 32))) 10 M11 (by kernel_rfl) (by decide) rfl rfl rfl rfl (fun b12 w13 M14 => ?_)
      try dsimp only [Value.cells] at M14
      refine wpT_st0 M14 0 (cs U8 (zs 32)) inf_key rfl rfl rfl rfl (by go_simp) (by go_simp) (by simp []) (by simp []) (by simp [go_sem]) rfl (fun w15 M16 => ?_)
      dsimp only [List.set] at M16
      refine wpT_valp 11 (v := .int .i64 0) rfl rfl rfl (by go_simp) ?_
      dsimp only [wpT]
      try simp only [Act.put, List.setIfInBounds_toArray, List.set_cons_succ, List.set_cons_zero]
      go_upto_region 9 with fail
      refine wp_region_lin (.op 0 (.op 1 (.op 2 (.op 3 (.op 4 (.op 5 (.op 6 (.op 7 (.op 8 (.op 9 (.op 10 (.op 11 (.op 12 (.op 13 (.op 14 (.op 15 (.op 16 (.op 17 (.op 18 (.op 19 (.op 20 (.op 21 (.op 22 (.op 23 (.op 24 (.op 25 (.op 26 (.op 27 (.op 28 .done))))))))))))))))))))))))))))) (by rfl) ?_
      refine wpT_valp 39 (v := .int .i64 0) rfl rfl rfl (by go_simp) ?_
      refine wpT_valp 40 (v := .bool false) rfl rfl rfl (by go_simp) ?_
      refine wpT_valp 41 (v := .bool false) rfl rfl rfl (by go_simp) ?_
      refine wpT_ld0 42 Tryd.underlying25 rfl inf_key (b3) (cs U8 (zs 32)) rfl rfl rfl (by go_simp) (M16.row (by simp)) (by simp []) (by simp [Region.wanted, yielded, Act.put]) ?_
      try simp only [Act.put, List.setIfInBounds_toArray, List.set_cons_succ, List.set_cons_zero]
      refine wpT_valL 43 (v := .agg (cs U8 (zs 32))) rfl rfl (by simp [Region.wanted, yielded, Act.put]) (by go_simp) ?_
      refine wpT_valp 44 (v := .bool false) rfl rfl (by simp [Region.wanted, yielded, Act.put]) (by have q := eqL w15 (zs 32) (by simp []); go_simp) ?_
      refine wpT_valp 45 (v := .bool false) rfl rfl rfl (by go_simp) ?_
      refine wpT_valp 46 (v := .bool false) rfl rfl rfl (by go_simp) ?_
      refine wpT_valp 47 (v := .int .i64 1) rfl rfl (by simp [Region.wanted, yielded, Act.put]) (by go_simp) ?_
      try simp only [Act.put, List.setIfInBounds_toArray, List.set_cons_succ, List.set_cons_zero]
      refine wpT_valp 48 (v := .bool false) rfl rfl (by simp [Region.wanted, yielded, Act.put]) (by go_simp) ?_
      refine wpT_valp 49 (v := .bool false) rfl rfl rfl (by go_simp) ?_
      refine wpT_valp 50 (v := .bool false) rfl rfl rfl (by go_simp) ?_
      refine wpT_valp 51 (v := .slice none 0 0) rfl rfl (by simp [Region.wanted, yielded, Act.put]) (by go_simp) ?_
      refine wpT_valp 52 (v := .int .i64 0) rfl rfl (by simp [Region.wanted, yielded, Act.put]) (by go_simp) ?_
      try simp only [Act.put, List.setIfInBounds_toArray, List.set_cons_succ, List.set_cons_zero]
      refine wpT_valp 53 (v := .bool false) rfl rfl (by simp [Region.wanted, yielded, Act.put]) (by go_simp) ?_
      refine wpT_valp 54 (v := .bool false) rfl rfl rfl (by go_simp) ?_
      refine wpT_valp 55 (v := .bool false) rfl rfl rfl (by go_simp) ?_
      refine wpT_valp 56 (v := .int .i64 1) rfl rfl (by simp [Region.wanted, yielded, Act.put]) (by go_simp) ?_
      refine wpT_valp 57 (v := .bool false) rfl rfl (by simp [Region.wanted, yielded, Act.put]) (by go_simp) ?_
      try simp only [Act.put, List.setIfInBounds_toArray, List.set_cons_succ, List.set_cons_zero]
      refine wpT_valp 58 (v := .bool false) rfl rfl rfl (by go_simp) ?_
      refine wpT_valp 59 (v := .bool false) rfl rfl rfl (by go_simp) ?_
      refine wpT_ld0 60 Tryd.underlying25 rfl inf_key (b12) (cs U8 (zs 32)) rfl rfl rfl (by go_simp) (M16.row (by simp)) (by simp []) (by simp [Region.wanted, yielded, Act.put]) ?_
      refine wpT_valL 61 (v := .agg (cs U8 (zs 32))) rfl rfl (by simp [Region.wanted, yielded, Act.put]) (by go_simp) ?_
      refine wpT_valp 62 (v := .bool false) rfl rfl (by simp [Region.wanted, yielded, Act.put]) (by have q := eqL w15 (zs 32) (by simp []); go_simp) ?_
      try simp only [Act.put, List.setIfInBounds_toArray, List.set_cons_succ, List.set_cons_zero]
      refine wpT_valp 63 (v := .bool false) rfl rfl rfl (by go_simp) ?_
      refine wpT_valp 64 (v := .bool false) rfl rfl rfl (by go_simp) ?_
      refine wpT_valp 65 (v := .int .i64 0) rfl rfl (by simp [Region.wanted, yielded, Act.put]) (by go_simp) ?_
      refine wpT_valp 66 (v := .bool false) rfl rfl (by simp [Region.wanted, yielded, Act.put]) (by go_simp) ?_
      refine wpT_valp 67 (v := .bool false) rfl rfl rfl (by go_simp) ?_
      dsimp only [wpT]
      try simp only [Act.put, List.setIfInBounds_toArray, List.set_cons_succ, List.set_cons_zero]
      go_wp2_with fail
      go_roundw
      case rel => exact ⟨2, by omega, rfl, M16.sub ((List.sublist_cons_self _ _).trans (List.sublist_cons_self _ _))⟩
      case measure => simp [intOf]
    · go_wp2_with fail
      go_ret
      exact ⟨rfl, M.end_⟩
end Go.Proofs.YtocledgjejlolaaDoor
