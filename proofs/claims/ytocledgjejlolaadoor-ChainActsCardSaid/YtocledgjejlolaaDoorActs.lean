/-
  Law 17: a chain's acts, walked; own work.
-/
import Derived.Test.YtocledgjejlolaaDoorChnD
import Derived.Test.YtocledgjejlolaaDoorRefV
import Derived.Test.YtocledgjejlolaaDoorTx
set_option linter.unusedSimpArgs false
set_option linter.unusedVariables false
namespace Go.Proofs.YtocledgjejlolaaDoor
open Go.RowKit
theorem bp_rch (l : List (Nat × Value)) : Tryd.prog.built 68 l = Instr.fill (([(0, 32), (32, 1)] : List (Nat × Nat)).toArray[·]?) (((Tryd.prog.info? 68).bind (·.zero)).getD undef).cells l := by kernel_rfl
theorem bz_rch : (((Tryd.prog.info? 68).bind (·.zero)).getD undef).cells.size = 33 := by kernel_rfl
@[go_sem ↓] theorem rb_rch (ρ : Operand → Value) (dst : Option Tmp) (ty : TypeId) (pos : String) (after : Array Edge) (guard : Option (Nat × Bool)) (w : World) (ps : Array (Nat × Operand)) :
    (execOp ρ { dst, op := .build 68 ps, type := ty, pos, after, guard }).run Tryd.prog w = exBuild Tryd.prog 68 (ps.map fun p => (p.1, ρ p.2)) w := x_build ..
theorem xb_rch (w : World) (ps : Array (Nat × Value)) (hc : Cont (([(0, 32), (32, 1)] : List (Nat × Nat)).toArray[·]?) 0 ps.toList) (hz : (catP ps.toList).size = 33) :
    exBuild Tryd.prog 68 ps w = .ok (.value (.agg (catP ps.toList))) w := by
  unfold exBuild; rw [run_build_cat w 68 ps _ _ bp_rch hc (by rw [bz_rch]; exact hz)]; rfl

theorem xb_rch2 (w : World) (l : List (BitVec 8)) (n : Int) (hl : l.length = 32) : exBuild Tryd.prog 68 #[(0, .agg (cs U8 l)), (1, .int .i64 n)] w = .ok (.value (.agg (RC l n))) w := by
  rw [xb_rch w _ (by simp [Cont, Value.cells, hl]) (by simp [catP, Value.cells, hl])]
  unfold RC
  simp [catP, Value.cells]
theorem wpT_vald {P : Program} {ops : Array Oper} {Q : Exit → Act → World → Prop} {i : Nat} {t : Tr} {a : Act} {w w' : World} {o : Oper} (d : Nat) {v : Value} (hd : o.dst = some d) (ho : ops[i]? = some o) (hw : Region.wanted o (yielded ops a.tmps) = true) (hrun : (execOp a.eval o).run P w = .ok (.value v) w')
    (h : wpT P ops Q t (a.put (some d) v) w') : wpT P ops Q (.op i t) a w := wpT_val ho hw hrun (by rw [hd]; exact h)
/-- a slice of whole numbers -/
def IS (w : World) (v : Value) (xs : List Int) : Prop := SV w v xs.length (xs.map fun x => .int .i64 x) ∧ ∀ x ∈ xs, -9223372036854775808 ≤ x ∧ x < 9223372036854775808
theorem KS.nil (w : World) : KS w (.slice none 0 0) [] := ⟨none, 0, rfl, Nat.le_refl _, Nat.zero_le _, fun i h => by simp at h, fun h => by simp at h⟩
theorem IS.cell {w : World} {a : Option Addr} {n cap : Nat} {xs : List Int} (h : IS w (.slice a n cap) xs) {i : Nat} (hi : i < xs.length) : ∃ b o x, a = some ⟨b, o, none⟩ ∧ w.cell? ⟨b, o + i, none⟩ = some (.int .i64 x) ∧ -9223372036854775808 ≤ x ∧ x < 9223372036854775808 := by
  obtain ⟨⟨a', cap', e, h1, h2, h3⟩, hb⟩ := h
  injection e with e1 e2 e3
  subst e1
  obtain ⟨b, o, e, hc⟩ := h3 (by intro e; simp at e; subst e; simp at hi)
  refine ⟨b, o, xs[i], e, ?_, hb _ (List.getElem_mem hi)⟩
  rw [hc i (by simpa using hi)]
  simp [hi]
theorem cell_below {w w' : World} {b o : Nat} {v : Value} (h : w.cell? ⟨b, o, none⟩ = some v) (hb : Below w.heap.size w w') : w'.cell? ⟨b, o, none⟩ = some v := by
  rw [← h]
  rw [cell_rowOf] at h
  exact World.cell?_of_block (a := ⟨b, o, none⟩) (hb.block b (row_lt (Array.getElem?_eq_some_iff.1 h).1))
attribute [local irreducible] CR RC Sh.nx Sh.ms Sh.nxk Sh.msk k1
set_option maxRecDepth 100000 in
set_option maxHeartbeats 8000000 in
theorem ChainActs_w (w : World) (a : List (BitVec 8)) (n : Int) (v : Value) (xs : List Int) (hT : KT w) (hk0 : 0 < w.heap.size) (ha : a.length = 32) (hv : IS w v xs) :
    Calls Tryd.prog 14 #[.agg (cs U8 a), .int .i64 n, v] w fun e w' => e = .returned (.bool true) ∧ Below w.heap.size w w' := by
  have HK := hid (fun H w' (M : Mm no w H w') => kt_mm hT hk0 (fun h => h) M)
  clear hT
  have HS := hid hv
  obtain ⟨⟨A, lc, rfl, -, hmx, -⟩, -⟩ := hv
  by_cases hbad : n < 0 ∨ 65535 < n
  · have HB := hid hbad
    by_cases b0 : n < 0
    · have b1 : ¬ 0 ≤ n := by omega
      have M0 := Mm.start no w
      go_enter Tryd.func14, Tryd.ntmps14
      have M2 := (M0.alloc (cs U8 a) 25 (by decide))
      try simp only [World.size_alloc] at M2
      go_upto_region 1 with fail
      obtain ⟨w1, hw1⟩ : ∃ w1, w1 = (w.alloc (.cells (cs U8 a) 25)) := ⟨_, rfl⟩
      rw [← hw1] at M2 ⊢
      clear hw1
      refine wp_region_lin (.op 0 (.op 1 .done)) (by rfl) ?_
      refine wpT_callv 24 M2 (v := .bool true) rfl rfl rfl (by go_simp) (alive17_any w1 (HK.out _ _ M2).1 (HK.out _ _ M2).2) (fun w3 M4 => ?_)
      refine wpT_valp 25 (v := .bool false) rfl rfl rfl (by go_simp) ?_
      dsimp only [wpT]
      try simp only [Act.put, List.setIfInBounds_toArray, List.set_cons_succ, List.set_cons_zero]
      go_upto_region 3 with fail
      refine wp_region_lin (.op 0 (.op 1 (.op 2 (.op 3 .done)))) (by rfl) ?_
      refine wpT_ld0 26 Tryd.underlying25 rfl inf_key (w.heap.size) (cs U8 a) rfl rfl rfl (by go_simp) (M4.row (by simp)) (by simp [ha]) rfl ?_
      refine wpT_valp 27 (v := .int .i64 n) rfl rfl rfl (by go_simp) ?_
      refine wpT_callv 28 M4 (v := .pointer none) rfl rfl rfl (by go_simp) (new_bad w3 a n hbad) (fun w5 M6 => ?_)
      refine wpT_valp 7 (v := .pointer none) rfl rfl rfl (by go_simp) ?_
      dsimp only [wpT]
      try simp only [Act.put, List.setIfInBounds_toArray, List.set_cons_succ, List.set_cons_zero]
      go_upto_region 4 with fail
      go_upto_region 6 with fail
      refine wp_region_lin (.op 0 (.op 1 (.op 2 (.op 3 (.op 4 .done))))) (by rfl) ?_
      refine wpT_ld0 38 Tryd.underlying25 rfl inf_key (w.heap.size) (cs U8 a) rfl rfl rfl (by go_simp) (M6.row (by simp)) (by simp [ha]) rfl ?_
      refine wpT_valp 39 (v := .int .i64 n) rfl rfl rfl (by go_simp) ?_
      refine wpT_valL 40 (v := .agg (RC a n)) rfl rfl rfl (by have q := xb_rch2 w5 a n ha; go_simp) ?_
      refine wpT_new (z := .agg (RC (zs 32) 0)) 8 M6 (by kernel_rfl) (by decide) rfl rfl rfl rfl (fun gm w8 M9 => ?_)
      try dsimp only [Value.cells] at M9
      try simp only [Act.put, List.setIfInBounds_toArray, List.set_cons_succ, List.set_cons_zero]
      refine wpT_st0 M9 0 (RC a n) inf_rch rfl rfl rfl rfl (by go_simp) (by go_simp) (by simp [ha]) (by simp [ha]) (by simp [go_sem]) rfl (fun w10 M11 => ?_)
      dsimp only [List.set] at M11
      dsimp only [wpT]
      try simp only [Act.put, List.setIfInBounds_toArray, List.set_cons_succ, List.set_cons_zero]
      go_wp2_with fail
      go_loopw [9] (fun t wr => t = .int .i64 0 ∧ Mm no w [(gm, RC a n), (w.heap.size, cs U8 a)] wr) (fun _ _ => 0)
      case atStart => exact ⟨rfl, M11⟩
      case round =>
        clear M11
        obtain ⟨rfl, M⟩ := hrel
        go_wp2_with fail
        go_ret
        exact ⟨rfl, M.end_⟩
    · have b2 : 0 ≤ n := by omega
      have b3 : ¬ n ≤ 65535 := by omega
      have M0 := Mm.start no w
      go_enter Tryd.func14, Tryd.ntmps14
      have M2 := (M0.alloc (cs U8 a) 25 (by decide))
      try simp only [World.size_alloc] at M2
      go_upto_region 1 with fail
      obtain ⟨w1, hw1⟩ : ∃ w1, w1 = (w.alloc (.cells (cs U8 a) 25)) := ⟨_, rfl⟩
      rw [← hw1] at M2 ⊢
      clear hw1
      refine wp_region_lin (.op 0 (.op 1 .done)) (by rfl) ?_
      refine wpT_callv 24 M2 (v := .bool true) rfl rfl rfl (by go_simp) (alive17_any w1 (HK.out _ _ M2).1 (HK.out _ _ M2).2) (fun w3 M4 => ?_)
      refine wpT_valp 25 (v := .bool false) rfl rfl rfl (by go_simp) ?_
      dsimp only [wpT]
      try simp only [Act.put, List.setIfInBounds_toArray, List.set_cons_succ, List.set_cons_zero]
      go_upto_region 3 with fail
      refine wp_region_lin (.op 0 (.op 1 (.op 2 (.op 3 .done)))) (by rfl) ?_
      refine wpT_ld0 26 Tryd.underlying25 rfl inf_key (w.heap.size) (cs U8 a) rfl rfl rfl (by go_simp) (M4.row (by simp)) (by simp [ha]) rfl ?_
      refine wpT_valp 27 (v := .int .i64 n) rfl rfl rfl (by go_simp) ?_
      refine wpT_callv 28 M4 (v := .pointer none) rfl rfl rfl (by go_simp) (new_bad w3 a n hbad) (fun w5 M6 => ?_)
      refine wpT_valp 7 (v := .pointer none) rfl rfl rfl (by go_simp) ?_
      dsimp only [wpT]
      try simp only [Act.put, List.setIfInBounds_toArray, List.set_cons_succ, List.set_cons_zero]
      go_upto_region 4 with fail
      go_upto_region 6 with fail
      refine wp_region_lin (.op 0 (.op 1 (.op 2 (.op 3 (.op 4 .done))))) (by rfl) ?_
      refine wpT_ld0 38 Tryd.underlying25 rfl inf_key (w.heap.size) (cs U8 a) rfl rfl rfl (by go_simp) (M6.row (by simp)) (by simp [ha]) rfl ?_
      refine wpT_valp 39 (v := .int .i64 n) rfl rfl rfl (by go_simp) ?_
      refine wpT_valL 40 (v := .agg (RC a n)) rfl rfl rfl (by have q := xb_rch2 w5 a n ha; go_simp) ?_
      refine wpT_new (z := .agg (RC (zs 32) 0)) 8 M6 (by kernel_rfl) (by decide) rfl rfl rfl rfl (fun gm w8 M9 => ?_)
      try dsimp only [Value.cells] at M9
      try simp only [Act.put, List.setIfInBounds_toArray, List.set_cons_succ, List.set_cons_zero]
      refine wpT_st0 M9 0 (RC a n) inf_rch rfl rfl rfl rfl (by go_simp) (by go_simp) (by simp [ha]) (by simp [ha]) (by simp [go_sem]) rfl (fun w10 M11 => ?_)
      dsimp only [List.set] at M11
      dsimp only [wpT]
      try simp only [Act.put, List.setIfInBounds_toArray, List.set_cons_succ, List.set_cons_zero]
      go_wp2_with fail
      go_loopw [9] (fun t wr => t = .int .i64 0 ∧ Mm no w [(gm, RC a n), (w.heap.size, cs U8 a)] wr) (fun _ _ => 0)
      case atStart => exact ⟨rfl, M11⟩
      case round =>
        clear M11
        obtain ⟨rfl, M⟩ := hrel
        go_wp2_with fail
        go_ret
        exact ⟨rfl, M.end_⟩
  · have b2 : 0 ≤ n := by omega
    have b3 : n ≤ 65535 := by omega
    clear hbad
    have M0 := Mm.start no w
    go_enter Tryd.func14, Tryd.ntmps14
    have M2 := (M0.alloc (cs U8 a) 25 (by decide))
    try simp only [World.size_alloc] at M2
    go_upto_region 1 with fail
    obtain ⟨w1, hw1⟩ : ∃ w1, w1 = (w.alloc (.cells (cs U8 a) 25)) := ⟨_, rfl⟩
    rw [← hw1] at M2 ⊢
    clear hw1
    refine wp_region_lin (.op 0 (.op 1 .done)) (by rfl) ?_
    refine wpT_callv 24 M2 (v := .bool true) rfl rfl rfl (by go_simp) (alive17_any w1 (HK.out _ _ M2).1 (HK.out _ _ M2).2) (fun w3 M4 => ?_)
    refine wpT_valp 25 (v := .bool false) rfl rfl rfl (by go_simp) ?_
    dsimp only [wpT]
    try simp only [Act.put, List.setIfInBounds_toArray, List.set_cons_succ, List.set_cons_zero]
    go_upto_region 3 with fail
    refine wp_region_lin (.op 0 (.op 1 (.op 2 (.op 3 .done)))) (by rfl) ?_
    refine wpT_ld0 26 Tryd.underlying25 rfl inf_key (w.heap.size) (cs U8 a) rfl rfl rfl (by go_simp) (M4.row (by simp)) (by simp [ha]) rfl ?_
    refine wpT_valp 27 (v := .int .i64 n) rfl rfl rfl (by go_simp) ?_
    refine wpT_calld 28 rfl rfl rfl (by go_simp) (new_m w3 a n ha (by omega) (by omega)) ?_
    rintro e w5 ⟨gc, rfl, Nw5⟩
    have M6 := M4.join Nw5
    refine ⟨_, rfl, ?_⟩
    refine wpT_valp 7 (v := .pointer (some ⟨gc, 0, none⟩)) rfl rfl rfl (by go_simp) ?_
    dsimp only [wpT]
    try simp only [Act.put, List.setIfInBounds_toArray, List.set_cons_succ, List.set_cons_zero]
    go_upto_region 4 with fail
    have hgc : w.heap.size ≤ gc := (M6.own (gc, CR a n) (by simp)).1.resolve_left (fun h => h)
    go_upto_region 6 with fail
    refine wp_region_lin (.op 0 (.op 1 (.op 2 (.op 3 (.op 4 .done))))) (by rfl) ?_
    refine wpT_ld0 38 Tryd.underlying25 rfl inf_key (w.heap.size) (cs U8 a) rfl rfl rfl (by go_simp) (M6.row (by simp)) (by simp [ha]) rfl ?_
    refine wpT_valp 39 (v := .int .i64 n) rfl rfl rfl (by go_simp) ?_
    refine wpT_valL 40 (v := .agg (RC a n)) rfl rfl rfl (by have q := xb_rch2 w5 a n ha; go_simp) ?_
    refine wpT_new (z := .agg (RC (zs 32) 0)) 8 M6 (by kernel_rfl) (by decide) rfl rfl rfl rfl (fun gm w9 M10 => ?_)
    try dsimp only [Value.cells] at M10
    try simp only [Act.put, List.setIfInBounds_toArray, List.set_cons_succ, List.set_cons_zero]
    refine wpT_st0 M10 0 (RC a n) inf_rch rfl rfl rfl rfl (by go_simp) (by go_simp) (by simp [ha]) (by simp [ha]) (by simp [go_sem]) rfl (fun w11 M12 => ?_)
    dsimp only [List.set] at M12
    dsimp only [wpT]
    try simp only [Act.put, List.setIfInBounds_toArray, List.set_cons_succ, List.set_cons_zero]
    go_wp2_with fail
    go_loopw [9] (fun t wr => ∃ (i : Nat) (l : List (BitVec 8)) (n : Int), i ≤ xs.length ∧ i ≤ 40 ∧ t = .int .i64 i ∧ l.length = 32 ∧ 0 ≤ n ∧ n ≤ 65535 ∧ Mm no w [(gm, RC l n), (gc, CR l n), (w.heap.size, cs U8 a)] wr) (fun t _ => 40 - (intOf t).toNat)
    case atStart => exact ⟨0, a, n, by omega, by omega, rfl, ha, b2, b3, M12⟩
    case round =>
      clear M12
      obtain ⟨i, l, n, hi, hi40, rfl, hl, h0, h65, M⟩ := hrel
      by_cases hlt : i < xs.length ∧ i < 40
      · obtain ⟨hlt, hl40⟩ := hlt
        obtain ⟨lb, lo, x, rfl, hc, hxl, hxu⟩ := HS.out.cell hlt
        have HI := hid (fun H w' (M : Mm no w H w') => cell_below hc M.end_)
        clear hc
        have hlt2 : (i : Int) < (xs.length : Int) := by omega
        have h402 : (i : Int) < 40 := by omega
        have hi0 : (0 : Int) ≤ (i : Int) := by omega
        go_upto_region 10 with fail
        by_cases hx0 : x < 0
        · skip
          refine wp_region_lin (.op 0 (.op 1 (.op 2 (.op 3 (.op 4 .done))))) (by rfl) ?_
          refine wpT_valp 55 (v := .slice (some ⟨lb, lo, none⟩) xs.length lc) rfl rfl rfl (by go_simp) ?_
          refine wpT_valp 56 (v := .int .i64 i) rfl rfl rfl (by go_simp) ?_
          refine wpT_valp 57 (v := .pointer (some ⟨lb, lo + i, none⟩)) rfl rfl rfl (by go_simp) ?_
          refine wpT_valp 58 (v := .int .i64 x) rfl rfl rfl (by have c0 := HI.out _ _ M; go_simp) ?_
          try simp only [Act.put, List.setIfInBounds_toArray, List.set_cons_succ, List.set_cons_zero]
          refine wpT_valp 59 (v := .bool true) rfl rfl rfl (by go_simp) ?_
          dsimp only [wpT]
          try simp only [Act.put, List.setIfInBounds_toArray, List.set_cons_succ, List.set_cons_zero]
          go_upto_region 11 with fail
          by_cases hbig : 65535 ≤ n
          · skip
            refine wp_region_lin (.op 0 (.op 1 (.op 2 (.op 3 (.op 4 (.op 5 (.op 6 (.op 7 (.op 8 (.op 9 .done)))))))))) (by rfl) ?_
            refine wpT_valp 61 (v := .pointer (some ⟨gc, 0, none⟩)) rfl rfl rfl (by go_simp) ?_
            refine wpT_callm 62 M 1 (C' := CR l n) (v := .tuple #[.int .i64 0, .agg (cs U8 (zs 32)), .int .i64 3]) rfl rfl rfl rfl (by go_simp) (next_mbig wr gc l n (M.loc' (k := 1) rfl) hbig hl) (fun w1 M2 _ => ?_)
            dsimp only [List.set] at M2
            refine wpT_valp 60 (v := .tuple #[.int .i64 0, .agg (cs U8 (zs 32)), .int .i64 3]) rfl rfl rfl (by go_simp) ?_
            refine wpT_valp 63 (v := .int .i64 0) rfl rfl rfl (by go_simp) ?_
            try simp only [Act.put, List.setIfInBounds_toArray, List.set_cons_succ, List.set_cons_zero]
            refine wpT_valp 64 (v := .agg (cs U8 (zs 32))) rfl rfl rfl (by go_simp) ?_
            refine wpT_valp 65 (v := .int .i64 3) rfl rfl rfl (by go_simp) ?_
            refine wpT_new (z := .agg (cs U8 (zs 32))) 11 M2 (by kernel_rfl) (by decide) rfl rfl rfl rfl (fun b3 w4 M5 => ?_)
            try dsimp only [Value.cells] at M5
            refine wpT_valp 10 (v := .int .i64 0) rfl rfl rfl (by go_simp) ?_
            refine wpT_st0 M5 0 (cs U8 (zs 32)) inf_key rfl rfl rfl rfl (by go_simp) (by go_simp) (by simp [ha, hl]) (by simp [ha, hl]) (by simp [go_sem]) rfl (fun w6 M7 => ?_)
            dsimp only [List.set] at M7
            try simp only [Act.put, List.setIfInBounds_toArray, List.set_cons_succ, List.set_cons_zero]
            refine wpT_valp 12 (v := .int .i64 3) rfl rfl rfl (by go_simp) ?_
            dsimp only [wpT]
            try simp only [Act.put, List.setIfInBounds_toArray, List.set_cons_succ, List.set_cons_zero]
            go_upto_region 12 with fail
            refine wp_region_lin (.op 0 (.op 1 (.op 2 (.op 3 (.op 4 (.op 5 (.op 6 (.op 7 (.op 8 (.op 9 (.op 10 (.op 11 (.op 12 .done))))))))))))) (by rfl) ?_
            refine wpT_ld0 67 Tryd.underlying68 rfl inf_rch (gm) (RC l n) rfl rfl rfl (by go_simp) (M7.row (by simp)) (by simp [ha, hl]) rfl ?_
            refine wpT_callv 68 M7 (v := .tuple #[.agg (RC l n), .int .i64 0, .agg (cs U8 (zs 32)), .int .i64 3]) rfl rfl rfl (by go_simp) (rnext_big w6 l n hbig hl) (fun w8 M9 => ?_)
            refine wpT_valp 66 (v := .tuple #[.agg (RC l n), .int .i64 0, .agg (cs U8 (zs 32)), .int .i64 3]) rfl rfl rfl (by go_simp) ?_
            refine wpT_valp 69 (v := .agg (RC l n)) rfl rfl rfl (by go_simp) ?_
            try simp only [Act.put, List.setIfInBounds_toArray, List.set_cons_succ, List.set_cons_zero]
            refine wpT_valp 70 (v := .int .i64 0) rfl rfl rfl (by go_simp) ?_
            refine wpT_valp 71 (v := .agg (cs U8 (zs 32))) rfl rfl rfl (by go_simp) ?_
            refine wpT_valp 72 (v := .int .i64 3) rfl rfl rfl (by go_simp) ?_
            refine wpT_new (z := .agg (RC (zs 32) 0)) 13 M9 (by kernel_rfl) (by decide) rfl rfl rfl rfl (fun b10 w11 M12 => ?_)
            try dsimp only [Value.cells] at M12
            refine wpT_new (z := .agg (cs U8 (zs 32))) 15 M12 (by kernel_rfl) (by decide) rfl rfl rfl rfl (fun b13 w14 M15 => ?_)
            try dsimp only [Value.cells] at M15
            try simp only [Act.put, List.setIfInBounds_toArray, List.set_cons_succ, List.set_cons_zero]
            refine wpT_st0 M15 1 (RC l n) inf_rch rfl rfl rfl rfl (by go_simp) (by go_simp) (by simp [ha, hl]) (by simp [ha, hl]) (by simp [go_sem]) rfl (fun w16 M17 => ?_)
            dsimp only [List.set] at M17
            refine wpT_valp 14 (v := .int .i64 0) rfl rfl rfl (by go_simp) ?_
            refine wpT_st0 M17 0 (cs U8 (zs 32)) inf_key rfl rfl rfl rfl (by go_simp) (by go_simp) (by simp [ha, hl]) (by simp [ha, hl]) (by simp [go_sem]) rfl (fun w18 M19 => ?_)
            dsimp only [List.set] at M19
            refine wpT_valp 16 (v := .int .i64 3) rfl rfl rfl (by go_simp) ?_
            dsimp only [wpT]
            try simp only [Act.put, List.setIfInBounds_toArray, List.set_cons_succ, List.set_cons_zero]
            go_upto_region 13 with fail
            refine wp_region_lin (.op 0 (.op 1 .done)) (by rfl) ?_
            refine wpT_ld0 73 Tryd.underlying68 rfl inf_rch (b10) (RC l n) rfl rfl rfl (by go_simp) (M19.row (by simp)) (by simp [ha, hl]) rfl ?_
            refine wpT_st0 M19 3 (RC l n) inf_rch rfl rfl rfl rfl (by go_simp) (by go_simp) (by simp [ha, hl]) (by simp [ha, hl]) (by simp [go_sem]) rfl (fun w20 M21 => ?_)
            dsimp only [List.set] at M21
            dsimp only [wpT]
            try simp only [Act.put, List.setIfInBounds_toArray, List.set_cons_succ, List.set_cons_zero]
            go_upto_region 14 with fail
            refine wp_region_lin (.op 0 (.op 1 (.op 2 (.op 3 (.op 4 (.op 5 (.op 6 (.op 7 (.op 8 (.op 9 (.op 10 (.op 11 (.op 12 .done))))))))))))) (by rfl) ?_
            refine wpT_valp 74 (v := .int .i64 0) rfl rfl rfl (by go_simp) ?_
            refine wpT_valp 75 (v := .int .i64 0) rfl rfl rfl (by go_simp) ?_
            refine wpT_valp 76 (v := .bool false) rfl rfl rfl (by go_simp) ?_
            refine wpT_valp 77 (v := .bool false) rfl rfl rfl (by go_simp) ?_
            try simp only [Act.put, List.setIfInBounds_toArray, List.set_cons_succ, List.set_cons_zero]
            refine wpT_ld0 78 Tryd.underlying25 rfl inf_key (b3) (cs U8 (zs 32)) rfl rfl rfl (by go_simp) (M21.row (by simp)) (by simp [ha, hl]) (by simp [Region.wanted, yielded, Act.put]) ?_
            refine wpT_ld0 79 Tryd.underlying25 rfl inf_key (b13) (cs U8 (zs 32)) rfl rfl rfl (by go_simp) (M21.row (by simp)) (by simp [ha, hl]) (by simp [Region.wanted, yielded, Act.put]) ?_
            refine wpT_valp 80 (v := .bool false) rfl rfl (by simp [Region.wanted, yielded, Act.put]) (by have q := eqL w20 (zs 32) (by simp [ha, hl]); go_simp) ?_
            refine wpT_valp 81 (v := .bool false) rfl rfl rfl (by go_simp) ?_
            refine wpT_valp 82 (v := .bool false) rfl rfl rfl (by go_simp) ?_
            try simp only [Act.put, List.setIfInBounds_toArray, List.set_cons_succ, List.set_cons_zero]
            refine wpT_valp 83 (v := .int .i64 3) rfl rfl (by simp [Region.wanted, yielded, Act.put]) (by go_simp) ?_
            refine wpT_valp 84 (v := .int .i64 3) rfl rfl (by simp [Region.wanted, yielded, Act.put]) (by go_simp) ?_
            refine wpT_valp 85 (v := .bool false) rfl rfl (by simp [Region.wanted, yielded, Act.put]) (by go_simp) ?_
            refine wpT_valp 86 (v := .bool false) rfl rfl rfl (by go_simp) ?_
            dsimp only [wpT]
            try simp only [Act.put, List.setIfInBounds_toArray, List.set_cons_succ, List.set_cons_zero]
            go_upto_region 21 with fail
            refine wp_region_lin (.op 0 (.op 1 (.op 2 (.op 3 (.op 4 (.op 5 (.op 6 (.op 7 .done)))))))) (by rfl) ?_
            refine wpT_valp 117 (v := .pointer (some ⟨gc, 0, none⟩)) rfl rfl rfl (by go_simp) ?_
            refine wpT_callm 118 M21 4 (C' := CR l n) (v := .tuple #[.agg (cs U8 l), .int .i64 n]) rfl rfl rfl rfl (by go_simp) (at_m w20 gc l n (M21.loc' (k := 4) rfl) (by simp [ha, hl])) (fun w22 M23 _ => ?_)
            dsimp only [List.set] at M23
            refine wpT_valp 116 (v := .tuple #[.agg (cs U8 l), .int .i64 n]) rfl rfl rfl (by go_simp) ?_
            refine wpT_valp 119 (v := .agg (cs U8 l)) rfl rfl rfl (by go_simp) ?_
            try simp only [Act.put, List.setIfInBounds_toArray, List.set_cons_succ, List.set_cons_zero]
            refine wpT_valp 120 (v := .int .i64 n) rfl rfl rfl (by go_simp) ?_
            refine wpT_new (z := .agg (cs U8 (zs 32))) 22 M23 (by kernel_rfl) (by decide) rfl rfl rfl rfl (fun b24 w25 M26 => ?_)
            try dsimp only [Value.cells] at M26
            refine wpT_st0 M26 0 (cs U8 l) inf_key rfl rfl rfl rfl (by go_simp) (by go_simp) (by simp [ha, hl]) (by simp [ha, hl]) (by simp [go_sem]) rfl (fun w27 M28 => ?_)
            dsimp only [List.set] at M28
            refine wpT_valp 23 (v := .int .i64 n) rfl rfl rfl (by go_simp) ?_
            dsimp only [wpT]
            try simp only [Act.put, List.setIfInBounds_toArray, List.set_cons_succ, List.set_cons_zero]
            go_upto_region 22 with fail
            refine wp_region_lin (.op 0 (.op 1 (.op 2 (.op 3 (.op 4 (.op 5 (.op 6 (.op 7 (.op 8 (.op 9 .done)))))))))) (by rfl) ?_
            refine wpT_ld0 121 Tryd.underlying25 rfl inf_key (b24) (cs U8 l) rfl rfl rfl (by go_simp) (M28.row (by simp)) (by simp [ha, hl]) rfl ?_
            refine wpT_valp 122 (v := .pointer (some ⟨gm, 0, none⟩)) rfl rfl rfl (by go_simp) ?_
            refine wpT_ldm 123 Tryd.underlying25 rfl inf_key (gm) 0 (RC l n) (cs U8 l) rfl rfl rfl (by go_simp) (M28.row (by simp)) (by simp [ha, hl]) (rc_key (by simp [ha, hl])) rfl ?_
            refine wpT_valp 124 (v := .bool false) rfl rfl rfl (by have q := eqL w27 l (by simp [ha, hl]); go_simp) ?_
            try simp only [Act.put, List.setIfInBounds_toArray, List.set_cons_succ, List.set_cons_zero]
            refine wpT_valp 125 (v := .bool false) rfl rfl rfl (by go_simp) ?_
            refine wpT_valp 126 (v := .int .i64 n) rfl rfl (by simp [Region.wanted, yielded, Act.put]) (by go_simp) ?_
            refine wpT_valp 127 (v := .pointer (some ⟨gm, 32, none⟩)) rfl rfl (by simp [Region.wanted, yielded, Act.put]) (by go_simp) ?_
            refine wpT_valp 128 (v := .int .i64 n) rfl rfl (by simp [Region.wanted, yielded, Act.put]) (by have c0 := rrow_32 (by simp [ha, hl]) (M28.row (b := gm) (c := RC l n) (by simp)); go_simp) ?_
            refine wpT_valp 129 (v := .bool false) rfl rfl (by simp [Region.wanted, yielded, Act.put]) (by go_simp) ?_
            try simp only [Act.put, List.setIfInBounds_toArray, List.set_cons_succ, List.set_cons_zero]
            refine wpT_valp 130 (v := .bool false) rfl rfl rfl (by go_simp) ?_
            dsimp only [wpT]
            try simp only [Act.put, List.setIfInBounds_toArray, List.set_cons_succ, List.set_cons_zero]
            go_wp2_with fail
            go_roundw
            case rel =>
              refine ⟨i + 1, l, n, by omega, by omega, rfl, by simp [hl, nxk_len], by omega, by omega, M28.sub ?_⟩
              repeat first | exact List.Sublist.refl _ | apply List.Sublist.cons
            case measure => simp [intOf]; omega
          · have hsm : n < 65535 := by omega
            refine wp_region_lin (.op 0 (.op 1 (.op 2 (.op 3 (.op 4 (.op 5 (.op 6 (.op 7 (.op 8 (.op 9 .done)))))))))) (by rfl) ?_
            refine wpT_valp 61 (v := .pointer (some ⟨gc, 0, none⟩)) rfl rfl rfl (by go_simp) ?_
            refine wpT_callm 62 M 1 (C' := CR (Sh.nx l) (n + 1)) (v := .tuple #[.int .i64 n, .agg (cs U8 (Sh.ms l)), .int .i64 0]) rfl rfl rfl rfl (by go_simp) (next_m wr gc l n (HK.out _ _ M).1 (HK.out _ _ M).2 (by omega) (M.loc' (k := 1) rfl) h0 hsm hl) (fun w1 M2 _ => ?_)
            dsimp only [List.set] at M2
            refine wpT_valp 60 (v := .tuple #[.int .i64 n, .agg (cs U8 (Sh.ms l)), .int .i64 0]) rfl rfl rfl (by go_simp) ?_
            refine wpT_valp 63 (v := .int .i64 n) rfl rfl rfl (by go_simp) ?_
            try simp only [Act.put, List.setIfInBounds_toArray, List.set_cons_succ, List.set_cons_zero]
            refine wpT_valp 64 (v := .agg (cs U8 (Sh.ms l))) rfl rfl rfl (by go_simp) ?_
            refine wpT_valp 65 (v := .int .i64 0) rfl rfl rfl (by go_simp) ?_
            refine wpT_new (z := .agg (cs U8 (zs 32))) 11 M2 (by kernel_rfl) (by decide) rfl rfl rfl rfl (fun b3 w4 M5 => ?_)
            try dsimp only [Value.cells] at M5
            refine wpT_valp 10 (v := .int .i64 n) rfl rfl rfl (by go_simp) ?_
            refine wpT_st0 M5 0 (cs U8 (Sh.ms l)) inf_key rfl rfl rfl rfl (by go_simp) (by go_simp) (by simp [ha, hl]) (by simp [ha, hl]) (by simp [go_sem]) rfl (fun w6 M7 => ?_)
            dsimp only [List.set] at M7
            try simp only [Act.put, List.setIfInBounds_toArray, List.set_cons_succ, List.set_cons_zero]
            refine wpT_valp 12 (v := .int .i64 0) rfl rfl rfl (by go_simp) ?_
            dsimp only [wpT]
            try simp only [Act.put, List.setIfInBounds_toArray, List.set_cons_succ, List.set_cons_zero]
            go_upto_region 12 with fail
            refine wp_region_lin (.op 0 (.op 1 (.op 2 (.op 3 (.op 4 (.op 5 (.op 6 (.op 7 (.op 8 (.op 9 (.op 10 (.op 11 (.op 12 .done))))))))))))) (by rfl) ?_
            refine wpT_ld0 67 Tryd.underlying68 rfl inf_rch (gm) (RC l n) rfl rfl rfl (by go_simp) (M7.row (by simp)) (by simp [ha, hl]) rfl ?_
            refine wpT_callv 68 M7 (v := .tuple #[.agg (RC (Sh.nx l) (n + 1)), .int .i64 n, .agg (cs U8 (Sh.ms l)), .int .i64 0]) rfl rfl rfl (by go_simp) (rnext_c w6 l n h0 hsm hl) (fun w8 M9 => ?_)
            refine wpT_valp 66 (v := .tuple #[.agg (RC (Sh.nx l) (n + 1)), .int .i64 n, .agg (cs U8 (Sh.ms l)), .int .i64 0]) rfl rfl rfl (by go_simp) ?_
            refine wpT_valp 69 (v := .agg (RC (Sh.nx l) (n + 1))) rfl rfl rfl (by go_simp) ?_
            try simp only [Act.put, List.setIfInBounds_toArray, List.set_cons_succ, List.set_cons_zero]
            refine wpT_valp 70 (v := .int .i64 n) rfl rfl rfl (by go_simp) ?_
            refine wpT_valp 71 (v := .agg (cs U8 (Sh.ms l))) rfl rfl rfl (by go_simp) ?_
            refine wpT_valp 72 (v := .int .i64 0) rfl rfl rfl (by go_simp) ?_
            refine wpT_new (z := .agg (RC (zs 32) 0)) 13 M9 (by kernel_rfl) (by decide) rfl rfl rfl rfl (fun b10 w11 M12 => ?_)
            try dsimp only [Value.cells] at M12
            refine wpT_new (z := .agg (cs U8 (zs 32))) 15 M12 (by kernel_rfl) (by decide) rfl rfl rfl rfl (fun b13 w14 M15 => ?_)
            try dsimp only [Value.cells] at M15
            try simp only [Act.put, List.setIfInBounds_toArray, List.set_cons_succ, List.set_cons_zero]
            refine wpT_st0 M15 1 (RC (Sh.nx l) (n + 1)) inf_rch rfl rfl rfl rfl (by go_simp) (by go_simp) (by simp [ha, hl]) (by simp [ha, hl]) (by simp [go_sem]) rfl (fun w16 M17 => ?_)
            dsimp only [List.set] at M17
            refine wpT_valp 14 (v := .int .i64 n) rfl rfl rfl (by go_simp) ?_
            refine wpT_st0 M17 0 (cs U8 (Sh.ms l)) inf_key rfl rfl rfl rfl (by go_simp) (by go_simp) (by simp [ha, hl]) (by simp [ha, hl]) (by simp [go_sem]) rfl (fun w18 M19 => ?_)
            dsimp only [List.set] at M19
            refine wpT_valp 16 (v := .int .i64 0) rfl rfl rfl (by go_simp) ?_
            dsimp only [wpT]
            try simp only [Act.put, List.setIfInBounds_toArray, List.set_cons_succ, List.set_cons_zero]
            go_upto_region 13 with fail
            refine wp_region_lin (.op 0 (.op 1 .done)) (by rfl) ?_
            refine wpT_ld0 73 Tryd.underlying68 rfl inf_rch (b10) (RC (Sh.nx l) (n + 1)) rfl rfl rfl (by go_simp) (M19.row (by simp)) (by simp [ha, hl]) rfl ?_
            refine wpT_st0 M19 3 (RC (Sh.nx l) (n + 1)) inf_rch rfl rfl rfl rfl (by go_simp) (by go_simp) (by simp [ha, hl]) (by simp [ha, hl]) (by simp [go_sem]) rfl (fun w20 M21 => ?_)
            dsimp only [List.set] at M21
            dsimp only [wpT]
            try simp only [Act.put, List.setIfInBounds_toArray, List.set_cons_succ, List.set_cons_zero]
            go_upto_region 14 with fail
            refine wp_region_lin (.op 0 (.op 1 (.op 2 (.op 3 (.op 4 (.op 5 (.op 6 (.op 7 (.op 8 (.op 9 (.op 10 (.op 11 (.op 12 .done))))))))))))) (by rfl) ?_
            refine wpT_valp 74 (v := .int .i64 n) rfl rfl rfl (by go_simp) ?_
            refine wpT_valp 75 (v := .int .i64 n) rfl rfl rfl (by go_simp) ?_
            refine wpT_valp 76 (v := .bool false) rfl rfl rfl (by go_simp) ?_
            refine wpT_valp 77 (v := .bool false) rfl rfl rfl (by go_simp) ?_
            try simp only [Act.put, List.setIfInBounds_toArray, List.set_cons_succ, List.set_cons_zero]
            refine wpT_ld0 78 Tryd.underlying25 rfl inf_key (b3) (cs U8 (Sh.ms l)) rfl rfl rfl (by go_simp) (M21.row (by simp)) (by simp [ha, hl]) (by simp [Region.wanted, yielded, Act.put]) ?_
            refine wpT_ld0 79 Tryd.underlying25 rfl inf_key (b13) (cs U8 (Sh.ms l)) rfl rfl rfl (by go_simp) (M21.row (by simp)) (by simp [ha, hl]) (by simp [Region.wanted, yielded, Act.put]) ?_
            refine wpT_valp 80 (v := .bool false) rfl rfl (by simp [Region.wanted, yielded, Act.put]) (by have q := eqL w20 (Sh.ms l) (by simp [ha, hl]); go_simp) ?_
            refine wpT_valp 81 (v := .bool false) rfl rfl rfl (by go_simp) ?_
            refine wpT_valp 82 (v := .bool false) rfl rfl rfl (by go_simp) ?_
            try simp only [Act.put, List.setIfInBounds_toArray, List.set_cons_succ, List.set_cons_zero]
            refine wpT_valp 83 (v := .int .i64 0) rfl rfl (by simp [Region.wanted, yielded, Act.put]) (by go_simp) ?_
            refine wpT_valp 84 (v := .int .i64 0) rfl rfl (by simp [Region.wanted, yielded, Act.put]) (by go_simp) ?_
            refine wpT_valp 85 (v := .bool false) rfl rfl (by simp [Region.wanted, yielded, Act.put]) (by go_simp) ?_
            refine wpT_valp 86 (v := .bool false) rfl rfl rfl (by go_simp) ?_
            dsimp only [wpT]
            try simp only [Act.put, List.setIfInBounds_toArray, List.set_cons_succ, List.set_cons_zero]
            go_upto_region 21 with fail
            refine wp_region_lin (.op 0 (.op 1 (.op 2 (.op 3 (.op 4 (.op 5 (.op 6 (.op 7 .done)))))))) (by rfl) ?_
            refine wpT_valp 117 (v := .pointer (some ⟨gc, 0, none⟩)) rfl rfl rfl (by go_simp) ?_
            refine wpT_callm 118 M21 4 (C' := CR (Sh.nx l) (n + 1)) (v := .tuple #[.agg (cs U8 (Sh.nx l)), .int .i64 (n + 1)]) rfl rfl rfl rfl (by go_simp) (at_m w20 gc (Sh.nx l) (n + 1) (M21.loc' (k := 4) rfl) (by simp [ha, hl])) (fun w22 M23 _ => ?_)
            dsimp only [List.set] at M23
            refine wpT_valp 116 (v := .tuple #[.agg (cs U8 (Sh.nx l)), .int .i64 (n + 1)]) rfl rfl rfl (by go_simp) ?_
            refine wpT_valp 119 (v := .agg (cs U8 (Sh.nx l))) rfl rfl rfl (by go_simp) ?_
            try simp only [Act.put, List.setIfInBounds_toArray, List.set_cons_succ, List.set_cons_zero]
            refine wpT_valp 120 (v := .int .i64 (n + 1)) rfl rfl rfl (by go_simp) ?_
            refine wpT_new (z := .agg (cs U8 (zs 32))) 22 M23 (by kernel_rfl) (by decide) rfl rfl rfl rfl (fun b24 w25 M26 => ?_)
            try dsimp only [Value.cells] at M26
            refine wpT_st0 M26 0 (cs U8 (Sh.nx l)) inf_key rfl rfl rfl rfl (by go_simp) (by go_simp) (by simp [ha, hl]) (by simp [ha, hl]) (by simp [go_sem]) rfl (fun w27 M28 => ?_)
            dsimp only [List.set] at M28
            refine wpT_valp 23 (v := .int .i64 (n + 1)) rfl rfl rfl (by go_simp) ?_
            dsimp only [wpT]
            try simp only [Act.put, List.setIfInBounds_toArray, List.set_cons_succ, List.set_cons_zero]
            go_upto_region 22 with fail
            refine wp_region_lin (.op 0 (.op 1 (.op 2 (.op 3 (.op 4 (.op 5 (.op 6 (.op 7 (.op 8 (.op 9 .done)))))))))) (by rfl) ?_
            refine wpT_ld0 121 Tryd.underlying25 rfl inf_key (b24) (cs U8 (Sh.nx l)) rfl rfl rfl (by go_simp) (M28.row (by simp)) (by simp [ha, hl]) rfl ?_
            refine wpT_valp 122 (v := .pointer (some ⟨gm, 0, none⟩)) rfl rfl rfl (by go_simp) ?_
            refine wpT_ldm 123 Tryd.underlying25 rfl inf_key (gm) 0 (RC (Sh.nx l) (n + 1)) (cs U8 (Sh.nx l)) rfl rfl rfl (by go_simp) (M28.row (by simp)) (by simp [ha, hl]) (rc_key (by simp [ha, hl])) rfl ?_
            refine wpT_valp 124 (v := .bool false) rfl rfl rfl (by have q := eqL w27 (Sh.nx l) (by simp [ha, hl]); go_simp) ?_
            try simp only [Act.put, List.setIfInBounds_toArray, List.set_cons_succ, List.set_cons_zero]
            refine wpT_valp 125 (v := .bool false) rfl rfl rfl (by go_simp) ?_
            refine wpT_valp 126 (v := .int .i64 (n + 1)) rfl rfl (by simp [Region.wanted, yielded, Act.put]) (by go_simp) ?_
            refine wpT_valp 127 (v := .pointer (some ⟨gm, 32, none⟩)) rfl rfl (by simp [Region.wanted, yielded, Act.put]) (by go_simp) ?_
            refine wpT_valp 128 (v := .int .i64 (n + 1)) rfl rfl (by simp [Region.wanted, yielded, Act.put]) (by have c0 := rrow_32 (by simp [ha, hl]) (M28.row (b := gm) (c := RC (Sh.nx l) (n + 1)) (by simp)); go_simp) ?_
            refine wpT_valp 129 (v := .bool false) rfl rfl (by simp [Region.wanted, yielded, Act.put]) (by go_simp) ?_
            try simp only [Act.put, List.setIfInBounds_toArray, List.set_cons_succ, List.set_cons_zero]
            refine wpT_valp 130 (v := .bool false) rfl rfl rfl (by go_simp) ?_
            dsimp only [wpT]
            try simp only [Act.put, List.setIfInBounds_toArray, List.set_cons_succ, List.set_cons_zero]
            go_wp2_with fail
            go_roundw
            case rel =>
              refine ⟨i + 1, Sh.nx l, n + 1, by omega, by omega, rfl, by simp [hl, nxk_len], by omega, by omega, M28.sub ?_⟩
              repeat first | exact List.Sublist.refl _ | apply List.Sublist.cons
            case measure => simp [intOf]; omega
        · skip
          refine wp_region_lin (.op 0 (.op 1 (.op 2 (.op 3 (.op 4 .done))))) (by rfl) ?_
          refine wpT_valp 55 (v := .slice (some ⟨lb, lo, none⟩) xs.length lc) rfl rfl rfl (by go_simp) ?_
          refine wpT_valp 56 (v := .int .i64 i) rfl rfl rfl (by go_simp) ?_
          refine wpT_valp 57 (v := .pointer (some ⟨lb, lo + i, none⟩)) rfl rfl rfl (by go_simp) ?_
          refine wpT_valp 58 (v := .int .i64 x) rfl rfl rfl (by have c0 := HI.out _ _ M; go_simp) ?_
          try simp only [Act.put, List.setIfInBounds_toArray, List.set_cons_succ, List.set_cons_zero]
          refine wpT_valp 59 (v := .bool false) rfl rfl rfl (by go_simp) ?_
          dsimp only [wpT]
          try simp only [Act.put, List.setIfInBounds_toArray, List.set_cons_succ, List.set_cons_zero]
          go_upto_region 16 with fail
          by_cases hN : x < n
          · skip
            refine wp_region_lin (.op 0 (.op 1 (.op 2 (.op 3 (.op 4 (.op 5 (.op 6 (.op 7 (.op 8 (.op 9 (.op 10 .done))))))))))) (by rfl) ?_
            refine wpT_valp 88 (v := .pointer (some ⟨gc, 0, none⟩)) rfl rfl rfl (by go_simp) ?_
            refine wpT_valp 89 (v := .slice (some ⟨lb, lo, none⟩) xs.length lc) rfl rfl rfl (by go_simp) ?_
            refine wpT_valp 90 (v := .int .i64 i) rfl rfl rfl (by go_simp) ?_
            refine wpT_valp 91 (v := .pointer (some ⟨lb, lo + i, none⟩)) rfl rfl rfl (by go_simp) ?_
            try simp only [Act.put, List.setIfInBounds_toArray, List.set_cons_succ, List.set_cons_zero]
            refine wpT_valp 92 (v := .int .i64 x) rfl rfl rfl (by have c0 := HI.out _ _ M; go_simp) ?_
            refine wpT_callm 93 M 1 (C' := CR l n) (v := .tuple #[.slice none 0 0, .int .i64 13]) rfl rfl rfl rfl (by go_simp) (upto_old wr gc l n x (M.loc' (k := 1) rfl) hN hl) (fun w1 M2 _ => ?_)
            dsimp only [List.set] at M2
            refine wpT_valp 87 (v := .tuple #[.slice none 0 0, .int .i64 13]) rfl rfl rfl (by go_simp) ?_
            refine wpT_valp 94 (v := .slice none 0 0) rfl rfl rfl (by go_simp) ?_
            refine wpT_valp 95 (v := .int .i64 13) rfl rfl rfl (by go_simp) ?_
            try simp only [Act.put, List.setIfInBounds_toArray, List.set_cons_succ, List.set_cons_zero]
            refine wpT_valp 17 (v := .slice none 0 0) rfl rfl rfl (by go_simp) ?_
            refine wpT_valp 18 (v := .int .i64 13) rfl rfl rfl (by go_simp) ?_
            dsimp only [wpT]
            try simp only [Act.put, List.setIfInBounds_toArray, List.set_cons_succ, List.set_cons_zero]
            go_upto_region 17 with fail
            refine wp_region_seq 11 [97, 98, 99, 100, 101, 102, 96, 103, 104, 105, 19] [] [8, 9] [] (.op 11 (.op 12 (.op 13 .done))) (Mm no w _) (by kernel_rfl) (by kernel_rfl) (by kernel_rfl) (fun d _ _ _ _ h => by cases d <;> exact h) (by rfl) M2.size (fun _ _ h k => h.sf k) M2 ?_
            simp only [List.take_succ_cons, List.take_zero]
            refine SeqA.ld0 Tryd.underlying68 rfl inf_rch (gm) (RC l n) rfl (by go_simp) (fun _ M => M.row (by simp)) (by simp [ha, hl]) rfl ?_
            refine SeqA.pure (.slice (some ⟨lb, lo, none⟩) xs.length lc) (fun w' => by go_simp) rfl rfl ?_
            refine SeqA.pure (.int .i64 i) (fun w' => by go_simp) rfl rfl ?_
            refine SeqA.pure (.pointer (some ⟨lb, lo + i, none⟩)) (fun w' => by go_simp) rfl rfl ?_
            refine SeqA.read (.int .i64 x) (fun w' M => by have c0 := HI.out _ _ M; go_simp) rfl rfl ?_
            simp only [Act.put, List.setIfInBounds_toArray, List.set_cons_succ, List.set_cons_zero]
            refine SeqA.call _ _ _ (fun w' => by go_simp) (fun w' hI _ => rupto_old w' l n x hN hl) M2.size rfl rfl ?_
            refine SeqA.pure (.tuple #[.agg (RC l n), .slice none 0 0, .int .i64 13]) (fun w' => by go_simp) rfl rfl ?_
            refine SeqA.pure (.agg (RC l n)) (fun w' => by go_simp) rfl rfl ?_
            refine SeqA.pure (.slice none 0 0) (fun w' => by go_simp) rfl rfl ?_
            refine SeqA.pure (.int .i64 13) (fun w' => by go_simp) rfl rfl ?_
            refine SeqA.var (z := .agg (RC (zs 32) 0)) (by kernel_rfl) rfl rfl (by decide) rfl ?_
            refine SeqA.nil (fun w3 M4 hz => ?_)
            refine news_one (fun b5 hb1 hb2 hb3 => ?_)
            have M6 := M2.in_ (c := RC (zs 32) 0) M4 hb1 hb2 (by decide) hb3 rfl
            show wpT _ _ _ _ _ _
            simp only [Act.put, List.setIfInBounds_toArray, List.set_cons_succ, List.set_cons_zero]
            refine wpT_st0 M6 0 (RC l n) inf_rch rfl rfl rfl rfl (by go_simp) (by go_simp) (by simp [ha, hl]) (by simp [ha, hl]) (by simp [go_sem]) rfl (fun w7 M8 => ?_)
            dsimp only [List.set] at M8
            refine wpT_vald 20 (v := .slice none 0 0) rfl rfl rfl rfl ?_
            refine wpT_vald 21 (v := .int .i64 13) rfl rfl rfl rfl ?_
            dsimp only [wpT]
            simp only [Act.put, List.setIfInBounds_toArray, List.set_cons_succ, List.set_cons_zero]
            go_upto_region 18 with fail
            refine wp_region_lin (.op 0 (.op 1 .done)) (by rfl) ?_
            refine wpT_ld0 106 Tryd.underlying68 rfl inf_rch (b5) (RC l n) rfl rfl rfl (by go_simp) (M8.row (by simp)) (by simp [ha, hl]) rfl ?_
            refine wpT_st0 M8 1 (RC l n) inf_rch rfl rfl rfl rfl (by go_simp) (by go_simp) (by simp [ha, hl]) (by simp [ha, hl]) (by simp [go_sem]) rfl (fun w9 M10 => ?_)
            dsimp only [List.set] at M10
            dsimp only [wpT]
            try simp only [Act.put, List.setIfInBounds_toArray, List.set_cons_succ, List.set_cons_zero]
            go_upto_region 19 with fail
            refine wp_region_lin (.op 0 (.op 1 (.op 2 (.op 3 (.op 4 (.op 5 (.op 6 (.op 7 (.op 8 .done))))))))) (by rfl) ?_
            refine wpT_valp 107 (v := .slice none 0 0) rfl rfl rfl (by go_simp) ?_
            refine wpT_valp 108 (v := .slice none 0 0) rfl rfl rfl (by go_simp) ?_
            refine wpT_callv 109 M10 (v := .bool true) rfl rfl rfl (by go_simp) (same_t w9 (.slice none 0 0) (.slice none 0 0) [] (KS.nil _) (KS.nil _)) (fun w11 M12 => ?_)
            refine wpT_valp 110 (v := .bool false) rfl rfl rfl (by go_simp) ?_
            try simp only [Act.put, List.setIfInBounds_toArray, List.set_cons_succ, List.set_cons_zero]
            refine wpT_valp 111 (v := .bool false) rfl rfl rfl (by go_simp) ?_
            refine wpT_valp 112 (v := .int .i64 13) rfl rfl (by simp [Region.wanted, yielded, Act.put]) (by go_simp) ?_
            refine wpT_valp 113 (v := .int .i64 13) rfl rfl (by simp [Region.wanted, yielded, Act.put]) (by go_simp) ?_
            refine wpT_valp 114 (v := .bool false) rfl rfl (by simp [Region.wanted, yielded, Act.put]) (by go_simp) ?_
            refine wpT_valp 115 (v := .bool false) rfl rfl rfl (by go_simp) ?_
            dsimp only [wpT]
            try simp only [Act.put, List.setIfInBounds_toArray, List.set_cons_succ, List.set_cons_zero]
            go_upto_region 21 with fail
            refine wp_region_lin (.op 0 (.op 1 (.op 2 (.op 3 (.op 4 (.op 5 (.op 6 (.op 7 .done)))))))) (by rfl) ?_
            refine wpT_valp 117 (v := .pointer (some ⟨gc, 0, none⟩)) rfl rfl rfl (by go_simp) ?_
            refine wpT_callm 118 M12 2 (C' := CR l n) (v := .tuple #[.agg (cs U8 l), .int .i64 n]) rfl rfl rfl rfl (by go_simp) (at_m w11 gc l n (M12.loc' (k := 2) rfl) (by simp [ha, hl])) (fun w13 M14 _ => ?_)
            dsimp only [List.set] at M14
            refine wpT_valp 116 (v := .tuple #[.agg (cs U8 l), .int .i64 n]) rfl rfl rfl (by go_simp) ?_
            refine wpT_valp 119 (v := .agg (cs U8 l)) rfl rfl rfl (by go_simp) ?_
            try simp only [Act.put, List.setIfInBounds_toArray, List.set_cons_succ, List.set_cons_zero]
            refine wpT_valp 120 (v := .int .i64 n) rfl rfl rfl (by go_simp) ?_
            refine wpT_new (z := .agg (cs U8 (zs 32))) 22 M14 (by kernel_rfl) (by decide) rfl rfl rfl rfl (fun b15 w16 M17 => ?_)
            try dsimp only [Value.cells] at M17
            refine wpT_st0 M17 0 (cs U8 l) inf_key rfl rfl rfl rfl (by go_simp) (by go_simp) (by simp [ha, hl]) (by simp [ha, hl]) (by simp [go_sem]) rfl (fun w18 M19 => ?_)
            dsimp only [List.set] at M19
            refine wpT_valp 23 (v := .int .i64 n) rfl rfl rfl (by go_simp) ?_
            dsimp only [wpT]
            try simp only [Act.put, List.setIfInBounds_toArray, List.set_cons_succ, List.set_cons_zero]
            go_upto_region 22 with fail
            refine wp_region_lin (.op 0 (.op 1 (.op 2 (.op 3 (.op 4 (.op 5 (.op 6 (.op 7 (.op 8 (.op 9 .done)))))))))) (by rfl) ?_
            refine wpT_ld0 121 Tryd.underlying25 rfl inf_key (b15) (cs U8 l) rfl rfl rfl (by go_simp) (M19.row (by simp)) (by simp [ha, hl]) rfl ?_
            refine wpT_valp 122 (v := .pointer (some ⟨gm, 0, none⟩)) rfl rfl rfl (by go_simp) ?_
            refine wpT_ldm 123 Tryd.underlying25 rfl inf_key (gm) 0 (RC l n) (cs U8 l) rfl rfl rfl (by go_simp) (M19.row (by simp)) (by simp [ha, hl]) (rc_key (by simp [ha, hl])) rfl ?_
            refine wpT_valp 124 (v := .bool false) rfl rfl rfl (by have q := eqL w18 l (by simp [ha, hl]); go_simp) ?_
            try simp only [Act.put, List.setIfInBounds_toArray, List.set_cons_succ, List.set_cons_zero]
            refine wpT_valp 125 (v := .bool false) rfl rfl rfl (by go_simp) ?_
            refine wpT_valp 126 (v := .int .i64 n) rfl rfl (by simp [Region.wanted, yielded, Act.put]) (by go_simp) ?_
            refine wpT_valp 127 (v := .pointer (some ⟨gm, 32, none⟩)) rfl rfl (by simp [Region.wanted, yielded, Act.put]) (by go_simp) ?_
            refine wpT_valp 128 (v := .int .i64 n) rfl rfl (by simp [Region.wanted, yielded, Act.put]) (by have c0 := rrow_32 (by simp [ha, hl]) (M19.row (b := gm) (c := RC l n) (by simp)); go_simp) ?_
            refine wpT_valp 129 (v := .bool false) rfl rfl (by simp [Region.wanted, yielded, Act.put]) (by go_simp) ?_
            try simp only [Act.put, List.setIfInBounds_toArray, List.set_cons_succ, List.set_cons_zero]
            refine wpT_valp 130 (v := .bool false) rfl rfl rfl (by go_simp) ?_
            dsimp only [wpT]
            try simp only [Act.put, List.setIfInBounds_toArray, List.set_cons_succ, List.set_cons_zero]
            go_wp2_with fail
            go_roundw
            case rel =>
              refine ⟨i + 1, l, n, by omega, by omega, rfl, by simp [hl, nxk_len], by omega, by omega, M19.sub ?_⟩
              repeat first | exact List.Sublist.refl _ | apply List.Sublist.cons
            case measure => simp [intOf]; omega
          · by_cases hN2 : 65535 < x ∨ n + 16 < x
            · have hN := hN2
              refine wp_region_lin (.op 0 (.op 1 (.op 2 (.op 3 (.op 4 (.op 5 (.op 6 (.op 7 (.op 8 (.op 9 (.op 10 .done))))))))))) (by rfl) ?_
              refine wpT_valp 88 (v := .pointer (some ⟨gc, 0, none⟩)) rfl rfl rfl (by go_simp) ?_
              refine wpT_valp 89 (v := .slice (some ⟨lb, lo, none⟩) xs.length lc) rfl rfl rfl (by go_simp) ?_
              refine wpT_valp 90 (v := .int .i64 i) rfl rfl rfl (by go_simp) ?_
              refine wpT_valp 91 (v := .pointer (some ⟨lb, lo + i, none⟩)) rfl rfl rfl (by go_simp) ?_
              try simp only [Act.put, List.setIfInBounds_toArray, List.set_cons_succ, List.set_cons_zero]
              refine wpT_valp 92 (v := .int .i64 x) rfl rfl rfl (by have c0 := HI.out _ _ M; go_simp) ?_
              refine wpT_callm 93 M 1 (C' := CR l n) (v := .tuple #[.slice none 0 0, .int .i64 3]) rfl rfl rfl rfl (by go_simp) (upto_big wr gc l n x (M.loc' (k := 1) rfl) h0 h65 hN hl) (fun w1 M2 _ => ?_)
              dsimp only [List.set] at M2
              refine wpT_valp 87 (v := .tuple #[.slice none 0 0, .int .i64 3]) rfl rfl rfl (by go_simp) ?_
              refine wpT_valp 94 (v := .slice none 0 0) rfl rfl rfl (by go_simp) ?_
              refine wpT_valp 95 (v := .int .i64 3) rfl rfl rfl (by go_simp) ?_
              try simp only [Act.put, List.setIfInBounds_toArray, List.set_cons_succ, List.set_cons_zero]
              refine wpT_valp 17 (v := .slice none 0 0) rfl rfl rfl (by go_simp) ?_
              refine wpT_valp 18 (v := .int .i64 3) rfl rfl rfl (by go_simp) ?_
              dsimp only [wpT]
              try simp only [Act.put, List.setIfInBounds_toArray, List.set_cons_succ, List.set_cons_zero]
              go_upto_region 17 with fail
              refine wp_region_seq 11 [97, 98, 99, 100, 101, 102, 96, 103, 104, 105, 19] [] [8, 9] [] (.op 11 (.op 12 (.op 13 .done))) (Mm no w _) (by kernel_rfl) (by kernel_rfl) (by kernel_rfl) (fun d _ _ _ _ h => by cases d <;> exact h) (by rfl) M2.size (fun _ _ h k => h.sf k) M2 ?_
              simp only [List.take_succ_cons, List.take_zero]
              refine SeqA.ld0 Tryd.underlying68 rfl inf_rch (gm) (RC l n) rfl (by go_simp) (fun _ M => M.row (by simp)) (by simp [ha, hl]) rfl ?_
              refine SeqA.pure (.slice (some ⟨lb, lo, none⟩) xs.length lc) (fun w' => by go_simp) rfl rfl ?_
              refine SeqA.pure (.int .i64 i) (fun w' => by go_simp) rfl rfl ?_
              refine SeqA.pure (.pointer (some ⟨lb, lo + i, none⟩)) (fun w' => by go_simp) rfl rfl ?_
              refine SeqA.read (.int .i64 x) (fun w' M => by have c0 := HI.out _ _ M; go_simp) rfl rfl ?_
              simp only [Act.put, List.setIfInBounds_toArray, List.set_cons_succ, List.set_cons_zero]
              refine SeqA.call _ _ _ (fun w' => by go_simp) (fun w' hI _ => rupto_big w' l n x h0 h65 hN hl) M2.size rfl rfl ?_
              refine SeqA.pure (.tuple #[.agg (RC l n), .slice none 0 0, .int .i64 3]) (fun w' => by go_simp) rfl rfl ?_
              refine SeqA.pure (.agg (RC l n)) (fun w' => by go_simp) rfl rfl ?_
              refine SeqA.pure (.slice none 0 0) (fun w' => by go_simp) rfl rfl ?_
              refine SeqA.pure (.int .i64 3) (fun w' => by go_simp) rfl rfl ?_
              refine SeqA.var (z := .agg (RC (zs 32) 0)) (by kernel_rfl) rfl rfl (by decide) rfl ?_
              refine SeqA.nil (fun w3 M4 hz => ?_)
              refine news_one (fun b5 hb1 hb2 hb3 => ?_)
              have M6 := M2.in_ (c := RC (zs 32) 0) M4 hb1 hb2 (by decide) hb3 rfl
              show wpT _ _ _ _ _ _
              simp only [Act.put, List.setIfInBounds_toArray, List.set_cons_succ, List.set_cons_zero]
              refine wpT_st0 M6 0 (RC l n) inf_rch rfl rfl rfl rfl (by go_simp) (by go_simp) (by simp [ha, hl]) (by simp [ha, hl]) (by simp [go_sem]) rfl (fun w7 M8 => ?_)
              dsimp only [List.set] at M8
              refine wpT_vald 20 (v := .slice none 0 0) rfl rfl rfl rfl ?_
              refine wpT_vald 21 (v := .int .i64 3) rfl rfl rfl rfl ?_
              dsimp only [wpT]
              simp only [Act.put, List.setIfInBounds_toArray, List.set_cons_succ, List.set_cons_zero]
              go_upto_region 18 with fail
              refine wp_region_lin (.op 0 (.op 1 .done)) (by rfl) ?_
              refine wpT_ld0 106 Tryd.underlying68 rfl inf_rch (b5) (RC l n) rfl rfl rfl (by go_simp) (M8.row (by simp)) (by simp [ha, hl]) rfl ?_
              refine wpT_st0 M8 1 (RC l n) inf_rch rfl rfl rfl rfl (by go_simp) (by go_simp) (by simp [ha, hl]) (by simp [ha, hl]) (by simp [go_sem]) rfl (fun w9 M10 => ?_)
              dsimp only [List.set] at M10
              dsimp only [wpT]
              try simp only [Act.put, List.setIfInBounds_toArray, List.set_cons_succ, List.set_cons_zero]
              go_upto_region 19 with fail
              refine wp_region_lin (.op 0 (.op 1 (.op 2 (.op 3 (.op 4 (.op 5 (.op 6 (.op 7 (.op 8 .done))))))))) (by rfl) ?_
              refine wpT_valp 107 (v := .slice none 0 0) rfl rfl rfl (by go_simp) ?_
              refine wpT_valp 108 (v := .slice none 0 0) rfl rfl rfl (by go_simp) ?_
              refine wpT_callv 109 M10 (v := .bool true) rfl rfl rfl (by go_simp) (same_t w9 (.slice none 0 0) (.slice none 0 0) [] (KS.nil _) (KS.nil _)) (fun w11 M12 => ?_)
              refine wpT_valp 110 (v := .bool false) rfl rfl rfl (by go_simp) ?_
              try simp only [Act.put, List.setIfInBounds_toArray, List.set_cons_succ, List.set_cons_zero]
              refine wpT_valp 111 (v := .bool false) rfl rfl rfl (by go_simp) ?_
              refine wpT_valp 112 (v := .int .i64 3) rfl rfl (by simp [Region.wanted, yielded, Act.put]) (by go_simp) ?_
              refine wpT_valp 113 (v := .int .i64 3) rfl rfl (by simp [Region.wanted, yielded, Act.put]) (by go_simp) ?_
              refine wpT_valp 114 (v := .bool false) rfl rfl (by simp [Region.wanted, yielded, Act.put]) (by go_simp) ?_
              refine wpT_valp 115 (v := .bool false) rfl rfl rfl (by go_simp) ?_
              dsimp only [wpT]
              try simp only [Act.put, List.setIfInBounds_toArray, List.set_cons_succ, List.set_cons_zero]
              go_upto_region 21 with fail
              refine wp_region_lin (.op 0 (.op 1 (.op 2 (.op 3 (.op 4 (.op 5 (.op 6 (.op 7 .done)))))))) (by rfl) ?_
              refine wpT_valp 117 (v := .pointer (some ⟨gc, 0, none⟩)) rfl rfl rfl (by go_simp) ?_
              refine wpT_callm 118 M12 2 (C' := CR l n) (v := .tuple #[.agg (cs U8 l), .int .i64 n]) rfl rfl rfl rfl (by go_simp) (at_m w11 gc l n (M12.loc' (k := 2) rfl) (by simp [ha, hl])) (fun w13 M14 _ => ?_)
              dsimp only [List.set] at M14
              refine wpT_valp 116 (v := .tuple #[.agg (cs U8 l), .int .i64 n]) rfl rfl rfl (by go_simp) ?_
              refine wpT_valp 119 (v := .agg (cs U8 l)) rfl rfl rfl (by go_simp) ?_
              try simp only [Act.put, List.setIfInBounds_toArray, List.set_cons_succ, List.set_cons_zero]
              refine wpT_valp 120 (v := .int .i64 n) rfl rfl rfl (by go_simp) ?_
              refine wpT_new (z := .agg (cs U8 (zs 32))) 22 M14 (by kernel_rfl) (by decide) rfl rfl rfl rfl (fun b15 w16 M17 => ?_)
              try dsimp only [Value.cells] at M17
              refine wpT_st0 M17 0 (cs U8 l) inf_key rfl rfl rfl rfl (by go_simp) (by go_simp) (by simp [ha, hl]) (by simp [ha, hl]) (by simp [go_sem]) rfl (fun w18 M19 => ?_)
              dsimp only [List.set] at M19
              refine wpT_valp 23 (v := .int .i64 n) rfl rfl rfl (by go_simp) ?_
              dsimp only [wpT]
              try simp only [Act.put, List.setIfInBounds_toArray, List.set_cons_succ, List.set_cons_zero]
              go_upto_region 22 with fail
              refine wp_region_lin (.op 0 (.op 1 (.op 2 (.op 3 (.op 4 (.op 5 (.op 6 (.op 7 (.op 8 (.op 9 .done)))))))))) (by rfl) ?_
              refine wpT_ld0 121 Tryd.underlying25 rfl inf_key (b15) (cs U8 l) rfl rfl rfl (by go_simp) (M19.row (by simp)) (by simp [ha, hl]) rfl ?_
              refine wpT_valp 122 (v := .pointer (some ⟨gm, 0, none⟩)) rfl rfl rfl (by go_simp) ?_
              refine wpT_ldm 123 Tryd.underlying25 rfl inf_key (gm) 0 (RC l n) (cs U8 l) rfl rfl rfl (by go_simp) (M19.row (by simp)) (by simp [ha, hl]) (rc_key (by simp [ha, hl])) rfl ?_
              refine wpT_valp 124 (v := .bool false) rfl rfl rfl (by have q := eqL w18 l (by simp [ha, hl]); go_simp) ?_
              try simp only [Act.put, List.setIfInBounds_toArray, List.set_cons_succ, List.set_cons_zero]
              refine wpT_valp 125 (v := .bool false) rfl rfl rfl (by go_simp) ?_
              refine wpT_valp 126 (v := .int .i64 n) rfl rfl (by simp [Region.wanted, yielded, Act.put]) (by go_simp) ?_
              refine wpT_valp 127 (v := .pointer (some ⟨gm, 32, none⟩)) rfl rfl (by simp [Region.wanted, yielded, Act.put]) (by go_simp) ?_
              refine wpT_valp 128 (v := .int .i64 n) rfl rfl (by simp [Region.wanted, yielded, Act.put]) (by have c0 := rrow_32 (by simp [ha, hl]) (M19.row (b := gm) (c := RC l n) (by simp)); go_simp) ?_
              refine wpT_valp 129 (v := .bool false) rfl rfl (by simp [Region.wanted, yielded, Act.put]) (by go_simp) ?_
              try simp only [Act.put, List.setIfInBounds_toArray, List.set_cons_succ, List.set_cons_zero]
              refine wpT_valp 130 (v := .bool false) rfl rfl rfl (by go_simp) ?_
              dsimp only [wpT]
              try simp only [Act.put, List.setIfInBounds_toArray, List.set_cons_succ, List.set_cons_zero]
              go_wp2_with fail
              go_roundw
              case rel =>
                refine ⟨i + 1, l, n, by omega, by omega, rfl, by simp [hl, nxk_len], by omega, by omega, M19.sub ?_⟩
                repeat first | exact List.Sublist.refl _ | apply List.Sublist.cons
              case measure => simp [intOf]; omega
            · obtain ⟨m, hm0⟩ : ∃ m : Nat, m = (x - n).toNat := ⟨_, rfl⟩
              have hm : m ≤ 16 := by omega
              have hN3 : x = n + m := by omega
              have hx : x ≤ 65535 := by omega
              clear hN hN2 hm0
              have hN := hN3
              clear hN3
              have hlm := nxk_len hl m
              refine wp_region_lin (.op 0 (.op 1 (.op 2 (.op 3 (.op 4 (.op 5 (.op 6 (.op 7 (.op 8 (.op 9 (.op 10 .done))))))))))) (by rfl) ?_
              refine wpT_valp 88 (v := .pointer (some ⟨gc, 0, none⟩)) rfl rfl rfl (by go_simp) ?_
              refine wpT_valp 89 (v := .slice (some ⟨lb, lo, none⟩) xs.length lc) rfl rfl rfl (by go_simp) ?_
              refine wpT_valp 90 (v := .int .i64 i) rfl rfl rfl (by go_simp) ?_
              refine wpT_valp 91 (v := .pointer (some ⟨lb, lo + i, none⟩)) rfl rfl rfl (by go_simp) ?_
              try simp only [Act.put, List.setIfInBounds_toArray, List.set_cons_succ, List.set_cons_zero]
              refine wpT_valp 92 (v := .int .i64 x) rfl rfl rfl (by have c0 := HI.out _ _ M; go_simp) ?_
              have hsz := M.lt (b := gc) (c := CR l n) (by simp)
              have hszm := M.lt (b := gm) (c := RC l n) (by simp)
              have hszw := M.lt (b := w.heap.size) (c := cs U8 a) (by simp)
              refine wpT_calld 93 rfl rfl rfl (by go_simp) (upto_m wr gc l n x m (HK.out _ _ M).1 (HK.out _ _ M).2 (by omega) (M.loc' (k := 1) rfl) h0 hN hm hx hl) ?_
              rintro e w1 ⟨v, rfl, O, Nw1⟩
              have M2 := M.back' (k := 1) rfl Nw1
              dsimp only [List.set] at M2
              obtain ⟨av, vc, rfl⟩ := O.shape m (msk_len _ _)
              refine ⟨_, rfl, ?_⟩
              refine wpT_valp 87 (v := .tuple #[.slice av m vc, .int .i64 0]) rfl rfl rfl (by go_simp) ?_
              refine wpT_valp 94 (v := .slice av m vc) rfl rfl rfl (by go_simp) ?_
              refine wpT_valp 95 (v := .int .i64 0) rfl rfl rfl (by go_simp) ?_
              try simp only [Act.put, List.setIfInBounds_toArray, List.set_cons_succ, List.set_cons_zero]
              refine wpT_valp 17 (v := .slice av m vc) rfl rfl rfl (by go_simp) ?_
              refine wpT_valp 18 (v := .int .i64 0) rfl rfl rfl (by go_simp) ?_
              dsimp only [wpT]
              try simp only [Act.put, List.setIfInBounds_toArray, List.set_cons_succ, List.set_cons_zero]
              go_upto_region 17 with fail
              obtain ⟨S, MR, hS, hT⟩ := M2.rebase
              have hsep : ∀ g, (Value.slice av m vc).ownBlock = some g → ¬ S g := fun g hg h => by
                have h1 := (O.at_ g hg).1
                have h2 := hS g h
                simp at h2
                omega
              have HV := hid (fun H w' (M : Mm S w1 H w') => (O.fr M.fr hsep).ks)
              have HI := hid (fun H w' (M : Mm S w1 H w') => HI.out _ _ (hT _ _ M))
              have HT := hid hT
              have hw1 := M2.lt (b := gc) (c := CR (Sh.nxk l m) x) (by simp)
              have hw2 := M2.lt (b := gm) (c := RC l n) (by simp)
              have hw3 := M2.lt (b := w.heap.size) (c := cs U8 a) (by simp)
              clear hsep O hT M2 M Nw1 hS
              refine wp_region_X (fun v => v.rowOf gm = RC l n ∧ v.cell? ⟨lb, lo + i, none⟩ = some (.int .i64 x)) (.yld [0, 1, 2, 3, 4] (.two 5 (.yld [6, 7, 8, 9] (.op 10 (.op 11 (.op 12 (.op 13 .done))))) 10 (.op 5 (.yld [6, 7, 8, 9] (.op 11 (.op 12 (.op 13 .done))))))) (by kernel_rfl) (by kernel_rfl) (by kernel_rfl) (fun d _ _ _ _ h => by cases d <;> exact h) ?_
              refine wpX_yld ?_
              refine wpYJd_ld 97 Tryd.underlying68 rfl inf_rch gm (RC l n) rfl rfl rfl (by go_simp) (fun _ h => h.1) (by simp [hl]) rfl ?_
              refine wpYJd_op 98 (.slice (some ⟨lb, lo, none⟩) xs.length lc) rfl rfl rfl (fun w1 _ => by go_simp) ?_
              refine wpYJd_op 99 (.int .i64 i) rfl rfl rfl (fun w1 _ => by go_simp) ?_
              refine wpYJd_op 100 (.pointer (some ⟨lb, lo + i, none⟩)) rfl rfl rfl (fun w1 _ => by go_simp) ?_
              refine wpYJd_op 101 (.int .i64 x) rfl rfl rfl (fun w1 h => by have c0 := h.2; clear h; go_simp) ?_
              show wpX _ _ _ _ _ _ _
              try simp only [Act.put, List.setIfInBounds_toArray, List.set_cons_succ, List.set_cons_zero]
              have M3 := MR.drewN 1
              change wpX _ _ _ _ _ _ (w1.drewN 1)
              obtain ⟨w3, hw3'⟩ : ∃ w3, w3 = w1.drewN 1 := ⟨_, rfl⟩
              have hz3 : w3.heap.size = w1.heap.size := by rw [hw3']; rfl
              rw [← hw3'] at M3 ⊢
              clear hw3' MR
              apply meet4 (P := fun (au : Option Addr) (cu b : Nat) (w' : World) => Mm S w1 [(b, RC (Sh.nxk l m) x), (gm, RC l n), (gc, CR (Sh.nxk l m) x), (w.heap.size, cs U8 a)] w' ∧ (∃ B, KO w' B (.slice au m cu) (Sh.msk l m)) ∧ ∀ g, (Value.slice au m cu).ownBlock = some g → g ≠ b ∧ g ≠ gm ∧ g ≠ gc ∧ g ≠ w.heap.size)
              case h1 =>
                intro rest
                refine ⟨⟨M3.row (by simp), HI.out _ _ M3⟩, ?_, ?_⟩
                · refine callX 102 rfl rfl rfl (by go_simp) (rupto_m w3 l n x m h0 hN hm hx hl) ?_
                  rintro e w4 ⟨u, rfl, O4, hb4⟩
                  obtain ⟨au, cu, rfl⟩ := O4.shape m (msk_len _ _)
                  refine ⟨_, rfl, ?_⟩
                  have hz4 := hb4.size
                  obtain ⟨S4, M4, hS4, hT4⟩ := (M3.below hb4).rebase
                  show wpX _ _ _ _ _ _ _
                  refine wpX_yld ?_
                  refine wpYJd_op 96 (.tuple #[.agg (RC (Sh.nxk l m) x), .slice au m cu, .int .i64 0]) rfl rfl rfl (fun w1 _ => by go_simp) ?_
                  refine wpYJd_op 103 (.agg (RC (Sh.nxk l m) x)) rfl rfl rfl (fun w1 _ => by go_simp) ?_
                  refine wpYJd_op 104 (.slice au m cu) rfl rfl rfl (fun w1 _ => by go_simp) ?_
                  refine wpYJd_op 105 (.int .i64 0) rfl rfl rfl (fun w1 _ => by go_simp) ?_
                  show wpX _ _ _ _ _ _ _
                  try simp only [Act.put, List.setIfInBounds_toArray, List.set_cons_succ, List.set_cons_zero]
                  refine ⟨⟨M4.row (by simp), HI.out _ _ (hT4 _ _ M4)⟩, newX (z := .agg (RC (zs 32) 0)) 19 M4 (by kernel_rfl) (by decide) rfl rfl rfl rfl (fun b w5 M5 B5 L5 => ?_)⟩
                  try dsimp only [Value.cells] at M5
                  refine ⟨⟨M5.row (by simp), HI.out _ _ (hT4 _ _ M5)⟩, ?_⟩
                  refine st0X M5 0 (RC (Sh.nxk l m) x) inf_rch rfl rfl rfl rfl (by go_simp) (by go_simp) (by simp) (by simp [hlm]) (by simp [go_sem]) rfl (fun w6 M6 => ?_)
                  dsimp only [List.set] at M6
                  refine ⟨⟨M6.row (by simp), HI.out _ _ (hT4 _ _ M6)⟩, stepX (v := .slice au m cu) (w' := w6) 20 rfl rfl rfl (by go_simp) ?_⟩
                  refine ⟨⟨M6.row (by simp), HI.out _ _ (hT4 _ _ M6)⟩, stepX (v := .int .i64 0) (w' := w6) 21 rfl rfl rfl (by go_simp) ?_⟩
                  refine ⟨⟨M6.row (by simp), HI.out _ _ (hT4 _ _ M6)⟩, ?_⟩
                  try simp only [Act.put, List.setIfInBounds_toArray, List.set_cons_succ, List.set_cons_zero]
                  refine rest au cu b w6 ⟨hT4 _ _ M6, ⟨_, O4.fr M6.fr (fun g hg h => ?_)⟩, fun g hg => ?_⟩
                  · have h1 := O4.at_ g hg
                    have h2 := hS4 g h
                    simp at h2
                    omega
                  · have h1 := O4.at_ g hg
                    omega
                · refine newX (z := .agg (RC (zs 32) 0)) 19 M3 (by kernel_rfl) (by decide) rfl rfl rfl rfl (fun b w4a M4a B5 L5 => ?_)
                  try dsimp only [Value.cells] at M4a
                  refine ⟨⟨M4a.row (by simp), HI.out _ _ M4a⟩, ?_⟩
                  have hz4a := B5.size
                  have hb4a := M4a.lt (b := b) (c := RC (zs 32) 0) (by simp)
                  refine callX 102 rfl rfl rfl (by go_simp) (rupto_m w4a l n x m h0 hN hm hx hl) ?_
                  rintro e w4 ⟨u, rfl, O4, hb4⟩
                  obtain ⟨au, cu, rfl⟩ := O4.shape m (msk_len _ _)
                  refine ⟨_, rfl, ?_⟩
                  have hz4 := hb4.size
                  obtain ⟨S4, M5, hS4, hT4⟩ := (M4a.below hb4).rebase
                  show wpX _ _ _ _ _ _ _
                  refine wpX_yld ?_
                  refine wpYJd_op 96 (.tuple #[.agg (RC (Sh.nxk l m) x), .slice au m cu, .int .i64 0]) rfl rfl rfl (fun w1 _ => by go_simp) ?_
                  refine wpYJd_op 103 (.agg (RC (Sh.nxk l m) x)) rfl rfl rfl (fun w1 _ => by go_simp) ?_
                  refine wpYJd_op 104 (.slice au m cu) rfl rfl rfl (fun w1 _ => by go_simp) ?_
                  refine wpYJd_op 105 (.int .i64 0) rfl rfl rfl (fun w1 _ => by go_simp) ?_
                  show wpX _ _ _ _ _ _ _
                  try simp only [Act.put, List.setIfInBounds_toArray, List.set_cons_succ, List.set_cons_zero]
                  refine ⟨⟨M5.row (by simp), HI.out _ _ (hT4 _ _ M5)⟩, ?_⟩
                  refine st0X M5 0 (RC (Sh.nxk l m) x) inf_rch rfl rfl rfl rfl (by go_simp) (by go_simp) (by simp) (by simp [hlm]) (by simp [go_sem]) rfl (fun w6 M6 => ?_)
                  dsimp only [List.set] at M6
                  refine ⟨⟨M6.row (by simp), HI.out _ _ (hT4 _ _ M6)⟩, stepX (v := .slice au m cu) (w' := w6) 20 rfl rfl rfl (by go_simp) ?_⟩
                  refine ⟨⟨M6.row (by simp), HI.out _ _ (hT4 _ _ M6)⟩, stepX (v := .int .i64 0) (w' := w6) 21 rfl rfl rfl (by go_simp) ?_⟩
                  refine ⟨⟨M6.row (by simp), HI.out _ _ (hT4 _ _ M6)⟩, ?_⟩
                  try simp only [Act.put, List.setIfInBounds_toArray, List.set_cons_succ, List.set_cons_zero]
                  refine rest au cu b w6 ⟨hT4 _ _ M6, ⟨_, O4.fr M6.fr (fun g hg h => ?_)⟩, fun g hg => ?_⟩
                  · have h1 := O4.at_ g hg
                    have h2 := hS4 g h
                    simp at h2
                    omega
                  · have h1 := O4.at_ g hg
                    omega
              case h2 =>
                intro au cu bt wx0 hP
                obtain ⟨MX0, ⟨B, OU⟩, hsp⟩ := hP
                obtain ⟨S2, MX, hS2, hT2⟩ := MX0.rebase
                have HU := hid (fun H w' (M : Mm S2 wx0 H w') => (OU.fr M.fr (fun g hg h => by
                  obtain ⟨h1, h2, h3, h4⟩ := hsp g hg
                  have h5 := hS2 g h
                  simp at h5
                  omega)).ks)
                have HV := hid (fun H w' (M : Mm S2 wx0 H w') => HV.out _ _ (hT2 _ _ M))
                have HTT := hid (fun H w' (M : Mm S2 wx0 H w') => HT.out _ _ (hT2 _ _ M))
                clear MX0 OU hsp hS2 hT2
                obtain ⟨wx, hwx⟩ : ∃ wx, wx = wx0 := ⟨_, rfl⟩
                subst hwx
                go_upto_region 18 with fail
                refine wp_region_lin (.op 0 (.op 1 .done)) (by rfl) ?_
                refine wpT_ld0 106 Tryd.underlying68 rfl inf_rch (bt) (RC (Sh.nxk l m) x) rfl rfl rfl (by go_simp) (MX.row (by simp)) (by simp [ha, hl, hlm]) rfl ?_
                refine wpT_st0 MX 1 (RC (Sh.nxk l m) x) inf_rch rfl rfl rfl rfl (by go_simp) (by go_simp) (by simp [ha, hl, hlm]) (by simp [ha, hl, hlm]) (by simp [go_sem]) rfl (fun w1 M2 => ?_)
                dsimp only [List.set] at M2
                dsimp only [wpT]
                try simp only [Act.put, List.setIfInBounds_toArray, List.set_cons_succ, List.set_cons_zero]
                go_upto_region 19 with fail
                refine wp_region_lin (.op 0 (.op 1 (.op 2 (.op 3 (.op 4 (.op 5 (.op 6 (.op 7 (.op 8 .done))))))))) (by rfl) ?_
                refine wpT_valp 107 (v := .slice av m vc) rfl rfl rfl (by go_simp) ?_
                refine wpT_valp 108 (v := .slice au m cu) rfl rfl rfl (by go_simp) ?_
                refine wpT_callv 109 M2 (v := .bool true) rfl rfl rfl (by go_simp) (same_t w1 (.slice av m vc) (.slice au m cu) (Sh.msk l m) (HV.out _ _ M2) (HU.out _ _ M2)) (fun w3 M4 => ?_)
                refine wpT_valp 110 (v := .bool false) rfl rfl rfl (by go_simp) ?_
                try simp only [Act.put, List.setIfInBounds_toArray, List.set_cons_succ, List.set_cons_zero]
                refine wpT_valp 111 (v := .bool false) rfl rfl rfl (by go_simp) ?_
                refine wpT_valp 112 (v := .int .i64 0) rfl rfl (by simp [Region.wanted, yielded, Act.put]) (by go_simp) ?_
                refine wpT_valp 113 (v := .int .i64 0) rfl rfl (by simp [Region.wanted, yielded, Act.put]) (by go_simp) ?_
                refine wpT_valp 114 (v := .bool false) rfl rfl (by simp [Region.wanted, yielded, Act.put]) (by go_simp) ?_
                refine wpT_valp 115 (v := .bool false) rfl rfl rfl (by go_simp) ?_
                dsimp only [wpT]
                try simp only [Act.put, List.setIfInBounds_toArray, List.set_cons_succ, List.set_cons_zero]
                go_upto_region 21 with fail
                refine wp_region_lin (.op 0 (.op 1 (.op 2 (.op 3 (.op 4 (.op 5 (.op 6 (.op 7 .done)))))))) (by rfl) ?_
                refine wpT_valp 117 (v := .pointer (some ⟨gc, 0, none⟩)) rfl rfl rfl (by go_simp) ?_
                refine wpT_callm 118 M4 2 (C' := CR (Sh.nxk l m) x) (v := .tuple #[.agg (cs U8 (Sh.nxk l m)), .int .i64 x]) rfl rfl rfl rfl (by go_simp) (at_m w3 gc (Sh.nxk l m) x (M4.loc' (k := 2) rfl) (by simp [ha, hl, hlm])) (fun w5 M6 _ => ?_)
                dsimp only [List.set] at M6
                refine wpT_valp 116 (v := .tuple #[.agg (cs U8 (Sh.nxk l m)), .int .i64 x]) rfl rfl rfl (by go_simp) ?_
                refine wpT_valp 119 (v := .agg (cs U8 (Sh.nxk l m))) rfl rfl rfl (by go_simp) ?_
                try simp only [Act.put, List.setIfInBounds_toArray, List.set_cons_succ, List.set_cons_zero]
                refine wpT_valp 120 (v := .int .i64 x) rfl rfl rfl (by go_simp) ?_
                refine wpT_new (z := .agg (cs U8 (zs 32))) 22 M6 (by kernel_rfl) (by decide) rfl rfl rfl rfl (fun b7 w8 M9 => ?_)
                try dsimp only [Value.cells] at M9
                refine wpT_st0 M9 0 (cs U8 (Sh.nxk l m)) inf_key rfl rfl rfl rfl (by go_simp) (by go_simp) (by simp [ha, hl, hlm]) (by simp [ha, hl, hlm]) (by simp [go_sem]) rfl (fun w10 M11 => ?_)
                dsimp only [List.set] at M11
                refine wpT_valp 23 (v := .int .i64 x) rfl rfl rfl (by go_simp) ?_
                dsimp only [wpT]
                try simp only [Act.put, List.setIfInBounds_toArray, List.set_cons_succ, List.set_cons_zero]
                go_upto_region 22 with fail
                refine wp_region_lin (.op 0 (.op 1 (.op 2 (.op 3 (.op 4 (.op 5 (.op 6 (.op 7 (.op 8 (.op 9 .done)))))))))) (by rfl) ?_
                refine wpT_ld0 121 Tryd.underlying25 rfl inf_key (b7) (cs U8 (Sh.nxk l m)) rfl rfl rfl (by go_simp) (M11.row (by simp)) (by simp [ha, hl, hlm]) rfl ?_
                refine wpT_valp 122 (v := .pointer (some ⟨gm, 0, none⟩)) rfl rfl rfl (by go_simp) ?_
                refine wpT_ldm 123 Tryd.underlying25 rfl inf_key (gm) 0 (RC (Sh.nxk l m) x) (cs U8 (Sh.nxk l m)) rfl rfl rfl (by go_simp) (M11.row (by simp)) (by simp [ha, hl, hlm]) (rc_key (by simp [ha, hl, hlm])) rfl ?_
                refine wpT_valp 124 (v := .bool false) rfl rfl rfl (by have q := eqL w10 (Sh.nxk l m) (by simp [ha, hl, hlm]); go_simp) ?_
                try simp only [Act.put, List.setIfInBounds_toArray, List.set_cons_succ, List.set_cons_zero]
                refine wpT_valp 125 (v := .bool false) rfl rfl rfl (by go_simp) ?_
                refine wpT_valp 126 (v := .int .i64 x) rfl rfl (by simp [Region.wanted, yielded, Act.put]) (by go_simp) ?_
                refine wpT_valp 127 (v := .pointer (some ⟨gm, 32, none⟩)) rfl rfl (by simp [Region.wanted, yielded, Act.put]) (by go_simp) ?_
                refine wpT_valp 128 (v := .int .i64 x) rfl rfl (by simp [Region.wanted, yielded, Act.put]) (by have c0 := rrow_32 (by simp [ha, hl, hlm]) (M11.row (b := gm) (c := RC (Sh.nxk l m) x) (by simp)); go_simp) ?_
                refine wpT_valp 129 (v := .bool false) rfl rfl (by simp [Region.wanted, yielded, Act.put]) (by go_simp) ?_
                try simp only [Act.put, List.setIfInBounds_toArray, List.set_cons_succ, List.set_cons_zero]
                refine wpT_valp 130 (v := .bool false) rfl rfl rfl (by go_simp) ?_
                dsimp only [wpT]
                try simp only [Act.put, List.setIfInBounds_toArray, List.set_cons_succ, List.set_cons_zero]
                go_wp2_with fail
                have MZ := HTT.out _ _ M11
                go_roundw
                case rel =>
                  refine ⟨i + 1, Sh.nxk l m, x, by omega, by omega, rfl, by simp [hl, nxk_len], by omega, by omega, MZ.sub ?_⟩
                  repeat first | exact List.Sublist.refl _ | apply List.Sublist.cons
                case measure => simp [intOf]; omega
      · have hex : ¬ ((i : Int) < (xs.length : Int)) ∨ (i : Int) < (xs.length : Int) ∧ ¬ ((i : Int) < 40) := by omega
        rcases hex with h1 | ⟨h1, h2⟩
        · go_wp2_with fail
          go_ret
          exact ⟨rfl, M.end_⟩
        · go_wp2_with fail
          go_ret
          exact ⟨rfl, M.end_⟩
end Go.Proofs.YtocledgjejlolaaDoor
