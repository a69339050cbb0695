/-
  Reference 05: a word turned, a word of bytes, a quarter, bytes mixed; own work.
  Reference 05: the words at first, a block; own work.
  Reference 05: a block; own work.
  Reference 05: bytes mixed, a stream, xor; own work.
-/
import Derived.Test.YtbigmnhjnjeeaaaDoorAea3
set_option linter.unusedSimpArgs false
set_option linter.unusedVariables false
namespace Go.Proofs.YtbigmnhjnjeeaaaDoor
open Go.RowKit
theorem own_soft {w w' : World} {B base : Nat} {e : TypeId} {size : Nat} {v : Value} {n : Nat} {xs : List Value} (h : w.ownsRow base e size v n xs) (hs : Sf B w w') (he : e ≠ 5) : w'.ownsRow base e size v n xs := by
  obtain ⟨h1, h⟩ := h
  refine ⟨h1, h.imp id fun ⟨g, cap, cur, e1, hb, hh, r⟩ => ⟨g, cap, cur, e1, hb, hs.blk hh he, r⟩⟩
theorem ws_cell {w : World} {b o n c : Nat} {l : List (BitVec 32)} (h : WS w (.slice (some ⟨b, o, none⟩) n c) l) (i : Nat) (hi : i < l.length) : w.cell? ⟨b, o + i, none⟩ = some (U32 (g32 l i)) := by
  obtain ⟨b', o', c', e, _, h3⟩ := h.open (by intro e; rw [e] at hi; simp at hi)
  injection e with e _ _
  injection e with e
  injection e with e1 e2 _
  subst e1; subst e2
  exact h3 i hi
theorem OW.openw {w : World} {base n : Nat} {v : Value} {l : List (BitVec 32)} (h : OW w base v l) (hn : l.length = n) (h0 : 0 < n) : ∃ g c, v = .slice (some ⟨g, 0, none⟩) n c ∧ base ≤ g ∧ g < w.heap.size := by
  obtain ⟨_, ⟨_, e⟩ | ⟨g, cap, cur, e, hb, hg, _⟩⟩ := h
  · omega
  · exact ⟨g, cap, by rw [e, hn], hb, (Array.getElem?_eq_some_iff.1 hg).1⟩
theorem OW.setw {w : World} {base g n cap : Nat} {l : List (BitVec 32)} (h : OW w base (.slice (some ⟨g, 0, none⟩) n cap) l) (hn : l.length = n) (i : Nat) (hi : i < n) (x : BitVec 32) :
    w.free g = true ∧ i < (w.rowOf g).size ∧ OW (w.setRow g ((w.rowOf g).setIfInBounds i (U32 x))) base (.slice (some ⟨g, 0, none⟩) n cap) (l.set i x) := by
  subst hn
  obtain ⟨h1, ⟨e, _⟩ | ⟨g', cap', cur, e, hb, hg, hc, hm, hs, ht⟩⟩ := h
  · cases e
  · injection e with e1 _ e3
    injection e1 with e1
    injection e1 with e1 _ _
    subst e1; subst e3
    have hr : w.rowOf g = cur := by simp [World.rowOf, hg]
    refine ⟨by simp [World.free, hg], by rw [hr]; omega, by simp, .inr ⟨g, cap, cur.setIfInBounds i (U32 x), by simp, hb, ?_, by simpa using hc, hm, by simpa using hs, ?_⟩⟩
    · rw [hr]; exact heap_setRow_same hg
    · rw [Array.toList_setIfInBounds, List.map_set, ← ht]
      simp only [List.length_set]
      rw [List.take_set]
section
variable {ops : Array Oper} {Q : Exit → Act → World → Prop} {i : Nat} {t : Tr} {a : Act} {o : Oper} {S : Nat → Prop} {w0 w : World} {H : List (Nat × Array Value)}
/-- a slice of no words that is made -/
theorem wpT_w0 (dst : Nat) (M : Mm S w0 H w) (hdst : o.dst = some dst) (ho : ops[i]? = some o) (hop : o.op = .buildSlice 97 0 #[]) (hw : Region.wanted o (yielded ops a.tmps) = true)
    (h : ∀ g w', OW w' w.heap.size (.slice (some ⟨g, 0, none⟩) 0 0) [] → Mm S w0 H w' → wpT Tryd.prog ops Q t (a.put (some dst) (.slice (some ⟨g, 0, none⟩) 0 0)) w') : wpT Tryd.prog ops Q (.op i t) a w := by
  obtain ⟨inf, hi0, hz0, hz1, hz2⟩ := info_parts info_u32
  refine wpT_val (w' := w.alloc (.cells #[] 63)) (v := .slice (some ⟨w.heap.size, 0, none⟩) 0 0) ho hw ?_ ?_
  · obtain ⟨dst, op, ty, pos, after, guard⟩ := o
    subst hop
    simp [execOp, Instr.buildSlice, run_underlying Tryd.underlying97, sizeOf, typeInfo, hi0, Instr.fill, newRow]
    exact congrArg (fun c => w.alloc (.cells c 63)) (Array.eq_empty_of_size_eq_zero (by simp))
  · rw [hdst]
    exact h _ _ (OW.lit w [] #[] rfl 0 rfl (by unfold maxLen; decide) _ (Nat.le_refl _)) (M.below ((Below.refl _ _).alloc (Nat.le_refl _) _))
/-- a slice of words that is made of words -/
theorem wpT_w32 {len : Nat} {ps : Array (Nat × Operand)} (dst : Nat) (M : Mm S w0 H w) (l : List (BitVec 32)) (hl : l.length = len) (h0 : 0 < len) (hs : len ≤ 1000000) (hdst : o.dst = some dst) (ho : ops[i]? = some o) (hop : o.op = .buildSlice 97 len ps)
    (hf : Instr.fill (fun i => some (i * 1, 1)) ((Array.range (len * 1)).map ((Value.int .u32 0).cells[· % (Value.int .u32 0).cells.size]!)) (ps.map fun (i, x) => (i, a.eval x)).toList = some (cs U32 l)) (hw : Region.wanted o (yielded ops a.tmps) = true)
    (h : ∀ g w', OW w' w.heap.size (.slice (some ⟨g, 0, none⟩) len len) l → Mm S w0 H w' → Below w.heap.size w w' → g = w.heap.size → wpT Tryd.prog ops Q t (a.put (some dst) (.slice (some ⟨g, 0, none⟩) len len)) w') : wpT Tryd.prog ops Q (.op i t) a w := by
  obtain ⟨inf, hi0, hz0, hz1, hz2⟩ := info_parts info_u32
  refine wpT_val (w' := w.alloc (.cells (cs U32 l) 63)) (v := .slice (some ⟨w.heap.size, 0, none⟩) len len) ho hw ?_ ?_
  · obtain ⟨dst, op, ty, pos, after, guard⟩ := o
    subst hop
    simp only [execOp, Sem.run_bind]
    rw [run_buildSlice w 97 63 len _ (cs U32 l) inf (.int .u32 0) Tryd.underlying97 hi0 hz0 (by rw [hz1]; omega) (by rw [hz1]; omega) (by rw [hz1]; exact hf)]; rfl
  · rw [hdst]
    have hb : Below w.heap.size w (w.alloc (.cells (cs U32 l) 63)) := (Below.refl _ _).alloc (Nat.le_refl _) _
    exact h _ _ (OW.lit w l _ rfl len hl.symm (by unfold maxLen; omega) _ (Nat.le_refl _)) (M.below hb) hb rfl
/-- append of words -/
theorem wpT_apw (dst : Nat) (s x : Operand) (M : Mm S w0 H w) (base : Nat) (v u : Value) (l m : List (BitVec 32)) (hdst : o.dst = some dst) (ho : ops[i]? = some o)
    (hop : o.op = .call { callee := .builtin .append, args := #[s, x], argTypes := #[97, 97] }) (hg : o.guard = none) (hs : a.eval s = v) (hown : OW w base v l) (hx : a.eval x = u) (hu : WS w u m)
    (hlen : l.length + m.length ≤ 1073741824) (hbase : base ≤ w.heap.size) (hb0 : w0.heap.size ≤ base) (hsep : ∀ g, v.ownBlock = some g → ∀ p ∈ H, p.1 ≠ g)
    (h : ∀ v' w', OW w' base v' (l ++ m) → Mm S w0 H w' → wpT Tryd.prog ops Q t (a.put (some dst) v') w') : wpT Tryd.prog ops Q (.op i t) a w := by
  refine wpT_step ho hg (fun K hK => ?_)
  refine wp_apd s x 97 hop base 63 (.int .u32 0) 1 4 Tryd.underlying97 info_u32 rfl (by decide) v u l.length m.length (l.map U32) (m.map U32) hs hown hx hu (by simp) (by simp; intro _ _; rfl) (by unfold maxLen; omega) (by omega) hbase ?_
  intro v' w' h1 h2 h3
  rw [hdst]
  exact hK _ _ (h v' w' (by unfold OW; simpa using h1) (M.grown8 h2 (fun g hg => ⟨.inr (Nat.le_trans hb0 (hown.lt g hg).1), hsep g hg⟩)))
end
set_option maxHeartbeats 1000000 in
theorem rleft16 (w : World) (x y : BitVec 32) (hy : Ch.rl x 16 = y) : Calls Tryd.prog 80 #[U32 x, .int .i64 16] w fun e w' => e = .returned (U32 y) ∧ Below w.heap.size w w' := by
  have HY := hid (show (x <<< 16) ||| (x >>> 16) = y from hy)
  have iw : IntKind.i64.wrap 16 = 16 := by decide
  have iv : IntKind.u64.wrap 16 = 16 := by decide
  have iu : IntKind.u64.wrap 16 = 16 := by decide
  clear hy
  have M0 := Mm.start no w
  go_enter Tryd.func80, Tryd.ntmps80
  go_upto_region 1 with fail
  refine wp_region_lin (.op 0 (.op 1 (.op 2 (.op 3 (.op 4 (.op 5 (.op 6 (.op 7 (.op 8 (.op 9 (.op 10 .done))))))))))) (by rfl) ?_
  refine wpT_valp 5 (v := U32 x) rfl rfl rfl (by go_simp) ?_
  refine wpT_valp 6 (v := .int .i64 16) rfl rfl rfl (by go_simp) ?_
  refine wpT_valp 7 (v := .int .u64 16) rfl rfl rfl (by go_simp) ?_
  refine wpT_valp 8 (v := U32 (x <<< 16)) rfl rfl rfl (by go_simp) ?_
  try simp only [Act.put, List.setIfInBounds_toArray, List.set_cons_succ, List.set_cons_zero]
  refine wpT_valp 9 (v := U32 x) rfl rfl rfl (by go_simp) ?_
  refine wpT_valp 10 (v := .int .i64 16) rfl rfl rfl (by go_simp) ?_
  refine wpT_valp 11 (v := .int .i64 16) rfl rfl rfl (by go_simp) ?_
  refine wpT_valp 12 (v := .int .u64 16) rfl rfl rfl (by go_simp) ?_
  refine wpT_valp 13 (v := U32 (x >>> 16)) rfl rfl rfl (by go_simp) ?_
  try simp only [Act.put, List.setIfInBounds_toArray, List.set_cons_succ, List.set_cons_zero]
  refine wpT_valp 14 (v := U32 y) rfl rfl rfl (by have h := HY.out; go_simp) ?_
  refine wpT_valp 4 (v := U32 y) rfl rfl rfl (by go_simp) ?_
  dsimp only [wpT]
  try simp only [Act.put, List.setIfInBounds_toArray, List.set_cons_succ, List.set_cons_zero]
  go_wp2_with fail
  go_ret
  exact ⟨rfl, M0.end_⟩
set_option maxHeartbeats 1000000 in
theorem rleft12 (w : World) (x y : BitVec 32) (hy : Ch.rl x 12 = y) : Calls Tryd.prog 80 #[U32 x, .int .i64 12] w fun e w' => e = .returned (U32 y) ∧ Below w.heap.size w w' := by
  have HY := hid (show (x <<< 12) ||| (x >>> 20) = y from hy)
  have iw : IntKind.i64.wrap 20 = 20 := by decide
  have iv : IntKind.u64.wrap 20 = 20 := by decide
  have iu : IntKind.u64.wrap 12 = 12 := by decide
  clear hy
  have M0 := Mm.start no w
  go_enter Tryd.func80, Tryd.ntmps80
  go_upto_region 1 with fail
  refine wp_region_lin (.op 0 (.op 1 (.op 2 (.op 3 (.op 4 (.op 5 (.op 6 (.op 7 (.op 8 (.op 9 (.op 10 .done))))))))))) (by rfl) ?_
  refine wpT_valp 5 (v := U32 x) rfl rfl rfl (by go_simp) ?_
  refine wpT_valp 6 (v := .int .i64 12) rfl rfl rfl (by go_simp) ?_
  refine wpT_valp 7 (v := .int .u64 12) rfl rfl rfl (by go_simp) ?_
  refine wpT_valp 8 (v := U32 (x <<< 12)) rfl rfl rfl (by go_simp) ?_
  try simp only [Act.put, List.setIfInBounds_toArray, List.set_cons_succ, List.set_cons_zero]
  refine wpT_valp 9 (v := U32 x) rfl rfl rfl (by go_simp) ?_
  refine wpT_valp 10 (v := .int .i64 12) rfl rfl rfl (by go_simp) ?_
  refine wpT_valp 11 (v := .int .i64 20) rfl rfl rfl (by go_simp) ?_
  refine wpT_valp 12 (v := .int .u64 20) rfl rfl rfl (by go_simp) ?_
  refine wpT_valp 13 (v := U32 (x >>> 20)) rfl rfl rfl (by go_simp) ?_
  try simp only [Act.put, List.setIfInBounds_toArray, List.set_cons_succ, List.set_cons_zero]
  refine wpT_valp 14 (v := U32 y) rfl rfl rfl (by have h := HY.out; go_simp) ?_
  refine wpT_valp 4 (v := U32 y) rfl rfl rfl (by go_simp) ?_
  dsimp only [wpT]
  try simp only [Act.put, List.setIfInBounds_toArray, List.set_cons_succ, List.set_cons_zero]
  go_wp2_with fail
  go_ret
  exact ⟨rfl, M0.end_⟩
set_option maxHeartbeats 1000000 in
theorem rleft8 (w : World) (x y : BitVec 32) (hy : Ch.rl x 8 = y) : Calls Tryd.prog 80 #[U32 x, .int .i64 8] w fun e w' => e = .returned (U32 y) ∧ Below w.heap.size w w' := by
  have HY := hid (show (x <<< 8) ||| (x >>> 24) = y from hy)
  have iw : IntKind.i64.wrap 24 = 24 := by decide
  have iv : IntKind.u64.wrap 24 = 24 := by decide
  have iu : IntKind.u64.wrap 8 = 8 := by decide
  clear hy
  have M0 := Mm.start no w
  go_enter Tryd.func80, Tryd.ntmps80
  go_upto_region 1 with fail
  refine wp_region_lin (.op 0 (.op 1 (.op 2 (.op 3 (.op 4 (.op 5 (.op 6 (.op 7 (.op 8 (.op 9 (.op 10 .done))))))))))) (by rfl) ?_
  refine wpT_valp 5 (v := U32 x) rfl rfl rfl (by go_simp) ?_
  refine wpT_valp 6 (v := .int .i64 8) rfl rfl rfl (by go_simp) ?_
  refine wpT_valp 7 (v := .int .u64 8) rfl rfl rfl (by go_simp) ?_
  refine wpT_valp 8 (v := U32 (x <<< 8)) rfl rfl rfl (by go_simp) ?_
  try simp only [Act.put, List.setIfInBounds_toArray, List.set_cons_succ, List.set_cons_zero]
  refine wpT_valp 9 (v := U32 x) rfl rfl rfl (by go_simp) ?_
  refine wpT_valp 10 (v := .int .i64 8) rfl rfl rfl (by go_simp) ?_
  refine wpT_valp 11 (v := .int .i64 24) rfl rfl rfl (by go_simp) ?_
  refine wpT_valp 12 (v := .int .u64 24) rfl rfl rfl (by go_simp) ?_
  refine wpT_valp 13 (v := U32 (x >>> 24)) rfl rfl rfl (by go_simp) ?_
  try simp only [Act.put, List.setIfInBounds_toArray, List.set_cons_succ, List.set_cons_zero]
  refine wpT_valp 14 (v := U32 y) rfl rfl rfl (by have h := HY.out; go_simp) ?_
  refine wpT_valp 4 (v := U32 y) rfl rfl rfl (by go_simp) ?_
  dsimp only [wpT]
  try simp only [Act.put, List.setIfInBounds_toArray, List.set_cons_succ, List.set_cons_zero]
  go_wp2_with fail
  go_ret
  exact ⟨rfl, M0.end_⟩
set_option maxHeartbeats 1000000 in
theorem rleft7 (w : World) (x y : BitVec 32) (hy : Ch.rl x 7 = y) : Calls Tryd.prog 80 #[U32 x, .int .i64 7] w fun e w' => e = .returned (U32 y) ∧ Below w.heap.size w w' := by
  have HY := hid (show (x <<< 7) ||| (x >>> 25) = y from hy)
  have iw : IntKind.i64.wrap 25 = 25 := by decide
  have iv : IntKind.u64.wrap 25 = 25 := by decide
  have iu : IntKind.u64.wrap 7 = 7 := by decide
  clear hy
  have M0 := Mm.start no w
  go_enter Tryd.func80, Tryd.ntmps80
  go_upto_region 1 with fail
  refine wp_region_lin (.op 0 (.op 1 (.op 2 (.op 3 (.op 4 (.op 5 (.op 6 (.op 7 (.op 8 (.op 9 (.op 10 .done))))))))))) (by rfl) ?_
  refine wpT_valp 5 (v := U32 x) rfl rfl rfl (by go_simp) ?_
  refine wpT_valp 6 (v := .int .i64 7) rfl rfl rfl (by go_simp) ?_
  refine wpT_valp 7 (v := .int .u64 7) rfl rfl rfl (by go_simp) ?_
  refine wpT_valp 8 (v := U32 (x <<< 7)) rfl rfl rfl (by go_simp) ?_
  try simp only [Act.put, List.setIfInBounds_toArray, List.set_cons_succ, List.set_cons_zero]
  refine wpT_valp 9 (v := U32 x) rfl rfl rfl (by go_simp) ?_
  refine wpT_valp 10 (v := .int .i64 7) rfl rfl rfl (by go_simp) ?_
  refine wpT_valp 11 (v := .int .i64 25) rfl rfl rfl (by go_simp) ?_
  refine wpT_valp 12 (v := .int .u64 25) rfl rfl rfl (by go_simp) ?_
  refine wpT_valp 13 (v := U32 (x >>> 25)) rfl rfl rfl (by go_simp) ?_
  try simp only [Act.put, List.setIfInBounds_toArray, List.set_cons_succ, List.set_cons_zero]
  refine wpT_valp 14 (v := U32 y) rfl rfl rfl (by have h := HY.out; go_simp) ?_
  refine wpT_valp 4 (v := U32 y) rfl rfl rfl (by go_simp) ?_
  dsimp only [wpT]
  try simp only [Act.put, List.setIfInBounds_toArray, List.set_cons_succ, List.set_cons_zero]
  go_wp2_with fail
  go_ret
  exact ⟨rfl, M0.end_⟩
set_option maxHeartbeats 2000000 in
theorem rword (w : World) (b o n c : Nat) (x0 x1 x2 x3 : BitVec 8) (h4 : 4 ≤ n) (h : C4 w b o x0 x1 x2 x3) :
    Calls Tryd.prog 79 #[.slice (some ⟨b, o, none⟩) n c] w fun e w' => e = .returned (U32 (x0.setWidth 32 ||| (x1.setWidth 32 <<< 8) ||| (x2.setWidth 32 <<< 16) ||| (x3.setWidth 32 <<< 24))) ∧ Below w.heap.size w w' := by
  have HC : Hid (∀ H w', Mm no w H w' → C4 w' b o x0 x1 x2 x3) := hid fun H w' M => h.below M.end_
  have n0 : (0 : Int) < (n : Int) := by omega
  have n4 : ¬ n = 0 := by omega
  have n1 : (1 : Int) < (n : Int) := by omega
  have n2 : (2 : Int) < (n : Int) := by omega
  have n3 : (3 : Int) < (n : Int) := by omega
  clear h
  have M0 := Mm.start no w
  go_enter Tryd.func79, Tryd.ntmps79
  go_upto_region 1 with fail
  refine wp_region_seq 23 [3, 4, 5, 6, 7, 8, 9, 10, 11, 12, 13, 14, 15, 16, 17, 18, 19, 20, 21, 22, 23, 24, 2] [] [] [] (.done) (Mm no w _) (by kernel_rfl) (by kernel_rfl) (by kernel_rfl) (fun d _ _ _ _ h => by cases d <;> exact h) (by rfl) M0.size (fun _ _ h k => h.sf k) M0 ?_
  simp only [List.take_succ_cons, List.take_zero]
  refine SeqA.pure (.slice (some ⟨b, o, none⟩) n c) (fun w' => by go_simp) rfl rfl ?_
  refine SeqA.pure (.pointer (some ⟨b, o, none⟩)) (fun w' => by go_simp) rfl rfl ?_
  refine SeqA.read (U8 x0) (fun w' M => by have c0 := (HC.out _ _ M).1; go_simp) rfl rfl ?_
  refine SeqA.pure (U32 (x0.setWidth 32)) (fun w' => by go_simp) rfl rfl ?_
  refine SeqA.pure (.slice (some ⟨b, o, none⟩) n c) (fun w' => by go_simp) rfl rfl ?_
  simp only [Act.put, List.setIfInBounds_toArray, List.set_cons_succ, List.set_cons_zero]
  refine SeqA.pure (.pointer (some ⟨b, o + 1, none⟩)) (fun w' => by go_simp) rfl rfl ?_
  refine SeqA.read (U8 x1) (fun w' M => by have c0 := (HC.out _ _ M).2.1; go_simp) rfl rfl ?_
  refine SeqA.pure (U32 (x1.setWidth 32)) (fun w' => by go_simp) rfl rfl ?_
  refine SeqA.pure (U32 (x1.setWidth 32 <<< 8)) (fun w' => by go_simp) rfl rfl ?_
  refine SeqA.pure (U32 (x0.setWidth 32 ||| (x1.setWidth 32 <<< 8))) (fun w' => by go_simp) rfl rfl ?_
  refine SeqA.pure (.slice (some ⟨b, o, none⟩) n c) (fun w' => by go_simp) rfl rfl ?_
  simp only [Act.put, List.setIfInBounds_toArray, List.set_cons_succ, List.set_cons_zero]
  refine SeqA.pure (.pointer (some ⟨b, o + 2, none⟩)) (fun w' => by go_simp) rfl rfl ?_
  refine SeqA.read (U8 x2) (fun w' M => by have c0 := (HC.out _ _ M).2.2.1; go_simp) rfl rfl ?_
  refine SeqA.pure (U32 (x2.setWidth 32)) (fun w' => by go_simp) rfl rfl ?_
  refine SeqA.pure (U32 (x2.setWidth 32 <<< 16)) (fun w' => by go_simp) rfl rfl ?_
  refine SeqA.pure (U32 (x0.setWidth 32 ||| (x1.setWidth 32 <<< 8) ||| (x2.setWidth 32 <<< 16))) (fun w' => by go_simp) rfl rfl ?_
  refine SeqA.pure (.slice (some ⟨b, o, none⟩) n c) (fun w' => by go_simp) rfl rfl ?_
  simp only [Act.put, List.setIfInBounds_toArray, List.set_cons_succ, List.set_cons_zero]
  refine SeqA.pure (.pointer (some ⟨b, o + 3, none⟩)) (fun w' => by go_simp) rfl rfl ?_
  refine SeqA.read (U8 x3) (fun w' M => by have c0 := (HC.out _ _ M).2.2.2; go_simp) rfl rfl ?_
  refine SeqA.pure (U32 (x3.setWidth 32)) (fun w' => by go_simp) rfl rfl ?_
  refine SeqA.pure (U32 (x3.setWidth 32 <<< 24)) (fun w' => by go_simp) rfl rfl ?_
  refine SeqA.pure (U32 (x0.setWidth 32 ||| (x1.setWidth 32 <<< 8) ||| (x2.setWidth 32 <<< 16) ||| (x3.setWidth 32 <<< 24))) (fun w' => by go_simp) rfl rfl ?_
  refine SeqA.pure (U32 (x0.setWidth 32 ||| (x1.setWidth 32 <<< 8) ||| (x2.setWidth 32 <<< 16) ||| (x3.setWidth 32 <<< 24))) (fun w' => by go_simp) rfl rfl ?_
  refine SeqA.nil (fun w1 M2 hz => ?_)
  show wpT _ _ _ _ _ _
  simp only [Act.put, List.setIfInBounds_toArray, List.set_cons_succ, List.set_cons_zero]
  dsimp only [wpT]
  go_wp2_with fail
  go_ret
  exact ⟨rfl, M2.end_⟩
set_option maxRecDepth 100000 in
set_option maxHeartbeats 8000000 in
theorem rquarter (w : World) (v : Value) (s s' : List (BitVec 32)) (i j k l : Nat) (hs : s.length = 16) (hi : i < 16) (hj : j < 16) (hk : k < 16) (hl : l < 16) (hv : WS w v s) (he : Ch.qr s i j k l = s') :
    Calls Tryd.prog 71 #[v, .int .i64 i, .int .i64 j, .int .i64 k, .int .i64 l] w fun e w' => ∃ u, e = .returned u ∧ OW w' w.heap.size u s' ∧ Below w.heap.size w w' := by
  obtain ⟨a0, ea0⟩ : ∃ x, g32 s i = x := ⟨_, rfl⟩
  obtain ⟨b0, eb0⟩ : ∃ x, g32 s j = x := ⟨_, rfl⟩
  obtain ⟨c0, ec0⟩ : ∃ x, g32 s k = x := ⟨_, rfl⟩
  obtain ⟨d0, ed0⟩ : ∃ x, g32 s l = x := ⟨_, rfl⟩
  obtain ⟨a1, ea1⟩ : ∃ x, a0 + b0 = x := ⟨_, rfl⟩
  obtain ⟨d1, ed1⟩ : ∃ x, Ch.rl (d0 ^^^ a1) 16 = x := ⟨_, rfl⟩
  obtain ⟨c1, ec1⟩ : ∃ x, c0 + d1 = x := ⟨_, rfl⟩
  obtain ⟨b1, eb1⟩ : ∃ x, Ch.rl (b0 ^^^ c1) 12 = x := ⟨_, rfl⟩
  obtain ⟨a2, ea2⟩ : ∃ x, a1 + b1 = x := ⟨_, rfl⟩
  obtain ⟨d2, ed2⟩ : ∃ x, Ch.rl (d1 ^^^ a2) 8 = x := ⟨_, rfl⟩
  obtain ⟨c2, ec2⟩ : ∃ x, c1 + d2 = x := ⟨_, rfl⟩
  obtain ⟨b2, eb2⟩ : ∃ x, Ch.rl (b1 ^^^ c2) 7 = x := ⟨_, rfl⟩
  have HQ := hid ((qr_eq ea0 eb0 ec0 ed0 ea1 ed1 ec1 eb1 ea2 ed2 ec2 eb2).trans he)
  have Ha0 := hid ea0; have Hb0 := hid eb0; have Hc0 := hid ec0; have Hd0 := hid ed0
  have Ha1 := hid ea1; have Hd1 := hid ed1; have Hc1 := hid ec1; have Hb1 := hid eb1; have Ha2 := hid ea2; have Hd2 := hid ed2; have Hc2 := hid ec2; have Hb2 := hid eb2
  clear ea0 eb0 ec0 ed0 ea1 ed1 ec1 eb1 ea2 ed2 ec2 eb2 he
  have hi2 : (i : Int) < 16 := by omega
  have hj2 : (j : Int) < 16 := by omega
  have hk2 : (k : Int) < 16 := by omega
  have hl2 : (l : Int) < 16 := by omega
  have hi0 : (0 : Int) ≤ (i : Int) := by omega
  have hj0 : (0 : Int) ≤ (j : Int) := by omega
  have hk0 : (0 : Int) ≤ (k : Int) := by omega
  have hl0 : (0 : Int) ≤ (l : Int) := by omega
  have HVS := hid hv
  obtain ⟨gs, os, cs_, ev, hcs, -⟩ := WS.open hv (by intro e; rw [e] at hs; simp at hs)
  rw [hs] at ev hcs
  subst ev
  clear hv
  have M0 := Mm.start no w
  go_enter Tryd.func71, Tryd.ntmps71
  go_upto_region 1 with fail
  refine wp_region_seq 20 [16, 17, 18, 19, 20, 21, 22, 23, 24, 25, 26, 27, 28, 29, 30, 31, 11, 12, 13, 14] [] [] [] (.done) (Mm no w _) (by kernel_rfl) (by kernel_rfl) (by kernel_rfl) (fun d _ _ _ _ h => by cases d <;> exact h) (by rfl) M0.size (fun _ _ h k => h.sf k) M0 ?_
  simp only [List.take_succ_cons, List.take_zero]
  refine SeqA.pure (.slice (some ⟨gs, os, none⟩) 16 cs_) (fun w' => by go_simp) rfl rfl ?_
  refine SeqA.pure (.int .i64 i) (fun w' => by go_simp) rfl rfl ?_
  refine SeqA.pure (.pointer (some ⟨gs, os + i, none⟩)) (fun w' => by go_simp) rfl rfl ?_
  refine SeqA.read (U32 a0) (fun w' hI => by have c0 := ws_cell (SV.below HVS.out hI.end_) i (by omega); rw [Ha0.out] at c0; go_simp) rfl rfl ?_
  refine SeqA.pure (.slice (some ⟨gs, os, none⟩) 16 cs_) (fun w' => by go_simp) rfl rfl ?_
  simp only [Act.put, List.setIfInBounds_toArray, List.set_cons_succ, List.set_cons_zero]
  refine SeqA.pure (.int .i64 j) (fun w' => by go_simp) rfl rfl ?_
  refine SeqA.pure (.pointer (some ⟨gs, os + j, none⟩)) (fun w' => by go_simp) rfl rfl ?_
  refine SeqA.read (U32 b0) (fun w' hI => by have c0 := ws_cell (SV.below HVS.out hI.end_) j (by omega); rw [Hb0.out] at c0; go_simp) rfl rfl ?_
  refine SeqA.pure (.slice (some ⟨gs, os, none⟩) 16 cs_) (fun w' => by go_simp) rfl rfl ?_
  refine SeqA.pure (.int .i64 k) (fun w' => by go_simp) rfl rfl ?_
  refine SeqA.pure (.pointer (some ⟨gs, os + k, none⟩)) (fun w' => by go_simp) rfl rfl ?_
  simp only [Act.put, List.setIfInBounds_toArray, List.set_cons_succ, List.set_cons_zero]
  refine SeqA.read (U32 c0) (fun w' hI => by have c0 := ws_cell (SV.below HVS.out hI.end_) k (by omega); rw [Hc0.out] at c0; go_simp) rfl rfl ?_
  refine SeqA.pure (.slice (some ⟨gs, os, none⟩) 16 cs_) (fun w' => by go_simp) rfl rfl ?_
  refine SeqA.pure (.int .i64 l) (fun w' => by go_simp) rfl rfl ?_
  refine SeqA.pure (.pointer (some ⟨gs, os + l, none⟩)) (fun w' => by go_simp) rfl rfl ?_
  refine SeqA.read (U32 d0) (fun w' hI => by have c0 := ws_cell (SV.below HVS.out hI.end_) l (by omega); rw [Hd0.out] at c0; go_simp) rfl rfl ?_
  refine SeqA.pure (U32 a0) (fun w' => by go_simp) rfl rfl ?_
  simp only [Act.put, List.setIfInBounds_toArray, List.set_cons_succ, List.set_cons_zero]
  refine SeqA.pure (U32 b0) (fun w' => by go_simp) rfl rfl ?_
  refine SeqA.pure (U32 c0) (fun w' => by go_simp) rfl rfl ?_
  refine SeqA.pure (U32 d0) (fun w' => by go_simp) rfl rfl ?_
  refine SeqA.nil (fun w1 M2 hz => ?_)
  show wpT _ _ _ _ _ _
  simp only [Act.put, List.setIfInBounds_toArray, List.set_cons_succ, List.set_cons_zero]
  dsimp only [wpT]
  go_upto_region 2 with fail
  refine wp_region_lin (.op 0 (.op 1 (.op 2 (.op 3 .done)))) (by rfl) ?_
  refine wpT_valp 32 (v := U32 a0) rfl rfl rfl (by go_simp) ?_
  refine wpT_valp 33 (v := U32 b0) rfl rfl rfl (by go_simp) ?_
  refine wpT_valp 34 (v := U32 a1) rfl rfl rfl (by have h := Ha1.out; go_simp) ?_
  refine wpT_valp 11 (v := U32 a1) rfl rfl rfl (by go_simp) ?_
  dsimp only [wpT]
  try simp only [Act.put, List.setIfInBounds_toArray, List.set_cons_succ, List.set_cons_zero]
  go_upto_region 3 with fail
  refine wp_region_lin (.op 0 (.op 1 (.op 2 (.op 3 (.op 4 .done))))) (by rfl) ?_
  refine wpT_valp 35 (v := U32 d0) rfl rfl rfl (by go_simp) ?_
  refine wpT_valp 36 (v := U32 a1) rfl rfl rfl (by go_simp) ?_
  refine wpT_valp 37 (v := U32 (d0 ^^^ a1)) rfl rfl rfl (by go_simp) ?_
  refine wpT_callv 38 M2 (v := U32 d1) rfl rfl rfl (by go_simp) (rleft16 w1 (d0 ^^^ a1) d1 Hd1.out) (fun w3 M4 => ?_)
  try simp only [Act.put, List.setIfInBounds_toArray, List.set_cons_succ, List.set_cons_zero]
  refine wpT_valp 14 (v := U32 d1) rfl rfl rfl (by go_simp) ?_
  dsimp only [wpT]
  try simp only [Act.put, List.setIfInBounds_toArray, List.set_cons_succ, List.set_cons_zero]
  go_upto_region 4 with fail
  refine wp_region_lin (.op 0 (.op 1 (.op 2 (.op 3 .done)))) (by rfl) ?_
  refine wpT_valp 39 (v := U32 c0) rfl rfl rfl (by go_simp) ?_
  refine wpT_valp 40 (v := U32 d1) rfl rfl rfl (by go_simp) ?_
  refine wpT_valp 41 (v := U32 c1) rfl rfl rfl (by have h := Hc1.out; go_simp) ?_
  refine wpT_valp 13 (v := U32 c1) rfl rfl rfl (by go_simp) ?_
  dsimp only [wpT]
  try simp only [Act.put, List.setIfInBounds_toArray, List.set_cons_succ, List.set_cons_zero]
  go_upto_region 5 with fail
  refine wp_region_lin (.op 0 (.op 1 (.op 2 (.op 3 (.op 4 .done))))) (by rfl) ?_
  refine wpT_valp 42 (v := U32 b0) rfl rfl rfl (by go_simp) ?_
  refine wpT_valp 43 (v := U32 c1) rfl rfl rfl (by go_simp) ?_
  refine wpT_valp 44 (v := U32 (b0 ^^^ c1)) rfl rfl rfl (by go_simp) ?_
  refine wpT_callv 45 M4 (v := U32 b1) rfl rfl rfl (by go_simp) (rleft12 w3 (b0 ^^^ c1) b1 Hb1.out) (fun w5 M6 => ?_)
  try simp only [Act.put, List.setIfInBounds_toArray, List.set_cons_succ, List.set_cons_zero]
  refine wpT_valp 12 (v := U32 b1) rfl rfl rfl (by go_simp) ?_
  dsimp only [wpT]
  try simp only [Act.put, List.setIfInBounds_toArray, List.set_cons_succ, List.set_cons_zero]
  go_upto_region 6 with fail
  refine wp_region_lin (.op 0 (.op 1 (.op 2 (.op 3 .done)))) (by rfl) ?_
  refine wpT_valp 46 (v := U32 a1) rfl rfl rfl (by go_simp) ?_
  refine wpT_valp 47 (v := U32 b1) rfl rfl rfl (by go_simp) ?_
  refine wpT_valp 48 (v := U32 a2) rfl rfl rfl (by have h := Ha2.out; go_simp) ?_
  refine wpT_valp 11 (v := U32 a2) rfl rfl rfl (by go_simp) ?_
  dsimp only [wpT]
  try simp only [Act.put, List.setIfInBounds_toArray, List.set_cons_succ, List.set_cons_zero]
  go_upto_region 7 with fail
  refine wp_region_lin (.op 0 (.op 1 (.op 2 (.op 3 (.op 4 .done))))) (by rfl) ?_
  refine wpT_valp 49 (v := U32 d1) rfl rfl rfl (by go_simp) ?_
  refine wpT_valp 50 (v := U32 a2) rfl rfl rfl (by go_simp) ?_
  refine wpT_valp 51 (v := U32 (d1 ^^^ a2)) rfl rfl rfl (by go_simp) ?_
  refine wpT_callv 52 M6 (v := U32 d2) rfl rfl rfl (by go_simp) (rleft8 w5 (d1 ^^^ a2) d2 Hd2.out) (fun w7 M8 => ?_)
  try simp only [Act.put, List.setIfInBounds_toArray, List.set_cons_succ, List.set_cons_zero]
  refine wpT_valp 14 (v := U32 d2) rfl rfl rfl (by go_simp) ?_
  dsimp only [wpT]
  try simp only [Act.put, List.setIfInBounds_toArray, List.set_cons_succ, List.set_cons_zero]
  go_upto_region 8 with fail
  refine wp_region_lin (.op 0 (.op 1 (.op 2 (.op 3 .done)))) (by rfl) ?_
  refine wpT_valp 53 (v := U32 c1) rfl rfl rfl (by go_simp) ?_
  refine wpT_valp 54 (v := U32 d2) rfl rfl rfl (by go_simp) ?_
  refine wpT_valp 55 (v := U32 c2) rfl rfl rfl (by have h := Hc2.out; go_simp) ?_
  refine wpT_valp 13 (v := U32 c2) rfl rfl rfl (by go_simp) ?_
  dsimp only [wpT]
  try simp only [Act.put, List.setIfInBounds_toArray, List.set_cons_succ, List.set_cons_zero]
  go_upto_region 9 with fail
  refine wp_region_lin (.op 0 (.op 1 (.op 2 (.op 3 (.op 4 .done))))) (by rfl) ?_
  refine wpT_valp 56 (v := U32 b1) rfl rfl rfl (by go_simp) ?_
  refine wpT_valp 57 (v := U32 c2) rfl rfl rfl (by go_simp) ?_
  refine wpT_valp 58 (v := U32 (b1 ^^^ c2)) rfl rfl rfl (by go_simp) ?_
  refine wpT_callv 59 M8 (v := U32 b2) rfl rfl rfl (by go_simp) (rleft7 w7 (b1 ^^^ c2) b2 Hb2.out) (fun w9 M10 => ?_)
  try simp only [Act.put, List.setIfInBounds_toArray, List.set_cons_succ, List.set_cons_zero]
  refine wpT_valp 12 (v := U32 b2) rfl rfl rfl (by go_simp) ?_
  dsimp only [wpT]
  try simp only [Act.put, List.setIfInBounds_toArray, List.set_cons_succ, List.set_cons_zero]
  go_upto_region 10 with fail
  refine wp_region_lin (.op 0 (.op 1 (.op 2 (.op 3 .done)))) (by rfl) ?_
  refine wpT_w0 60 M10 rfl rfl rfl rfl (fun g11 w12 O14 M13 => ?_)
  refine wpT_valp 61 (v := .slice (some ⟨gs, os, none⟩) 16 cs_) rfl rfl rfl (by go_simp) ?_
  refine wpT_apw 62 _ _ M13 w.heap.size (.slice (some ⟨g11, 0, none⟩) 0 0) (.slice (some ⟨gs, os, none⟩) 16 cs_) [] s rfl rfl rfl rfl (by go_simp) (O14.mono M10.size) (by go_simp) (SV.below HVS.out M13.end_) (by simp; omega) (M13.size) (Nat.le_refl _) (fun g hg p hp => by cases hp) (fun u9 w9 O9 M9 => ?_)
  rw [List.nil_append] at O9
  obtain ⟨g9, c9, e9, i9, j9⟩ := O9.openw hs (by decide)
  subst e9
  refine wpT_valp 15 (v := .slice (some ⟨g9, 0, none⟩) 16 c9) rfl rfl rfl (by go_simp) ?_
  dsimp only [wpT]
  try simp only [Act.put, List.setIfInBounds_toArray, List.set_cons_succ, List.set_cons_zero]
  go_upto_region 11 with fail
  refine wp_region_lin (.op 0 (.op 1 (.op 2 (.op 3 (.op 4 .done))))) (by rfl) ?_
  refine wpT_valp 63 (v := .slice (some ⟨g9, 0, none⟩) 16 c9) rfl rfl rfl (by go_simp) ?_
  refine wpT_valp 64 (v := .int .i64 i) rfl rfl rfl (by go_simp) ?_
  refine wpT_valp 65 (v := U32 a2) rfl rfl rfl (by go_simp) ?_
  refine wpT_valp 66 (v := .pointer (some ⟨g9, i, none⟩)) rfl rfl rfl (by go_simp) ?_
  try simp only [Act.put, List.setIfInBounds_toArray, List.set_cons_succ, List.set_cons_zero]
  obtain ⟨f1, f2, O9n⟩ := O9.setw (by first | exact hs | (simp; omega)) i (by omega) a2
  refine wpT_stb (U32 a2) inf_u32 rfl rfl rfl (by go_simp) (by go_simp) f2 (by simp [go_sem]) f1 rfl ?_
  have N1 := M9.setOwn (g := g9) ((w9.rowOf g9).setIfInBounds i (U32 a2)) i9 (by simp)
  obtain ⟨v1, hv1⟩ : ∃ v1, v1 = w9.setRow g9 ((w9.rowOf g9).setIfInBounds i (U32 a2)) := ⟨_, rfl⟩
  rw [← hv1] at N1 O9n ⊢
  clear hv1 f1 f2 O9
  have O9 := O9n
  clear O9n
  dsimp only [wpT]
  try simp only [Act.put, List.setIfInBounds_toArray, List.set_cons_succ, List.set_cons_zero]
  go_upto_region 12 with fail
  refine wp_region_lin (.op 0 (.op 1 (.op 2 (.op 3 (.op 4 .done))))) (by rfl) ?_
  refine wpT_valp 67 (v := .slice (some ⟨g9, 0, none⟩) 16 c9) rfl rfl rfl (by go_simp) ?_
  refine wpT_valp 68 (v := .int .i64 j) rfl rfl rfl (by go_simp) ?_
  refine wpT_valp 69 (v := U32 b2) rfl rfl rfl (by go_simp) ?_
  refine wpT_valp 70 (v := .pointer (some ⟨g9, j, none⟩)) rfl rfl rfl (by go_simp) ?_
  try simp only [Act.put, List.setIfInBounds_toArray, List.set_cons_succ, List.set_cons_zero]
  obtain ⟨f1, f2, O9n⟩ := O9.setw (by first | exact hs | (simp; omega)) j (by omega) b2
  refine wpT_stb (U32 b2) inf_u32 rfl rfl rfl (by go_simp) (by go_simp) f2 (by simp [go_sem]) f1 rfl ?_
  have N2 := N1.setOwn (g := g9) ((v1.rowOf g9).setIfInBounds j (U32 b2)) i9 (by simp)
  obtain ⟨v2, hv2⟩ : ∃ v2, v2 = v1.setRow g9 ((v1.rowOf g9).setIfInBounds j (U32 b2)) := ⟨_, rfl⟩
  rw [← hv2] at N2 O9n ⊢
  clear hv2 f1 f2 O9
  have O9 := O9n
  clear O9n
  dsimp only [wpT]
  try simp only [Act.put, List.setIfInBounds_toArray, List.set_cons_succ, List.set_cons_zero]
  go_upto_region 13 with fail
  refine wp_region_lin (.op 0 (.op 1 (.op 2 (.op 3 (.op 4 .done))))) (by rfl) ?_
  refine wpT_valp 71 (v := .slice (some ⟨g9, 0, none⟩) 16 c9) rfl rfl rfl (by go_simp) ?_
  refine wpT_valp 72 (v := .int .i64 k) rfl rfl rfl (by go_simp) ?_
  refine wpT_valp 73 (v := U32 c2) rfl rfl rfl (by go_simp) ?_
  refine wpT_valp 74 (v := .pointer (some ⟨g9, k, none⟩)) rfl rfl rfl (by go_simp) ?_
  try simp only [Act.put, List.setIfInBounds_toArray, List.set_cons_succ, List.set_cons_zero]
  obtain ⟨f1, f2, O9n⟩ := O9.setw (by first | exact hs | (simp; omega)) k (by omega) c2
  refine wpT_stb (U32 c2) inf_u32 rfl rfl rfl (by go_simp) (by go_simp) f2 (by simp [go_sem]) f1 rfl ?_
  have N3 := N2.setOwn (g := g9) ((v2.rowOf g9).setIfInBounds k (U32 c2)) i9 (by simp)
  obtain ⟨v3, hv3⟩ : ∃ v3, v3 = v2.setRow g9 ((v2.rowOf g9).setIfInBounds k (U32 c2)) := ⟨_, rfl⟩
  rw [← hv3] at N3 O9n ⊢
  clear hv3 f1 f2 O9
  have O9 := O9n
  clear O9n
  dsimp only [wpT]
  try simp only [Act.put, List.setIfInBounds_toArray, List.set_cons_succ, List.set_cons_zero]
  go_upto_region 14 with fail
  refine wp_region_lin (.op 0 (.op 1 (.op 2 (.op 3 (.op 4 .done))))) (by rfl) ?_
  refine wpT_valp 75 (v := .slice (some ⟨g9, 0, none⟩) 16 c9) rfl rfl rfl (by go_simp) ?_
  refine wpT_valp 76 (v := .int .i64 l) rfl rfl rfl (by go_simp) ?_
  refine wpT_valp 77 (v := U32 d2) rfl rfl rfl (by go_simp) ?_
  refine wpT_valp 78 (v := .pointer (some ⟨g9, l, none⟩)) rfl rfl rfl (by go_simp) ?_
  try simp only [Act.put, List.setIfInBounds_toArray, List.set_cons_succ, List.set_cons_zero]
  obtain ⟨f1, f2, O9n⟩ := O9.setw (by first | exact hs | (simp; omega)) l (by omega) d2
  refine wpT_stb (U32 d2) inf_u32 rfl rfl rfl (by go_simp) (by go_simp) f2 (by simp [go_sem]) f1 rfl ?_
  have N4 := N3.setOwn (g := g9) ((v3.rowOf g9).setIfInBounds l (U32 d2)) i9 (by simp)
  obtain ⟨v4, hv4⟩ : ∃ v4, v4 = v3.setRow g9 ((v3.rowOf g9).setIfInBounds l (U32 d2)) := ⟨_, rfl⟩
  rw [← hv4] at N4 O9n ⊢
  clear hv4 f1 f2 O9
  have O9 := O9n
  clear O9n
  dsimp only [wpT]
  try simp only [Act.put, List.setIfInBounds_toArray, List.set_cons_succ, List.set_cons_zero]
  go_upto_region 15 with fail
  refine wp_region_lin (.op 0 (.op 1 .done)) (by rfl) ?_
  refine wpT_valp 79 (v := .slice (some ⟨g9, 0, none⟩) 16 c9) rfl rfl rfl (by go_simp) ?_
  refine wpT_valp 10 (v := .slice (some ⟨g9, 0, none⟩) 16 c9) rfl rfl rfl (by go_simp) ?_
  dsimp only [wpT]
  try simp only [Act.put, List.setIfInBounds_toArray, List.set_cons_succ, List.set_cons_zero]
  go_wp2_with fail
  rw [HQ.out] at O9
  go_ret
  exact ⟨_, rfl, O9, N4.end_⟩
end Go.Proofs.YtbigmnhjnjeeaaaDoor
set_option linter.unusedSimpArgs false
set_option linter.unusedVariables false
namespace Go.Proofs.YtbigmnhjnjeeaaaDoor
open Go.RowKit
theorem OW.below {w w' : World} {base : Nat} {v : Value} {l : List (BitVec 32)} (h : OW w base v l) (hb : Below w.heap.size w w') : OW w' base v l := by
  obtain ⟨h1, h⟩ := h
  refine ⟨h1, h.imp id fun ⟨g, cap, cur, e, h2, hh, r⟩ => ⟨g, cap, cur, e, h2, ?_, r⟩⟩
  rw [hb.block g (Array.getElem?_eq_some_iff.1 hh).1]; exact hh
theorem Mm.holdW {S : Nat → Prop} {w0 w5 : World} {H : List (Nat × Array Value)} (N : Mm S w0 H w5) (B : Nat) (hB : ∀ p ∈ H, p.1 < B) {v : Value} {l : List (BitVec 32)} (hx : WS w5 v l) (hg : ∀ g, v.ownBlock = some g → B ≤ g) : ∃ S', Mm S' w5 H w5 ∧ Hid (∀ H' w'', Mm S' w5 H' w'' → Mm S w0 H' w'') ∧ Hid (∀ H' w'', Mm S' w5 H' w'' → WS w'' v l) := by
  obtain ⟨S1, MR, hS1, hT1⟩ := N.rebase
  refine ⟨S1, MR, hid hT1, hid fun H' w'' N => SV.keep hx (fun g h1 h2 => N.fr.block g h2 (fun hs => ?_))⟩
  obtain ⟨p, hp, e⟩ := List.mem_map.1 (hS1 g hs)
  have := hB p hp
  have := hg g h1
  omega
/-- the first words, as far as they are there -/
def gKw (k : List (BitVec 8)) (i : Nat) : List (BitVec 32) := c4L ++ (List.range i).map (fun i => Ch.wd k (4 * i))
def gNw (k n : List (BitVec 8)) (c : BitVec 32) (i : Nat) : List (BitVec 32) := gKw k 8 ++ [c] ++ (List.range i).map (fun i => Ch.wd n (4 * i))
theorem gKw_0 (k : List (BitVec 8)) : gKw k 0 = c4L := by simp [gKw]
theorem gKw_len (k : List (BitVec 8)) (i : Nat) : (gKw k i).length = 4 + i := by simp [gKw]; omega
theorem gKw_succ (k : List (BitVec 8)) (i : Nat) : gKw k i ++ [Ch.wd k (4 * i)] = gKw k (i + 1) := by simp [gKw, List.range_succ]
theorem gNw_0 (k n : List (BitVec 8)) (c : BitVec 32) : gKw k 8 ++ [c] = gNw k n c 0 := by simp [gNw]
theorem gNw_len (k n : List (BitVec 8)) (c : BitVec 32) (i : Nat) : (gNw k n c i).length = 13 + i := by simp [gNw, gKw_len]; omega
theorem gNw_succ (k n : List (BitVec 8)) (c : BitVec 32) (i : Nat) : gNw k n c i ++ [Ch.wd n (4 * i)] = gNw k n c (i + 1) := by simp [gNw, List.range_succ]
theorem gNw_3 (k n : List (BitVec 8)) (c : BitVec 32) : gNw k n c 3 = Ch.fst k n c := by simp [gNw, gKw, Ch.fst]
attribute [local irreducible] gKw gNw Ch.wd Ch.fst
set_option maxRecDepth 100000 in
set_option maxHeartbeats 8000000 in
theorem rfirst (w : World) (k n : List (BitVec 8)) (c : BitVec 32) (f : List (BitVec 32)) (hk : k.length = 32) (hn : n.length = 12) (hf : Ch.fst k n c = f) :
    Calls Tryd.prog 70 #[.agg (cs U8 k), .agg (cs U8 n), U32 c] w fun e w' => ∃ v, e = .returned v ∧ OW w' w.heap.size v f ∧ Below w.heap.size w w' := by
  rw [← hf, ← gNw_3]
  clear hf
  have hsep : ∀ (w1 : World) (v : Value) (l : List (BitVec 32)), OW w1 (w.heap.size + 2) v l → ∀ g, v.ownBlock = some g → ∀ p ∈ [(w.heap.size + 1, cs U8 n), (w.heap.size, cs U8 k)], p.1 ≠ g := by
    intro w1 v l h g hg p hp
    have h1 := (h.lt g hg).1
    simp only [List.mem_cons, List.not_mem_nil, or_false] at hp
    rcases hp with rfl | rfl <;> simp only <;> omega
  have M0 := Mm.start no w
  go_enter Tryd.func70, Tryd.ntmps70
  have M2 := ((M0.alloc (cs U8 k) 23 (by decide)).alloc (cs U8 n) 28 (by decide))
  try simp only [World.size_alloc] at M2
  go_upto_region 1 with fail
  obtain ⟨w1, hw1⟩ : ∃ w1, w1 = ((w.alloc (.cells (cs U8 k) 23)).alloc (.cells (cs U8 n) 28)) := ⟨_, rfl⟩
  rw [← hw1] at M2 ⊢
  clear hw1
  refine wp_region_lin (.op 0 (.op 1 .done)) (by rfl) ?_
  refine wpT_w32 (len := 4) 10 M2 c4L (by rfl) (by decide) (by decide) rfl rfl rfl (by go_simp; rfl) rfl (fun g3 w4 O4 M5 B6 _ => ?_)
  replace O4 := OW.mono O4 (show w.heap.size + 2 ≤ _ from by have := M2.lt (b := w.heap.size + 1) (c := cs U8 n) (by simp); omega)
  refine wpT_valp 7 (v := .slice (some ⟨g3, 0, none⟩) 4 4) rfl rfl rfl (by go_simp) ?_
  dsimp only [wpT]
  try simp only [Act.put, List.setIfInBounds_toArray, List.set_cons_succ, List.set_cons_zero]
  go_upto_region 2 with fail
  refine wp_region_lin (.op 0 .done) (by rfl) ?_
  refine wpT_valp 8 (v := .int .i64 0) rfl rfl rfl (by go_simp) ?_
  dsimp only [wpT]
  try simp only [Act.put, List.setIfInBounds_toArray, List.set_cons_succ, List.set_cons_zero]
  go_wp2_with fail
  go_loopw [7, 8] (fun u x wr => ∃ i : Nat, i ≤ 8 ∧ x = .int .i64 i ∧ OW wr (w.heap.size + 2) u (gKw k i) ∧ Mm no w [(w.heap.size + 1, cs U8 n), (w.heap.size, cs U8 k)] wr) (fun _ x _ => 8 - (intOf x).toNat)
  case atStart => exact ⟨0, by omega, rfl, by rw [gKw_0]; exact O4, M5⟩
  case round =>
    clear M5 O4
    obtain ⟨i, hi, rfl, OU, M⟩ := hrel
    have hgl := gKw_len k i
    by_cases hi8 : i < 8
    · skip
      have hlt2 : (i : Int) < 8 := by omega
      have hi0 : (0 : Int) ≤ (i : Int) := by omega
      obtain ⟨q0, hq0⟩ : ∃ q0 : Nat, q0 = 4 * i := ⟨_, rfl⟩
      obtain ⟨q1, hq1⟩ : ∃ q1 : Nat, q1 = q0 + 1 := ⟨_, rfl⟩
      obtain ⟨q2, hq2⟩ : ∃ q2 : Nat, q2 = q0 + 2 := ⟨_, rfl⟩
      obtain ⟨q3, hq3⟩ : ∃ q3 : Nat, q3 = q0 + 3 := ⟨_, rfl⟩
      have HQ0 := hid (show IntKind.i64.wrap (4 * (i : Int)) = (q0 : Int) by rw [i64m _ (by omega) (by omega), hq0]; omega)
      have HQ1 := hid (show IntKind.i64.wrap ((q0 : Int) + 1) = (q1 : Int) by rw [i64m _ (by omega) (by omega), hq1]; omega)
      have HQ2 := hid (show IntKind.i64.wrap ((q0 : Int) + 2) = (q2 : Int) by rw [i64m _ (by omega) (by omega), hq2]; omega)
      have HQ3 := hid (show IntKind.i64.wrap ((q0 : Int) + 3) = (q3 : Int) by rw [i64m _ (by omega) (by omega), hq3]; omega)
      have b0 : q0 < 32 := by omega
      have b1 : q1 < 32 := by omega
      have b2 : q2 < 32 := by omega
      have b3 : q3 < 32 := by omega
      have d0 : (q0 : Int) < 32 := by omega
      have d1 : (q1 : Int) < 32 := by omega
      have d2 : (q2 : Int) < 32 := by omega
      have d3 : (q3 : Int) < 32 := by omega
      have z0 : (0 : Int) ≤ (q0 : Int) := by omega
      have z1 : (0 : Int) ≤ (q1 : Int) := by omega
      have z2 : (0 : Int) ≤ (q2 : Int) := by omega
      have z3 : (0 : Int) ≤ (q3 : Int) := by omega
      obtain ⟨x0, hx0⟩ : ∃ x, x = k.getD q0 0 := ⟨_, rfl⟩
      obtain ⟨x1, hx1⟩ : ∃ x, x = k.getD q1 0 := ⟨_, rfl⟩
      obtain ⟨x2, hx2⟩ : ∃ x, x = k.getD q2 0 := ⟨_, rfl⟩
      obtain ⟨x3, hx3⟩ : ∃ x, x = k.getD q3 0 := ⟨_, rfl⟩
      obtain ⟨x, hx⟩ : ∃ x, x = Ch.wd k (4 * i) := ⟨_, rfl⟩
      have Hx : Hid (x = x0.setWidth 32 ||| (x1.setWidth 32 <<< 8) ||| (x2.setWidth 32 <<< 16) ||| (x3.setWidth 32 <<< 24)) := hid (by rw [hx, hx0, hx1, hx2, hx3, hq1, hq2, hq3, hq0]; unfold Ch.wd; rfl)
      have HXS := hid hx
      have Hx0 := hid hx0
      have Hx1 := hid hx1
      have Hx2 := hid hx2
      have Hx3 := hid hx3
      clear hx hx0 hx1 hx2 hx3 hq0 hq1 hq2 hq3
      go_upto_region 5 with fail
      refine wp_region_seq 20 [15, 16, 17, 18, 19, 20, 21, 22, 23, 24, 25, 26, 27, 28, 29, 30, 31, 32, 33, 34] [] [0] [] (.op 20 (.op 21 (.op 22 (.op 23 (.op 24 .done))))) (fun w' => Mm no w [(w.heap.size + 1, cs U8 n), (w.heap.size, cs U8 k)] w' ∧ OW w' (w.heap.size + 2) u7 (gKw k i)) (by kernel_rfl) (by kernel_rfl) (by kernel_rfl) (fun d _ _ _ _ h => by cases d <;> exact h) (by rfl) M.size (fun _ _ h k => ⟨h.1.sf k, own_soft h.2 k (by decide)⟩) ⟨M, OU⟩ ?_
      simp only [List.take_succ_cons, List.take_zero]
      refine SeqA.pure (u7) (fun w' => by go_simp) rfl rfl ?_
      refine SeqA.pure (.int .i64 i) (fun w' => by go_simp) rfl rfl ?_
      refine SeqA.pure (.int .i64 q0) (fun w' => by have h := HQ0.out; go_simp) rfl rfl ?_
      refine SeqA.pure (.pointer (some ⟨w.heap.size, q0, none⟩)) (fun w' => by go_simp) rfl rfl ?_
      refine SeqA.read (U8 x0) (fun w' hI => by have c0 := cell_cs 0 (hI.1.row (b := w.heap.size) (c := cs U8 k) (by simp)) (i := q0) (by omega); rw [← Hx0.out] at c0; go_simp) rfl rfl ?_
      simp only [Act.put, List.setIfInBounds_toArray, List.set_cons_succ, List.set_cons_zero]
      refine SeqA.pure (.int .i64 i) (fun w' => by go_simp) rfl rfl ?_
      refine SeqA.pure (.int .i64 q0) (fun w' => by have h := HQ0.out; go_simp) rfl rfl ?_
      refine SeqA.pure (.int .i64 q1) (fun w' => by have h := HQ1.out; go_simp) rfl rfl ?_
      refine SeqA.pure (.pointer (some ⟨w.heap.size, q1, none⟩)) (fun w' => by go_simp) rfl rfl ?_
      refine SeqA.read (U8 x1) (fun w' hI => by have c0 := cell_cs 0 (hI.1.row (b := w.heap.size) (c := cs U8 k) (by simp)) (i := q1) (by omega); rw [← Hx1.out] at c0; go_simp) rfl rfl ?_
      refine SeqA.pure (.int .i64 i) (fun w' => by go_simp) rfl rfl ?_
      simp only [Act.put, List.setIfInBounds_toArray, List.set_cons_succ, List.set_cons_zero]
      refine SeqA.pure (.int .i64 q0) (fun w' => by have h := HQ0.out; go_simp) rfl rfl ?_
      refine SeqA.pure (.int .i64 q2) (fun w' => by have h := HQ2.out; go_simp) rfl rfl ?_
      refine SeqA.pure (.pointer (some ⟨w.heap.size, q2, none⟩)) (fun w' => by go_simp) rfl rfl ?_
      refine SeqA.read (U8 x2) (fun w' hI => by have c0 := cell_cs 0 (hI.1.row (b := w.heap.size) (c := cs U8 k) (by simp)) (i := q2) (by omega); rw [← Hx2.out] at c0; go_simp) rfl rfl ?_
      refine SeqA.pure (.int .i64 i) (fun w' => by go_simp) rfl rfl ?_
      refine SeqA.pure (.int .i64 q0) (fun w' => by have h := HQ0.out; go_simp) rfl rfl ?_
      simp only [Act.put, List.setIfInBounds_toArray, List.set_cons_succ, List.set_cons_zero]
      refine SeqA.pure (.int .i64 q3) (fun w' => by have h := HQ3.out; go_simp) rfl rfl ?_
      refine SeqA.pure (.pointer (some ⟨w.heap.size, q3, none⟩)) (fun w' => by go_simp) rfl rfl ?_
      refine SeqA.read (U8 x3) (fun w' hI => by have c0 := cell_cs 0 (hI.1.row (b := w.heap.size) (c := cs U8 k) (by simp)) (i := q3) (by omega); rw [← Hx3.out] at c0; go_simp) rfl rfl ?_
      refine SeqA.nil (fun w1 M2 hz => ?_)
      obtain ⟨M2, OU2⟩ := M2
      show wpT _ _ _ _ _ _
      simp only [Act.put, List.setIfInBounds_toArray, List.set_cons_succ, List.set_cons_zero]
      refine wpT_b8 (len := 4) 35 M2 [x0, x1, x2, x3] rfl (by decide) (by decide) rfl rfl rfl (by go_simp; rfl) rfl (fun g1 w1 hu1 M1 hb1 _ _ => ?_)
      replace OU2 := OW.below OU2 hb1
      refine wpT_callx 36 M1 (X := fun v _ => v = U32 x) rfl rfl rfl (by go_simp) ((rword w1 g1 0 4 4 x0 x1 x2 x3 (by decide) ⟨by have c0 := bs_cell hu1 0 (by simp); simpa using c0, by have c0 := bs_cell hu1 1 (by simp); simpa using c0, by have c0 := bs_cell hu1 2 (by simp); simpa using c0, by have c0 := bs_cell hu1 3 (by simp); simpa using c0⟩).mono (fun e w' ⟨h1, h2⟩ => ⟨_, h1, by rw [Hx.out], h2⟩)) (fun v2 w2 hv2 M2 hb2 => ?_)
      subst hv2
      replace OU2 := OW.below OU2 hb2
      refine wpT_w32 (len := 1) 37 M2 [x] rfl (by decide) (by decide) rfl rfl rfl (by go_simp; rfl) rfl (fun g3 w4 OX M5 B6 _ => ?_)
      replace OU2 := OW.below OU2 B6
      have hzO10 := M5.lt (b := w.heap.size + 1) (c := cs U8 n) (by simp)
      refine wpT_apw 38 _ _ M5 (w.heap.size + 2) u7 (.slice (some ⟨g3, 0, none⟩) 1 1) (gKw k i) ([x]) rfl rfl rfl rfl (by go_simp) OU2 (by go_simp) OX.ws (by simp; omega) (by omega) (by omega) (fun g hg p hp => hsep _ _ _ OU2 g hg p hp) (fun y9 w7 O10 M8 => ?_)
      try simp only [Act.put, List.setIfInBounds_toArray, List.set_cons_succ, List.set_cons_zero]
      refine wpT_valp 7 (v := y9) rfl rfl rfl (by go_simp) ?_
      dsimp only [wpT]
      try simp only [Act.put, List.setIfInBounds_toArray, List.set_cons_succ, List.set_cons_zero]
      go_wp2_with fail
      rw [HXS.out, gKw_succ] at O10
      go_roundw
      case rel => exact ⟨i + 1, by omega, by simp, O10, M8⟩
      case measure => simp only [intOf]; omega
    · obtain rfl : i = 8 := by omega
      go_upto_region 6 with fail
      refine wp_region_lin (.op 0 (.op 1 (.op 2 (.op 3 (.op 4 .done))))) (by rfl) ?_
      refine wpT_valp 39 (v := u7) rfl rfl rfl (by go_simp) ?_
      refine wpT_valp 40 (v := U32 c) rfl rfl rfl (by go_simp) ?_
      refine wpT_w32 (len := 1) 41 M [c] rfl (by decide) (by decide) rfl rfl rfl (by go_simp; rfl) rfl (fun g1 w2 OX M3 B4 _ => ?_)
      replace OU := OW.below OU B4
      have hzO8 := M3.lt (b := w.heap.size + 1) (c := cs U8 n) (by simp)
      refine wpT_apw 42 _ _ M3 (w.heap.size + 2) u7 (.slice (some ⟨g1, 0, none⟩) 1 1) (gKw k 8) ([c]) rfl rfl rfl rfl (by go_simp) OU (by go_simp) OX.ws (by simp; omega) (by omega) (by omega) (fun g hg p hp => hsep _ _ _ OU g hg p hp) (fun y7 w5 O8 M6 => ?_)
      try simp only [Act.put, List.setIfInBounds_toArray, List.set_cons_succ, List.set_cons_zero]
      refine wpT_valp 7 (v := y7) rfl rfl rfl (by go_simp) ?_
      dsimp only [wpT]
      try simp only [Act.put, List.setIfInBounds_toArray, List.set_cons_succ, List.set_cons_zero]
      go_upto_region 7 with fail
      refine wp_region_lin (.op 0 .done) (by rfl) ?_
      refine wpT_valp 9 (v := .int .i64 0) rfl rfl rfl (by go_simp) ?_
      dsimp only [wpT]
      try simp only [Act.put, List.setIfInBounds_toArray, List.set_cons_succ, List.set_cons_zero]
      go_wp2_with fail
      rw [gNw_0 k n c] at O8
      go_loopw [7, 9] (fun u x wr => ∃ i : Nat, i ≤ 3 ∧ x = .int .i64 i ∧ OW wr (w.heap.size + 2) u (gNw k n c i) ∧ Mm no w [(w.heap.size + 1, cs U8 n), (w.heap.size, cs U8 k)] wr) (fun _ x _ => 3 - (intOf x).toNat)
      case atStart => exact ⟨0, by omega, rfl, O8, M6⟩
      case round =>
        clear M6 O8 M hi hi8 hgl
        obtain ⟨i, hi, rfl, OU, M⟩ := hrel
        have hgl := gNw_len k n c i
        by_cases hi3 : i < 3
        · skip
          have hlt2 : (i : Int) < 3 := by omega
          have hi0 : (0 : Int) ≤ (i : Int) := by omega
          obtain ⟨q0, hq0⟩ : ∃ q0 : Nat, q0 = 4 * i := ⟨_, rfl⟩
          obtain ⟨q1, hq1⟩ : ∃ q1 : Nat, q1 = q0 + 1 := ⟨_, rfl⟩
          obtain ⟨q2, hq2⟩ : ∃ q2 : Nat, q2 = q0 + 2 := ⟨_, rfl⟩
          obtain ⟨q3, hq3⟩ : ∃ q3 : Nat, q3 = q0 + 3 := ⟨_, rfl⟩
          have HQ0 := hid (show IntKind.i64.wrap (4 * (i : Int)) = (q0 : Int) by rw [i64m _ (by omega) (by omega), hq0]; omega)
          have HQ1 := hid (show IntKind.i64.wrap ((q0 : Int) + 1) = (q1 : Int) by rw [i64m _ (by omega) (by omega), hq1]; omega)
          have HQ2 := hid (show IntKind.i64.wrap ((q0 : Int) + 2) = (q2 : Int) by rw [i64m _ (by omega) (by omega), hq2]; omega)
          have HQ3 := hid (show IntKind.i64.wrap ((q0 : Int) + 3) = (q3 : Int) by rw [i64m _ (by omega) (by omega), hq3]; omega)
          have b0 : q0 < 12 := by omega
          have b1 : q1 < 12 := by omega
          have b2 : q2 < 12 := by omega
          have b3 : q3 < 12 := by omega
          have d0 : (q0 : Int) < 12 := by omega
          have d1 : (q1 : Int) < 12 := by omega
          have d2 : (q2 : Int) < 12 := by omega
          have d3 : (q3 : Int) < 12 := by omega
          have z0 : (0 : Int) ≤ (q0 : Int) := by omega
          have z1 : (0 : Int) ≤ (q1 : Int) := by omega
          have z2 : (0 : Int) ≤ (q2 : Int) := by omega
          have z3 : (0 : Int) ≤ (q3 : Int) := by omega
          obtain ⟨x0, hx0⟩ : ∃ x, x = n.getD q0 0 := ⟨_, rfl⟩
          obtain ⟨x1, hx1⟩ : ∃ x, x = n.getD q1 0 := ⟨_, rfl⟩
          obtain ⟨x2, hx2⟩ : ∃ x, x = n.getD q2 0 := ⟨_, rfl⟩
          obtain ⟨x3, hx3⟩ : ∃ x, x = n.getD q3 0 := ⟨_, rfl⟩
          obtain ⟨x, hx⟩ : ∃ x, x = Ch.wd n (4 * i) := ⟨_, rfl⟩
          have Hx : Hid (x = x0.setWidth 32 ||| (x1.setWidth 32 <<< 8) ||| (x2.setWidth 32 <<< 16) ||| (x3.setWidth 32 <<< 24)) := hid (by rw [hx, hx0, hx1, hx2, hx3, hq1, hq2, hq3, hq0]; unfold Ch.wd; rfl)
          have HXS := hid hx
          have Hx0 := hid hx0
          have Hx1 := hid hx1
          have Hx2 := hid hx2
          have Hx3 := hid hx3
          clear hx hx0 hx1 hx2 hx3 hq0 hq1 hq2 hq3
          go_upto_region 10 with fail
          refine wp_region_seq 20 [47, 48, 49, 50, 51, 52, 53, 54, 55, 56, 57, 58, 59, 60, 61, 62, 63, 64, 65, 66] [] [0] [] (.op 20 (.op 21 (.op 22 (.op 23 (.op 24 .done))))) (fun w' => Mm no w [(w.heap.size + 1, cs U8 n), (w.heap.size, cs U8 k)] w' ∧ OW w' (w.heap.size + 2) u7 (gNw k n c i)) (by kernel_rfl) (by kernel_rfl) (by kernel_rfl) (fun d _ _ _ _ h => by cases d <;> exact h) (by rfl) M.size (fun _ _ h k => ⟨h.1.sf k, own_soft h.2 k (by decide)⟩) ⟨M, OU⟩ ?_
          simp only [List.take_succ_cons, List.take_zero]
          refine SeqA.pure (u7) (fun w' => by go_simp) rfl rfl ?_
          refine SeqA.pure (.int .i64 i) (fun w' => by go_simp) rfl rfl ?_
          refine SeqA.pure (.int .i64 q0) (fun w' => by have h := HQ0.out; go_simp) rfl rfl ?_
          refine SeqA.pure (.pointer (some ⟨w.heap.size + 1, q0, none⟩)) (fun w' => by go_simp) rfl rfl ?_
          refine SeqA.read (U8 x0) (fun w' hI => by have c0 := cell_cs 0 (hI.1.row (b := w.heap.size + 1) (c := cs U8 n) (by simp)) (i := q0) (by omega); rw [← Hx0.out] at c0; go_simp) rfl rfl ?_
          simp only [Act.put, List.setIfInBounds_toArray, List.set_cons_succ, List.set_cons_zero]
          refine SeqA.pure (.int .i64 i) (fun w' => by go_simp) rfl rfl ?_
          refine SeqA.pure (.int .i64 q0) (fun w' => by have h := HQ0.out; go_simp) rfl rfl ?_
          refine SeqA.pure (.int .i64 q1) (fun w' => by have h := HQ1.out; go_simp) rfl rfl ?_
          refine SeqA.pure (.pointer (some ⟨w.heap.size + 1, q1, none⟩)) (fun w' => by go_simp) rfl rfl ?_
          refine SeqA.read (U8 x1) (fun w' hI => by have c0 := cell_cs 0 (hI.1.row (b := w.heap.size + 1) (c := cs U8 n) (by simp)) (i := q1) (by omega); rw [← Hx1.out] at c0; go_simp) rfl rfl ?_
          refine SeqA.pure (.int .i64 i) (fun w' => by go_simp) rfl rfl ?_
          simp only [Act.put, List.setIfInBounds_toArray, List.set_cons_succ, List.set_cons_zero]
          refine SeqA.pure (.int .i64 q0) (fun w' => by have h := HQ0.out; go_simp) rfl rfl ?_
          refine SeqA.pure (.int .i64 q2) (fun w' => by have h := HQ2.out; go_simp) rfl rfl ?_
          refine SeqA.pure (.pointer (some ⟨w.heap.size + 1, q2, none⟩)) (fun w' => by go_simp) rfl rfl ?_
          refine SeqA.read (U8 x2) (fun w' hI => by have c0 := cell_cs 0 (hI.1.row (b := w.heap.size + 1) (c := cs U8 n) (by simp)) (i := q2) (by omega); rw [← Hx2.out] at c0; go_simp) rfl rfl ?_
          refine SeqA.pure (.int .i64 i) (fun w' => by go_simp) rfl rfl ?_
          refine SeqA.pure (.int .i64 q0) (fun w' => by have h := HQ0.out; go_simp) rfl rfl ?_
          simp only [Act.put, List.setIfInBounds_toArray, List.set_cons_succ, List.set_cons_zero]
          refine SeqA.pure (.int .i64 q3) (fun w' => by have h := HQ3.out; go_simp) rfl rfl ?_
          refine SeqA.pure (.pointer (some ⟨w.heap.size + 1, q3, none⟩)) (fun w' => by go_simp) rfl rfl ?_
          refine SeqA.read (U8 x3) (fun w' hI => by have c0 := cell_cs 0 (hI.1.row (b := w.heap.size + 1) (c := cs U8 n) (by simp)) (i := q3) (by omega); rw [← Hx3.out] at c0; go_simp) rfl rfl ?_
          refine SeqA.nil (fun w1 M2 hz => ?_)
          obtain ⟨M2, OU2⟩ := M2
          show wpT _ _ _ _ _ _
          simp only [Act.put, List.setIfInBounds_toArray, List.set_cons_succ, List.set_cons_zero]
          refine wpT_b8 (len := 4) 67 M2 [x0, x1, x2, x3] rfl (by decide) (by decide) rfl rfl rfl (by go_simp; rfl) rfl (fun g1 w1 hu1 M1 hb1 _ _ => ?_)
          replace OU2 := OW.below OU2 hb1
          refine wpT_callx 68 M1 (X := fun v _ => v = U32 x) rfl rfl rfl (by go_simp) ((rword w1 g1 0 4 4 x0 x1 x2 x3 (by decide) ⟨by have c0 := bs_cell hu1 0 (by simp); simpa using c0, by have c0 := bs_cell hu1 1 (by simp); simpa using c0, by have c0 := bs_cell hu1 2 (by simp); simpa using c0, by have c0 := bs_cell hu1 3 (by simp); simpa using c0⟩).mono (fun e w' ⟨h1, h2⟩ => ⟨_, h1, by rw [Hx.out], h2⟩)) (fun v2 w2 hv2 M2 hb2 => ?_)
          subst hv2
          replace OU2 := OW.below OU2 hb2
          refine wpT_w32 (len := 1) 69 M2 [x] rfl (by decide) (by decide) rfl rfl rfl (by go_simp; rfl) rfl (fun g3 w4 OX M5 B6 _ => ?_)
          replace OU2 := OW.below OU2 B6
          have hzO10 := M5.lt (b := w.heap.size + 1) (c := cs U8 n) (by simp)
          refine wpT_apw 70 _ _ M5 (w.heap.size + 2) u7 (.slice (some ⟨g3, 0, none⟩) 1 1) (gNw k n c i) ([x]) rfl rfl rfl rfl (by go_simp) OU2 (by go_simp) OX.ws (by simp; omega) (by omega) (by omega) (fun g hg p hp => hsep _ _ _ OU2 g hg p hp) (fun y9 w7 O10 M8 => ?_)
          try simp only [Act.put, List.setIfInBounds_toArray, List.set_cons_succ, List.set_cons_zero]
          refine wpT_valp 7 (v := y9) rfl rfl rfl (by go_simp) ?_
          dsimp only [wpT]
          try simp only [Act.put, List.setIfInBounds_toArray, List.set_cons_succ, List.set_cons_zero]
          go_wp2_with fail
          rw [HXS.out, gNw_succ] at O10
          go_roundw
          case rel => exact ⟨i + 1, by omega, by simp, O10, M8⟩
          case measure => simp only [intOf]; omega
        · obtain rfl : i = 3 := by omega
          go_upto_region 11 with fail
          refine wp_region_lin (.op 0 (.op 1 .done)) (by rfl) ?_
          refine wpT_valp 71 (v := u7) rfl rfl rfl (by go_simp) ?_
          refine wpT_valp 6 (v := u7) rfl rfl rfl (by go_simp) ?_
          dsimp only [wpT]
          try simp only [Act.put, List.setIfInBounds_toArray, List.set_cons_succ, List.set_cons_zero]
          go_wp2_with fail
          go_ret
          exact ⟨_, rfl, OU.mono (by omega), M.end_⟩
end Go.Proofs.YtbigmnhjnjeeaaaDoor
set_option linter.unusedSimpArgs false
set_option linter.unusedVariables false
namespace Go.Proofs.YtbigmnhjnjeeaaaDoor
open Go.RowKit
theorem inf_n12 : (Tryd.prog.info? 28).map (·.size) = some 12 := by kernel_rfl
section
variable (ρ : Operand → Value) (dst : Option Tmp) (ty : TypeId) (pos : String) (after : Array Edge) (guard : Option (Nat × Bool)) (w : World)
@[go_sem ↓] theorem rl_n12 (x : Operand) : (execOp ρ { dst, op := .load 28 x, type := ty, pos, after, guard }).run Tryd.prog w = exLoad Tryd.prog 28 (ρ x) w := x_load ..
@[go_sem ↓] theorem rs_n12 (x y : Operand) : (execOp ρ { dst, op := .store 28 x y, type := ty, pos, after, guard }).run Tryd.prog w = exStore Tryd.prog 28 (ρ x) (ρ y) w := x_store ..
@[go_sem ↓] theorem ra_n12 : (execOp ρ { dst, op := .alloc 28, type := ty, pos, after, guard }).run Tryd.prog w = .ok (.value (.pointer (some ⟨w.heap.size, 0, none⟩))) (w.alloc (.cells (cs U8 (zs 12)) 28)) :=
  (x_alloc ..).trans (x_alloc0 (v := .agg (cs U8 (zs 12))) _ (by kernel_rfl))
@[go_sem] theorem xl_n12 (b : Nat) (h : (w.rowOf b).size = 12) : exLoad Tryd.prog 28 (.pointer (some ⟨b, 0, none⟩)) w = .ok (.value (.agg (w.rowOf b))) w := x_load0 _ Tryd.underlying28 rfl inf_n12 b h
@[go_sem] theorem xlm_n12 (b o : Nat) (ho : 0 < o) (h : o + 12 ≤ (w.rowOf b).size) : exLoad Tryd.prog 28 (.pointer (some ⟨b, o, none⟩)) w = .ok (.value (.agg ((w.rowOf b).extract o (o + 12)))) w := x_loadm _ Tryd.underlying28 rfl inf_n12 b o h
@[go_sem] theorem xs_n12 (b : Nat) (c : Array Value) (hl : c.size = 12) (h1 : ones c = true) (h : (w.rowOf b).size = 12) (hf : w.free b = true) : exStore Tryd.prog 28 (.pointer (some ⟨b, 0, none⟩)) (.agg c) w = .ok .skip (w.setRow b c) :=
  x_store0 _ inf_n12 b c hl h hf (ones_all h1)
@[go_sem] theorem xsm_n12 (b o : Nat) (ho : 0 < o) (c : Array Value) (hl : c.size = 12) (h1 : ones c = true) (h : o + 12 ≤ (w.rowOf b).size) (hf : w.free b = true) : exStore Tryd.prog 28 (.pointer (some ⟨b, o, none⟩)) (.agg c) w = .ok .skip (w.setSeg b o c) :=
  x_storem _ inf_n12 b o c hl h hf (ones_all h1)
end
/-- at a step: a store, and a variable made -/
theorem wps_n12 {a : Act} {w : World} {K : Act → World → Prop} {Q : Exit → Act → World → Prop} {o : Oper} (p x : Operand) (ho : o.op = .store 28 p x) (b : Nat) (c : Array Value) (hp : a.eval p = .pointer (some ⟨b, 0, none⟩)) (hx : a.eval x = .agg c)
    (hl : c.size = 12) (h1 : ones c = true) (h : (w.rowOf b).size = 12) (hf : w.free b = true) (hK : K (a.put o.dst undef) (w.setRow b c)) : o.wp Tryd.prog a w K Q := by
  obtain ⟨dst, op, ty, pos, after, guard⟩ := o
  subst ho
  unfold Oper.wp
  rw [rs_n12, hp, hx, xs_n12 _ _ _ hl h1 h hf]
  simp only [Oper.upon]
  exact hK
theorem wpa_n12 {a : Act} {w : World} {K : Act → World → Prop} {Q : Exit → Act → World → Prop} {o : Oper} (ho : o.op = .alloc 28)
    (hK : K (a.put o.dst (.pointer (some ⟨w.heap.size, 0, none⟩))) (w.alloc (.cells (cs U8 (zs 12)) 28))) : o.wp Tryd.prog a w K Q := by
  obtain ⟨dst, op, ty, pos, after, guard⟩ := o
  subst ho
  unfold Oper.wp
  rw [ra_n12]
  simp only [Oper.upon]
  exact hK

def Qa (n : Nat) : Nat := [0, 1, 2, 3, 0, 1, 2, 3].getD n 0
def Qb (n : Nat) : Nat := [4, 5, 6, 7, 5, 6, 7, 4].getD n 0
def Qc (n : Nat) : Nat := [8, 9, 10, 11, 10, 11, 8, 9].getD n 0
def Qd (n : Nat) : Nat := [12, 13, 14, 15, 15, 12, 13, 14].getD n 0
def Rq (s : List (BitVec 32)) : Nat → List (BitVec 32)
  | 0 => s
  | n + 1 => Ch.qr (Rq s n) (Qa n) (Qb n) (Qc n) (Qd n)
theorem Rq_eq (s : List (BitVec 32)) (n : Nat) : Ch.qr (Rq s n) (Qa n) (Qb n) (Qc n) (Qd n) = Rq s (n + 1) := rfl
theorem Rq_0 (s : List (BitVec 32)) : Rq s 0 = s := rfl
theorem Rq_8 (s : List (BitVec 32)) : Rq s 8 = Ch.dbl s := rfl
theorem Rq_len (s : List (BitVec 32)) : ∀ n, (Rq s n).length = s.length
  | 0 => rfl
  | n + 1 => by unfold Rq; rw [qr_len, Rq_len s n]
theorem rquarter_v (w : World) (v : Value) (s s' : List (BitVec 32)) (i j k l : Nat) {I J K L : Int} (hs : s.length = 16) (hi : i < 16) (hj : j < 16) (hk : k < 16) (hl : l < 16) (eI : (i : Int) = I) (eJ : (j : Int) = J) (eK : (k : Int) = K) (eL : (l : Int) = L) (hv : WS w v s) (he : Ch.qr s i j k l = s') :
    Calls Tryd.prog 71 #[v, .int .i64 I, .int .i64 J, .int .i64 K, .int .i64 L] w fun e w' => ∃ u, e = .returned u ∧ OW w' w.heap.size u s' ∧ Below w.heap.size w w' := by
  subst eI eJ eK eL; exact rquarter w v s s' i j k l hs hi hj hk hl hv he
attribute [local irreducible] Ch.dbl Ch.dbln Ch.fst Ch.blk Rq fil g32
set_option maxRecDepth 100000 in
set_option maxHeartbeats 8000000 in
theorem rblock (w : World) (k n : List (BitVec 8)) (c : BitVec 32) (hk : k.length = 32) (hn : n.length = 12) :
    Calls Tryd.prog 62 #[.agg (cs U8 k), .agg (cs U8 n), U32 c] w fun e w' => e = .returned (.agg (cs U8 (Ch.blk k n c))) ∧ Below w.heap.size w w' := by
  obtain ⟨f, ef⟩ : ∃ f, Ch.fst k n c = f := ⟨_, rfl⟩
  have hf : f.length = 16 := by rw [← ef]; exact fst_len ..
  have HF := hid ef
  obtain ⟨B, eB⟩ : ∃ B, B = Ch.blk k n c := ⟨_, rfl⟩
  have hB : B.length = 64 := by rw [eB]; exact blk_len ..
  have HB := hid eB
  have T0 := back0 (S := no) (w0 := w)
  clear ef eB
  have M0 := Mm.start no w
  go_enter Tryd.func62, Tryd.ntmps62
  have M2 := (((M0.alloc (cs U8 k) 23 (by decide)).alloc (cs U8 n) 28 (by decide)).alloc (cs U8 (zs 64)) 88 (by decide))
  try simp only [World.size_alloc] at M2
  go_upto_region 1 with fail
  obtain ⟨w1, hw1⟩ : ∃ w1, w1 = (((w.alloc (.cells (cs U8 k) 23)).alloc (.cells (cs U8 n) 28)).alloc (.cells (cs U8 (zs 64)) 88)) := ⟨_, rfl⟩
  rw [← hw1] at M2 ⊢
  clear hw1
  refine wp_region_lin (.op 0 (.op 1 (.op 2 (.op 3 (.op 4 .done))))) (by rfl) ?_
  refine wpT_ld0 14 Tryd.underlying23 rfl inf_key (w.heap.size) (cs U8 k) rfl rfl rfl (by go_simp) (M2.row (by simp)) (by simp [hk, hn, hf]) rfl ?_
  refine wpT_ld0 15 Tryd.underlying28 rfl inf_n12 (w.heap.size + 1) (cs U8 n) rfl rfl rfl (by go_simp) (M2.row (by simp)) (by simp [hk, hn, hf]) rfl ?_
  refine wpT_valp 16 (v := U32 c) rfl rfl rfl (by go_simp) ?_
  have hz0 := M2.lt (b := w.heap.size + 1 + 1) (c := cs U8 (zs 64)) (by simp)
  refine wpT_callx 17 M2 (X := fun v w' => OW w' (w.heap.size + 3) v f) rfl rfl rfl (by go_simp) ((rfirst w1 k n c f hk hn HF.out).mono (fun e w' ⟨v, h1, h2, h3⟩ => ⟨v, h1, h2.mono (by omega), h3⟩)) (fun v5 w5 OF N5 _ => ?_)
  obtain ⟨gf, cf, ef, i5, j5⟩ := OF.openw hf (by decide)
  subst ef
  obtain ⟨S1, M5, T1, K1⟩ := N5.holdW (w.heap.size + 3) (by simp) OF.ws (fun g hg => (OF.lt g hg).1)
  replace T0 := backT T0 T1
  try simp only [Act.put, List.setIfInBounds_toArray, List.set_cons_succ, List.set_cons_zero]
  refine wpT_valp 7 (v := .slice (some ⟨gf, 0, none⟩) 16 cf) rfl rfl rfl (by go_simp) ?_
  dsimp only [wpT]
  try simp only [Act.put, List.setIfInBounds_toArray, List.set_cons_succ, List.set_cons_zero]
  go_upto_region 2 with fail
  refine wp_region_lin (.op 0 (.op 1 .done)) (by rfl) ?_
  refine wpT_valp 18 (v := .slice (some ⟨gf, 0, none⟩) 16 cf) rfl rfl rfl (by go_simp) ?_
  refine wpT_valp 8 (v := .slice (some ⟨gf, 0, none⟩) 16 cf) rfl rfl rfl (by go_simp) ?_
  dsimp only [wpT]
  try simp only [Act.put, List.setIfInBounds_toArray, List.set_cons_succ, List.set_cons_zero]
  go_upto_region 3 with fail
  refine wp_region_lin (.op 0 .done) (by rfl) ?_
  refine wpT_valp 9 (v := .int .i64 0) rfl rfl rfl (by go_simp) ?_
  dsimp only [wpT]
  try simp only [Act.put, List.setIfInBounds_toArray, List.set_cons_succ, List.set_cons_zero]
  go_wp2_with fail
  have iw1 : IntKind.i64.wrap 1 = 1 := by decide
  have iw2 : IntKind.i64.wrap 2 = 2 := by decide
  have iw3 : IntKind.i64.wrap 3 = 3 := by decide
  have iw4 : IntKind.i64.wrap 4 = 4 := by decide
  have iw5 : IntKind.i64.wrap 5 = 5 := by decide
  have iw6 : IntKind.i64.wrap 6 = 6 := by decide
  have iw7 : IntKind.i64.wrap 7 = 7 := by decide
  have iw8 : IntKind.i64.wrap 8 = 8 := by decide
  have iw9 : IntKind.i64.wrap 9 = 9 := by decide
  have iw10 : IntKind.i64.wrap 10 = 10 := by decide
  have iw11 : IntKind.i64.wrap 11 = 11 := by decide
  have iw12 : IntKind.i64.wrap 12 = 12 := by decide
  have iw13 : IntKind.i64.wrap 13 = 13 := by decide
  have iw14 : IntKind.i64.wrap 14 = 14 := by decide
  have iw15 : IntKind.i64.wrap 15 = 15 := by decide
  go_loopw [8, 9] (fun u x wr => ∃ m : Nat, m ≤ 10 ∧ x = .int .i64 m ∧ OW wr (w.heap.size + 3) u (Ch.dbln f m) ∧ Mm S1 w5 [(w.heap.size + 1 + 1, cs U8 (zs 64)), (w.heap.size + 1, cs U8 n), (w.heap.size, cs U8 k)] wr) (fun _ x _ => 10 - (intOf x).toNat)
  case atStart => exact ⟨0, by omega, rfl, by simpa [Ch.dbln] using OF, M5⟩
  case round =>
    clear M5 OF
    obtain ⟨m, hm, rfl, OU, M⟩ := hrel
    have hs : (Ch.dbln f m).length = 16 := by rw [dbln_len, hf]
    by_cases hm10 : m < 10
    · have hlt : (m : Int) < 10 := by omega
      have HS := hid (show Ch.dbl (Ch.dbln f m) = Ch.dbln f (m + 1) by simp [Ch.dbln])
      generalize Ch.dbln f m = s at *
      go_wp2_with fail
      go_loopw [8, 10] (fun u x wr => (x = .int .i64 0 ∧ OW wr (w.heap.size + 3) u (Rq s 0) ∧ Mm S1 w5 [(w.heap.size + 1 + 1, cs U8 (zs 64)), (w.heap.size + 1, cs U8 n), (w.heap.size, cs U8 k)] wr) ∨ (x = .int .i64 1 ∧ OW wr (w.heap.size + 3) u (Rq s 1) ∧ Mm S1 w5 [(w.heap.size + 1 + 1, cs U8 (zs 64)), (w.heap.size + 1, cs U8 n), (w.heap.size, cs U8 k)] wr) ∨ (x = .int .i64 2 ∧ OW wr (w.heap.size + 3) u (Rq s 2) ∧ Mm S1 w5 [(w.heap.size + 1 + 1, cs U8 (zs 64)), (w.heap.size + 1, cs U8 n), (w.heap.size, cs U8 k)] wr) ∨ (x = .int .i64 3 ∧ OW wr (w.heap.size + 3) u (Rq s 3) ∧ Mm S1 w5 [(w.heap.size + 1 + 1, cs U8 (zs 64)), (w.heap.size + 1, cs U8 n), (w.heap.size, cs U8 k)] wr) ∨ (x = .int .i64 4 ∧ OW wr (w.heap.size + 3) u (Rq s 4) ∧ Mm S1 w5 [(w.heap.size + 1 + 1, cs U8 (zs 64)), (w.heap.size + 1, cs U8 n), (w.heap.size, cs U8 k)] wr)) (fun _ x _ => 4 - (intOf x).toNat)
      case atStart => exact .inl ⟨rfl, by rw [Rq_0]; exact OU, M⟩
      case round =>
        clear M OU
        rcases hrel with ⟨rfl, OU, M⟩ | ⟨rfl, OU, M⟩ | ⟨rfl, OU, M⟩ | ⟨rfl, OU, M⟩ | ⟨rfl, OU, M⟩
        · skip
          go_upto_region 9 with fail
          refine wp_region_lin (.op 0 (.op 1 (.op 2 (.op 3 (.op 4 (.op 5 (.op 6 (.op 7 (.op 8 (.op 9 .done)))))))))) (by rfl) ?_
          refine wpT_valp 27 (v := u8) rfl rfl rfl (by go_simp) ?_
          refine wpT_valp 28 (v := .int .i64 0) rfl rfl rfl (by go_simp) ?_
          refine wpT_valp 29 (v := .int .i64 0) rfl rfl rfl (by go_simp) ?_
          refine wpT_valp 30 (v := .int .i64 4) rfl rfl rfl (by go_simp) ?_
          try simp only [Act.put, List.setIfInBounds_toArray, List.set_cons_succ, List.set_cons_zero]
          refine wpT_valp 31 (v := .int .i64 0) rfl rfl rfl (by go_simp) ?_
          refine wpT_valp 32 (v := .int .i64 8) rfl rfl rfl (by go_simp) ?_
          refine wpT_valp 33 (v := .int .i64 0) rfl rfl rfl (by go_simp) ?_
          refine wpT_valp 34 (v := .int .i64 12) rfl rfl rfl (by go_simp) ?_
          refine wpT_callx 35 M (X := fun v w' => OW w' (w.heap.size + 3) v (Rq s 1)) rfl rfl rfl (by go_simp) ((rquarter_v wr _ (Rq s 0) (Rq s 1) 0 4 8 12 (by rw [Rq_len]; exact hs) (by decide) (by decide) (by decide) (by decide) rfl rfl rfl rfl OU.ws (Rq_eq s 0)).mono (fun e w' ⟨v, h1, h2, h3⟩ => ⟨v, h1, h2.mono (by have := M.size; omega), h3⟩)) (fun u9 w9 O9 M9 _ => ?_)
          try simp only [Act.put, List.setIfInBounds_toArray, List.set_cons_succ, List.set_cons_zero]
          refine wpT_valp 8 (v := u9) rfl rfl rfl (by go_simp) ?_
          dsimp only [wpT]
          try simp only [Act.put, List.setIfInBounds_toArray, List.set_cons_succ, List.set_cons_zero]
          go_wp2_with fail
          go_roundw
          case rel => exact .inr (.inl ⟨by simp, O9, M9⟩)
          case measure => simp [intOf]
        · skip
          go_upto_region 9 with fail
          refine wp_region_lin (.op 0 (.op 1 (.op 2 (.op 3 (.op 4 (.op 5 (.op 6 (.op 7 (.op 8 (.op 9 .done)))))))))) (by rfl) ?_
          refine wpT_valp 27 (v := u8) rfl rfl rfl (by go_simp) ?_
          refine wpT_valp 28 (v := .int .i64 1) rfl rfl rfl (by go_simp) ?_
          refine wpT_valp 29 (v := .int .i64 1) rfl rfl rfl (by go_simp) ?_
          refine wpT_valp 30 (v := .int .i64 5) rfl rfl rfl (by go_simp) ?_
          try simp only [Act.put, List.setIfInBounds_toArray, List.set_cons_succ, List.set_cons_zero]
          refine wpT_valp 31 (v := .int .i64 1) rfl rfl rfl (by go_simp) ?_
          refine wpT_valp 32 (v := .int .i64 9) rfl rfl rfl (by go_simp) ?_
          refine wpT_valp 33 (v := .int .i64 1) rfl rfl rfl (by go_simp) ?_
          refine wpT_valp 34 (v := .int .i64 13) rfl rfl rfl (by go_simp) ?_
          refine wpT_callx 35 M (X := fun v w' => OW w' (w.heap.size + 3) v (Rq s 2)) rfl rfl rfl (by go_simp) ((rquarter_v wr _ (Rq s 1) (Rq s 2) 1 5 9 13 (by rw [Rq_len]; exact hs) (by decide) (by decide) (by decide) (by decide) rfl rfl rfl rfl OU.ws (Rq_eq s 1)).mono (fun e w' ⟨v, h1, h2, h3⟩ => ⟨v, h1, h2.mono (by have := M.size; omega), h3⟩)) (fun u9 w9 O9 M9 _ => ?_)
          try simp only [Act.put, List.setIfInBounds_toArray, List.set_cons_succ, List.set_cons_zero]
          refine wpT_valp 8 (v := u9) rfl rfl rfl (by go_simp) ?_
          dsimp only [wpT]
          try simp only [Act.put, List.setIfInBounds_toArray, List.set_cons_succ, List.set_cons_zero]
          go_wp2_with fail
          go_roundw
          case rel => exact .inr (.inr (.inl ⟨by simp, O9, M9⟩))
          case measure => simp [intOf]
        · skip
          go_upto_region 9 with fail
          refine wp_region_lin (.op 0 (.op 1 (.op 2 (.op 3 (.op 4 (.op 5 (.op 6 (.op 7 (.op 8 (.op 9 .done)))))))))) (by rfl) ?_
          refine wpT_valp 27 (v := u8) rfl rfl rfl (by go_simp) ?_
          refine wpT_valp 28 (v := .int .i64 2) rfl rfl rfl (by go_simp) ?_
          refine wpT_valp 29 (v := .int .i64 2) rfl rfl rfl (by go_simp) ?_
          refine wpT_valp 30 (v := .int .i64 6) rfl rfl rfl (by go_simp) ?_
          try simp only [Act.put, List.setIfInBounds_toArray, List.set_cons_succ, List.set_cons_zero]
          refine wpT_valp 31 (v := .int .i64 2) rfl rfl rfl (by go_simp) ?_
          refine wpT_valp 32 (v := .int .i64 10) rfl rfl rfl (by go_simp) ?_
          refine wpT_valp 33 (v := .int .i64 2) rfl rfl rfl (by go_simp) ?_
          refine wpT_valp 34 (v := .int .i64 14) rfl rfl rfl (by go_simp) ?_
          refine wpT_callx 35 M (X := fun v w' => OW w' (w.heap.size + 3) v (Rq s 3)) rfl rfl rfl (by go_simp) ((rquarter_v wr _ (Rq s 2) (Rq s 3) 2 6 10 14 (by rw [Rq_len]; exact hs) (by decide) (by decide) (by decide) (by decide) rfl rfl rfl rfl OU.ws (Rq_eq s 2)).mono (fun e w' ⟨v, h1, h2, h3⟩ => ⟨v, h1, h2.mono (by have := M.size; omega), h3⟩)) (fun u9 w9 O9 M9 _ => ?_)
          try simp only [Act.put, List.setIfInBounds_toArray, List.set_cons_succ, List.set_cons_zero]
          refine wpT_valp 8 (v := u9) rfl rfl rfl (by go_simp) ?_
          dsimp only [wpT]
          try simp only [Act.put, List.setIfInBounds_toArray, List.set_cons_succ, List.set_cons_zero]
          go_wp2_with fail
          go_roundw
          case rel => exact .inr (.inr (.inr (.inl ⟨by simp, O9, M9⟩)))
          case measure => simp [intOf]
        · skip
          go_upto_region 9 with fail
          refine wp_region_lin (.op 0 (.op 1 (.op 2 (.op 3 (.op 4 (.op 5 (.op 6 (.op 7 (.op 8 (.op 9 .done)))))))))) (by rfl) ?_
          refine wpT_valp 27 (v := u8) rfl rfl rfl (by go_simp) ?_
          refine wpT_valp 28 (v := .int .i64 3) rfl rfl rfl (by go_simp) ?_
          refine wpT_valp 29 (v := .int .i64 3) rfl rfl rfl (by go_simp) ?_
          refine wpT_valp 30 (v := .int .i64 7) rfl rfl rfl (by go_simp) ?_
          try simp only [Act.put, List.setIfInBounds_toArray, List.set_cons_succ, List.set_cons_zero]
          refine wpT_valp 31 (v := .int .i64 3) rfl rfl rfl (by go_simp) ?_
          refine wpT_valp 32 (v := .int .i64 11) rfl rfl rfl (by go_simp) ?_
          refine wpT_valp 33 (v := .int .i64 3) rfl rfl rfl (by go_simp) ?_
          refine wpT_valp 34 (v := .int .i64 15) rfl rfl rfl (by go_simp) ?_
          refine wpT_callx 35 M (X := fun v w' => OW w' (w.heap.size + 3) v (Rq s 4)) rfl rfl rfl (by go_simp) ((rquarter_v wr _ (Rq s 3) (Rq s 4) 3 7 11 15 (by rw [Rq_len]; exact hs) (by decide) (by decide) (by decide) (by decide) rfl rfl rfl rfl OU.ws (Rq_eq s 3)).mono (fun e w' ⟨v, h1, h2, h3⟩ => ⟨v, h1, h2.mono (by have := M.size; omega), h3⟩)) (fun u9 w9 O9 M9 _ => ?_)
          try simp only [Act.put, List.setIfInBounds_toArray, List.set_cons_succ, List.set_cons_zero]
          refine wpT_valp 8 (v := u9) rfl rfl rfl (by go_simp) ?_
          dsimp only [wpT]
          try simp only [Act.put, List.setIfInBounds_toArray, List.set_cons_succ, List.set_cons_zero]
          go_wp2_with fail
          go_roundw
          case rel => exact .inr (.inr (.inr (.inr ⟨by simp, O9, M9⟩)))
          case measure => simp [intOf]
        · go_wp2_with fail
          go_loopw [8, 11] (fun u x wr => (x = .int .i64 0 ∧ OW wr (w.heap.size + 3) u (Rq s 4) ∧ Mm S1 w5 [(w.heap.size + 1 + 1, cs U8 (zs 64)), (w.heap.size + 1, cs U8 n), (w.heap.size, cs U8 k)] wr) ∨ (x = .int .i64 1 ∧ OW wr (w.heap.size + 3) u (Rq s 5) ∧ Mm S1 w5 [(w.heap.size + 1 + 1, cs U8 (zs 64)), (w.heap.size + 1, cs U8 n), (w.heap.size, cs U8 k)] wr) ∨ (x = .int .i64 2 ∧ OW wr (w.heap.size + 3) u (Rq s 6) ∧ Mm S1 w5 [(w.heap.size + 1 + 1, cs U8 (zs 64)), (w.heap.size + 1, cs U8 n), (w.heap.size, cs U8 k)] wr) ∨ (x = .int .i64 3 ∧ OW wr (w.heap.size + 3) u (Rq s 7) ∧ Mm S1 w5 [(w.heap.size + 1 + 1, cs U8 (zs 64)), (w.heap.size + 1, cs U8 n), (w.heap.size, cs U8 k)] wr) ∨ (x = .int .i64 4 ∧ OW wr (w.heap.size + 3) u (Rq s 8) ∧ Mm S1 w5 [(w.heap.size + 1 + 1, cs U8 (zs 64)), (w.heap.size + 1, cs U8 n), (w.heap.size, cs U8 k)] wr)) (fun _ x _ => 4 - (intOf x).toNat)
          case atStart => exact .inl ⟨rfl, OU, M⟩
          case round =>
            clear M OU
            rcases hrel with ⟨rfl, OU, M⟩ | ⟨rfl, OU, M⟩ | ⟨rfl, OU, M⟩ | ⟨rfl, OU, M⟩ | ⟨rfl, OU, M⟩
            · skip
              go_upto_region 13 with fail
              refine wp_region_lin (.op 0 (.op 1 (.op 2 (.op 3 (.op 4 (.op 5 (.op 6 (.op 7 (.op 8 (.op 9 (.op 10 (.op 11 (.op 12 (.op 13 (.op 14 (.op 15 .done)))))))))))))))) (by rfl) ?_
              refine wpT_valp 40 (v := u8) rfl rfl rfl (by go_simp) ?_
              refine wpT_valp 41 (v := .int .i64 0) rfl rfl rfl (by go_simp) ?_
              refine wpT_valp 42 (v := .int .i64 0) rfl rfl rfl (by go_simp) ?_
              refine wpT_valp 43 (v := .int .i64 1) rfl rfl rfl (by go_simp) ?_
              try simp only [Act.put, List.setIfInBounds_toArray, List.set_cons_succ, List.set_cons_zero]
              refine wpT_valp 44 (v := .int .i64 1) rfl rfl rfl (by go_simp) ?_
              refine wpT_valp 45 (v := .int .i64 5) rfl rfl rfl (by go_simp) ?_
              refine wpT_valp 46 (v := .int .i64 0) rfl rfl rfl (by go_simp) ?_
              refine wpT_valp 47 (v := .int .i64 2) rfl rfl rfl (by go_simp) ?_
              refine wpT_valp 48 (v := .int .i64 2) rfl rfl rfl (by go_simp) ?_
              try simp only [Act.put, List.setIfInBounds_toArray, List.set_cons_succ, List.set_cons_zero]
              refine wpT_valp 49 (v := .int .i64 10) rfl rfl rfl (by go_simp) ?_
              refine wpT_valp 50 (v := .int .i64 0) rfl rfl rfl (by go_simp) ?_
              refine wpT_valp 51 (v := .int .i64 3) rfl rfl rfl (by go_simp) ?_
              refine wpT_valp 52 (v := .int .i64 3) rfl rfl rfl (by go_simp) ?_
              refine wpT_valp 53 (v := .int .i64 15) rfl rfl rfl (by go_simp) ?_
              try simp only [Act.put, List.setIfInBounds_toArray, List.set_cons_succ, List.set_cons_zero]
              refine wpT_callx 54 M (X := fun v w' => OW w' (w.heap.size + 3) v (Rq s 5)) rfl rfl rfl (by go_simp) ((rquarter_v wr _ (Rq s 4) (Rq s 5) 0 5 10 15 (by rw [Rq_len]; exact hs) (by decide) (by decide) (by decide) (by decide) rfl rfl rfl rfl OU.ws (Rq_eq s 4)).mono (fun e w' ⟨v, h1, h2, h3⟩ => ⟨v, h1, h2.mono (by have := M.size; omega), h3⟩)) (fun u9 w9 O9 M9 _ => ?_)
              refine wpT_valp 8 (v := u9) rfl rfl rfl (by go_simp) ?_
              dsimp only [wpT]
              try simp only [Act.put, List.setIfInBounds_toArray, List.set_cons_succ, List.set_cons_zero]
              go_wp2_with fail
              go_roundw
              case rel => exact .inr (.inl ⟨by simp, O9, M9⟩)
              case measure => simp [intOf]
            · skip
              go_upto_region 13 with fail
              refine wp_region_lin (.op 0 (.op 1 (.op 2 (.op 3 (.op 4 (.op 5 (.op 6 (.op 7 (.op 8 (.op 9 (.op 10 (.op 11 (.op 12 (.op 13 (.op 14 (.op 15 .done)))))))))))))))) (by rfl) ?_
              refine wpT_valp 40 (v := u8) rfl rfl rfl (by go_simp) ?_
              refine wpT_valp 41 (v := .int .i64 1) rfl rfl rfl (by go_simp) ?_
              refine wpT_valp 42 (v := .int .i64 1) rfl rfl rfl (by go_simp) ?_
              refine wpT_valp 43 (v := .int .i64 2) rfl rfl rfl (by go_simp) ?_
              try simp only [Act.put, List.setIfInBounds_toArray, List.set_cons_succ, List.set_cons_zero]
              refine wpT_valp 44 (v := .int .i64 2) rfl rfl rfl (by go_simp) ?_
              refine wpT_valp 45 (v := .int .i64 6) rfl rfl rfl (by go_simp) ?_
              refine wpT_valp 46 (v := .int .i64 1) rfl rfl rfl (by go_simp) ?_
              refine wpT_valp 47 (v := .int .i64 3) rfl rfl rfl (by go_simp) ?_
              refine wpT_valp 48 (v := .int .i64 3) rfl rfl rfl (by go_simp) ?_
              try simp only [Act.put, List.setIfInBounds_toArray, List.set_cons_succ, List.set_cons_zero]
              refine wpT_valp 49 (v := .int .i64 11) rfl rfl rfl (by go_simp) ?_
              refine wpT_valp 50 (v := .int .i64 1) rfl rfl rfl (by go_simp) ?_
              refine wpT_valp 51 (v := .int .i64 4) rfl rfl rfl (by go_simp) ?_
              refine wpT_valp 52 (v := .int .i64 0) rfl rfl rfl (by go_simp) ?_
              refine wpT_valp 53 (v := .int .i64 12) rfl rfl rfl (by go_simp) ?_
              try simp only [Act.put, List.setIfInBounds_toArray, List.set_cons_succ, List.set_cons_zero]
              refine wpT_callx 54 M (X := fun v w' => OW w' (w.heap.size + 3) v (Rq s 6)) rfl rfl rfl (by go_simp) ((rquarter_v wr _ (Rq s 5) (Rq s 6) 1 6 11 12 (by rw [Rq_len]; exact hs) (by decide) (by decide) (by decide) (by decide) rfl rfl rfl rfl OU.ws (Rq_eq s 5)).mono (fun e w' ⟨v, h1, h2, h3⟩ => ⟨v, h1, h2.mono (by have := M.size; omega), h3⟩)) (fun u9 w9 O9 M9 _ => ?_)
              refine wpT_valp 8 (v := u9) rfl rfl rfl (by go_simp) ?_
              dsimp only [wpT]
              try simp only [Act.put, List.setIfInBounds_toArray, List.set_cons_succ, List.set_cons_zero]
              go_wp2_with fail
              go_roundw
              case rel => exact .inr (.inr (.inl ⟨by simp, O9, M9⟩))
              case measure => simp [intOf]
            · skip
              go_upto_region 13 with fail
              refine wp_region_lin (.op 0 (.op 1 (.op 2 (.op 3 (.op 4 (.op 5 (.op 6 (.op 7 (.op 8 (.op 9 (.op 10 (.op 11 (.op 12 (.op 13 (.op 14 (.op 15 .done)))))))))))))))) (by rfl) ?_
              refine wpT_valp 40 (v := u8) rfl rfl rfl (by go_simp) ?_
              refine wpT_valp 41 (v := .int .i64 2) rfl rfl rfl (by go_simp) ?_
              refine wpT_valp 42 (v := .int .i64 2) rfl rfl rfl (by go_simp) ?_
              refine wpT_valp 43 (v := .int .i64 3) rfl rfl rfl (by go_simp) ?_
              try simp only [Act.put, List.setIfInBounds_toArray, List.set_cons_succ, List.set_cons_zero]
              refine wpT_valp 44 (v := .int .i64 3) rfl rfl rfl (by go_simp) ?_
              refine wpT_valp 45 (v := .int .i64 7) rfl rfl rfl (by go_simp) ?_
              refine wpT_valp 46 (v := .int .i64 2) rfl rfl rfl (by go_simp) ?_
              refine wpT_valp 47 (v := .int .i64 4) rfl rfl rfl (by go_simp) ?_
              refine wpT_valp 48 (v := .int .i64 0) rfl rfl rfl (by go_simp) ?_
              try simp only [Act.put, List.setIfInBounds_toArray, List.set_cons_succ, List.set_cons_zero]
              refine wpT_valp 49 (v := .int .i64 8) rfl rfl rfl (by go_simp) ?_
              refine wpT_valp 50 (v := .int .i64 2) rfl rfl rfl (by go_simp) ?_
              refine wpT_valp 51 (v := .int .i64 5) rfl rfl rfl (by go_simp) ?_
              refine wpT_valp 52 (v := .int .i64 1) rfl rfl rfl (by go_simp) ?_
              refine wpT_valp 53 (v := .int .i64 13) rfl rfl rfl (by go_simp) ?_
              try simp only [Act.put, List.setIfInBounds_toArray, List.set_cons_succ, List.set_cons_zero]
              refine wpT_callx 54 M (X := fun v w' => OW w' (w.heap.size + 3) v (Rq s 7)) rfl rfl rfl (by go_simp) ((rquarter_v wr _ (Rq s 6) (Rq s 7) 2 7 8 13 (by rw [Rq_len]; exact hs) (by decide) (by decide) (by decide) (by decide) rfl rfl rfl rfl OU.ws (Rq_eq s 6)).mono (fun e w' ⟨v, h1, h2, h3⟩ => ⟨v, h1, h2.mono (by have := M.size; omega), h3⟩)) (fun u9 w9 O9 M9 _ => ?_)
              refine wpT_valp 8 (v := u9) rfl rfl rfl (by go_simp) ?_
              dsimp only [wpT]
              try simp only [Act.put, List.setIfInBounds_toArray, List.set_cons_succ, List.set_cons_zero]
              go_wp2_with fail
              go_roundw
              case rel => exact .inr (.inr (.inr (.inl ⟨by simp, O9, M9⟩)))
              case measure => simp [intOf]
            · skip
              go_upto_region 13 with fail
              refine wp_region_lin (.op 0 (.op 1 (.op 2 (.op 3 (.op 4 (.op 5 (.op 6 (.op 7 (.op 8 (.op 9 (.op 10 (.op 11 (.op 12 (.op 13 (.op 14 (.op 15 .done)))))))))))))))) (by rfl) ?_
              refine wpT_valp 40 (v := u8) rfl rfl rfl (by go_simp) ?_
              refine wpT_valp 41 (v := .int .i64 3) rfl rfl rfl (by go_simp) ?_
              refine wpT_valp 42 (v := .int .i64 3) rfl rfl rfl (by go_simp) ?_
              refine wpT_valp 43 (v := .int .i64 4) rfl rfl rfl (by go_simp) ?_
              try simp only [Act.put, List.setIfInBounds_toArray, List.set_cons_succ, List.set_cons_zero]
              refine wpT_valp 44 (v := .int .i64 0) rfl rfl rfl (by go_simp) ?_
              refine wpT_valp 45 (v := .int .i64 4) rfl rfl rfl (by go_simp) ?_
              refine wpT_valp 46 (v := .int .i64 3) rfl rfl rfl (by go_simp) ?_
              refine wpT_valp 47 (v := .int .i64 5) rfl rfl rfl (by go_simp) ?_
              refine wpT_valp 48 (v := .int .i64 1) rfl rfl rfl (by go_simp) ?_
              try simp only [Act.put, List.setIfInBounds_toArray, List.set_cons_succ, List.set_cons_zero]
              refine wpT_valp 49 (v := .int .i64 9) rfl rfl rfl (by go_simp) ?_
              refine wpT_valp 50 (v := .int .i64 3) rfl rfl rfl (by go_simp) ?_
              refine wpT_valp 51 (v := .int .i64 6) rfl rfl rfl (by go_simp) ?_
              refine wpT_valp 52 (v := .int .i64 2) rfl rfl rfl (by go_simp) ?_
              refine wpT_valp 53 (v := .int .i64 14) rfl rfl rfl (by go_simp) ?_
              try simp only [Act.put, List.setIfInBounds_toArray, List.set_cons_succ, List.set_cons_zero]
              refine wpT_callx 54 M (X := fun v w' => OW w' (w.heap.size + 3) v (Rq s 8)) rfl rfl rfl (by go_simp) ((rquarter_v wr _ (Rq s 7) (Rq s 8) 3 4 9 14 (by rw [Rq_len]; exact hs) (by decide) (by decide) (by decide) (by decide) rfl rfl rfl rfl OU.ws (Rq_eq s 7)).mono (fun e w' ⟨v, h1, h2, h3⟩ => ⟨v, h1, h2.mono (by have := M.size; omega), h3⟩)) (fun u9 w9 O9 M9 _ => ?_)
              refine wpT_valp 8 (v := u9) rfl rfl rfl (by go_simp) ?_
              dsimp only [wpT]
              try simp only [Act.put, List.setIfInBounds_toArray, List.set_cons_succ, List.set_cons_zero]
              go_wp2_with fail
              go_roundw
              case rel => exact .inr (.inr (.inr (.inr ⟨by simp, O9, M9⟩)))
              case measure => simp [intOf]
            · go_wp2_with fail
              rw [Rq_8, HS.out] at OU
              go_roundw
              case rel => exact ⟨m + 1, by omega, by simp, OU, M⟩
              case measure => simp only [intOf]; omega
    · obtain rfl : m = 10 := by omega
      obtain ⟨s, es⟩ : ∃ s, Ch.dbln f 10 = s := ⟨_, rfl⟩
      rw [es] at hs OU
      have HAt := hid (fun i j hi hj => show B.getD (4 * i + j) 0 = ((g32 s i + g32 f i) >>> (8 * j)).setWidth 8 by rw [HB.out]; exact blk_at k n c f s HF.out es i j hi hj)
      clear es
      obtain ⟨w6, hw6⟩ : ∃ w6, wr = w6 := ⟨_, rfl⟩
      rw [hw6] at M OU ⊢
      clear hw6
      obtain ⟨gs, cs_, eu, i6, j6⟩ := OU.openw hs (by decide)
      subst eu
      obtain ⟨S2, M6, T2, K2⟩ := M.holdW (w.heap.size + 3) (by simp) OU.ws (fun g hg => (OU.lt g hg).1)
      replace K1 := backT K1 T2
      replace T0 := backT T0 T2
      clear M OU
      go_upto_region 14 with fail
      refine wp_region_lin (.op 0 .done) (by rfl) ?_
      refine wpT_new (z := .agg (cs U8 (zs 64))) 12 M6 (by kernel_rfl) (by decide) rfl rfl rfl rfl (fun bo w2 M3 => ?_)
      try dsimp only [Value.cells] at M3
      dsimp only [wpT]
      try simp only [Act.put, List.setIfInBounds_toArray, List.set_cons_succ, List.set_cons_zero]
      go_upto_region 15 with fail
      refine wp_region_lin (.op 0 .done) (by rfl) ?_
      refine wpT_valp 13 (v := .int .i64 0) rfl rfl rfl (by go_simp) ?_
      dsimp only [wpT]
      try simp only [Act.put, List.setIfInBounds_toArray, List.set_cons_succ, List.set_cons_zero]
      go_wp2_with fail
      go_loopw [13] (fun t wr => ∃ m : Nat, m ≤ 64 ∧ t = .int .i64 m ∧ Mm S2 w6 [(bo, cs U8 (fil B 64 m)), (w.heap.size + 1 + 1, cs U8 (zs 64)), (w.heap.size + 1, cs U8 n), (w.heap.size, cs U8 k)] wr) (fun t _ => 64 - (intOf t).toNat)
      case atStart => exact ⟨0, by omega, rfl, by rw [fil_zero]; exact M3⟩
      case round =>
        clear M3 hm hm10
        obtain ⟨m, hm, rfl, M⟩ := hrel
        by_cases hm64 : m < 64
        · have hlt : (m : Int) < 64 := by omega
          have hm0 : (0 : Int) ≤ (m : Int) := by omega
          obtain ⟨q, hq⟩ : ∃ q : Nat, q = m / 4 := ⟨_, rfl⟩
          obtain ⟨j, hj⟩ : ∃ j : Nat, j = m % 4 := ⟨_, rfl⟩
          obtain ⟨r, hr⟩ : ∃ r : Nat, r = 8 * j := ⟨_, rfl⟩
          have hq16 : q < 16 := by omega
          have hj4 : j < 4 := by omega
          have hqi : (q : Int) < 16 := by omega
          have hq0 : (0 : Int) ≤ (q : Int) := by omega
          have hr0 : (0 : Int) ≤ (r : Int) := by omega
          have HQ := hid (show IntKind.i64.wrap ((m : Int) / 4) = (q : Int) by rw [i64m _ (by omega) (by omega), hq]; omega)
          have HJ2 := hid (show Int.tmod (m : Int) 4 = (j : Int) by rw [Int.tmod_eq_emod_of_nonneg hm0, hj]; omega)
          have HJ3 := hid (show (m : Int) % 4 = (j : Int) by rw [hj]; omega)
          have HJ4 := hid (show IntKind.i64.wrap (j : Int) = (j : Int) by rw [i64m _ (by omega) (by omega)])
          have HR := hid (show IntKind.i64.wrap (8 * (j : Int)) = (r : Int) by rw [i64m _ (by omega) (by omega), hr]; omega)
          have HR64 := hid (show IntKind.u64.wrap (r : Int) = (r : Int) by rw [IntKind.wrap_u64]; omega)
          obtain ⟨ws, ews⟩ : ∃ x, g32 s q = x := ⟨_, rfl⟩
          obtain ⟨wf, ewf⟩ : ∃ x, g32 f q = x := ⟨_, rfl⟩
          obtain ⟨y, ey⟩ : ∃ y, ws + wf = y := ⟨_, rfl⟩
          obtain ⟨z, ez⟩ : ∃ z, (y >>> r).setWidth 8 = z := ⟨_, rfl⟩
          have hfm := fil_len B 64 m (by omega) (by omega)
          have HS := hid (show (fil B 64 m).set m z = fil B 64 (m + 1) by
            have h1 := HAt.out q j hq16 hj4
            rw [ews, ewf, ey, ← hr, ez, show 4 * q + j = m by omega] at h1
            rw [← h1]; exact fil_set B 64 m (by omega) hm64)
          have Hws := hid ews
          have Hwf := hid ewf
          have HY := hid ey
          have HZ := hid ez
          clear ews ewf ey ez hq hj hr
          go_upto_region 18 with fail
          refine wp_region_seq 19 [59, 60, 61, 62, 63, 64, 65, 66, 67, 68, 69, 70, 71, 72, 73, 74, 75, 76, 77] [] [] [] (.op 19 .done) (Mm S2 w6 _) (by kernel_rfl) (by kernel_rfl) (by kernel_rfl) (fun d _ _ _ _ h => by cases d <;> exact h) (by rfl) M.size (fun _ _ h k => h.sf k) M ?_
          simp only [List.take_succ_cons, List.take_zero]
          refine SeqA.pure (.int .i64 m) (fun w' => by go_simp) rfl rfl ?_
          refine SeqA.pure (.slice (some ⟨gs, 0, none⟩) 16 cs_) (fun w' => by go_simp) rfl rfl ?_
          refine SeqA.pure (.int .i64 m) (fun w' => by go_simp) rfl rfl ?_
          refine SeqA.pure (.int .i64 q) (fun w' => by have h := HQ.out; go_simp) rfl rfl ?_
          refine SeqA.pure (.pointer (some ⟨gs, q, none⟩)) (fun w' => by go_simp) rfl rfl ?_
          simp only [Act.put, List.setIfInBounds_toArray, List.set_cons_succ, List.set_cons_zero]
          refine SeqA.read (U32 ws) (fun w' hI => by have c0 := ws_cell (K2.out _ _ hI) q (by omega); rw [Hws.out, Nat.zero_add] at c0; go_simp) rfl rfl ?_
          refine SeqA.pure (.slice (some ⟨gf, 0, none⟩) 16 cf) (fun w' => by go_simp) rfl rfl ?_
          refine SeqA.pure (.int .i64 m) (fun w' => by go_simp) rfl rfl ?_
          refine SeqA.pure (.int .i64 q) (fun w' => by have h := HQ.out; go_simp) rfl rfl ?_
          refine SeqA.pure (.pointer (some ⟨gf, q, none⟩)) (fun w' => by go_simp) rfl rfl ?_
          refine SeqA.read (U32 wf) (fun w' hI => by have c0 := ws_cell (K1.out _ _ hI) q (by omega); rw [Hwf.out, Nat.zero_add] at c0; go_simp) rfl rfl ?_
          simp only [Act.put, List.setIfInBounds_toArray, List.set_cons_succ, List.set_cons_zero]
          refine SeqA.pure (U32 y) (fun w' => by have h := HY.out; go_simp) rfl rfl ?_
          refine SeqA.pure (.int .i64 m) (fun w' => by go_simp) rfl rfl ?_
          refine SeqA.pure (.int .i64 j) (fun w' => by have h2 := HJ2.out; have h3 := HJ3.out; have h4 := HJ4.out; go_simp) rfl rfl ?_
          refine SeqA.pure (.int .i64 r) (fun w' => by have h := HR.out; go_simp) rfl rfl ?_
          refine SeqA.pure (.int .u64 r) (fun w' => by have h := HR64.out; go_simp) rfl rfl ?_
          refine SeqA.pure (U32 (y >>> r)) (fun w' => by go_simp) rfl rfl ?_
          simp only [Act.put, List.setIfInBounds_toArray, List.set_cons_succ, List.set_cons_zero]
          refine SeqA.pure (U8 z) (fun w' => by have h := HZ.out; go_simp) rfl rfl ?_
          refine SeqA.pure (.pointer (some ⟨bo, m, none⟩)) (fun w' => by go_simp) rfl rfl ?_
          refine SeqA.nil (fun w1 M2 hz => ?_)
          show wpT _ _ _ _ _ _
          simp only [Act.put, List.setIfInBounds_toArray, List.set_cons_succ, List.set_cons_zero]
          refine wpT_stc M2 0 (U8 z) (cs U8 ((fil B 64 m).set m z)) inf_u8 rfl rfl rfl rfl (by go_simp) (by go_simp) (by have := (by omega : m < (fil B 64 m).length); first | (simp; done) | (simpa using this) | (simp; omega)) (by simp [go_sem]) (cs_set _ _) rfl (fun w3 M4 => ?_)
          dsimp only [List.set] at M4
          dsimp only [wpT]
          go_wp2_with fail
          rw [HS.out] at M4
          go_roundw
          case rel => exact ⟨m + 1, by omega, by simp, M4⟩
          case measure => simp only [intOf]; omega
        · obtain rfl : m = 64 := by omega
          rw [fil_all, List.take_of_length_le (by omega)] at M
          go_upto_region 19 with fail
          refine wp_region_lin (.op 0 (.op 1 .done)) (by rfl) ?_
          refine wpT_ld0 78 Tryd.underlying88 rfl inf_b64 (bo) (cs U8 B) rfl rfl rfl (by go_simp) (M.row (by simp)) (by simp [hk, hn, hf, hs, hB]) rfl ?_
          refine wpT_st0 M 1 (cs U8 B) inf_b64 rfl rfl rfl rfl (by go_simp) (by go_simp) (by simp [hk, hn, hf, hs, hB]) (by simp [hk, hn, hf, hs, hB]) (by simp [go_sem]) rfl (fun w1 M2 => ?_)
          dsimp only [List.set] at M2
          dsimp only [wpT]
          try simp only [Act.put, List.setIfInBounds_toArray, List.set_cons_succ, List.set_cons_zero]
          go_wp2_with fail
          have r3 := M2.row (b := w.heap.size + 1 + 1) (c := cs U8 B) (by simp)
          refine bodyPost_ret (res_row (b := w.heap.size + 1 + 1) rfl Tryd.underlying88 rfl inf_b64 _ _ rfl (by rw [r3]; simp [hk, hn, hf, hs, hB])) rfl ?_
          rw [r3]
          exact ⟨by rw [HB.out], (T0.out _ _ M2).end_⟩
end Go.Proofs.YtbigmnhjnjeeaaaDoor
set_option linter.unusedSimpArgs false
set_option linter.unusedVariables false
namespace Go.Proofs.YtbigmnhjnjeeaaaDoor
open Go.RowKit
section
variable {ops : Array Oper} {Q : Exit → Act → World → Prop} {i : Nat} {t : Tr} {a : Act} {o : Oper} {S : Nat → Prop} {w0 w : World} {H : List (Nat × Array Value)}
/-- append of bytes; where they lie behind -/
theorem wpT_apb2 (dst : Nat) (s x : Operand) (M : Mm S w0 H w) (base : Nat) (v u : Value) (l m : List (BitVec 8)) (hdst : o.dst = some dst) (ho : ops[i]? = some o)
    (hop : o.op = .call { callee := .builtin .append, args := #[s, x], argTypes := #[24, 24] }) (hg : o.guard = none) (hs : a.eval s = v) (hown : OB w base v l) (hx : a.eval x = u) (hu : BS w u m)
    (hlen : l.length + m.length ≤ 140737488355328) (hbase : base ≤ w.heap.size) (hb0 : w0.heap.size ≤ base) (hsep : ∀ g, v.ownBlock = some g → ∀ p ∈ H, p.1 ≠ g)
    (h : ∀ v' w', OB w' base v' (l ++ m) → Mm S w0 H w' → (v'.ownBlock = v.ownBlock ∨ v'.ownBlock = some w.heap.size) → wpT Tryd.prog ops Q t (a.put (some dst) v') w') : wpT Tryd.prog ops Q (.op i t) a w := by
  refine wpT_step ho hg (fun K hK => ?_)
  refine wp_apb s x hop base v u l m hs hown hx hu hlen hbase ?_
  intro v' w' h1 h2 h3
  rw [hdst]
  exact hK _ _ (h v' w' h1 (M.grown8 h2 (fun g hg => ⟨.inr (Nat.le_trans hb0 (hown.lt g hg).1), hsep g hg⟩)) h3)
end
/-- bytes mixed, as far as the first i -/
def XM (a b : List (BitVec 8)) (i : Nat) : List (BitVec 8) := List.zipWith (· ^^^ ·) (a.take i) (b.take i)
theorem XM_0 (a b : List (BitVec 8)) : XM a b 0 = [] := by simp [XM]
theorem XM_len (a b : List (BitVec 8)) (i : Nat) (ha : i ≤ a.length) (hb : i ≤ b.length) : (XM a b i).length = i := by simp [XM]; omega
theorem XM_all (a b : List (BitVec 8)) (n : Nat) (ha : a.length = n) (hb : b.length = n) : XM a b n = List.zipWith (· ^^^ ·) a b := by
  unfold XM; rw [List.take_of_length_le (by omega), List.take_of_length_le (by omega)]
theorem XM_succ (a b : List (BitVec 8)) (i : Nat) (ha : i < a.length) (hb : i < b.length) : XM a b i ++ [a.getD i 0 ^^^ b.getD i 0] = XM a b (i + 1) := by
  unfold XM
  rw [List.take_succ_eq_append_getElem ha, List.take_succ_eq_append_getElem hb, List.zipWith_append (by simp; omega), List.getD_eq_getElem?_getD, List.getElem?_eq_getElem ha, List.getD_eq_getElem?_getD, List.getElem?_eq_getElem hb]
  rfl
attribute [local irreducible] XM
set_option maxRecDepth 100000 in
set_option maxHeartbeats 8000000 in
theorem rmixed (w : World) (a b : List (BitVec 8)) (va vb : Value) (n : Nat) (ha : a.length = n) (hb : b.length = n) (hva : BS w va a) (hvb : BS w vb b) (hn : n ≤ 1000000) :
    Calls Tryd.prog 51 #[va, vb] w fun e w' => ∃ v, e = .returned v ∧ OB w' w.heap.size v (List.zipWith (· ^^^ ·) a b) ∧ Below w.heap.size w w' := by
  rw [← XM_all a b n ha hb]
  have HVA := hid hva
  have HVB := hid hvb
  obtain ⟨AA, ca, rfl, -⟩ := hva.shape' n ha
  obtain ⟨AB, cb, rfl, -⟩ := hvb.shape' n hb
  clear hva hvb
  have M0 := Mm.start no w
  go_enter Tryd.func51, Tryd.ntmps51
  go_upto_region 2 with fail
  refine wp_region_lin (.op 0 .done) (by rfl) ?_
  refine wpT_valp 6 (v := .int .i64 0) rfl rfl rfl (by go_simp) ?_
  dsimp only [wpT]
  try simp only [Act.put, List.setIfInBounds_toArray, List.set_cons_succ, List.set_cons_zero]
  go_wp2_with fail
  go_loopw [5, 6] (fun u x wr => ∃ i : Nat, i ≤ n ∧ x = .int .i64 i ∧ OB wr w.heap.size u (XM a b i) ∧ Mm no w [] wr) (fun _ x _ => n - (intOf x).toNat)
  case atStart => exact ⟨0, by omega, rfl, by rw [XM_0]; exact OB.nil _ _, M0⟩
  case round =>
    clear M0
    obtain ⟨i, hi, rfl, OU, M⟩ := hrel
    by_cases hlt : i < n
    · have hlt2 : (i : Int) < (n : Int) := by omega
      have hi0 : (0 : Int) ≤ (i : Int) := by omega
      have hxl := XM_len a b i (by omega) (by omega)
      obtain ⟨ga, oa, ca', e, -, -⟩ := HVA.out.open (by intro e; rw [e] at ha; simp at ha; omega)
      rw [ha] at e
      injection e with e1 _ e2
      subst e1; subst e2
      obtain ⟨gb, ob, cb', e, -, -⟩ := HVB.out.open (by intro e; rw [e] at hb; simp at hb; omega)
      rw [hb] at e
      injection e with e1 _ e2
      subst e1; subst e2
      obtain ⟨p, hp⟩ : ∃ p, p = a.getD i 0 := ⟨_, rfl⟩
      obtain ⟨q, hq⟩ : ∃ q, q = b.getD i 0 := ⟨_, rfl⟩
      obtain ⟨y, hy⟩ : ∃ y, p ^^^ q = y := ⟨_, rfl⟩
      have HXS := hid (show XM a b i ++ [y] = XM a b (i + 1) by rw [← hy, hp, hq]; exact XM_succ a b i (by omega) (by omega))
      have Hp := hid hp
      have Hq := hid hq
      have HY := hid hy
      clear hp hq hy
      go_upto_region 5 with fail
      refine wp_region_P [0, 1, 2, 3, 5, 6, 7] (.both (.op 4 (.op 8 (.op 9 (.op 10 (.op 11 (.op 12 .done)))))) (.op 8 (.op 4 (.op 9 (.op 10 (.op 11 (.op 12 .done))))))) (by kernel_rfl) (by kernel_rfl) (by kernel_rfl) (fun d _ _ _ _ h => by cases d <;> exact h) ?_
      refine wpYJd_op 13 (u5) rfl rfl rfl (fun w1 _ => by go_simp) ?_
      refine wpYJd_op 14 (.slice (some ⟨ga, oa, none⟩) n ca) rfl rfl rfl (fun w1 _ => by go_simp) ?_
      refine wpYJd_op 15 (.int .i64 i) rfl rfl rfl (fun w1 _ => by go_simp) ?_
      refine wpYJd_op 16 (.pointer (some ⟨ga, oa + i, none⟩)) rfl rfl rfl (fun w1 _ => by go_simp) ?_
      refine wpYJd_op 18 (.slice (some ⟨gb, ob, none⟩) n cb) rfl rfl rfl (fun w1 _ => by go_simp) ?_
      try simp only [Act.put, List.setIfInBounds_toArray, List.set_cons_succ, List.set_cons_zero]
      refine wpYJd_op 19 (.int .i64 i) rfl rfl rfl (fun w1 _ => by go_simp) ?_
      refine wpYJd_op 20 (.pointer (some ⟨gb, ob + i, none⟩)) rfl rfl rfl (fun w1 _ => by go_simp) ?_
      show wpT _ _ _ _ _ _
      try simp only [Act.put, List.setIfInBounds_toArray, List.set_cons_succ, List.set_cons_zero]
      have M1 := M.drewN 1
      have OU := OU.drewN 1
      change wpT _ _ _ _ _ (wr.drewN 1)
      obtain ⟨w2, hw2⟩ : ∃ w2, w2 = wr.drewN 1 := ⟨_, rfl⟩
      rw [← hw2] at M1 OU ⊢
      clear hw2
      refine ⟨?_, ?_⟩
      · refine wpT_valp 17 (v := U8 p) rfl rfl rfl (by have c0 := bs_cell (SV.below HVA.out M1.end_) i (by omega); rw [← Hp.out] at c0; go_simp) ?_
        refine wpT_valp 21 (v := U8 q) rfl rfl rfl (by have c0 := bs_cell (SV.below HVB.out M1.end_) i (by omega); rw [← Hq.out] at c0; go_simp) ?_
        refine wpT_valp 22 (v := U8 y) rfl rfl rfl (by have h := HY.out; go_simp) ?_
        refine wpT_b8 (len := 1) 23 M1 [y] rfl (by decide) (by decide) rfl rfl rfl (by go_simp; rfl) rfl (fun g3 w4 h6 M5 B7 _ _ => ?_)
        replace OU := OU.below B7
        try simp only [Act.put, List.setIfInBounds_toArray, List.set_cons_succ, List.set_cons_zero]
        refine wpT_apb 24 _ _ M5 w.heap.size u5 (.slice (some ⟨g3, 0, none⟩) 1 1) (XM a b i) [y] rfl rfl rfl rfl (by go_simp) OU (by go_simp) h6 (by rw [hxl]; simp; omega) M5.size (Nat.le_refl _) (fun g hg p hp => by cases hp) (fun u9 w9 O9 M9 => ?_)
        refine wpT_valp 5 (v := u9) rfl rfl rfl (by go_simp) ?_
        dsimp only [wpT]
        try simp only [Act.put, List.setIfInBounds_toArray, List.set_cons_succ, List.set_cons_zero]
        rw [HXS.out] at O9
        go_wp2_with fail
        go_roundw
        case rel => exact ⟨i + 1, by omega, by simp, O9, M9⟩
        case measure => simp only [intOf]; omega
      · refine wpT_valp 21 (v := U8 q) rfl rfl rfl (by have c0 := bs_cell (SV.below HVB.out M1.end_) i (by omega); rw [← Hq.out] at c0; go_simp) ?_
        refine wpT_valp 17 (v := U8 p) rfl rfl rfl (by have c0 := bs_cell (SV.below HVA.out M1.end_) i (by omega); rw [← Hp.out] at c0; go_simp) ?_
        refine wpT_valp 22 (v := U8 y) rfl rfl rfl (by have h := HY.out; go_simp) ?_
        refine wpT_b8 (len := 1) 23 M1 [y] rfl (by decide) (by decide) rfl rfl rfl (by go_simp; rfl) rfl (fun g3 w4 h6 M5 B7 _ _ => ?_)
        replace OU := OU.below B7
        try simp only [Act.put, List.setIfInBounds_toArray, List.set_cons_succ, List.set_cons_zero]
        refine wpT_apb 24 _ _ M5 w.heap.size u5 (.slice (some ⟨g3, 0, none⟩) 1 1) (XM a b i) [y] rfl rfl rfl rfl (by go_simp) OU (by go_simp) h6 (by rw [hxl]; simp; omega) M5.size (Nat.le_refl _) (fun g hg p hp => by cases hp) (fun u9 w9 O9 M9 => ?_)
        refine wpT_valp 5 (v := u9) rfl rfl rfl (by go_simp) ?_
        dsimp only [wpT]
        try simp only [Act.put, List.setIfInBounds_toArray, List.set_cons_succ, List.set_cons_zero]
        rw [HXS.out] at O9
        go_wp2_with fail
        go_roundw
        case rel => exact ⟨i + 1, by omega, by simp, O9, M9⟩
        case measure => simp only [intOf]; omega
    · obtain rfl : i = n := by omega
      go_upto_region 6 with fail
      refine wp_region_lin (.op 0 (.op 1 .done)) (by rfl) ?_
      refine wpT_valp 25 (v := u5) rfl rfl rfl (by go_simp) ?_
      refine wpT_valp 4 (v := u5) rfl rfl rfl (by go_simp) ?_
      dsimp only [wpT]
      try simp only [Act.put, List.setIfInBounds_toArray, List.set_cons_succ, List.set_cons_zero]
      go_wp2_with fail
      go_ret
      exact ⟨_, rfl, OU, M.end_⟩
attribute [local irreducible] Ch.blk Ch.blks
set_option maxRecDepth 100000 in
set_option maxHeartbeats 8000000 in
theorem rstream (w : World) (k n : List (BitVec 8)) (c : BitVec 32) (L : Nat) (hk : k.length = 32) (hn : n.length = 12) (hL : L ≤ 65536) (hc : c.toNat + 1024 ≤ 4294967296) :
    Calls Tryd.prog 50 #[.agg (cs U8 k), .agg (cs U8 n), U32 c, .int .i64 L] w fun e w' => ∃ v, e = .returned (.tuple #[v, .int .i64 0]) ∧ BN w' w.heap.size v (Ch.str k n c L) ∧ Below w.heap.size w w' := by
  have hL0 : (0 : Int) ≤ (L : Int) := by omega
  have hL1 : ¬ (L : Int) < 0 := by omega
  have hL2 : ¬ (65536 : Int) < (L : Int) := by omega
  obtain ⟨q, hq⟩ : ∃ q : Nat, q = L + 63 := ⟨_, rfl⟩
  obtain ⟨r, hr⟩ : ∃ r : Nat, r = q / 64 := ⟨_, rfl⟩
  obtain ⟨s, hs⟩ : ∃ s : Nat, s = c.toNat + r := ⟨_, rfl⟩
  have hc32 := c.isLt
  have HC0 : Hid (U64 (BitVec.setWidth 64 c) = Value.int .u64 (c.toNat : Int)) := hid (by show Value.int .u64 ((BitVec.setWidth 64 c).toNat : Int) = _; rw [BitVec.toNat_setWidth, Nat.mod_eq_of_lt (by omega)])
  have HQ := hid (show IntKind.i64.wrap ((L : Int) + 63) = (q : Int) by rw [i64m _ (by omega) (by omega), hq]; omega)
  have HR := hid (show IntKind.i64.wrap ((q : Int) / 64) = (r : Int) by rw [i64m _ (by omega) (by omega), hr]; omega)
  have HR64 := hid (show IntKind.u64.wrap (r : Int) = (r : Int) by rw [IntKind.wrap_u64]; omega)
  have HS := hid (show IntKind.u64.wrap ((c.toNat : Int) + (r : Int)) = (s : Int) by rw [IntKind.wrap_u64, hs]; omega)
  have hs2 : ¬ (4294967296 : Int) < (s : Int) := by omega
  clear hq hr hs
  have M0 := Mm.start no w
  go_enter Tryd.func50, Tryd.ntmps50
  have M2 := ((M0.alloc (cs U8 k) 23 (by decide)).alloc (cs U8 n) 28 (by decide))
  try simp only [World.size_alloc] at M2
  go_upto_region 1 with fail
  obtain ⟨w1, hw1⟩ : ∃ w1, w1 = ((w.alloc (.cells (cs U8 k) 23)).alloc (.cells (cs U8 n) 28)) := ⟨_, rfl⟩
  rw [← hw1] at M2 ⊢
  clear hw1
  refine wp_region_lin (.op 0 (.op 1 .done)) (by rfl) ?_
  refine wpT_valp 14 (v := .int .i64 L) rfl rfl rfl (by go_simp) ?_
  refine wpT_valp 15 (v := .bool false) rfl rfl rfl (by go_simp) ?_
  dsimp only [wpT]
  try simp only [Act.put, List.setIfInBounds_toArray, List.set_cons_succ, List.set_cons_zero]
  go_upto_region 3 with fail
  refine wp_region_lin (.op 0 (.op 1 (.op 2 (.op 3 (.op 4 (.op 5 (.op 6 (.op 7 (.op 8 (.op 9 (.op 10 (.op 11 .done)))))))))))) (by rfl) ?_
  refine wpT_valp 16 (v := .int .i64 L) rfl rfl rfl (by go_simp) ?_
  refine wpT_valp 17 (v := .bool false) rfl rfl rfl (by go_simp) ?_
  refine wpT_valp 18 (v := .bool false) rfl rfl rfl (by go_simp) ?_
  refine wpT_valp 19 (v := U32 c) rfl rfl (by simp [Region.wanted, yielded, Act.put]) (by go_simp) ?_
  try simp only [Act.put, List.setIfInBounds_toArray, List.set_cons_succ, List.set_cons_zero]
  refine wpT_valp 20 (v := .int .u64 (c.toNat : Int)) rfl rfl (by simp [Region.wanted, yielded, Act.put]) (by have h := HC0.out; go_simp) ?_
  refine wpT_valp 21 (v := .int .i64 L) rfl rfl (by simp [Region.wanted, yielded, Act.put]) (by go_simp) ?_
  refine wpT_valp 22 (v := .int .i64 q) rfl rfl (by simp [Region.wanted, yielded, Act.put]) (by have h := HQ.out; go_simp) ?_
  refine wpT_valp 23 (v := .int .i64 r) rfl rfl (by simp [Region.wanted, yielded, Act.put]) (by have h := HR.out; go_simp) ?_
  refine wpT_valp 24 (v := .int .u64 r) rfl rfl (by simp [Region.wanted, yielded, Act.put]) (by have h := HR64.out; go_simp) ?_
  try simp only [Act.put, List.setIfInBounds_toArray, List.set_cons_succ, List.set_cons_zero]
  refine wpT_valp 25 (v := .int .u64 s) rfl rfl (by simp [Region.wanted, yielded, Act.put]) (by have h := HS.out; go_simp) ?_
  refine wpT_valp 26 (v := .bool false) rfl rfl (by simp [Region.wanted, yielded, Act.put]) (by go_simp) ?_
  refine wpT_valp 27 (v := .bool false) rfl rfl rfl (by go_simp) ?_
  dsimp only [wpT]
  try simp only [Act.put, List.setIfInBounds_toArray, List.set_cons_succ, List.set_cons_zero]
  go_upto_region 5 with fail
  refine wp_region_lin (.op 0 .done) (by rfl) ?_
  refine wpT_valp 10 (v := (.slice none 0 0)) rfl rfl rfl (by go_simp) ?_
  dsimp only [wpT]
  try simp only [Act.put, List.setIfInBounds_toArray, List.set_cons_succ, List.set_cons_zero]
  go_upto_region 6 with fail
  refine wp_region_lin (.op 0 .done) (by rfl) ?_
  refine wpT_valp 11 (v := .int .i64 0) rfl rfl rfl (by go_simp) ?_
  dsimp only [wpT]
  try simp only [Act.put, List.setIfInBounds_toArray, List.set_cons_succ, List.set_cons_zero]
  go_wp2_with fail
  go_loopw [10, 11] (fun u x wr => ∃ m N : Nat, N = 64 * m ∧ N < L + 64 ∧ x = .int .i64 N ∧ OB wr (w.heap.size + 2) u (Ch.blks k n c m) ∧ Mm no w [(w.heap.size + 1, cs U8 n), (w.heap.size, cs U8 k)] wr) (fun _ x _ => L + 64 - (intOf x).toNat)
  case atStart => exact ⟨0, 0, rfl, by omega, rfl, by simpa [Ch.blks] using OB.nil _ _, M2⟩
  case round =>
    clear M2 M0
    obtain ⟨m, N, hN, hNL, rfl, OU, M⟩ := hrel
    by_cases hlt : N < L
    · have hlt2 : (N : Int) < (L : Int) := by omega
      have hN0 : (0 : Int) ≤ (N : Int) := by omega
      obtain ⟨c2, ec2⟩ : ∃ c2, c + BitVec.ofNat 32 m = c2 := ⟨_, rfl⟩
      obtain ⟨B, eB⟩ : ∃ B, B = Ch.blk k n c2 := ⟨_, rfl⟩
      obtain ⟨Y, eY⟩ : ∃ Y, Y = Ch.blks k n c m := ⟨_, rfl⟩
      have hB : B.length = 64 := by rw [eB]; exact blk_len ..
      have hY : Y.length = N := by rw [eY, blks_len, hN]
      have HYB := hid (show Y ++ B = Ch.blks k n c (m + 1) by rw [eY, eB, ← ec2]; exact (blks_succ ..).symm)
      have HM := hid (show IntKind.i64.wrap ((N : Int) / 64) = (m : Int) by rw [i64m _ (by omega) (by omega), hN]; omega)
      have HM32 := hid (show Value.int .u32 (IntKind.u32.wrap (m : Int)) = U32 (BitVec.ofNat 32 m) by rw [u32_wrap]; simp)
      have HC2 := hid ec2
      have HBB := hid eB
      have HN := hid hN
      rw [← eY] at OU
      obtain ⟨N2, hN2⟩ : ∃ N2 : Nat, N2 = N + 64 := ⟨_, rfl⟩
      have HN2 := hid (show IntKind.i64.wrap ((N : Int) + 64) = (N2 : Int) by rw [i64m _ (by omega) (by omega), hN2]; omega)
      have HN3 := hid hN2
      clear ec2 eB eY hN2 hN
      obtain ⟨S1, MR, hS1, hT1⟩ := M.rebase
      have M := MR
      go_upto_region 9 with fail
      refine wp_region_lin (.op 0 (.op 1 (.op 2 (.op 3 (.op 4 (.op 5 (.op 6 (.op 7 (.op 8 (.op 9 .done)))))))))) (by rfl) ?_
      refine wpT_ld0 33 Tryd.underlying23 rfl inf_key (w.heap.size) (cs U8 k) rfl rfl rfl (by go_simp) (M.row (by simp)) (by simp [hk, hn, hB]) rfl ?_
      refine wpT_ld0 34 Tryd.underlying28 rfl inf_n12 (w.heap.size + 1) (cs U8 n) rfl rfl rfl (by go_simp) (M.row (by simp)) (by simp [hk, hn, hB]) rfl ?_
      refine wpT_valp 35 (v := U32 c) rfl rfl rfl (by go_simp) ?_
      refine wpT_valp 36 (v := .int .i64 N) rfl rfl rfl (by go_simp) ?_
      try simp only [Act.put, List.setIfInBounds_toArray, List.set_cons_succ, List.set_cons_zero]
      refine wpT_valp 37 (v := .int .i64 m) rfl rfl rfl (by have h := HM.out; go_simp) ?_
      refine wpT_valp 38 (v := U32 (BitVec.ofNat 32 m)) rfl rfl rfl (by have h := HM32.out; go_simp) ?_
      refine wpT_valp 39 (v := U32 c2) rfl rfl rfl (by have h := HC2.out; go_simp) ?_
      refine wpT_callv 40 M (v := .agg (cs U8 B)) rfl rfl rfl (by go_simp) ((rblock wr k n c2 hk hn).mono (fun e w' ⟨h1, h2⟩ => ⟨by rw [HBB.out]; exact h1, h2⟩)) (fun w1 M2 => ?_)
      refine wpT_new (z := .agg (cs U8 (zs 64))) 12 M2 (by kernel_rfl) (by decide) rfl rfl rfl rfl (fun b3 w4 M5 => ?_)
      try dsimp only [Value.cells] at M5
      try simp only [Act.put, List.setIfInBounds_toArray, List.set_cons_succ, List.set_cons_zero]
      refine wpT_st0 M5 0 (cs U8 B) inf_b64 rfl rfl rfl rfl (by go_simp) (by go_simp) (by simp [hk, hn, hB]) (by simp [hk, hn, hB]) (by simp [go_sem]) rfl (fun w6 M7 => ?_)
      dsimp only [List.set] at M7
      dsimp only [wpT]
      try simp only [Act.put, List.setIfInBounds_toArray, List.set_cons_succ, List.set_cons_zero]
      go_upto_region 10 with fail
      have O4 := OU.fr' M7.fr (fun g hg e => by
        have h1 := (OU.lt g hg).1
        have h2 := hS1 g e
        simp at h2
        omega)
      have nb3 : ∀ g, u10.ownBlock = some g → b3 ≠ g := by
        intro g hg e
        have h3 := OU.lt g hg
        subst e
        rcases (M7.own (b3, cs U8 B) (by simp)).1 with h | h
        · have := hS1 _ h
          simp at this
          omega
        · have : wr.heap.size ≤ b3 := h
          omega
      have MZ := hT1 _ _ M7
      refine wp_region_lin (.op 0 .done) (by rfl) ?_
      refine wpT_valp 13 (v := .int .i64 0) rfl rfl rfl (by go_simp) ?_
      dsimp only [wpT]
      try simp only [Act.put, List.setIfInBounds_toArray, List.set_cons_succ, List.set_cons_zero]
      go_wp2_with fail
      have hz3 := MZ.lt (b := b3) (c := cs U8 B) (by simp)
      clear OU hT1 hS1 MR
      go_loopw [10, 13] (fun u x wr => ∃ j : Nat, j ≤ 64 ∧ x = .int .i64 j ∧ OB wr (w.heap.size + 2) u (Y ++ B.take j) ∧ (∀ g, u.ownBlock = some g → b3 ≠ g) ∧ Mm no w [(b3, cs U8 B), (w.heap.size + 1, cs U8 n), (w.heap.size, cs U8 k)] wr) (fun _ x _ => 64 - (intOf x).toNat)
      case atStart => exact ⟨0, by omega, rfl, by simpa using O4, nb3, MZ⟩
      case round =>
        clear MZ O4 nb3 M
        obtain ⟨j, hj, rfl, OU, nb, M⟩ := hrel
        by_cases hj64 : j < 64
        · have hjlt : (j : Int) < 64 := by omega
          have hj0 : (0 : Int) ≤ (j : Int) := by omega
          obtain ⟨z, ez⟩ : ∃ z, z = B.getD j 0 := ⟨_, rfl⟩
          have HZ := hid (show Y ++ B.take j ++ [z] = Y ++ B.take (j + 1) by
            have h : j < B.length := by omega
            rw [List.take_succ_eq_append_getElem h, List.append_assoc, ez, List.getD_eq_getElem?_getD, List.getElem?_eq_getElem h]; rfl)
          have Hz := hid ez
          clear ez
          go_upto_region 13 with fail
          refine wp_region_lin (.op 0 (.op 1 (.op 2 (.op 3 (.op 4 (.op 5 (.op 6 .done))))))) (by rfl) ?_
          refine wpT_valp 45 (v := u10) rfl rfl rfl (by go_simp) ?_
          refine wpT_valp 46 (v := .int .i64 j) rfl rfl rfl (by go_simp) ?_
          refine wpT_valp 47 (v := .pointer (some ⟨b3, j, none⟩)) rfl rfl rfl (by go_simp) ?_
          refine wpT_valp 48 (v := U8 z) rfl rfl rfl (by have c0 := cell_cs 0 (M.row (b := b3) (c := cs U8 B) (by simp)) (i := j) (by omega); rw [← Hz.out] at c0; go_simp) ?_
          try simp only [Act.put, List.setIfInBounds_toArray, List.set_cons_succ, List.set_cons_zero]
          refine wpT_b8 (len := 1) 49 M [z] rfl (by decide) (by decide) rfl rfl rfl (by go_simp; rfl) rfl (fun g1 w2 h4 M3 B5 _ _ => ?_)
          replace OU := OU.below B5
          have hz9 := M3.lt (b := b3) (c := cs U8 B) (by simp)
          have hy9 := M3.lt (b := w.heap.size + 1) (c := cs U8 n) (by simp)
          refine wpT_apb2 50 _ _ M3 (w.heap.size + 2) u10 (.slice (some ⟨g1, 0, none⟩) 1 1) (Y ++ B.take j) [z] rfl rfl rfl rfl (by go_simp) OU (by go_simp) h4 (by simp; omega) (by omega) (by omega) (fun g hg p hp => ?_) (fun u9 w9 O9 M9 hb9 => ?_)
          · have h1 := OU.lt g hg
            simp only [List.mem_cons, List.not_mem_nil, or_false] at hp
            rcases hp with rfl | rfl | rfl
            · exact nb g hg
            · show w.heap.size + 1 ≠ g; omega
            · show w.heap.size ≠ g; omega
          have nb9 : ∀ g, u9.ownBlock = some g → b3 ≠ g := by
            intro g hg
            rcases hb9 with e | e
            · exact nb g (by rw [← e]; exact hg)
            · rw [e] at hg; injection hg with hg; omega
          refine wpT_valp 10 (v := u9) rfl rfl rfl (by go_simp) ?_
          dsimp only [wpT]
          try simp only [Act.put, List.setIfInBounds_toArray, List.set_cons_succ, List.set_cons_zero]
          go_wp2_with fail
          rw [HZ.out] at O9
          go_roundw
          case rel => exact ⟨j + 1, by omega, by simp, O9, nb9, M9⟩
          case measure => simp only [intOf]; omega
        · obtain rfl : j = 64 := by omega
          rw [List.take_of_length_le (by omega), HYB.out] at OU
          have HN2o := HN2.out
          go_wp2_with fail
          go_roundw
          case rel => exact ⟨m + 1, N2, by have := HN.out; have := HN3.out; omega, by have := HN3.out; omega, by simp [HN2o], OU, M.sub (by simp)⟩
          case measure => have := HN3.out; simp only [intOf]; omega
    · have hlt2 : ¬ (N : Int) < (L : Int) := by omega
      have hbl : (Ch.blks k n c m).length = N := by rw [blks_len, hN]
      obtain ⟨A, cu, eu, hcu⟩ := OU.bs.shape' N hbl
      subst eu
      have HX : Hid (BN wr w.heap.size (.slice A L cu) (Ch.str k n c L)) := by
        refine hid ⟨?_, fun g hg => ?_⟩
        · have h1 := OU.bs
          have h2 : (Ch.blks k n c m).take L = Ch.str k n c L := by unfold Ch.str; rw [show (L + 63) / 64 = m by omega]
          rw [← h2]
          have h3 : BS wr (.slice A (Ch.blks k n c m).length cu) (Ch.blks k n c m) := by rw [hbl]; exact h1
          exact h3.head L cu (by omega) (by omega) (Nat.le_refl _)
        · have h1 := OU.lt g (by cases A with | none => cases hg | some a => exact hg)
          omega
      have hLN : L ≤ N := by omega
      have hLc : L ≤ cu := by omega
      have hLc2 : (L : Int) ≤ (cu : Int) := by omega
      go_upto_region 14 with fail
      refine wp_region_lin (.op 0 (.op 1 (.op 2 (.op 3 (.op 4 .done))))) (by rfl) ?_
      refine wpT_valp 51 (v := .slice A N cu) rfl rfl rfl (by go_simp) ?_
      refine wpT_valp 52 (v := .int .i64 L) rfl rfl rfl (by go_simp) ?_
      refine wpT_valp 53 (v := .slice A L cu) rfl rfl rfl (by go_simp) ?_
      refine wpT_valp 8 (v := .slice A L cu) rfl rfl rfl (by go_simp) ?_
      try simp only [Act.put, List.setIfInBounds_toArray, List.set_cons_succ, List.set_cons_zero]
      refine wpT_valp 9 (v := .int .i64 0) rfl rfl rfl (by go_simp) ?_
      dsimp only [wpT]
      try simp only [Act.put, List.setIfInBounds_toArray, List.set_cons_succ, List.set_cons_zero]
      go_wp2_with fail
      refine bodyPost_ret (res_two rfl (rv_tmp _ _ rfl) (rv_tmp _ _ rfl)) rfl ?_
      exact ⟨_, rfl, HX.out, M.end_⟩
theorem rstream_v (w : World) (k n x : List (BitVec 8)) (c : BitVec 32) (L : Nat) (hk : k.length = 32) (hn : n.length = 12) (hL : L ≤ 65536) (hc : c.toNat + 1024 ≤ 4294967296) (hx : x = Ch.str k n c L) :
    Calls Tryd.prog 50 #[.agg (cs U8 k), .agg (cs U8 n), U32 c, .int .i64 L] w fun e w' => ∃ v, e = .returned (.tuple #[v, .int .i64 0]) ∧ BN w' w.heap.size v x ∧ Below w.heap.size w w' := by
  rw [hx]; exact rstream w k n c L hk hn hL hc
attribute [local irreducible] Ch.str Ch.xr
set_option maxRecDepth 100000 in
set_option maxHeartbeats 8000000 in
theorem rxor (w : World) (k n b : List (BitVec 8)) (c : BitVec 32) (vb : Value) (hk : k.length = 32) (hn : n.length = 12) (hvb : BS w vb b) (hbl : b.length ≤ 65536) (hc : c.toNat + 1024 ≤ 4294967296) :
    Calls Tryd.prog 35 #[.agg (cs U8 k), .agg (cs U8 n), U32 c, vb] w fun e w' => ∃ v, e = .returned (.tuple #[v, .int .i64 0]) ∧ OB w' w.heap.size v (Ch.xr k n c b) ∧ Below w.heap.size w w' := by
  obtain ⟨L, hb'⟩ : ∃ L, L = b.length := ⟨_, rfl⟩
  have hb : b.length = L := hb'.symm
  have hL : L ≤ 65536 := by omega
  obtain ⟨x, ex⟩ : ∃ x, x = Ch.str k n c L := ⟨_, rfl⟩
  have hx : x.length = L := by rw [ex, str_len]
  obtain ⟨X, eX⟩ : ∃ X, X = Ch.xr k n c b := ⟨_, rfl⟩
  rw [← eX]
  have HXX := hid (show X = List.zipWith (· ^^^ ·) x b by rw [eX, ex, hb']; unfold Ch.xr; rfl)
  have HX := hid ex
  have HVB := hid hvb
  obtain ⟨AB, cb, rfl, -⟩ := hvb.shape' L hb
  have T0 := back0 (S := no) (w0 := w)
  clear ex eX hvb hb' hbl
  have M0 := Mm.start no w
  go_enter Tryd.func35, Tryd.ntmps35
  have M2 := ((M0.alloc (cs U8 k) 23 (by decide)).alloc (cs U8 n) 28 (by decide))
  try simp only [World.size_alloc] at M2
  go_upto_region 1 with fail
  obtain ⟨w1, hw1⟩ : ∃ w1, w1 = ((w.alloc (.cells (cs U8 k) 23)).alloc (.cells (cs U8 n) 28)) := ⟨_, rfl⟩
  rw [← hw1] at M2 ⊢
  clear hw1
  refine wp_region_lin (.op 0 (.op 1 (.op 2 (.op 3 (.op 4 (.op 5 (.op 6 (.op 7 (.op 8 (.op 9 (.op 10 .done))))))))))) (by rfl) ?_
  refine wpT_ld0 13 Tryd.underlying23 rfl inf_key (w.heap.size) (cs U8 k) rfl rfl rfl (by go_simp) (M2.row (by simp)) (by simp [hk, hn]) rfl ?_
  refine wpT_ld0 14 Tryd.underlying28 rfl inf_n12 (w.heap.size + 1) (cs U8 n) rfl rfl rfl (by go_simp) (M2.row (by simp)) (by simp [hk, hn]) rfl ?_
  refine wpT_valp 15 (v := U32 c) rfl rfl rfl (by go_simp) ?_
  refine wpT_valp 16 (v := .slice AB L cb) rfl rfl rfl (by go_simp) ?_
  try simp only [Act.put, List.setIfInBounds_toArray, List.set_cons_succ, List.set_cons_zero]
  refine wpT_valp 17 (v := .int .i64 L) rfl rfl rfl (by go_simp) ?_
  refine wpT_callN 18 M2 (l := x) (fun v => .tuple #[v, .int .i64 0]) rfl rfl rfl (by go_simp) (rstream_v w1 k n x c L hk hn hL hc HX.out) (fun v5 w5 S5 M5 T5 K5 => ?_)
  replace T0 := backT T0 T5
  obtain ⟨A5, c5, rfl, -⟩ := (K5.out _ _ M5).1.shape' L hx
  refine wpT_valp 12 (v := .tuple #[.slice A5 L c5, .int .i64 0]) rfl rfl rfl (by go_simp) ?_
  refine wpT_valp 19 (v := .slice A5 L c5) rfl rfl rfl (by go_simp) ?_
  refine wpT_valp 20 (v := .int .i64 0) rfl rfl rfl (by go_simp) ?_
  try simp only [Act.put, List.setIfInBounds_toArray, List.set_cons_succ, List.set_cons_zero]
  refine wpT_valp 10 (v := .slice A5 L c5) rfl rfl rfl (by go_simp) ?_
  refine wpT_valp 11 (v := .int .i64 0) rfl rfl rfl (by go_simp) ?_
  dsimp only [wpT]
  try simp only [Act.put, List.setIfInBounds_toArray, List.set_cons_succ, List.set_cons_zero]
  go_upto_region 2 with fail
  refine wp_region_lin (.op 0 (.op 1 .done)) (by rfl) ?_
  refine wpT_valp 21 (v := .int .i64 0) rfl rfl rfl (by go_simp) ?_
  refine wpT_valp 22 (v := .bool false) rfl rfl rfl (by go_simp) ?_
  dsimp only [wpT]
  try simp only [Act.put, List.setIfInBounds_toArray, List.set_cons_succ, List.set_cons_zero]
  go_upto_region 4 with fail
  refine wp_region_lin (.op 0 (.op 1 (.op 2 (.op 3 (.op 4 .done))))) (by rfl) ?_
  refine wpT_valp 24 (v := .slice A5 L c5) rfl rfl rfl (by go_simp) ?_
  refine wpT_valp 25 (v := .slice AB L cb) rfl rfl rfl (by go_simp) ?_
  have hz9 := (T0.out _ _ M5).size
  refine wpT_callx 26 M5 (X := fun v w' => OB w' w.heap.size v X) rfl rfl rfl (by go_simp) ((rmixed w5 x b _ _ L hx hb (K5.out _ _ M5).1 (SV.below HVB.out (T0.out _ _ M5).end_) (by omega)).mono (fun e w' ⟨v, h1, h2, h3⟩ => ⟨v, h1, by rw [HXX.out]; exact h2.mono hz9, h3⟩)) (fun u9 w9 O9 M9 _ => ?_)
  refine wpT_valp 8 (v := u9) rfl rfl rfl (by go_simp) ?_
  try simp only [Act.put, List.setIfInBounds_toArray, List.set_cons_succ, List.set_cons_zero]
  refine wpT_valp 9 (v := .int .i64 0) rfl rfl rfl (by go_simp) ?_
  dsimp only [wpT]
  try simp only [Act.put, List.setIfInBounds_toArray, List.set_cons_succ, List.set_cons_zero]
  go_wp2_with fail
  refine bodyPost_ret (res_two rfl (rv_tmp _ _ rfl) (rv_tmp _ _ rfl)) rfl ?_
  exact ⟨_, rfl, O9, (T0.out _ _ M9).end_⟩
end Go.Proofs.YtbigmnhjnjeeaaaDoor
