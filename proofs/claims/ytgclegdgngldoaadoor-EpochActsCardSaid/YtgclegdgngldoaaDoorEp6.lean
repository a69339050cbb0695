/-
  Package epoch: New, Restart, Public, Open; own work.
-/
import Derived.Test.YtgclegdgngldoaaDoorEp5
set_option linter.unusedSimpArgs false
set_option linter.unusedVariables false
namespace Go.Proofs.YtgclegdgngldoaaDoor
open Go.RowKit Fp
section
variable {S : Nat → Prop} {w0 w : World} {H : List (Nat × Array Value)} {B b g gx n c1 : Nat} {k : L8} {L : List Ep.Sl} {v : Value} {cur : Array Value}
theorem wpT_bxr {P : Program} {ops : Array Oper} {Q : Exit → Act → World → Prop} {i : Nat} {t : Tr} {a : Act} {o : Oper} {c : Array Value} {T : TypeId} (dst : Nat) (M : Mm S w0 H w) (hT : T ≠ 5) (hdst : o.dst = some dst) (ho : ops[i]? = some o) (hw : Region.wanted o (yielded ops a.tmps) = true)
    (hrun : (execOp a.eval o).run P w = .ok (.value (.pointer (some ⟨w.heap.size, 0, none⟩))) (w.alloc (.cells c T)))
    (h : ∀ b w', w.heap.size ≤ b → Mm S w0 ((b, c) :: H) w' → wpT P ops Q t (a.put (some dst) (.pointer (some ⟨b, 0, none⟩))) w') : wpT P ops Q (.op i t) a w :=
  wpT_val ho hw hrun (by rw [hdst]; exact h _ _ (Nat.le_refl _) (M.alloc c T hT))
theorem xb_rot2 (w : World) (k : L8) (t : Int) (hk : k.length = 32) : exBuild Tryd.prog 73 #[(0, .agg (cs U8 k)), (2, .int .i64 t)] w = .ok (.value (.agg (ROR k (.slice none 0 0) t))) w := by
  unfold exBuild
  rw [run_build w 73 _ (ROR k (.slice none 0 0) t) ?_]
  · rfl
  rw [bp_rot, show (((Tryd.prog.info? 73).bind (·.zero)).getD undef).cells = #[] ++ cs U8 (zs 32) ++ #[.slice none 0 0, .int .i64 0] by kernel_rfl]
  show Instr.fill _ _ [(0, Value.agg (cs U8 k)), (2, Value.int .i64 t)] = _
  rw [fill_one _ 0 _ #[] _ _ _ (by simp [Value.cells, hk]) (by simp [Value.cells, hk, zs]),
    show #[] ++ (Value.agg (cs U8 k)).cells ++ #[Value.slice none 0 0, Value.int .i64 0] = (cs U8 k ++ (#[Value.slice none 0 0] : Array Value)) ++ (#[Value.int .i64 0] : Array Value) ++ #[] by apply Array.toList_inj.1; simp [Value.cells],
    fill_one _ 2 _ (cs U8 k ++ (#[Value.slice none 0 0] : Array Value)) _ _ _ (by simp [Value.cells, hk]) (by simp [Value.cells])]
  simp only [Instr.fill, ROR, Value.cells]
  refine congrArg some ?_
  apply Array.toList_inj.1
  simp
theorem may_b (w : World) (n : Int) {r : Bool} (hr : decide (0 ≤ n ∧ n ≤ 1099511627776) = r) : Calls Tryd.prog 39 #[.int .i64 n] w fun e w' => e = .returned (.bool r) ∧ Below w.heap.size w w' := by
  rw [← hr]; exact may_c w n
theorem made_x0 {t : Int} (hT : KT w0 ∧ 0 < B ∧ B ≤ w0.heap.size) (hb : Below B w0 w) (hR : w.rowOf b = ROR k v t) (hlt : b < w.heap.size) (hk : k.length = 32) (s : Ep.Sl) (hm : s.made ≤ 1099511627776) (h0 : s.gen = 0) :
    Calls Tryd.prog 40 #[.pointer (some ⟨b, 0, none⟩), .int .i64 0, .int .i64 s.made] w fun e w' => e = .returned (.agg (ESL k s)) ∧ Below w.heap.size w w' := by
  have := made_x (w0 := w0) (B := B) hT hb hR hlt hk s hm
  rw [h0] at this; exact this
theorem rw_one (k : L8) (s : Ep.Sl) (h : B ≤ gx) : Rw B 67 (.slice (some ⟨gx, 0, none⟩) 1 1) 1 (fl (e67 k) [s]) gx 1 (ESL k s) :=
  ⟨rfl, by decide, h, by simp, Nat.le_refl _, by unfold maxLen; decide, by rw [fl_one, List.take_of_length_le (by simp)]; rfl, one_ESL⟩
theorem cell_of0 {x : Value} (h : w.rowOf g = cur) (hc : cur[0]? = some x) : w.cell? ⟨g, 0, none⟩ = some x := by rw [cell_rowOf, h, hc]
theorem sv_row {C : Array Value} (h : w.rowOf g = C) (hm : 1 ≤ maxLen) : SV w (.slice (some ⟨g, 0, none⟩) 1 1) 1 C.toList :=
  ⟨_, _, rfl, Nat.le_refl _, hm, fun _ => ⟨g, 0, rfl, fun i hi => by rw [cell_rowOf, h, Nat.zero_add]; simp⟩⟩
theorem gen0_of {a : Ep.Sl} (R : Rw B 67 v n (fl (e67 k) L) g c1 cur) (hn : L.length = n) (h : L[0]? = some a) : cur[0]? = some (.int .i64 a.gen) := by
  have := grow_cell (e67_len k) hn R.tk h 0 (by decide)
  simp only [Nat.zero_mul, Nat.add_zero] at this
  rw [this]; simp [e67, ESL, EPS]
end
attribute [local irreducible] ESL EPS ROR
set_option maxRecDepth 100000 in
set_option maxHeartbeats 4000000 in
theorem new_bad (w : World) (k : L8) (now : Int) (hk : k.length = 32) (hno : ¬ (0 ≤ now ∧ now ≤ 1099511627776)) :
    Calls Tryd.prog 22 #[.agg (cs U8 k), .int .i64 now] w fun e w' => e = .returned (.pointer none) ∧ Below w.heap.size w w' := by
  have HLT := hid (decide_eq_false hno)
  clear hno
  have M0 := Mm.start no w
  go_enter Tryd.func22, Tryd.ntmps22
  have M2 := (M0.alloc (cs U8 k) 23 (by decide))
  try simp only [World.size_alloc] at M2
  go_upto_region 1 with fail
  obtain ⟨w1, hw1⟩ : ∃ w1, w1 = (w.alloc (.cells (cs U8 k) 23)) := ⟨_, rfl⟩
  rw [← hw1] at M2 ⊢
  clear hw1
  refine wp_region_lin (.op 0 (.op 1 (.op 2 .done))) (by rfl) ?_
  refine wpT_valp 6 (v := .int .i64 now) rfl rfl rfl (by go_simp) ?_
  refine wpT_callv 7 M2 (v := .bool false) rfl rfl rfl (by go_simp) (may_b w1 _ HLT.out) (fun w3 M4 => ?_)
  refine wpT_valp 8 (v := .bool true) rfl rfl rfl (by go_simp) ?_
  dsimp only [wpT]
  try simp only [Act.put, List.setIfInBounds_toArray, List.set_cons_succ, List.set_cons_zero]
  go_upto_region 2 with fail
  refine wp_region_lin (.op 0 .done) (by rfl) ?_
  refine wpT_valp 4 (v := .pointer none) rfl rfl rfl (by go_simp) ?_
  dsimp only [wpT]
  try simp only [Act.put, List.setIfInBounds_toArray, List.set_cons_succ, List.set_cons_zero]
  go_wp2_with fail
  go_ret
  exact ⟨rfl, M4.end_⟩
set_option maxRecDepth 100000 in
set_option maxHeartbeats 4000000 in
theorem new_c (w : World) (hT : KT w ∧ 0 < w.heap.size) (k : L8) (s1 : Ep.Sl) (hk : k.length = 32) (hg0 : s1.gen = 0) (hm : s1.made ≤ 1099511627776) :
    Calls Tryd.prog 22 #[.agg (cs U8 k), .int .i64 s1.made] w fun e w' => ∃ b v, e = .returned (.pointer (some ⟨b, 0, none⟩)) ∧ RO w' w.heap.size b k [s1] s1.made v ∧ Below w.heap.size w w' := by
  have HT := hid (show KT w ∧ 0 < w.heap.size ∧ w.heap.size ≤ w.heap.size from ⟨hT.1, hT.2, Nat.le_refl _⟩)
  have HLT := hid (show decide ((0 : Int) ≤ (s1.made : Int) ∧ (s1.made : Int) ≤ 1099511627776) = true from decide_eq_true ⟨by omega, by omega⟩)
  clear hT
  have M0 := Mm.start no w
  go_enter Tryd.func22, Tryd.ntmps22
  have M2 := (M0.alloc (cs U8 k) 23 (by decide))
  try simp only [World.size_alloc] at M2
  go_upto_region 1 with fail
  obtain ⟨w1, hw1⟩ : ∃ w1, w1 = (w.alloc (.cells (cs U8 k) 23)) := ⟨_, rfl⟩
  rw [← hw1] at M2 ⊢
  clear hw1
  refine wp_region_lin (.op 0 (.op 1 (.op 2 .done))) (by rfl) ?_
  refine wpT_valp 6 (v := .int .i64 s1.made) rfl rfl rfl (by go_simp) ?_
  refine wpT_callv 7 M2 (v := .bool true) rfl rfl rfl (by go_simp) (may_b w1 _ HLT.out) (fun w3 M4 => ?_)
  refine wpT_valp 8 (v := .bool false) rfl rfl rfl (by go_simp) ?_
  dsimp only [wpT]
  try simp only [Act.put, List.setIfInBounds_toArray, List.set_cons_succ, List.set_cons_zero]
  go_upto_region 3 with fail
  refine wp_region_lin (.op 0 (.op 1 (.op 2 (.op 3 (.op 4 .done))))) (by rfl) ?_
  refine wpT_ld0 9 Tryd.underlying23 rfl inf_key (w.heap.size) (cs U8 k) rfl rfl rfl (by go_simp) (M4.row (b := w.heap.size) (c := cs U8 k) (by simp)) (by simp [ESL_size, ROR_size, hk]) rfl ?_
  refine wpT_valp 10 (v := .int .i64 s1.made) rfl rfl rfl (by go_simp) ?_
  refine wpT_valL 11 (v := .agg (ROR k (.slice none 0 0) s1.made)) rfl rfl rfl (by have q := xb_rot2 w3 k s1.made hk; go_simp) ?_
  refine wpT_bxr (c := ROR k (.slice none 0 0) s1.made) (T := 73) 12 M4 (by decide) rfl rfl rfl (by go_simp) (fun gb wB hgb MB => ?_)
  try simp only [Act.put, List.setIfInBounds_toArray, List.set_cons_succ, List.set_cons_zero]
  refine wpT_valp 5 (v := .pointer (some ⟨gb, 0, none⟩)) rfl rfl rfl (by go_simp) ?_
  dsimp only [wpT]
  try simp only [Act.put, List.setIfInBounds_toArray, List.set_cons_succ, List.set_cons_zero]
  go_upto_region 4 with fail
  refine wp_region_lin (.op 0 (.op 1 (.op 2 (.op 3 (.op 4 (.op 5 (.op 6 (.op 7 .done)))))))) (by rfl) ?_
  refine wpT_valp 13 (v := .pointer (some ⟨gb, 0, none⟩)) rfl rfl rfl (by go_simp) ?_
  refine wpT_valp 14 (v := .pointer (some ⟨gb, 0, none⟩)) rfl rfl rfl (by go_simp) ?_
  refine wpT_valp 15 (v := .int .i64 s1.made) rfl rfl rfl (by go_simp) ?_
  refine wpT_callv 16 MB (v := .agg (ESL k s1)) rfl rfl rfl (by go_simp) (made_x0 HT.out (MB.end_) (MB.row (b := gb) (c := ROR k (.slice none 0 0) s1.made) (by simp)) (MB.lt (b := gb) (c := ROR k (.slice none 0 0) s1.made) (by simp)) hk s1 hm hg0) (fun w5 M6 => ?_)
  try simp only [Act.put, List.setIfInBounds_toArray, List.set_cons_succ, List.set_cons_zero]
  refine wpT_slot1 17 _ M6 k s1 rfl rfl rfl (by go_simp) rfl (fun gx wgx Mgx => ?_)
  refine wpT_valp 18 (v := .pointer (some ⟨gb, 0, none⟩)) rfl rfl rfl (by go_simp) ?_
  refine wpT_valp 19 (v := .pointer (some ⟨gb, 32, none⟩)) rfl rfl rfl (by go_simp) ?_
  refine wpT_stc Mgx 1 (.slice (some ⟨gx, 0, none⟩) 1 1) (ROR k (.slice (some ⟨gx, 0, none⟩) 1 1) s1.made) inf_sls rfl rfl rfl rfl (by go_simp) (by go_simp) (by simp [ESL_size, ROR_size, hk]) (by simp [go_sem]) (ror_s32 hk _) rfl (fun w7 M8 => ?_)
  dsimp only [List.set] at M8
  dsimp only [wpT]
  try simp only [Act.put, List.setIfInBounds_toArray, List.set_cons_succ, List.set_cons_zero]
  go_upto_region 5 with fail
  refine wp_region_lin (.op 0 (.op 1 .done)) (by rfl) ?_
  refine wpT_valp 20 (v := .pointer (some ⟨gb, 0, none⟩)) rfl rfl rfl (by go_simp) ?_
  refine wpT_valp 4 (v := .pointer (some ⟨gb, 0, none⟩)) rfl rfl rfl (by go_simp) ?_
  dsimp only [wpT]
  try simp only [Act.put, List.setIfInBounds_toArray, List.set_cons_succ, List.set_cons_zero]
  go_wp2_with fail
  go_ret
  refine ⟨gb, _, rfl, RO.of (b := gb) (g := gx) (cur := ESL k s1) (L := [s1]) (t := s1.made) M8 (by simp) (by simp) (rw_one k s1 ?_) ((M8.own (gb, ROR k (.slice (some ⟨gx, 0, none⟩) 1 1) s1.made) (by simp)).1.resolve_left (fun h => h)) hk (by simp), M8.end_⟩
  exact (M8.own (gx, ESL k s1) (by simp)).1.resolve_left (fun h => h)
set_option maxRecDepth 100000 in
set_option maxHeartbeats 4000000 in
theorem restart_old (w : World) (B b : Nat) (k : L8) (L : List Ep.Sl) (t : Nat) (v : Value) (R : RO w B b k L t v) (now : Int) (hno : ¬ ((t : Int) ≤ now ∧ 0 ≤ now ∧ now ≤ 1099511627776)) :
    Calls Tryd.prog 26 #[.pointer (some ⟨b, 0, none⟩), .int .i64 now] w fun e w' => e = .returned (.int .i64 2) ∧ Below w.heap.size w w' := by
  obtain ⟨g, c1, cur, R0, M0⟩ := R.mm
  obtain rfl := R0.v
  have hk := R.kl
  have h0 := R.l0
  obtain ⟨n, hLn⟩ : ∃ n, L.length = n := ⟨_, rfl⟩
  rw [hLn] at R0 M0 h0
  have HROW : Hid (∀ w', Below w.heap.size w w' → w'.rowOf b = ROR k (.slice (some ⟨g, 0, none⟩) n c1) t) := hid fun w' h => (below_row h (M0.lt (b := b) (c := ROR k (.slice (some ⟨g, 0, none⟩) n c1) t) (by simp))).trans (M0.row (by simp))
  have HLTB : Hid (∀ w', Below w.heap.size w w' → b < w'.heap.size) := hid fun w' h => Nat.lt_of_lt_of_le (M0.lt (b := b) (c := ROR k (.slice (some ⟨g, 0, none⟩) n c1) t) (by simp)) h.size
  have HLT := hid (decide_eq_false hno)
  clear hno M0 R R0
  have M0 := Mm.start no w
  go_enter Tryd.func26, Tryd.ntmps26
  go_upto_region 1 with fail
  refine wp_region_lin (.op 0 (.op 1 (.op 2 (.op 3 .done)))) (by rfl) ?_
  refine wpT_valp 6 (v := .pointer (some ⟨b, 0, none⟩)) rfl rfl rfl (by go_simp) ?_
  refine wpT_callv 7 M0 (v := .bool true) rfl rfl rfl (by go_simp) (good_t (HROW.out _ M0.end_) (HLTB.out _ M0.end_) hk (by omega)) (fun w1 M2 => ?_)
  refine wpT_valp 8 (v := .bool false) rfl rfl rfl (by go_simp) ?_
  refine wpT_valp 5 (v := .bool false) rfl rfl rfl (by go_simp) ?_
  dsimp only [wpT]
  try simp only [Act.put, List.setIfInBounds_toArray, List.set_cons_succ, List.set_cons_zero]
  go_upto_region 3 with fail
  refine wp_region_lin (.op 0 (.op 1 (.op 2 (.op 3 (.op 4 .done))))) (by rfl) ?_
  refine wpT_valp 10 (v := .pointer (some ⟨b, 0, none⟩)) rfl rfl rfl (by go_simp) ?_
  refine wpT_valp 11 (v := .int .i64 now) rfl rfl rfl (by go_simp) ?_
  refine wpT_callv 12 M2 (v := .bool false) rfl rfl rfl (by go_simp) (later_b (HROW.out _ M2.end_) (HLTB.out _ M2.end_) hk HLT.out) (fun w3 M4 => ?_)
  refine wpT_valp 13 (v := .bool true) rfl rfl rfl (by go_simp) ?_
  try simp only [Act.put, List.setIfInBounds_toArray, List.set_cons_succ, List.set_cons_zero]
  refine wpT_valp 9 (v := .bool true) rfl rfl rfl (by go_simp) ?_
  dsimp only [wpT]
  try simp only [Act.put, List.setIfInBounds_toArray, List.set_cons_succ, List.set_cons_zero]
  go_upto_region 4 with fail
  refine wp_region_lin (.op 0 .done) (by rfl) ?_
  refine wpT_valp 4 (v := .int .i64 2) rfl rfl rfl (by go_simp) ?_
  dsimp only [wpT]
  try simp only [Act.put, List.setIfInBounds_toArray, List.set_cons_succ, List.set_cons_zero]
  go_wp2_with fail
  go_ret
  exact ⟨rfl, M4.end_⟩
set_option maxRecDepth 100000 in
set_option maxHeartbeats 4000000 in
theorem restart_c (w : World) (B b : Nat) (k : L8) (L : List Ep.Sl) (t : Nat) (v : Value) (R : RO w B b k L t v) (hT : KT w ∧ 0 < B ∧ B ≤ w.heap.size) (a : Ep.Sl) (hLa : L[0]? = some a) (h9 : L.length ≤ 900) (s1 : Ep.Sl) (hs1 : s1.gen = a.gen + 1) (hg : a.gen ≤ 1000000) (ht : t ≤ s1.made) (hm : s1.made ≤ 1099511627776) :
    Calls Tryd.prog 26 #[.pointer (some ⟨b, 0, none⟩), .int .i64 s1.made] w fun e w' => e = .returned (.int .i64 0) ∧ ∃ v', RO w' B b k [s1] s1.made v' ∧ Fr (RF b v) w w' ∧ ∀ g, RF b v' g → RF b v g ∨ w.heap.size ≤ g := by
  obtain ⟨g, c1, cur, R0, M0⟩ := R.mm
  obtain rfl := R0.v
  have hk := R.kl
  have hBb := R.bb
  have hB := hT.2.2
  have HB : Hid (∀ w', Fr (RF b (.slice (some ⟨g, 0, none⟩) L.length c1)) w w' → Below B w w') := hid fun w' h => h.below B hB (fun x _ hx => (R.lt x hx).1)
  have HT := hid hT
  have HRL := hid R.lt
  have hc0 := R0.c0
  have hnc := R0.nc
  obtain ⟨n, hLn⟩ : ∃ n, L.length = n := ⟨_, rfl⟩
  have h0 := R.l0
  rw [hLn] at R0 M0 HB h0 hnc h9 HRL ⊢
  have HE0 := hid (gen0_of R0 hLn hLa)
  have hn0 : (0 : Int) < (n : Int) := by omega
  have HLT := hid (show decide ((t : Int) ≤ (s1.made : Int) ∧ 0 ≤ (s1.made : Int) ∧ (s1.made : Int) ≤ 1099511627776) = true from decide_eq_true ⟨by omega, by omega, by omega⟩)
  have HG1 := hid (show IntKind.i64.wrap ((a.gen : Int) + 1) = (s1.gen : Int) by rw [i64w _ (by omega) (by omega), hs1]; rfl)
  clear hT hLa hs1 R
  go_enter Tryd.func26, Tryd.ntmps26
  go_upto_region 1 with fail
  refine wp_region_lin (.op 0 (.op 1 (.op 2 (.op 3 .done)))) (by rfl) ?_
  refine wpT_valp 6 (v := .pointer (some ⟨b, 0, none⟩)) rfl rfl rfl (by go_simp) ?_
  refine wpT_callv 7 M0 (v := .bool true) rfl rfl rfl (by go_simp) (good_t (M0.row (b := b) (c := ROR k (.slice (some ⟨g, 0, none⟩) n c1) t) (by simp)) (M0.lt (b := b) (c := ROR k (.slice (some ⟨g, 0, none⟩) n c1) t) (by simp)) hk (by omega)) (fun w1 M2 => ?_)
  refine wpT_valp 8 (v := .bool false) rfl rfl rfl (by go_simp) ?_
  refine wpT_valp 5 (v := .bool false) rfl rfl rfl (by go_simp) ?_
  dsimp only [wpT]
  try simp only [Act.put, List.setIfInBounds_toArray, List.set_cons_succ, List.set_cons_zero]
  go_upto_region 3 with fail
  refine wp_region_lin (.op 0 (.op 1 (.op 2 (.op 3 (.op 4 .done))))) (by rfl) ?_
  refine wpT_valp 10 (v := .pointer (some ⟨b, 0, none⟩)) rfl rfl rfl (by go_simp) ?_
  refine wpT_valp 11 (v := .int .i64 s1.made) rfl rfl rfl (by go_simp) ?_
  refine wpT_callv 12 M2 (v := .bool true) rfl rfl rfl (by go_simp) (later_b (M2.row (b := b) (c := ROR k (.slice (some ⟨g, 0, none⟩) n c1) t) (by simp)) (M2.lt (b := b) (c := ROR k (.slice (some ⟨g, 0, none⟩) n c1) t) (by simp)) hk HLT.out) (fun w3 M4 => ?_)
  refine wpT_valp 13 (v := .bool false) rfl rfl rfl (by go_simp) ?_
  try simp only [Act.put, List.setIfInBounds_toArray, List.set_cons_succ, List.set_cons_zero]
  refine wpT_valp 9 (v := .bool false) rfl rfl rfl (by go_simp) ?_
  dsimp only [wpT]
  try simp only [Act.put, List.setIfInBounds_toArray, List.set_cons_succ, List.set_cons_zero]
  go_upto_region 5 with fail
  refine wp_region_lin (.op 0 (.op 1 (.op 2 (.op 3 (.op 4 .done))))) (by rfl) ?_
  refine wpT_valp 14 (v := .pointer (some ⟨b, 0, none⟩)) rfl rfl rfl (by go_simp) ?_
  refine wpT_valp 15 (v := .int .i64 s1.made) rfl rfl rfl (by go_simp) ?_
  refine wpT_valp 16 (v := .pointer (some ⟨b, 0, none⟩)) rfl rfl rfl (by go_simp) ?_
  refine wpT_valp 17 (v := .pointer (some ⟨b, 33, none⟩)) rfl rfl rfl (by go_simp) ?_
  try simp only [Act.put, List.setIfInBounds_toArray, List.set_cons_succ, List.set_cons_zero]
  refine wpT_stc M4 1 (.int .i64 s1.made) (ROR k (.slice (some ⟨g, 0, none⟩) n c1) s1.made) inf_int rfl rfl rfl rfl (by go_simp) (by go_simp) (by simp [ESL_size, ROR_size, hk]) (by simp [go_sem]) (ror_s33 hk _) rfl (fun w5 M6 => ?_)
  dsimp only [List.set] at M6
  dsimp only [wpT]
  try simp only [Act.put, List.setIfInBounds_toArray, List.set_cons_succ, List.set_cons_zero]
  go_upto_region 6 with fail
  refine wp_region_lin (.op 0 (.op 1 (.op 2 (.op 3 (.op 4 (.op 5 (.op 6 (.op 7 (.op 8 (.op 9 (.op 10 (.op 11 (.op 12 (.op 13 (.op 14 (.op 15 (.op 16 .done))))))))))))))))) (by rfl) ?_
  refine wpT_valp 18 (v := .pointer (some ⟨b, 0, none⟩)) rfl rfl rfl (by go_simp) ?_
  refine wpT_valp 19 (v := .pointer (some ⟨b, 0, none⟩)) rfl rfl rfl (by go_simp) ?_
  refine wpT_valp 20 (v := .pointer (some ⟨b, 0, none⟩)) rfl rfl rfl (by go_simp) ?_
  refine wpT_valp 21 (v := .pointer (some ⟨b, 0, none⟩)) rfl rfl rfl (by go_simp) ?_
  try simp only [Act.put, List.setIfInBounds_toArray, List.set_cons_succ, List.set_cons_zero]
  refine wpT_valp 22 (v := .pointer (some ⟨b, 32, none⟩)) rfl rfl rfl (by go_simp) ?_
  refine wpT_valp 23 (v := .slice (some ⟨g, 0, none⟩) n c1) rfl rfl rfl (by have c0 := (ror_c32 hk) (M6.row (b := b) (c := ROR k (.slice (some ⟨g, 0, none⟩) n c1) s1.made) (by simp)); go_simp) ?_
  refine wpT_valp 24 (v := .pointer (some ⟨g, 0, none⟩)) rfl rfl rfl (by go_simp) ?_
  refine wpT_valp 25 (v := .pointer (some ⟨g, 0, none⟩)) rfl rfl rfl (by go_simp) ?_
  refine wpT_valp 26 (v := .pointer (some ⟨g, 0, none⟩)) rfl rfl rfl (by go_simp) ?_
  try simp only [Act.put, List.setIfInBounds_toArray, List.set_cons_succ, List.set_cons_zero]
  refine wpT_valp 27 (v := .int .i64 a.gen) rfl rfl rfl (by have c0 := cell_of0 (M6.row (b := g) (c := cur) (by simp)) HE0.out; go_simp) ?_
  refine wpT_valp 28 (v := .int .i64 s1.gen) rfl rfl rfl (by have h := HG1.out; go_simp) ?_
  refine wpT_valp 29 (v := .int .i64 s1.made) rfl rfl rfl (by go_simp) ?_
  refine wpT_callv 30 M6 (v := .agg (ESL k s1)) rfl rfl rfl (by go_simp) (made_x HT.out (HB.out _ M6.fr) (M6.row (b := b) (c := ROR k (.slice (some ⟨g, 0, none⟩) n c1) s1.made) (by simp)) (M6.lt (b := b) (c := ROR k (.slice (some ⟨g, 0, none⟩) n c1) s1.made) (by simp)) hk s1 hm) (fun w7 M8 => ?_)
  refine wpT_slot1 31 _ M8 k s1 rfl rfl rfl (by go_simp) rfl (fun gx wgx Mgx => ?_)
  try simp only [Act.put, List.setIfInBounds_toArray, List.set_cons_succ, List.set_cons_zero]
  refine wpT_valp 32 (v := .pointer (some ⟨b, 0, none⟩)) rfl rfl rfl (by go_simp) ?_
  refine wpT_valp 33 (v := .pointer (some ⟨b, 32, none⟩)) rfl rfl rfl (by go_simp) ?_
  refine wpT_stc Mgx 2 (.slice (some ⟨gx, 0, none⟩) 1 1) (ROR k (.slice (some ⟨gx, 0, none⟩) 1 1) s1.made) inf_sls rfl rfl rfl rfl (by go_simp) (by go_simp) (by simp [ESL_size, ROR_size, hk]) (by simp [go_sem]) (ror_s32 hk _) rfl (fun w9 M10 => ?_)
  dsimp only [List.set] at M10
  dsimp only [wpT]
  try simp only [Act.put, List.setIfInBounds_toArray, List.set_cons_succ, List.set_cons_zero]
  go_upto_region 7 with fail
  refine wp_region_lin (.op 0 .done) (by rfl) ?_
  refine wpT_valp 4 (v := .int .i64 0) rfl rfl rfl (by go_simp) ?_
  dsimp only [wpT]
  try simp only [Act.put, List.setIfInBounds_toArray, List.set_cons_succ, List.set_cons_zero]
  go_wp2_with fail
  go_ret
  refine ⟨rfl, _, RO.of (b := b) (g := gx) (cur := ESL k s1) (L := [s1]) (t := s1.made) M10 (by simp) (by simp) (rw_one k s1 ?_) hBb hk (by simp), M10.fr, RF.new (g := gx) (cur := ESL k s1) M10 (by simp) rfl⟩
  rcases (M10.own (gx, ESL k s1) (by simp)).1 with h | h
  · exact (HRL.out gx h).1
  · exact Nat.le_trans hB h
set_option maxRecDepth 100000 in
set_option maxHeartbeats 4000000 in
theorem public_ep (w : World) (B b : Nat) (k : L8) (L : List Ep.Sl) (t : Nat) (v : Value) (R : RO w B b k L t v) (a : Ep.Sl) (hLa : L[0]? = some a) :
    Calls Tryd.prog 30 #[.pointer (some ⟨b, 0, none⟩)] w fun e w' => e = .returned (.tuple #[.agg (cs U8 (Ep.pub k a.gen)), .int .i64 a.gen]) ∧ Below w.heap.size w w' := by
  obtain ⟨g, c1, cur, R0, M0⟩ := R.mm
  obtain rfl := R0.v
  have hk := R.kl
  have h0 := R.l0
  have hsv := R.ow.sv
  obtain ⟨n, hLn⟩ : ∃ n, L.length = n := ⟨_, rfl⟩
  rw [hLn] at R0 M0 h0 hsv
  have hn0 : (0 : Int) < (n : Int) := by omega
  have HROW : Hid (∀ w', Below w.heap.size w w' → w'.rowOf b = ROR k (.slice (some ⟨g, 0, none⟩) n c1) t) := hid fun w' h => (below_row h (M0.lt (b := b) (c := ROR k (.slice (some ⟨g, 0, none⟩) n c1) t) (by simp))).trans (M0.row (by simp))
  have HLTB : Hid (∀ w', Below w.heap.size w w' → b < w'.heap.size) := hid fun w' h => Nat.lt_of_lt_of_le (M0.lt (b := b) (c := ROR k (.slice (some ⟨g, 0, none⟩) n c1) t) (by simp)) h.size
  have HPUB : Hid (∀ w', Below w.heap.size w w' → exLoad Tryd.prog 23 (.pointer (some ⟨g, 34, none⟩)) w' = .ok (.value (.agg (cs U8 (Ep.pub k a.gen)))) w') := hid fun w' h => by
    have := sv_part (e67_len k) Tryd.underlying23 rfl inf_key (by decide) (SV.below hsv h) (i := 0) (j := 34) hLa (by decide) (cs U8 (Ep.pub k a.gen)) (by
      simp [e67, ESL, EPS, cs, List.drop_append, List.take_append, List.drop_of_length_le, List.take_of_length_le])
    simpa using this
  have HGEN : Hid (∀ w', Below w.heap.size w w' → w'.cell? ⟨g, 0, none⟩ = some (.int .i64 a.gen)) := hid fun w' h => by
    have := sv_cell (e67_len k) (SV.below hsv h) hLa (j := 0) (by decide)
    simp only [Nat.zero_mul, Nat.add_zero] at this
    rw [this]; simp [e67, ESL, EPS]
  clear M0 R R0 hsv hLa
  have M0 := Mm.start no w
  go_enter Tryd.func30, Tryd.ntmps30
  have M2 := (M0.alloc (cs U8 (zs 32)) 23 (by decide))
  try simp only [World.size_alloc] at M2
  go_upto_region 1 with fail
  obtain ⟨w1, hw1⟩ : ∃ w1, w1 = (w.alloc (.cells (cs U8 (zs 32)) 23)) := ⟨_, rfl⟩
  rw [← hw1] at M2 ⊢
  clear hw1
  refine wp_region_lin (.op 0 (.op 1 (.op 2 .done))) (by rfl) ?_
  refine wpT_valp 4 (v := .pointer (some ⟨b, 0, none⟩)) rfl rfl rfl (by go_simp) ?_
  refine wpT_callv 5 M2 (v := .bool true) rfl rfl rfl (by go_simp) (good_t (HROW.out _ M2.end_) (HLTB.out _ M2.end_) hk (by omega)) (fun w3 M4 => ?_)
  refine wpT_valp 6 (v := .bool false) rfl rfl rfl (by go_simp) ?_
  dsimp only [wpT]
  try simp only [Act.put, List.setIfInBounds_toArray, List.set_cons_succ, List.set_cons_zero]
  go_upto_region 3 with fail
  refine wp_region_Z (fun v => v.rowOf (b) = ROR k (.slice (some ⟨g, 0, none⟩) n c1) t ∧ exLoad Tryd.prog 23 (.pointer (some ⟨g, 34, none⟩)) v = .ok (.value (.agg (cs U8 (Ep.pub k a.gen)))) v ∧ v.cell? ⟨g, 0, none⟩ = some (.int .i64 a.gen)) 17 (.yld [0, 1, 2, 3, 4, 5, 6, 7, 8, 9, 10, 11, 12, 13, 14, 15] (.op 16 (.rest (.op 17 .done)))) (by kernel_rfl) (by kernel_rfl) (by kernel_rfl) (fun d _ _ _ _ h => by cases d <;> exact h) ?_
  have M5 := M4.drewN 1
  change wpZ _ _ _ _ _ _ (w3.drewN 1)
  obtain ⟨w6, hw6⟩ : ∃ w6, w6 = w3.drewN 1 := ⟨_, rfl⟩
  rw [← hw6] at M5 ⊢
  clear hw6
  refine wpZ_yld ?_
  refine wpYJd_op 8 (.pointer (some ⟨b, 0, none⟩)) rfl rfl rfl (fun w1 h => by go_simp) ?_
  refine wpYJd_op 9 (.pointer (some ⟨b, 0, none⟩)) rfl rfl rfl (fun w1 h => by go_simp) ?_
  refine wpYJd_op 10 (.pointer (some ⟨b, 32, none⟩)) rfl rfl rfl (fun w1 h => by go_simp) ?_
  refine wpYJd_op 11 (.slice (some ⟨g, 0, none⟩) n c1) rfl rfl rfl (fun w1 h => by have c0 := (ror_c32 hk) h.1; clear h; go_simp) ?_
  refine wpYJd_op 12 (.pointer (some ⟨g, 0, none⟩)) rfl rfl rfl (fun w1 h => by go_simp) ?_
  try simp only [Act.put, List.setIfInBounds_toArray, List.set_cons_succ, List.set_cons_zero]
  refine wpYJd_op 13 (.pointer (some ⟨g, 0, none⟩)) rfl rfl rfl (fun w1 h => by go_simp) ?_
  refine wpYJd_op 14 (.pointer (some ⟨g, 34, none⟩)) rfl rfl rfl (fun w1 h => by go_simp) ?_
  refine wpYJd_ldy 15 (.pointer (some ⟨g, 34, none⟩)) (.agg (cs U8 (Ep.pub k a.gen))) rfl rfl rfl (by go_simp) (fun w1 h => h.2.1) rfl ?_
  refine wpYJd_op 16 (.pointer (some ⟨b, 0, none⟩)) rfl rfl rfl (fun w1 h => by go_simp) ?_
  refine wpYJd_op 17 (.pointer (some ⟨b, 0, none⟩)) rfl rfl rfl (fun w1 h => by go_simp) ?_
  refine wpYJd_op 18 (.pointer (some ⟨b, 32, none⟩)) rfl rfl rfl (fun w1 h => by go_simp) ?_
  try simp only [Act.put, List.setIfInBounds_toArray, List.set_cons_succ, List.set_cons_zero]
  refine wpYJd_op 19 (.slice (some ⟨g, 0, none⟩) n c1) rfl rfl rfl (fun w1 h => by have c0 := (ror_c32 hk) h.1; clear h; go_simp) ?_
  refine wpYJd_op 20 (.pointer (some ⟨g, 0, none⟩)) rfl rfl rfl (fun w1 h => by go_simp) ?_
  refine wpYJd_op 21 (.pointer (some ⟨g, 0, none⟩)) rfl rfl rfl (fun w1 h => by go_simp) ?_
  refine wpYJd_op 22 (.pointer (some ⟨g, 0, none⟩)) rfl rfl rfl (fun w1 h => by go_simp) ?_
  refine wpYJd_op 23 (.int .i64 a.gen) rfl rfl rfl (fun w1 h => by have c0 := h.2.2; go_simp) ?_
  show wpZ _ _ _ _ _ _ _
  try simp only [Act.put, List.setIfInBounds_toArray, List.set_cons_succ, List.set_cons_zero]
  refine wpZ_of (⟨HROW.out _ M5.end_, (HPUB.out _ M5.end_), (HGEN.out _ M5.end_)⟩) ?_
  refine wpT_st0 M5 0 (cs U8 (Ep.pub k a.gen)) inf_key rfl rfl rfl rfl (by go_simp) (by go_simp) (by simp [ESL_size, ROR_size, hk, Ep.pub_len]) (by simp [ESL_size, ROR_size, hk, Ep.pub_len]) (by simp [go_sem]) rfl (fun w7 M8 => ?_)
  dsimp only [List.set] at M8
  refine wpZ_to ?_
  try simp only [Act.put, List.setIfInBounds_toArray, List.set_cons_succ, List.set_cons_zero]
  refine wpZ_rest (⟨HROW.out _ M8.end_, (HPUB.out _ M8.end_), (HGEN.out _ M8.end_)⟩) ?_
  refine wpT_valp 3 (v := .int .i64 a.gen) rfl rfl rfl (by go_simp) ?_
  dsimp only [wpT]
  try simp only [Act.put, List.setIfInBounds_toArray, List.set_cons_succ, List.set_cons_zero]
  go_wp2_with fail
  have r9 := M8.row (b := w.heap.size) (c := cs U8 (Ep.pub k a.gen)) (by simp)
  refine bodyPost_ret (res_two rfl (rv_row Tryd.underlying23 rfl inf_key (w.heap.size) rfl (by rw [r9]; simp [ESL_size, ROR_size, hk, Ep.pub_len])) (rv_tmp _ _ rfl)) rfl ?_
  rw [r9]
  exact ⟨rfl, M8.end_⟩
set_option maxRecDepth 100000 in
set_option maxHeartbeats 4000000 in
theorem open_c (w : World) (B b : Nat) (k : L8) (L : List Ep.Sl) (t : Nat) (v : Value) (R : RO w B b k L t v) (h9 : L.length ≤ 900) :
    Calls Tryd.prog 32 #[.pointer (some ⟨b, 0, none⟩)] w fun e w' => ∃ u, e = .returned u ∧ Ow w' w.heap.size 66 u L.length (fl (e66 k) L) ∧ Below w.heap.size w w' := by
  obtain ⟨g, c1, cur, R0, M0⟩ := R.mm
  obtain rfl := R0.v
  have hk := R.kl
  have h0 := R.l0
  have hsv := R.ow.sv
  obtain ⟨n, hLn⟩ : ∃ n, L.length = n := ⟨_, rfl⟩
  rw [hLn] at R0 M0 h0 hsv h9 ⊢
  have HROW : Hid (∀ w', Below w.heap.size w w' → w'.rowOf b = ROR k (.slice (some ⟨g, 0, none⟩) n c1) t) := hid fun w' h => (below_row h (M0.lt (b := b) (c := ROR k (.slice (some ⟨g, 0, none⟩) n c1) t) (by simp))).trans (M0.row (by simp))
  have HLTB : Hid (∀ w', Below w.heap.size w w' → b < w'.heap.size) := hid fun w' h => Nat.lt_of_lt_of_le (M0.lt (b := b) (c := ROR k (.slice (some ⟨g, 0, none⟩) n c1) t) (by simp)) h.size
  have HSV := hid hsv
  clear M0 R R0 hsv
  have M0 := Mm.start no w
  go_enter Tryd.func32, Tryd.ntmps32
  go_upto_region 1 with fail
  refine wp_region_lin (.op 0 (.op 1 (.op 2 .done))) (by rfl) ?_
  refine wpT_valp 6 (v := .pointer (some ⟨b, 0, none⟩)) rfl rfl rfl (by go_simp) ?_
  refine wpT_callv 7 M0 (v := .bool true) rfl rfl rfl (by go_simp) (good_t (HROW.out _ M0.end_) (HLTB.out _ M0.end_) hk (by omega)) (fun w1 M2 => ?_)
  refine wpT_valp 8 (v := .bool false) rfl rfl rfl (by go_simp) ?_
  dsimp only [wpT]
  try simp only [Act.put, List.setIfInBounds_toArray, List.set_cons_succ, List.set_cons_zero]
  go_upto_region 3 with fail
  refine wp_region_lin (.op 0 .done) (by rfl) ?_
  refine wpT_valp 3 (v := .slice none 0 0) rfl rfl rfl (by go_simp) ?_
  dsimp only [wpT]
  try simp only [Act.put, List.setIfInBounds_toArray, List.set_cons_succ, List.set_cons_zero]
  go_upto_region 4 with fail
  refine wp_region_lin (.op 0 (.op 1 (.op 2 (.op 3 (.op 4 (.op 5 .done)))))) (by rfl) ?_
  refine wpT_valp 9 (v := .pointer (some ⟨b, 0, none⟩)) rfl rfl rfl (by go_simp) ?_
  refine wpT_valp 10 (v := .pointer (some ⟨b, 0, none⟩)) rfl rfl rfl (by go_simp) ?_
  refine wpT_valp 11 (v := .pointer (some ⟨b, 32, none⟩)) rfl rfl rfl (by go_simp) ?_
  refine wpT_valp 12 (v := .slice (some ⟨g, 0, none⟩) n c1) rfl rfl rfl (by have c0 := (ror_c32 hk) (HROW.out _ M2.end_); go_simp) ?_
  try simp only [Act.put, List.setIfInBounds_toArray, List.set_cons_succ, List.set_cons_zero]
  refine wpT_valp 13 (v := .int .i64 n) rfl rfl rfl (by go_simp) ?_
  refine wpT_valp 14 (v := .int .i64 0) rfl rfl rfl (by go_simp) ?_
  dsimp only [wpT]
  try simp only [Act.put, List.setIfInBounds_toArray, List.set_cons_succ, List.set_cons_zero]
  go_wp2_with fail
  go_loopw [3, 14] (fun u3 x wr => ∃ i : Nat, i ≤ n ∧ x = .int .i64 i ∧ Ow wr w.heap.size 66 u3 i (fl (e66 k) (L.take i)) ∧ Mm no w [] wr) (fun _ x _ => n - (intOf x).toNat)
  case atStart => exact ⟨0, by omega, rfl, by rw [List.take_zero]; exact Ow.nil _ _ _ _, M2⟩
  case round =>
    clear M2 M0
    obtain ⟨i, hi, rfl, OU, M⟩ := hrel
    by_cases hin : i < n
    · have hlt : (i : Int) < (n : Int) := by omega
      have hi0 : (0 : Int) ≤ (i : Int) := by omega
      obtain ⟨s, hs⟩ : ∃ s, L[i]? = some s := ⟨_, List.getElem?_eq_getElem (by omega)⟩
      have HEL : Hid (∀ w', Below w.heap.size w w' → exLoad Tryd.prog 83 (.pointer (some ⟨g, i * 67, none⟩)) w' = .ok (.value (.agg (ESL k s))) w') := hid fun w' h => by
        have := sv_load (e67_len k) Tryd.underlying83 rfl inf_esl (by decide) (SV.below HSV.out h) hs (ESL k s) rfl
        rw [Nat.zero_add] at this; exact this
      have HTK := hid (show fl (e66 k) (L.take i) ++ e66 k s = fl (e66 k) (L.take (i + 1)) by rw [ki_take hs, fl_append, fl_one])
      obtain ⟨S1, MR, hS1, hT1⟩ := M.rebase
      have M := MR
      have HOM : Hid (∀ H' w', Mm S1 wr H' w' → Ow w' w.heap.size 66 u3 i (fl (e66 k) (L.take i))) := hid fun H' w' N => OU.fr N.fr (fun x _ hx => by have := hS1 x hx; simp at this)
      clear hs
      go_upto_region 6 with fail
      refine wp_region_lin (.op 0 (.op 1 (.op 2 (.op 3 .done)))) (by rfl) ?_
      refine wpT_valp 16 (v := .pointer (some ⟨g, i * 67, none⟩)) rfl rfl rfl (by go_simp) ?_
      refine wpT_ldy 17 (.pointer (some ⟨g, i * 67, none⟩)) (.agg (ESL k s)) rfl rfl rfl (by go_simp) (HEL.out _ (hT1 _ _ M).end_) rfl ?_
      refine wpT_new (z := .agg (ZSL)) 5 M (by kernel_rfl) (by decide) rfl rfl rfl rfl (fun b1 w2 M3 => ?_)
      try dsimp only [Value.cells] at M3
      refine wpT_st0 M3 0 (ESL k s) inf_esl rfl rfl rfl rfl (by go_simp) (by go_simp) (by simp [ESL_size, EPS_size, ROR_size, hk]) (by simp [ESL_size, EPS_size, ROR_size, hk]) (by simp [go_sem]) rfl (fun w4 M5 => ?_)
      dsimp only [List.set] at M5
      dsimp only [wpT]
      try simp only [Act.put, List.setIfInBounds_toArray, List.set_cons_succ, List.set_cons_zero]
      go_upto_region 7 with fail
      refine wp_region_lin (.op 0 (.op 1 (.op 2 (.op 3 (.op 4 (.op 5 .done)))))) (by rfl) ?_
      refine wpT_valp 18 (v := u3) rfl rfl rfl (by go_simp) ?_
      refine wpT_valp 19 (v := .pointer (some ⟨b1, 0, none⟩)) rfl rfl rfl (by go_simp) ?_
      refine wpT_ldm 20 Tryd.underlying66 rfl inf_eps (b1) 0 (ESL k s) (EPS k s) rfl rfl rfl (by go_simp) (M5.row (b := b1) (c := ESL k s) (by simp)) (by simp [ESL_size, EPS_size, ROR_size, hk]) (esl_p0) rfl ?_
      refine wpT_one 21 _ M5 elt_eps (by decide) (EPS k s) EPS_size rfl rfl rfl (by go_simp) rfl (fun gx wx Mx => ?_)
      try simp only [Act.put, List.setIfInBounds_toArray, List.set_cons_succ, List.set_cons_zero]
      have hOx := HOM.out _ _ Mx
      have MZ := hT1 _ _ Mx
      refine wpT_gapp 22 _ _ (MZ.sub (H' := []) (by simp)) elt_eps u3 (.slice (some ⟨gx, 0, none⟩) 1 1) i 1 (fl (e66 k) (L.take i)) (e66 k s) rfl rfl rfl rfl (by go_simp) hOx (by go_simp) (sv_row (Mx.row (b := gx) (c := EPS k s) (by simp)) (by unfold maxLen; decide)) (e66_len k s) one_EPS (by omega) MZ.size (fun x hx => ⟨.inr (hOx.at_ x hx).1, fun p hp => by cases hp⟩) (fun uy wy Oy My _ _ => ?_)
      refine wpT_valp 3 (v := uy) rfl rfl rfl (by go_simp) ?_
      dsimp only [wpT]
      try simp only [Act.put, List.setIfInBounds_toArray, List.set_cons_succ, List.set_cons_zero]
      go_wp2_with fail
      rw [HTK.out] at Oy
      go_roundw
      case rel => exact ⟨i + 1, by omega, by simp, Oy, My⟩
      case measure => simp only [intOf]; omega
    · obtain rfl : n = i := by omega
      rw [List.take_of_length_le (by omega)] at OU
      go_upto_region 9 with fail
      refine wp_region_lin (.op 0 (.op 1 .done)) (by rfl) ?_
      refine wpT_valp 24 (v := u3) rfl rfl rfl (by go_simp) ?_
      refine wpT_valp 2 (v := u3) rfl rfl rfl (by go_simp) ?_
      dsimp only [wpT]
      try simp only [Act.put, List.setIfInBounds_toArray, List.set_cons_succ, List.set_cons_zero]
      go_wp2_with fail
      go_ret
      exact ⟨_, rfl, OU, M.end_⟩
end Go.Proofs.YtgclegdgngldoaaDoor
