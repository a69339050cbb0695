/-
  Package epoch: Secret, may, later, good, made; own work.
-/
import Derived.Test.YtgclegdgngldoaaDoorEp1
set_option linter.unusedSimpArgs false
set_option linter.unusedVariables false
namespace Go.Proofs.YtgclegdgngldoaaDoor
open Go.RowKit Fp
theorem inf_a8 : (Tryd.prog.info? 107).map (·.size) = some 8 := by kernel_rfl
section
variable (ρ : Operand → Value) (dst : Option Tmp) (ty : TypeId) (pos : String) (after : Array Edge) (guard : Option (Nat × Bool)) (w : World)
@[go_sem ↓] theorem rl_a8 (x : Operand) : (execOp ρ { dst, op := .load 107 x, type := ty, pos, after, guard }).run Tryd.prog w = exLoad Tryd.prog 107 (ρ x) w := x_load ..
@[go_sem ↓] theorem rs_a8 (x y : Operand) : (execOp ρ { dst, op := .store 107 x y, type := ty, pos, after, guard }).run Tryd.prog w = exStore Tryd.prog 107 (ρ x) (ρ y) w := x_store ..
@[go_sem ↓] theorem ra_a8 : (execOp ρ { dst, op := .alloc 107, type := ty, pos, after, guard }).run Tryd.prog w = .ok (.value (.pointer (some ⟨w.heap.size, 0, none⟩))) (w.alloc (.cells (cs U8 (zs 8)) 107)) :=
  (x_alloc ..).trans (x_alloc0 (v := .agg (cs U8 (zs 8))) _ (by kernel_rfl))
@[go_sem] theorem xl_a8 (b : Nat) (h : (w.rowOf b).size = 8) : exLoad Tryd.prog 107 (.pointer (some ⟨b, 0, none⟩)) w = .ok (.value (.agg (w.rowOf b))) w := x_load0 _ Tryd.underlying107 rfl inf_a8 b h
@[go_sem] theorem xlm_a8 (b o : Nat) (ho : 0 < o) (h : o + 8 ≤ (w.rowOf b).size) : exLoad Tryd.prog 107 (.pointer (some ⟨b, o, none⟩)) w = .ok (.value (.agg ((w.rowOf b).extract o (o + 8)))) w := x_loadm _ Tryd.underlying107 rfl inf_a8 b o h
@[go_sem] theorem xs_a8 (b : Nat) (c : Array Value) (hl : c.size = 8) (h1 : ones c = true) (h : (w.rowOf b).size = 8) (hf : w.free b = true) : exStore Tryd.prog 107 (.pointer (some ⟨b, 0, none⟩)) (.agg c) w = .ok .skip (w.setRow b c) :=
  x_store0 _ inf_a8 b c hl h hf (ones_all h1)
@[go_sem] theorem xsm_a8 (b o : Nat) (ho : 0 < o) (c : Array Value) (hl : c.size = 8) (h1 : ones c = true) (h : o + 8 ≤ (w.rowOf b).size) (hf : w.free b = true) : exStore Tryd.prog 107 (.pointer (some ⟨b, o, none⟩)) (.agg c) w = .ok .skip (w.setSeg b o c) :=
  x_storem _ inf_a8 b o c hl h hf (ones_all h1)
end
theorem cell_one {w : World} {b : Nat} {v : Value} (h : w.rowOf b = #[v]) : w.cell? ⟨b, 0, none⟩ = some v := by rw [cell_rowOf, h]; rfl
/-- the first i bytes of a number -/
def P8 (x : BitVec 64) (i : Nat) : L8 := (List.range 8).map fun j => if j < i then (x >>> (56 - 8 * j)).setWidth 8 else 0
theorem P8_len (x : BitVec 64) (i : Nat) : (P8 x i).length = 8 := by simp [P8]
theorem P8_set (x : BitVec 64) (i : Nat) (hi : i < 8) : (P8 x i).set i ((x >>> (56 - 8 * i)).setWidth 8) = P8 x (i + 1) := by
  apply List.ext_getElem?
  intro j
  rw [List.getElem?_set]
  by_cases e : i = j
  · subst e; simp [P8, hi]
  · rw [if_neg e]
    by_cases hj : j < 8
    · simp only [P8, List.getElem?_map, List.getElem?_range hj, Option.map_some]
      by_cases h1 : j < i
      · rw [if_pos h1, if_pos (by omega)]
      · rw [if_neg h1, if_neg (by omega)]
    · rw [List.getElem?_eq_none (by simp [P8]; omega), List.getElem?_eq_none (by simp [P8]; omega)]
theorem P8_zero (x : BitVec 64) : P8 x 0 = zs 8 := by simp [P8, zs, List.range_succ, List.replicate_succ]
theorem P8_all (x : BitVec 64) : P8 x 8 = Ep.be8 x := by simp [P8, Ep.be8, List.range_succ]
theorem mac_v {w0 w : World} {v0 v1 : Value} {k m D : L8} (hD : D = Sh.mac k m) (hT : KT w0 ∧ 0 < w0.heap.size) (hb : Below w0.heap.size w0 w) (h0 : BS w v0 k) (h1 : BS w v1 m) (hkl : k.length ≤ 1073741000) (hml : m.length ≤ 1073741000) :
    Calls Tryd.prog 64 #[v0, v1] w fun e w' => e = .returned (.agg (cs U8 D)) ∧ Below w.heap.size w w' := by
  rw [hD]; exact mac_any w v0 v1 k m (hT.1.below hb hT.2) (Nat.lt_of_lt_of_le hT.2 hb.size) h0 h1 hkl hml
attribute [local irreducible] P8 Sh.mac ESL EPS ROR
set_option maxRecDepth 100000 in
set_option maxHeartbeats 2000000 in
theorem secret_any (w : World) (hT : KT w ∧ 0 < w.heap.size) (k : L8) (g : Nat) (hk : k.length = 32) :
    Calls Tryd.prog 38 #[.agg (cs U8 k), .int .i64 g] w fun e w' => e = .returned (.agg (cs U8 (Ep.own k g))) ∧ Below w.heap.size w w' := by
  have HT := hid hT
  obtain ⟨D, hD0⟩ : ∃ D, D = Ep.own k g := ⟨_, rfl⟩
  have hD : D.length = 32 := by rw [hD0]; simp
  have HD : Hid (D = Sh.mac k (P8 (BitVec.ofNat 64 g) 8)) := hid (by rw [hD0, P8_all]; exact Ep.own_eq k g)
  have HC := hid (show Value.int .u64 (IntKind.u64.wrap (g : Int)) = U64 (BitVec.ofNat 64 g) by rw [u64_wrap]; simp)
  rw [← hD0]
  clear hT hD0
  have M0 := Mm.start no w
  go_enter Tryd.func38, Tryd.ntmps38
  have M2 := (((M0.alloc (cs U8 k) 23 (by decide)).alloc (cs U8 (zs 32)) 23 (by decide)).alloc (cs U8 (zs 8)) 107 (by decide))
  try simp only [World.size_alloc] at M2
  go_upto_region 3 with fail
  obtain ⟨w1, hw1⟩ : ∃ w1, w1 = (((w.alloc (.cells (cs U8 k) 23)).alloc (.cells (cs U8 (zs 32)) 23)).alloc (.cells (cs U8 (zs 8)) 107)) := ⟨_, rfl⟩
  rw [← hw1] at M2 ⊢
  clear hw1
  go_loopw [6, 7] (fun _ x wr => ∃ i : Nat, i ≤ 8 ∧ x = .int .i64 i ∧ Mm no w [(w.heap.size + 1 + 1, cs U8 (P8 (BitVec.ofNat 64 g) i)), (w.heap.size + 1, cs U8 (zs 32)), (w.heap.size, cs U8 k)] wr) (fun _ x _ => 8 - (intOf x).toNat)
  case atStart => exact ⟨0, by omega, rfl, by rw [P8_zero]; exact M2⟩
  case round =>
    clear M2 M0
    obtain ⟨i, hi, rfl, M⟩ := hrel
    by_cases hin : i < 8
    · have hlt : (i : Int) < 8 := by omega
      have hi0 : (0 : Int) ≤ (i : Int) := by omega
      obtain ⟨q, hq⟩ : ∃ q, q = 8 * i := ⟨_, rfl⟩
      obtain ⟨r, hr⟩ : ∃ r, r = 56 - 8 * i := ⟨_, rfl⟩
      obtain ⟨z, hz0⟩ : ∃ z, z = ((BitVec.ofNat 64 g) >>> (56 - 8 * i)).setWidth 8 := ⟨_, rfl⟩
      have HQ := hid (show IntKind.i64.wrap (8 * (i : Int)) = (q : Int) by rw [i64w _ (by omega) (by omega), hq]; omega)
      have HR := hid (show IntKind.i64.wrap (56 - (q : Int)) = (r : Int) by rw [i64w _ (by omega) (by omega), hr, hq]; omega)
      have HZ := hid (show ((BitVec.ofNat 64 g) >>> r).setWidth 8 = z by rw [hz0, hr])
      have HS := hid (show (P8 (BitVec.ofNat 64 g) i).set i z = P8 (BitVec.ofNat 64 g) (i + 1) by rw [hz0]; exact P8_set _ _ hin)
      have LEN := P8_len (BitVec.ofNat 64 g) i
      clear hz0 hr hq
      go_upto_region 4 with fail
      refine wp_region_lin (.op 0 (.op 1 .done)) (by rfl) ?_
      refine wpT_valp 9 (v := .int .i64 i) rfl rfl rfl (by go_simp) ?_
      refine wpT_valp 6 (v := .int .i64 i) rfl rfl rfl (by go_simp) ?_
      dsimp only [wpT]
      try simp only [Act.put, List.setIfInBounds_toArray, List.set_cons_succ, List.set_cons_zero]
      go_upto_region 5 with fail
      refine wp_region_lin (.op 0 (.op 1 (.op 2 (.op 3 (.op 4 (.op 5 (.op 6 (.op 7 (.op 8 (.op 9 .done)))))))))) (by rfl) ?_
      refine wpT_valp 10 (v := .int .i64 i) rfl rfl rfl (by go_simp) ?_
      refine wpT_valp 11 (v := .int .i64 g) rfl rfl rfl (by go_simp) ?_
      refine wpT_valp 12 (v := U64 (BitVec.ofNat 64 g)) rfl rfl rfl (by have h := HC.out; go_simp) ?_
      refine wpT_valp 13 (v := .int .i64 i) rfl rfl rfl (by go_simp) ?_
      try simp only [Act.put, List.setIfInBounds_toArray, List.set_cons_succ, List.set_cons_zero]
      refine wpT_valp 14 (v := .int .i64 q) rfl rfl rfl (by have h := HQ.out; go_simp) ?_
      refine wpT_valp 15 (v := .int .i64 r) rfl rfl rfl (by have h := HR.out; go_simp) ?_
      refine wpT_valp 16 (v := U64 (BitVec.ofNat 64 g >>> r)) rfl rfl rfl (by go_simp) ?_
      refine wpT_valp 17 (v := U8 z) rfl rfl rfl (by have h := HZ.out; go_simp) ?_
      refine wpT_valp 18 (v := .pointer (some ⟨w.heap.size + 1 + 1, i, none⟩)) rfl rfl rfl (by go_simp) ?_
      try simp only [Act.put, List.setIfInBounds_toArray, List.set_cons_succ, List.set_cons_zero]
      refine wpT_stc M 0 (U8 z) (cs U8 ((P8 (BitVec.ofNat 64 g) i).set i z)) inf_u8 rfl rfl rfl rfl (by go_simp) (by go_simp) (by have := (by simp [hk, P8_len]; omega : i < (P8 (BitVec.ofNat 64 g) i).length); first | (simp; done) | (simpa using this) | (simp; omega)) (by simp [go_sem]) (cs_set _ _) rfl (fun w1 M2 => ?_)
      dsimp only [List.set] at M2
      dsimp only [wpT]
      try simp only [Act.put, List.setIfInBounds_toArray, List.set_cons_succ, List.set_cons_zero]
      go_wp2_with fail
      rw [HS.out] at M2
      go_roundw
      case rel => exact ⟨i + 1, by omega, by simp, M2⟩
      case measure => simp only [intOf]; omega
    · obtain rfl : i = 8 := by omega
      go_upto_region 7 with fail
      refine wp_region_seq 3 [20, 21, 22] [] [] [] (.op 3 .done) (Mm no w _) (by kernel_rfl) (by kernel_rfl) (by kernel_rfl) (fun d _ _ _ _ h => by cases d <;> exact h) (by rfl) M.size (fun _ _ h k => h.sf k) M ?_
      simp only [List.take_succ_cons, List.take_zero]
      refine SeqA.pure (.slice (some ⟨w.heap.size, 0, none⟩) 32 32) (fun w' => by go_simp) rfl rfl ?_
      refine SeqA.pure (.slice (some ⟨w.heap.size + 1 + 1, 0, none⟩) 8 8) (fun w' => by go_simp) rfl rfl ?_
      refine SeqA.call _ _ _ (fun w' => by go_simp) (fun w' hI _ => mac_v HD.out HT.out hI.end_ (BS.row (hI.row (b := w.heap.size) (c := cs U8 k) (by simp)) hk (by unfold maxLen; decide)) (BS.row (hI.row (b := w.heap.size + 1 + 1) (c := cs U8 (P8 (BitVec.ofNat 64 g) 8)) (by simp)) (P8_len _ _) (by unfold maxLen; decide)) (by omega) (by rw [P8_len]; decide)) M.size rfl rfl ?_
      refine SeqA.nil (fun w1 M2 hz => ?_)
      show wpT _ _ _ _ _ _
      simp only [Act.put, List.setIfInBounds_toArray, List.set_cons_succ, List.set_cons_zero]
      refine wpT_st0 M2 1 (cs U8 D) inf_key rfl rfl rfl rfl (by go_simp) (by go_simp) (by simp [hk, P8_len, hD]) (by simp [hk, P8_len, hD]) (by simp [go_sem]) rfl (fun w3 M4 => ?_)
      dsimp only [List.set] at M4
      dsimp only [wpT]
      go_wp2_with fail
      have r5 := M4.row (b := w.heap.size + 1) (c := cs U8 D) (by simp)
      refine bodyPost_ret (res_row (b := w.heap.size + 1) rfl Tryd.underlying23 rfl inf_key _ _ rfl (by rw [r5]; simp [hk, P8_len, hD])) rfl ?_
      rw [r5]
      exact ⟨rfl, M4.end_⟩
theorem secret_c {w0 w : World} (hT : KT w0 ∧ 0 < w0.heap.size) (hb : Below w0.heap.size w0 w) (k : L8) (g : Nat) (hk : k.length = 32) :
    Calls Tryd.prog 38 #[.agg (cs U8 k), .int .i64 g] w fun e w' => e = .returned (.agg (cs U8 (Ep.own k g))) ∧ Below w.heap.size w w' :=
  secret_any w ⟨hT.1.below hb hT.2, Nat.lt_of_lt_of_le hT.2 hb.size⟩ k g hk
set_option maxRecDepth 100000 in
set_option maxHeartbeats 2000000 in
theorem may_c (w : World) (n : Int) : Calls Tryd.prog 39 #[.int .i64 n] w fun e w' => e = .returned (.bool (decide (0 ≤ n ∧ n ≤ 1099511627776))) ∧ Below w.heap.size w w' := by
  by_cases h0 : 0 ≤ n
  · by_cases h1 : n ≤ 1099511627776
    · rw [decide_eq_true (show 0 ≤ n ∧ n ≤ 1099511627776 from ⟨h0, h1⟩)]
      have M0 := Mm.start no w
      go_enter Tryd.func39, Tryd.ntmps39
      go_upto_region 1 with fail
      refine wp_region_lin (.op 0 (.op 1 (.op 2 (.op 3 (.op 4 (.op 5 (.op 6 .done))))))) (by rfl) ?_
      refine wpT_valp 3 (v := .int .i64 n) rfl rfl rfl (by go_simp) ?_
      refine wpT_valp 4 (v := .bool true) rfl rfl rfl (by go_simp) ?_
      refine wpT_valp 5 (v := .bool true) rfl rfl rfl (by go_simp) ?_
      refine wpT_valp 6 (v := .int .i64 n) rfl rfl (by simp [Region.wanted, yielded, Act.put]) (by go_simp) ?_
      try simp only [Act.put, List.setIfInBounds_toArray, List.set_cons_succ, List.set_cons_zero]
      refine wpT_valp 7 (v := .bool true) rfl rfl (by simp [Region.wanted, yielded, Act.put]) (by go_simp) ?_
      refine wpT_valp 8 (v := .bool true) rfl rfl rfl (by go_simp) ?_
      refine wpT_valp 2 (v := .bool true) rfl rfl rfl (by go_simp) ?_
      dsimp only [wpT]
      try simp only [Act.put, List.setIfInBounds_toArray, List.set_cons_succ, List.set_cons_zero]
      go_wp2_with fail
      go_ret
      exact ⟨rfl, M0.end_⟩
    · rw [decide_eq_false (show ¬ (0 ≤ n ∧ n ≤ 1099511627776) from fun h => h1 h.2)]
      have M0 := Mm.start no w
      go_enter Tryd.func39, Tryd.ntmps39
      go_upto_region 1 with fail
      refine wp_region_lin (.op 0 (.op 1 (.op 2 (.op 3 (.op 4 (.op 5 (.op 6 .done))))))) (by rfl) ?_
      refine wpT_valp 3 (v := .int .i64 n) rfl rfl rfl (by go_simp) ?_
      refine wpT_valp 4 (v := .bool true) rfl rfl rfl (by go_simp) ?_
      refine wpT_valp 5 (v := .bool true) rfl rfl rfl (by go_simp) ?_
      refine wpT_valp 6 (v := .int .i64 n) rfl rfl (by simp [Region.wanted, yielded, Act.put]) (by go_simp) ?_
      try simp only [Act.put, List.setIfInBounds_toArray, List.set_cons_succ, List.set_cons_zero]
      refine wpT_valp 7 (v := .bool false) rfl rfl (by simp [Region.wanted, yielded, Act.put]) (by go_simp) ?_
      refine wpT_valp 8 (v := .bool false) rfl rfl rfl (by go_simp) ?_
      refine wpT_valp 2 (v := .bool false) rfl rfl rfl (by go_simp) ?_
      dsimp only [wpT]
      try simp only [Act.put, List.setIfInBounds_toArray, List.set_cons_succ, List.set_cons_zero]
      go_wp2_with fail
      go_ret
      exact ⟨rfl, M0.end_⟩
  · rw [decide_eq_false (show ¬ (0 ≤ n ∧ n ≤ 1099511627776) from fun h => h0 h.1)]
    have M0 := Mm.start no w
    go_enter Tryd.func39, Tryd.ntmps39
    go_upto_region 1 with fail
    refine wp_region_lin (.op 0 (.op 1 (.op 2 (.op 3 (.op 4 (.op 5 (.op 6 .done))))))) (by rfl) ?_
    refine wpT_valp 3 (v := .int .i64 n) rfl rfl rfl (by go_simp) ?_
    refine wpT_valp 4 (v := .bool false) rfl rfl rfl (by go_simp) ?_
    refine wpT_valp 5 (v := .bool false) rfl rfl rfl (by go_simp) ?_
    refine wpT_unx 6 rfl rfl (by simp [Region.wanted, yielded, Act.put]) ?_
    try simp only [Act.put, List.setIfInBounds_toArray, List.set_cons_succ, List.set_cons_zero]
    refine wpT_unx 7 rfl rfl (by simp [Region.wanted, yielded, Act.put]) ?_
    refine wpT_valp 8 (v := .bool false) rfl rfl rfl (by go_simp) ?_
    refine wpT_valp 2 (v := .bool false) rfl rfl rfl (by go_simp) ?_
    dsimp only [wpT]
    try simp only [Act.put, List.setIfInBounds_toArray, List.set_cons_succ, List.set_cons_zero]
    go_wp2_with fail
    go_ret
    exact ⟨rfl, M0.end_⟩
set_option maxRecDepth 100000 in
set_option maxHeartbeats 2000000 in
theorem later_c (w : World) (b : Nat) (k : L8) (v : Value) (t n : Int) (hk : k.length = 32) (hR : w.rowOf b = ROR k v t) (hb : b < w.heap.size) :
    Calls Tryd.prog 43 #[.pointer (some ⟨b, 0, none⟩), .int .i64 n] w fun e w' => e = .returned (.bool (decide (t ≤ n ∧ 0 ≤ n ∧ n ≤ 1099511627776))) ∧ Below w.heap.size w w' := by
  have HROW : Hid (∀ w', Below w.heap.size w w' → w'.rowOf b = ROR k v t) := hid fun w' h => (below_row h hb).trans hR
  by_cases h0 : t ≤ n
  · rw [show decide (t ≤ n ∧ 0 ≤ n ∧ n ≤ 1099511627776) = decide (0 ≤ n ∧ n ≤ 1099511627776) by simp [h0]]
    clear hR
    have M0 := Mm.start no w
    go_enter Tryd.func43, Tryd.ntmps43
    go_upto_region 1 with fail
    refine wp_region_lin (.op 0 (.op 1 (.op 2 (.op 3 (.op 4 (.op 5 (.op 6 (.op 7 (.op 8 (.op 9 (.op 10 .done))))))))))) (by rfl) ?_
    refine wpT_valp 5 (v := .int .i64 n) rfl rfl rfl (by go_simp) ?_
    refine wpT_valp 6 (v := .pointer (some ⟨b, 0, none⟩)) rfl rfl rfl (by go_simp) ?_
    refine wpT_valp 7 (v := .pointer (some ⟨b, 0, none⟩)) rfl rfl rfl (by go_simp) ?_
    refine wpT_valp 8 (v := .pointer (some ⟨b, 33, none⟩)) rfl rfl rfl (by go_simp) ?_
    try simp only [Act.put, List.setIfInBounds_toArray, List.set_cons_succ, List.set_cons_zero]
    refine wpT_valp 9 (v := .int .i64 t) rfl rfl rfl (by have c0 := (ror_c33 hk) (HROW.out _ M0.end_); go_simp) ?_
    refine wpT_valp 10 (v := .bool true) rfl rfl rfl (by go_simp) ?_
    refine wpT_valp 11 (v := .bool true) rfl rfl rfl (by go_simp) ?_
    refine wpT_valp 12 (v := .int .i64 n) rfl rfl (by simp [Region.wanted, yielded, Act.put]) (by go_simp) ?_
    refine wpT_callv 13 M0 (v := .bool (decide (0 ≤ n ∧ n ≤ 1099511627776))) rfl rfl (by simp [Region.wanted, yielded, Act.put]) (by go_simp) (may_c w n) (fun w1 M2 => ?_)
    try simp only [Act.put, List.setIfInBounds_toArray, List.set_cons_succ, List.set_cons_zero]
    refine wpT_valp 14 (v := .bool (decide (0 ≤ n ∧ n ≤ 1099511627776))) rfl rfl rfl (by go_simp) ?_
    refine wpT_valp 4 (v := .bool (decide (0 ≤ n ∧ n ≤ 1099511627776))) rfl rfl rfl (by go_simp) ?_
    dsimp only [wpT]
    try simp only [Act.put, List.setIfInBounds_toArray, List.set_cons_succ, List.set_cons_zero]
    go_wp2_with fail
    go_ret
    exact ⟨rfl, M2.end_⟩
  · rw [decide_eq_false (show ¬ (t ≤ n ∧ 0 ≤ n ∧ n ≤ 1099511627776) from fun h => h0 h.1)]
    clear hR
    have M0 := Mm.start no w
    go_enter Tryd.func43, Tryd.ntmps43
    go_upto_region 1 with fail
    refine wp_region_lin (.op 0 (.op 1 (.op 2 (.op 3 (.op 4 (.op 5 (.op 6 (.op 7 (.op 8 (.op 9 (.op 10 .done))))))))))) (by rfl) ?_
    refine wpT_valp 5 (v := .int .i64 n) rfl rfl rfl (by go_simp) ?_
    refine wpT_valp 6 (v := .pointer (some ⟨b, 0, none⟩)) rfl rfl rfl (by go_simp) ?_
    refine wpT_valp 7 (v := .pointer (some ⟨b, 0, none⟩)) rfl rfl rfl (by go_simp) ?_
    refine wpT_valp 8 (v := .pointer (some ⟨b, 33, none⟩)) rfl rfl rfl (by go_simp) ?_
    try simp only [Act.put, List.setIfInBounds_toArray, List.set_cons_succ, List.set_cons_zero]
    refine wpT_valp 9 (v := .int .i64 t) rfl rfl rfl (by have c0 := (ror_c33 hk) (HROW.out _ M0.end_); go_simp) ?_
    refine wpT_valp 10 (v := .bool false) rfl rfl rfl (by go_simp) ?_
    refine wpT_valp 11 (v := .bool false) rfl rfl rfl (by go_simp) ?_
    refine wpT_unx 12 rfl rfl (by simp [Region.wanted, yielded, Act.put]) ?_
    refine wpT_unx 13 rfl rfl (by simp [Region.wanted, yielded, Act.put]) ?_
    try simp only [Act.put, List.setIfInBounds_toArray, List.set_cons_succ, List.set_cons_zero]
    refine wpT_valp 14 (v := .bool false) rfl rfl rfl (by go_simp) ?_
    refine wpT_valp 4 (v := .bool false) rfl rfl rfl (by go_simp) ?_
    dsimp only [wpT]
    try simp only [Act.put, List.setIfInBounds_toArray, List.set_cons_succ, List.set_cons_zero]
    go_wp2_with fail
    go_ret
    exact ⟨rfl, M0.end_⟩
set_option maxRecDepth 100000 in
set_option maxHeartbeats 2000000 in
theorem good_c (w : World) (b : Nat) (k : L8) (va : Option Addr) (n cap : Nat) (t : Int) (hk : k.length = 32) (hR : w.rowOf b = ROR k (.slice va n cap) t) (hb : b < w.heap.size) :
    Calls Tryd.prog 42 #[.pointer (some ⟨b, 0, none⟩)] w fun e w' => e = .returned (.bool (decide (0 < n))) ∧ Below w.heap.size w w' := by
  have HROW : Hid (∀ w', Below w.heap.size w w' → w'.rowOf b = ROR k (.slice va n cap) t) := hid fun w' h => (below_row h hb).trans hR
  clear hR
  have M0 := Mm.start no w
  go_enter Tryd.func42, Tryd.ntmps42
  go_upto_region 1 with fail
  refine wp_region_lin (.op 0 (.op 1 (.op 2 (.op 3 (.op 4 (.op 5 (.op 6 (.op 7 (.op 8 (.op 9 (.op 10 .done))))))))))) (by rfl) ?_
  refine wpT_valp 3 (v := .pointer (some ⟨b, 0, none⟩)) rfl rfl rfl (by go_simp) ?_
  refine wpT_valp 4 (v := .bool true) rfl rfl rfl (by go_simp) ?_
  refine wpT_valp 5 (v := .bool true) rfl rfl rfl (by go_simp) ?_
  refine wpT_valp 6 (v := .pointer (some ⟨b, 0, none⟩)) rfl rfl (by simp [Region.wanted, yielded, Act.put]) (by go_simp) ?_
  try simp only [Act.put, List.setIfInBounds_toArray, List.set_cons_succ, List.set_cons_zero]
  refine wpT_valp 7 (v := .pointer (some ⟨b, 0, none⟩)) rfl rfl (by simp [Region.wanted, yielded, Act.put]) (by go_simp) ?_
  refine wpT_valp 8 (v := .pointer (some ⟨b, 32, none⟩)) rfl rfl (by simp [Region.wanted, yielded, Act.put]) (by go_simp) ?_
  refine wpT_valp 9 (v := .slice va n cap) rfl rfl (by simp [Region.wanted, yielded, Act.put]) (by have c0 := (ror_c32 hk) (HROW.out _ M0.end_); go_simp) ?_
  refine wpT_valp 10 (v := .int .i64 n) rfl rfl (by simp [Region.wanted, yielded, Act.put]) (by go_simp) ?_
  refine wpT_valp 11 (v := .bool (decide (0 < n))) rfl rfl (by simp [Region.wanted, yielded, Act.put]) (by go_simp) ?_
  try simp only [Act.put, List.setIfInBounds_toArray, List.set_cons_succ, List.set_cons_zero]
  refine wpT_valp 12 (v := .bool (decide (0 < n))) rfl rfl rfl (by go_simp) ?_
  refine wpT_valp 2 (v := .bool (decide (0 < n))) rfl rfl rfl (by go_simp) ?_
  dsimp only [wpT]
  try simp only [Act.put, List.setIfInBounds_toArray, List.set_cons_succ, List.set_cons_zero]
  go_wp2_with fail
  go_ret
  exact ⟨rfl, M0.end_⟩
set_option maxRecDepth 100000 in
set_option maxHeartbeats 2000000 in
theorem made_c (w : World) (hT : KT w ∧ 0 < w.heap.size) (b : Nat) (k : L8) (v : Value) (t : Int) (s : Ep.Sl) (hk : k.length = 32) (hm : s.made ≤ 1099511627776) (hR : w.rowOf b = ROR k v t) (hb : b < w.heap.size) :
    Calls Tryd.prog 40 #[.pointer (some ⟨b, 0, none⟩), .int .i64 s.gen, .int .i64 s.made] w fun e w' => e = .returned (.agg (ESL k s)) ∧ Below w.heap.size w w' := by
  have HT := hid hT
  have HROW : Hid (∀ w', Below w.heap.size w w' → w'.rowOf b = ROR k v t) := hid fun w' h => (below_row h hb).trans hR
  obtain ⟨q1, h1⟩ : ∃ q, q = s.made / 1024 := ⟨_, rfl⟩
  obtain ⟨q2, h2⟩ : ∃ q, q = q1 + 1 := ⟨_, rfl⟩
  obtain ⟨q3, h3⟩ : ∃ q, q = q2 * 1024 := ⟨_, rfl⟩
  have hf : Ep.fin s.made = q3 + 512 := by rw [h3, h2, h1]; rfl
  have HQ1 := hid (show IntKind.i64.wrap ((s.made : Int) / 1024) = (q1 : Int) by rw [i64w _ (by omega) (by omega), h1]; rfl)
  have HQ2 := hid (show IntKind.i64.wrap ((q1 : Int) + 1) = (q2 : Int) by rw [i64w _ (by omega) (by omega), h2]; rfl)
  have HQ3 := hid (show IntKind.i64.wrap ((q2 : Int) * 1024) = (q3 : Int) by rw [i64w _ (by omega) (by omega), h3]; rfl)
  have HQ4 := hid (show IntKind.i64.wrap ((q3 : Int) + 512) = ((Ep.fin s.made : Nat) : Int) by rw [i64w _ (by omega) (by omega), hf]; rfl)
  clear hT hR h1 h2 h3 hf
  have M0 := Mm.start no w
  go_enter Tryd.func40, Tryd.ntmps40
  have M2 := (M0.alloc (ZSL) 83 (by decide))
  try simp only [World.size_alloc] at M2
  go_upto_region 1 with fail
  obtain ⟨w1, hw1⟩ : ∃ w1, w1 = (w.alloc (.cells (ZSL) 83)) := ⟨_, rfl⟩
  rw [← hw1] at M2 ⊢
  clear hw1
  refine wp_region_lin (.op 0 (.op 1 (.op 2 (.op 3 (.op 4 (.op 5 (.op 6 (.op 7 .done)))))))) (by rfl) ?_
  refine wpT_valp 8 (v := .pointer (some ⟨b, 0, none⟩)) rfl rfl rfl (by go_simp) ?_
  refine wpT_valp 9 (v := .pointer (some ⟨b, 0, none⟩)) rfl rfl rfl (by go_simp) ?_
  refine wpT_valp 10 (v := .pointer (some ⟨b, 0, none⟩)) rfl rfl rfl (by go_simp) ?_
  refine wpT_ldm 11 Tryd.underlying23 rfl inf_key (b) 0 (ROR k v t) (cs U8 k) rfl rfl rfl (by go_simp) (HROW.out _ M2.end_) (by simp [ROR_size, hk]) (ror_p0 hk) rfl ?_
  try simp only [Act.put, List.setIfInBounds_toArray, List.set_cons_succ, List.set_cons_zero]
  refine wpT_valp 12 (v := .int .i64 s.gen) rfl rfl rfl (by go_simp) ?_
  refine wpT_callv 13 M2 (v := .agg (cs U8 (Ep.own k s.gen))) rfl rfl rfl (by go_simp) (secret_c HT.out M2.end_ k s.gen hk) (fun w3 M4 => ?_)
  refine wpT_new (z := .agg (cs U8 (zs 32))) 7 M4 (by kernel_rfl) (by decide) rfl rfl rfl rfl (fun b5 w6 M7 => ?_)
  try dsimp only [Value.cells] at M7
  refine wpT_st0 M7 0 (cs U8 (Ep.own k s.gen)) inf_key rfl rfl rfl rfl (by go_simp) (by go_simp) (by simp [ROR_size, hk]) (by simp [ROR_size, hk]) (by simp [go_sem]) rfl (fun w8 M9 => ?_)
  dsimp only [List.set] at M9
  dsimp only [wpT]
  try simp only [Act.put, List.setIfInBounds_toArray, List.set_cons_succ, List.set_cons_zero]
  go_upto_region 2 with fail
  refine wp_region_seq 12 [14, 15, 16, 17, 18, 19, 20, 21, 22, 23, 24, 25] [] [] [] (.op 12 .done) (Mm no w _) (by kernel_rfl) (by kernel_rfl) (by kernel_rfl) (fun d _ _ _ _ h => by cases d <;> exact h) (by rfl) M9.size (fun _ _ h k => h.sf k) M9 ?_
  simp only [List.take_succ_cons, List.take_zero]
  refine SeqA.pure (.int .i64 s.gen) (fun w' => by go_simp) rfl rfl ?_
  refine SeqA.pure (.int .i64 s.made) (fun w' => by go_simp) rfl rfl ?_
  refine SeqA.pure (.int .i64 q1) (fun w' => by have h := HQ1.out; go_simp) rfl rfl ?_
  refine SeqA.pure (.int .i64 q2) (fun w' => by have h := HQ2.out; go_simp) rfl rfl ?_
  refine SeqA.pure (.int .i64 q3) (fun w' => by have h := HQ3.out; go_simp) rfl rfl ?_
  simp only [Act.put, List.setIfInBounds_toArray, List.set_cons_succ, List.set_cons_zero]
  refine SeqA.pure (.int .i64 (Ep.fin s.made)) (fun w' => by have h := HQ4.out; go_simp) rfl rfl ?_
  refine SeqA.ld0 Tryd.underlying23 rfl inf_key (b5) (cs U8 (Ep.own k s.gen)) rfl (by go_simp) (fun _ M => M.row (b := b5) (c := cs U8 (Ep.own k s.gen)) (by simp)) (by simp [ROR_size, hk]) rfl ?_
  refine SeqA.ld0 Tryd.underlying23 rfl inf_key (b5) (cs U8 (Ep.own k s.gen)) rfl (by go_simp) (fun _ M => M.row (b := b5) (c := cs U8 (Ep.own k s.gen)) (by simp)) (by simp [ROR_size, hk]) rfl ?_
  refine SeqA.call _ _ _ (fun w' => by go_simp) (fun w' hI _ => pub_v w' (Ep.own k s.gen) (Ep.pub k s.gen) (by simp) (Ep.pub_eq _ _)) M9.size rfl rfl ?_
  refine SeqA.pure (.agg (EPS k s)) (fun w' => by have q := xb_eps4 w' k s; go_simp) rfl rfl ?_
  refine SeqA.pure (.int .i64 s.made) (fun w' => by go_simp) rfl rfl ?_
  simp only [Act.put, List.setIfInBounds_toArray, List.set_cons_succ, List.set_cons_zero]
  refine SeqA.pure (.agg (ESL k s)) (fun w' => by have q := xb_esl2 w' k s; go_simp) rfl rfl ?_
  refine SeqA.nil (fun w10 M11 hz => ?_)
  show wpT _ _ _ _ _ _
  simp only [Act.put, List.setIfInBounds_toArray, List.set_cons_succ, List.set_cons_zero]
  refine wpT_st0 M11 1 (ESL k s) inf_esl rfl rfl rfl rfl (by go_simp) (by go_simp) (by simp [ROR_size, hk]) (by simp [ROR_size, hk]) (by simp [go_sem]) rfl (fun w12 M13 => ?_)
  dsimp only [List.set] at M13
  dsimp only [wpT]
  go_wp2_with fail
  have r14 := M13.row (b := w.heap.size) (c := ESL k s) (by simp)
  refine bodyPost_ret (res_row (b := w.heap.size) rfl Tryd.underlying83 rfl inf_esl _ _ rfl (by rw [r14]; simp [ROR_size, hk])) rfl ?_
  rw [r14]
  exact ⟨rfl, M13.end_⟩
end Go.Proofs.YtgclegdgngldoaaDoor
