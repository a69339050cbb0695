/-
  Walks of package chain; own work.
  Walks of reference 17; own work.
  Walk of package chain: Upto, New; own work.
-/
import Derived.Test.YtocledgjejlolaaDoorChnA
import Derived.Test.YtocledgjejlolaaDoorKsl
import Derived.Test.YtocledgjejlolaaDoorLin
set_option linter.unusedSimpArgs false
set_option linter.unusedVariables false
namespace Go.Proofs.YtocledgjejlolaaDoor
open Go.RowKit
theorem inf_chn : (Tryd.prog.info? 84).map (·.size) = some 34 := by kernel_rfl
section
variable (ρ : Operand → Value) (dst : Option Tmp) (ty : TypeId) (pos : String) (after : Array Edge) (guard : Option (Nat × Bool)) (w : World)
@[go_sem ↓] theorem rl_chn (x : Operand) : (execOp ρ { dst, op := .load 84 x, type := ty, pos, after, guard }).run Tryd.prog w = exLoad Tryd.prog 84 (ρ x) w := x_load ..
@[go_sem ↓] theorem rs_chn (x y : Operand) : (execOp ρ { dst, op := .store 84 x y, type := ty, pos, after, guard }).run Tryd.prog w = exStore Tryd.prog 84 (ρ x) (ρ y) w := x_store ..
@[go_sem ↓] theorem ra_chn : (execOp ρ { dst, op := .alloc 84, type := ty, pos, after, guard }).run Tryd.prog w = .ok (.value (.pointer (some ⟨w.heap.size, 0, none⟩))) (w.alloc (.cells (#[.bool false] ++ cs U8 (zs 32) ++ #[.int .i64 0]) 84)) :=
  (x_alloc ..).trans (x_alloc0 (v := .agg (#[.bool false] ++ cs U8 (zs 32) ++ #[.int .i64 0])) _ (by kernel_rfl))
@[go_sem] theorem xl_chn (b : Nat) (h : (w.rowOf b).size = 34) : exLoad Tryd.prog 84 (.pointer (some ⟨b, 0, none⟩)) w = .ok (.value (.agg (w.rowOf b))) w := x_load0 _ Tryd.underlying84 rfl inf_chn b h
@[go_sem] theorem xlm_chn (b o : Nat) (ho : 0 < o) (h : o + 34 ≤ (w.rowOf b).size) : exLoad Tryd.prog 84 (.pointer (some ⟨b, o, none⟩)) w = .ok (.value (.agg ((w.rowOf b).extract o (o + 34)))) w := x_loadm _ Tryd.underlying84 rfl inf_chn b o h
@[go_sem] theorem xs_chn (b : Nat) (c : Array Value) (hl : c.size = 34) (h1 : ones c = true) (h : (w.rowOf b).size = 34) (hf : w.free b = true) : exStore Tryd.prog 84 (.pointer (some ⟨b, 0, none⟩)) (.agg c) w = .ok .skip (w.setRow b c) :=
  x_store0 _ inf_chn b c hl h hf (ones_all h1)
@[go_sem] theorem xsm_chn (b o : Nat) (ho : 0 < o) (c : Array Value) (hl : c.size = 34) (h1 : ones c = true) (h : o + 34 ≤ (w.rowOf b).size) (hf : w.free b = true) : exStore Tryd.prog 84 (.pointer (some ⟨b, o, none⟩)) (.agg c) w = .ok .skip (w.setSeg b o c) :=
  x_storem _ inf_chn b o c hl h hf (ones_all h1)
end
/-- at a step: a store, and a variable made -/
theorem wps_chn {a : Act} {w : World} {K : Act → World → Prop} {Q : Exit → Act → World → Prop} {o : Oper} (p x : Operand) (ho : o.op = .store 84 p x) (b : Nat) (c : Array Value) (hp : a.eval p = .pointer (some ⟨b, 0, none⟩)) (hx : a.eval x = .agg c)
    (hl : c.size = 34) (h1 : ones c = true) (h : (w.rowOf b).size = 34) (hf : w.free b = true) (hK : K (a.put o.dst undef) (w.setRow b c)) : o.wp Tryd.prog a w K Q := by
  obtain ⟨dst, op, ty, pos, after, guard⟩ := o
  subst ho
  unfold Oper.wp
  rw [rs_chn, hp, hx, xs_chn _ _ _ hl h1 h hf]
  simp only [Oper.upon]
  exact hK
theorem wpa_chn {a : Act} {w : World} {K : Act → World → Prop} {Q : Exit → Act → World → Prop} {o : Oper} (ho : o.op = .alloc 84)
    (hK : K (a.put o.dst (.pointer (some ⟨w.heap.size, 0, none⟩))) (w.alloc (.cells (#[.bool false] ++ cs U8 (zs 32) ++ #[.int .i64 0]) 84))) : o.wp Tryd.prog a w K Q := by
  obtain ⟨dst, op, ty, pos, after, guard⟩ := o
  subst ho
  unfold Oper.wp
  rw [ra_chn]
  simp only [Oper.upon]
  exact hK

theorem inf_bool : (Tryd.prog.info? 4).map (·.size) = some 1 := by kernel_rfl
section
variable (ρ : Operand → Value) (dst : Option Tmp) (ty : TypeId) (pos : String) (after : Array Edge) (guard : Option (Nat × Bool)) (w : World)
@[go_sem ↓] theorem rs_bool (x y : Operand) : (execOp ρ { dst, op := .store 4 x y, type := ty, pos, after, guard }).run Tryd.prog w = exStore Tryd.prog 4 (ρ x) (ρ y) w := x_store ..
@[go_sem] theorem xs_bool (b o : Nat) (v : Value) (hv : ones1 v = true) (ho : o < (w.rowOf b).size) (hf : w.free b = true) : exStore Tryd.prog 4 (.pointer (some ⟨b, o, none⟩)) v w = .ok .skip (w.setRow b ((w.rowOf b).setIfInBounds o v)) :=
  x_storec inf_bool w b o v hv ho hf
end

attribute [simp] cr_size nx_len ms_len
attribute [go_sem] cr_ones
attribute [local irreducible] CR Sh.nx Sh.ms
theorem i64n (n : Int) (h1 : -9223372036854775808 ≤ n) (h2 : n < 9223372036854775808) : IntKind.i64.wrap n = n := by rw [IntKind.wrap_i64]; omega
theorem eqL (w : World) (l : List (BitVec 8)) (h : l.length = 32) : (Op.equalIn 10000 25 (.agg (cs U8 l)) (.agg (cs U8 l))).run Tryd.prog w = .ok true w := by
  rw [eqin_key w l l h h, beq_self_eq_true]
theorem kt_mm {S : Nat → Prop} {w w' : World} {H : List (Nat × Array Value)} (hT : KT w) (hk0 : 0 < w.heap.size) (hn : ¬ S 0) (M : Mm S w H w') : KT w' ∧ 0 < w'.heap.size :=
  ⟨hT.fr hk0 M.fr hn, Nat.lt_of_lt_of_le hk0 M.size⟩
theorem good_v (w : World) (b : Nat) {x : Bool} (h : w.cell? ⟨b, 0, none⟩ = some (.bool x)) :
    Calls Tryd.prog 58 #[.pointer (some ⟨b, 0, none⟩)] w fun e w' => e = .returned (.bool x) ∧ Below w.heap.size w w' :=
  (good_chain w b x h).mono fun e w' ⟨h1, h2⟩ => ⟨h1, by rw [← h2]; exact Below.refl _ _⟩
set_option maxRecDepth 100000 in
set_option maxHeartbeats 2000000 in
theorem cstep_m (w : World) (b : Nat) (l : List (BitVec 8)) (n : Int) (hT : KT w) (hk0 : 0 < w.heap.size) (hkb : 0 ≠ b) (M : Mm (fun g => g = b) w [(b, CR l n)] w) (h0 : 0 ≤ n) (hn : n ≤ 100000) (hl : l.length = 32) :
    Calls Tryd.prog 59 #[.pointer (some ⟨b, 0, none⟩)] w fun e w' => e = .returned (.agg (cs U8 (Sh.ms l))) ∧ Mm (fun g => g = b) w [(b, CR (Sh.nx l) (n + 1))] w' := by
  have HK := hid (fun H w' (M : Mm (fun g => g = b) w H w') => kt_mm hT hk0 hkb M)
  clear hT hk0
  go_enter Tryd.func59, Tryd.ntmps59
  have M2 := (M.alloc (cs U8 (zs 32)) 25 (by decide))
  try simp only [World.size_alloc] at M2
  go_upto_region 1 with fail
  obtain ⟨w1, hw1⟩ : ∃ w1, w1 = (w.alloc (.cells (cs U8 (zs 32)) 25)) := ⟨_, rfl⟩
  rw [← hw1] at M2 ⊢
  clear hw1
  refine wp_region_lin (.op 0 (.op 1 (.op 2 (.op 3 (.op 4 (.op 5 (.op 6 (.op 7 (.op 8 (.op 9 (.op 10 (.op 11 .done)))))))))))) (by rfl) ?_
  refine wpT_valp 6 (v := .pointer (some ⟨b, 0, none⟩)) rfl rfl rfl (by go_simp) ?_
  refine wpT_valp 7 (v := .pointer (some ⟨b, 0, none⟩)) rfl rfl rfl (by go_simp) ?_
  refine wpT_valp 8 (v := .pointer (some ⟨b, 1, none⟩)) rfl rfl rfl (by go_simp) ?_
  refine wpT_ldm 9 Tryd.underlying25 rfl inf_key (b) 1 (CR l n) (cs U8 l) rfl rfl rfl (by go_simp) (M2.row (by simp)) (by simp [hl]) (cr_key (by simp [hl])) rfl ?_
  try simp only [Act.put, List.setIfInBounds_toArray, List.set_cons_succ, List.set_cons_zero]
  refine wpT_callv 10 M2 (v := .tuple #[.agg (cs U8 (Sh.nx l)), .agg (cs U8 (Sh.ms l))]) rfl rfl rfl (by go_simp) (step_any w1 l (HK.out _ _ M2).1 (HK.out _ _ M2).2 (by simp [hl])) (fun w3 M4 => ?_)
  refine wpT_valp 5 (v := .tuple #[.agg (cs U8 (Sh.nx l)), .agg (cs U8 (Sh.ms l))]) rfl rfl rfl (by go_simp) ?_
  refine wpT_valp 11 (v := .agg (cs U8 (Sh.nx l))) rfl rfl rfl (by go_simp) ?_
  refine wpT_valp 12 (v := .agg (cs U8 (Sh.ms l))) rfl rfl rfl (by go_simp) ?_
  refine wpT_new (z := .agg (cs U8 (zs 32))) 3 M4 (by kernel_rfl) (by decide) rfl rfl rfl rfl (fun b5 w6 M7 => ?_)
  try dsimp only [Value.cells] at M7
  try simp only [Act.put, List.setIfInBounds_toArray, List.set_cons_succ, List.set_cons_zero]
  refine wpT_new (z := .agg (cs U8 (zs 32))) 4 M7 (by kernel_rfl) (by decide) rfl rfl rfl rfl (fun b8 w9 M10 => ?_)
  try dsimp only [Value.cells] at M10
  refine wpT_st0 M10 1 (cs U8 (Sh.nx l)) inf_key rfl rfl rfl rfl (by go_simp) (by go_simp) (by simp [hl]) (by simp [hl]) (by simp [go_sem]) rfl (fun w11 M12 => ?_)
  dsimp only [List.set] at M12
  refine wpT_st0 M12 0 (cs U8 (Sh.ms l)) inf_key rfl rfl rfl rfl (by go_simp) (by go_simp) (by simp [hl]) (by simp [hl]) (by simp [go_sem]) rfl (fun w13 M14 => ?_)
  dsimp only [List.set] at M14
  dsimp only [wpT]
  try simp only [Act.put, List.setIfInBounds_toArray, List.set_cons_succ, List.set_cons_zero]
  go_upto_region 2 with fail
  refine wp_region_lin (.op 0 (.op 1 (.op 2 (.op 3 (.op 4 .done))))) (by rfl) ?_
  refine wpT_valp 13 (v := .pointer (some ⟨b, 0, none⟩)) rfl rfl rfl (by go_simp) ?_
  refine wpT_ld0 14 Tryd.underlying25 rfl inf_key (b5) (cs U8 (Sh.nx l)) rfl rfl rfl (by go_simp) (M14.row (by simp)) (by simp [hl]) rfl ?_
  refine wpT_valp 15 (v := .pointer (some ⟨b, 0, none⟩)) rfl rfl rfl (by go_simp) ?_
  refine wpT_valp 16 (v := .pointer (some ⟨b, 1, none⟩)) rfl rfl rfl (by go_simp) ?_
  try simp only [Act.put, List.setIfInBounds_toArray, List.set_cons_succ, List.set_cons_zero]
  refine wpT_stm (off := 1) M14 3 (cs U8 (Sh.nx l)) (CR (Sh.nx l) n) inf_key rfl rfl rfl rfl (by go_simp) (by go_simp) (by simp [hl]) (by simp [hl]) (by simp [go_sem]) (cr_setKey (by simp [hl]) (by simp [hl])) rfl (fun w15 M16 => ?_)
  dsimp only [List.set] at M16
  dsimp only [wpT]
  try simp only [Act.put, List.setIfInBounds_toArray, List.set_cons_succ, List.set_cons_zero]
  go_upto_region 3 with fail
  refine wp_region_lin (.op 0 (.op 1 (.op 2 (.op 3 (.op 4 (.op 5 (.op 6 (.op 7 .done)))))))) (by rfl) ?_
  refine wpT_valp 17 (v := .pointer (some ⟨b, 0, none⟩)) rfl rfl rfl (by go_simp) ?_
  refine wpT_valp 18 (v := .pointer (some ⟨b, 0, none⟩)) rfl rfl rfl (by go_simp) ?_
  refine wpT_valp 19 (v := .pointer (some ⟨b, 33, none⟩)) rfl rfl rfl (by go_simp) ?_
  refine wpT_valp 20 (v := .int .i64 n) rfl rfl rfl (by have c0 := crow_33 (by simp [hl]) (M16.row (b := b) (c := CR (Sh.nx l) n) (by simp)); go_simp) ?_
  try simp only [Act.put, List.setIfInBounds_toArray, List.set_cons_succ, List.set_cons_zero]
  refine wpT_valp 21 (v := .int .i64 (n + 1)) rfl rfl rfl (by have q := i64n (n + 1) (by omega) (by omega); go_simp) ?_
  refine wpT_valp 22 (v := .pointer (some ⟨b, 0, none⟩)) rfl rfl rfl (by go_simp) ?_
  refine wpT_valp 23 (v := .pointer (some ⟨b, 33, none⟩)) rfl rfl rfl (by go_simp) ?_
  refine wpT_stc M16 3 (.int .i64 (n + 1)) (CR (Sh.nx l) (n + 1)) inf_int rfl rfl rfl rfl (by go_simp) (by go_simp) (by simp [hl]) (by simp [go_sem]) (cr_setN _ (by simp [hl])) rfl (fun w17 M18 => ?_)
  dsimp only [List.set] at M18
  dsimp only [wpT]
  try simp only [Act.put, List.setIfInBounds_toArray, List.set_cons_succ, List.set_cons_zero]
  go_upto_region 4 with fail
  refine wp_region_lin (.op 0 (.op 1 .done)) (by rfl) ?_
  refine wpT_ld0 24 Tryd.underlying25 rfl inf_key (b8) (cs U8 (Sh.ms l)) rfl rfl rfl (by go_simp) (M18.row (by simp)) (by simp [hl]) rfl ?_
  refine wpT_st0 M18 2 (cs U8 (Sh.ms l)) inf_key rfl rfl rfl rfl (by go_simp) (by go_simp) (by simp [hl]) (by simp [hl]) (by simp [go_sem]) rfl (fun w19 M20 => ?_)
  dsimp only [List.set] at M20
  dsimp only [wpT]
  try simp only [Act.put, List.setIfInBounds_toArray, List.set_cons_succ, List.set_cons_zero]
  go_wp2_with fail
  have r21 := M20.row (b := w.heap.size) (c := cs U8 (Sh.ms l)) (by simp)
  refine bodyPost_ret (res_row (b := w.heap.size) rfl Tryd.underlying25 rfl inf_key _ _ rfl (by rw [r21]; simp [hl])) rfl ?_
  rw [r21]
  exact ⟨rfl, M20.sub (List.singleton_sublist.2 (by simp))⟩
set_option maxRecDepth 100000 in
set_option maxHeartbeats 2000000 in
theorem next_m (w : World) (b : Nat) (l : List (BitVec 8)) (n : Int) (hT : KT w) (hk0 : 0 < w.heap.size) (hkb : 0 ≠ b) (M : Mm (fun g => g = b) w [(b, CR l n)] w) (h0 : 0 ≤ n) (hn : n < 65535) (hl : l.length = 32) :
    Calls Tryd.prog 43 #[.pointer (some ⟨b, 0, none⟩)] w fun e w' => e = .returned (.tuple #[.int .i64 n, .agg (cs U8 (Sh.ms l)), .int .i64 0]) ∧ Mm (fun g => g = b) w [(b, CR (Sh.nx l) (n + 1))] w' := by
  have HK := hid (fun H w' (M : Mm (fun g => g = b) w H w') => kt_mm hT hk0 hkb M)
  have q0 : ¬ 65535 ≤ n := by omega
  clear hT hk0
  go_enter Tryd.func43, Tryd.ntmps43
  have M2 := (M.alloc (cs U8 (zs 32)) 25 (by decide))
  try simp only [World.size_alloc] at M2
  go_upto_region 1 with fail
  obtain ⟨w1, hw1⟩ : ∃ w1, w1 = (w.alloc (.cells (cs U8 (zs 32)) 25)) := ⟨_, rfl⟩
  rw [← hw1] at M2 ⊢
  clear hw1
  refine wp_region_lin (.op 0 (.op 1 (.op 2 (.op 3 .done)))) (by rfl) ?_
  refine wpT_valp 7 (v := .pointer (some ⟨b, 0, none⟩)) rfl rfl rfl (by go_simp) ?_
  refine wpT_callv 8 M2 (v := .bool true) rfl rfl rfl (by go_simp) (good_v w1 b (crow_0 (l := l) (n := n) (by simp [hl]) (M2.row (by simp)))) (fun w3 M4 => ?_)
  refine wpT_valp 9 (v := .bool false) rfl rfl rfl (by go_simp) ?_
  refine wpT_valp 6 (v := .bool false) rfl rfl rfl (by go_simp) ?_
  dsimp only [wpT]
  try simp only [Act.put, List.setIfInBounds_toArray, List.set_cons_succ, List.set_cons_zero]
  go_upto_region 3 with fail
  refine wp_region_lin (.op 0 (.op 1 (.op 2 (.op 3 (.op 4 (.op 5 .done)))))) (by rfl) ?_
  refine wpT_valp 12 (v := .pointer (some ⟨b, 0, none⟩)) rfl rfl rfl (by go_simp) ?_
  refine wpT_valp 13 (v := .pointer (some ⟨b, 0, none⟩)) rfl rfl rfl (by go_simp) ?_
  refine wpT_valp 14 (v := .pointer (some ⟨b, 33, none⟩)) rfl rfl rfl (by go_simp) ?_
  refine wpT_valp 15 (v := .int .i64 n) rfl rfl rfl (by have c0 := crow_33 (by simp [hl]) (M4.row (b := b) (c := CR l n) (by simp)); go_simp) ?_
  try simp only [Act.put, List.setIfInBounds_toArray, List.set_cons_succ, List.set_cons_zero]
  refine wpT_valp 16 (v := .bool false) rfl rfl rfl (by go_simp) ?_
  refine wpT_valp 11 (v := .bool false) rfl rfl rfl (by go_simp) ?_
  dsimp only [wpT]
  try simp only [Act.put, List.setIfInBounds_toArray, List.set_cons_succ, List.set_cons_zero]
  go_upto_region 5 with fail
  refine wp_region_lin (.op 0 (.op 1 (.op 2 (.op 3 (.op 4 .done))))) (by rfl) ?_
  refine wpT_valp 18 (v := .pointer (some ⟨b, 0, none⟩)) rfl rfl rfl (by go_simp) ?_
  refine wpT_valp 19 (v := .pointer (some ⟨b, 0, none⟩)) rfl rfl rfl (by go_simp) ?_
  refine wpT_valp 20 (v := .pointer (some ⟨b, 33, none⟩)) rfl rfl rfl (by go_simp) ?_
  refine wpT_valp 21 (v := .int .i64 n) rfl rfl rfl (by have c0 := crow_33 (by simp [hl]) (M4.row (b := b) (c := CR l n) (by simp)); go_simp) ?_
  try simp only [Act.put, List.setIfInBounds_toArray, List.set_cons_succ, List.set_cons_zero]
  refine wpT_valp 5 (v := .int .i64 n) rfl rfl rfl (by go_simp) ?_
  dsimp only [wpT]
  try simp only [Act.put, List.setIfInBounds_toArray, List.set_cons_succ, List.set_cons_zero]
  go_upto_region 6 with fail
  refine wp_region_lin (.op 0 (.op 1 (.op 2 (.op 3 (.op 4 (.op 5 .done)))))) (by rfl) ?_
  refine wpT_valp 22 (v := .int .i64 n) rfl rfl rfl (by go_simp) ?_
  refine wpT_valp 23 (v := .pointer (some ⟨b, 0, none⟩)) rfl rfl rfl (by go_simp) ?_
  refine wpT_callm 24 M4 1 (C' := CR (Sh.nx l) (n + 1)) (v := .agg (cs U8 (Sh.ms l))) rfl rfl rfl rfl (by go_simp) (cstep_m w3 b l n (HK.out _ _ M4).1 (HK.out _ _ M4).2 hkb (M4.loc' (k := 1) rfl) (by omega) (by omega) (by simp [hl])) (fun w5 M6 _ => ?_)
  dsimp only [List.set] at M6
  refine wpT_valp 2 (v := .int .i64 n) rfl rfl rfl (by go_simp) ?_
  try simp only [Act.put, List.setIfInBounds_toArray, List.set_cons_succ, List.set_cons_zero]
  refine wpT_st0 M6 0 (cs U8 (Sh.ms l)) inf_key rfl rfl rfl rfl (by go_simp) (by go_simp) (by simp [hl]) (by simp [hl]) (by simp [go_sem]) rfl (fun w7 M8 => ?_)
  dsimp only [List.set] at M8
  refine wpT_valp 4 (v := .int .i64 0) rfl rfl rfl (by go_simp) ?_
  dsimp only [wpT]
  try simp only [Act.put, List.setIfInBounds_toArray, List.set_cons_succ, List.set_cons_zero]
  go_wp2_with fail
  have r9 := M8.row (b := w.heap.size) (c := cs U8 (Sh.ms l)) (by simp)
  refine bodyPost_ret (res_three rfl (rv_tmp _ _ rfl) (rv_row Tryd.underlying25 rfl inf_key (w.heap.size) rfl (by rw [r9]; simp [hl])) (rv_tmp _ _ rfl)) rfl ?_
  rw [r9]
  exact ⟨rfl, M8.sub (List.singleton_sublist.2 (by simp))⟩
set_option maxRecDepth 100000 in
set_option maxHeartbeats 2000000 in
theorem next_mbig (w : World) (b : Nat) (l : List (BitVec 8)) (n : Int) (M : Mm (fun g => g = b) w [(b, CR l n)] w) (hn : 65535 ≤ n) (hl : l.length = 32) :
    Calls Tryd.prog 43 #[.pointer (some ⟨b, 0, none⟩)] w fun e w' => e = .returned (.tuple #[.int .i64 0, .agg (cs U8 (zs 32)), .int .i64 3]) ∧ Mm (fun g => g = b) w [(b, CR l n)] w' := by
  go_enter Tryd.func43, Tryd.ntmps43
  have M2 := (M.alloc (cs U8 (zs 32)) 25 (by decide))
  try simp only [World.size_alloc] at M2
  go_upto_region 1 with fail
  obtain ⟨w1, hw1⟩ : ∃ w1, w1 = (w.alloc (.cells (cs U8 (zs 32)) 25)) := ⟨_, rfl⟩
  rw [← hw1] at M2 ⊢
  clear hw1
  refine wp_region_lin (.op 0 (.op 1 (.op 2 (.op 3 .done)))) (by rfl) ?_
  refine wpT_valp 7 (v := .pointer (some ⟨b, 0, none⟩)) rfl rfl rfl (by go_simp) ?_
  refine wpT_callv 8 M2 (v := .bool true) rfl rfl rfl (by go_simp) (good_v w1 b (crow_0 (l := l) (n := n) (by simp [hl]) (M2.row (by simp)))) (fun w3 M4 => ?_)
  refine wpT_valp 9 (v := .bool false) rfl rfl rfl (by go_simp) ?_
  refine wpT_valp 6 (v := .bool false) rfl rfl rfl (by go_simp) ?_
  dsimp only [wpT]
  try simp only [Act.put, List.setIfInBounds_toArray, List.set_cons_succ, List.set_cons_zero]
  go_upto_region 3 with fail
  refine wp_region_lin (.op 0 (.op 1 (.op 2 (.op 3 (.op 4 (.op 5 .done)))))) (by rfl) ?_
  refine wpT_valp 12 (v := .pointer (some ⟨b, 0, none⟩)) rfl rfl rfl (by go_simp) ?_
  refine wpT_valp 13 (v := .pointer (some ⟨b, 0, none⟩)) rfl rfl rfl (by go_simp) ?_
  refine wpT_valp 14 (v := .pointer (some ⟨b, 33, none⟩)) rfl rfl rfl (by go_simp) ?_
  refine wpT_valp 15 (v := .int .i64 n) rfl rfl rfl (by have c0 := crow_33 (by simp [hl]) (M4.row (b := b) (c := CR l n) (by simp)); go_simp) ?_
  try simp only [Act.put, List.setIfInBounds_toArray, List.set_cons_succ, List.set_cons_zero]
  refine wpT_valp 16 (v := .bool true) rfl rfl rfl (by go_simp) ?_
  refine wpT_valp 11 (v := .bool true) rfl rfl rfl (by go_simp) ?_
  dsimp only [wpT]
  try simp only [Act.put, List.setIfInBounds_toArray, List.set_cons_succ, List.set_cons_zero]
  go_upto_region 4 with fail
  refine wp_region_lin (.op 0 (.op 1 (.op 2 (.op 3 .done)))) (by rfl) ?_
  refine wpT_valL 17 (v := .agg (cs U8 (zs 32))) rfl rfl rfl (by go_simp) ?_
  refine wpT_valp 2 (v := .int .i64 0) rfl rfl rfl (by go_simp) ?_
  refine wpT_st0 M4 0 (cs U8 (zs 32)) inf_key rfl rfl rfl rfl (by go_simp) (by go_simp) (by simp [hl]) (by simp [hl]) (by simp [go_sem]) rfl (fun w5 M6 => ?_)
  dsimp only [List.set] at M6
  refine wpT_valp 4 (v := .int .i64 3) rfl rfl rfl (by go_simp) ?_
  dsimp only [wpT]
  try simp only [Act.put, List.setIfInBounds_toArray, List.set_cons_succ, List.set_cons_zero]
  go_upto_region 5 with fail
  have r7 := M6.row (b := w.heap.size) (c := cs U8 (zs 32)) (by simp)
  refine bodyPost_ret (res_three rfl (rv_tmp _ _ rfl) (rv_row Tryd.underlying25 rfl inf_key (w.heap.size) rfl (by rw [r7]; simp [hl])) (rv_tmp _ _ rfl)) rfl ?_
  rw [r7]
  exact ⟨rfl, M6.sub (List.singleton_sublist.2 (by simp))⟩
set_option maxRecDepth 100000 in
set_option maxHeartbeats 2000000 in
theorem at_m (w : World) (b : Nat) (l : List (BitVec 8)) (n : Int) (M : Mm (fun g => g = b) w [(b, CR l n)] w) (hl : l.length = 32) :
    Calls Tryd.prog 48 #[.pointer (some ⟨b, 0, none⟩)] w fun e w' => e = .returned (.tuple #[.agg (cs U8 l), .int .i64 n]) ∧ Mm (fun g => g = b) w [(b, CR l n)] w' := by
  go_enter Tryd.func48, Tryd.ntmps48
  have M2 := (M.alloc (cs U8 (zs 32)) 25 (by decide))
  try simp only [World.size_alloc] at M2
  go_upto_region 1 with fail
  obtain ⟨w1, hw1⟩ : ∃ w1, w1 = (w.alloc (.cells (cs U8 (zs 32)) 25)) := ⟨_, rfl⟩
  rw [← hw1] at M2 ⊢
  clear hw1
  refine wp_region_lin (.op 0 (.op 1 (.op 2 .done))) (by rfl) ?_
  refine wpT_valp 4 (v := .pointer (some ⟨b, 0, none⟩)) rfl rfl rfl (by go_simp) ?_
  refine wpT_callv 5 M2 (v := .bool true) rfl rfl rfl (by go_simp) (good_v w1 b (crow_0 (l := l) (n := n) (by simp [hl]) (M2.row (by simp)))) (fun w3 M4 => ?_)
  refine wpT_valp 6 (v := .bool false) rfl rfl rfl (by go_simp) ?_
  dsimp only [wpT]
  try simp only [Act.put, List.setIfInBounds_toArray, List.set_cons_succ, List.set_cons_zero]
  go_upto_region 3 with fail
  refine wp_region_J (fun v => v.rowOf (b) = CR l n) [0, 1, 2, 3, 4, 5, 6, 7] (.op 8 (.op 9 .done)) (by kernel_rfl) (by kernel_rfl) (by kernel_rfl) (fun d _ _ _ _ h => by cases d <;> exact h) ?_
  refine wpYJd_op 8 (.pointer (some ⟨b, 0, none⟩)) rfl rfl rfl (fun w1 _ => by go_simp) ?_
  refine wpYJd_op 9 (.pointer (some ⟨b, 0, none⟩)) rfl rfl rfl (fun w1 _ => by go_simp) ?_
  refine wpYJd_op 10 (.pointer (some ⟨b, 1, none⟩)) rfl rfl rfl (fun w1 _ => by go_simp) ?_
  refine wpYJd_ldm 11 Tryd.underlying25 rfl inf_key (b) 1 (CR l n) (cs U8 l) rfl rfl rfl (by go_simp) (fun _ h => h) (by simp [hl]) (cr_key (by simp [hl])) rfl ?_
  refine wpYJd_op 12 (.pointer (some ⟨b, 0, none⟩)) rfl rfl rfl (fun w1 _ => by go_simp) ?_
  try simp only [Act.put, List.setIfInBounds_toArray, List.set_cons_succ, List.set_cons_zero]
  refine wpYJd_op 13 (.pointer (some ⟨b, 0, none⟩)) rfl rfl rfl (fun w1 _ => by go_simp) ?_
  refine wpYJd_op 14 (.pointer (some ⟨b, 33, none⟩)) rfl rfl rfl (fun w1 _ => by go_simp) ?_
  refine wpYJd_op 15 (.int .i64 n) rfl rfl rfl (fun w1 h => by have c0 := crow_33 (by simp [hl]) h; clear h; go_simp) ?_
  show wpTJ _ _ _ _ _ _ _
  try simp only [Act.put, List.setIfInBounds_toArray, List.set_cons_succ, List.set_cons_zero]
  have M5 := M4.drewN 1
  change wpTJ _ _ _ _ _ _ (w3.drewN 1)
  obtain ⟨w6, hw6⟩ : ∃ w6, w6 = w3.drewN 1 := ⟨_, rfl⟩
  rw [← hw6] at M5 ⊢
  clear hw6
  refine wpTJ_st0 (M5.row (by simp)) M5 0 (cs U8 l) inf_key rfl rfl rfl rfl (by go_simp) (by go_simp) (by simp [hl]) (by simp [hl]) (by simp [go_sem]) rfl (fun w7 M8 => ?_)
  dsimp only [List.set] at M8
  refine wpTJ_vald 3 (v := .int .i64 n) (M8.row (by simp)) rfl rfl rfl (by go_simp) ?_
  refine ⟨(M8.row (by simp)), ?_⟩
  try simp only [Act.put, List.setIfInBounds_toArray, List.set_cons_succ, List.set_cons_zero]
  go_wp2_with fail
  have r9 := M8.row (b := w.heap.size) (c := cs U8 l) (by simp)
  refine bodyPost_ret (res_two rfl (rv_row Tryd.underlying25 rfl inf_key (w.heap.size) rfl (by rw [r9]; simp [hl])) (rv_tmp _ _ rfl)) rfl ?_
  rw [r9]
  exact ⟨rfl, M8.sub (List.singleton_sublist.2 (by simp))⟩
end Go.Proofs.YtocledgjejlolaaDoor
set_option linter.unusedSimpArgs false
set_option linter.unusedVariables false
namespace Go.Proofs.YtocledgjejlolaaDoor
open Go.RowKit
/-- the document's chain, as cells -/
def RC (l : List (BitVec 8)) (n : Int) : Array Value := cs U8 l ++ #[.int .i64 n]
section
variable {l m : List (BitVec 8)} {n : Int}
@[simp] theorem rc_size (hl : l.length = 32) : (RC l n).size = 33 := by simp [RC, hl]
theorem rc_32 (hl : l.length = 32) : (RC l n)[32]? = some (.int .i64 n) := by
  unfold RC
  rw [Array.getElem?_append_right (by simp [hl])]
  simp [hl]
theorem rc_key (hl : l.length = 32) : (RC l n).extract 0 32 = cs U8 l := by
  unfold RC
  apply Array.ext'
  simp [cs, hl, List.extract_eq_take_drop]
theorem rc_setKey (hl : l.length = 32) (hm : m.length = 32) : (RC l n).extract 0 0 ++ cs U8 m ++ (RC l n).extract (0 + (cs U8 m).size) (RC l n).size = RC m n := by
  rw [rc_size hl]
  unfold RC
  apply Array.ext'
  simp [cs, hl, hm, List.extract_eq_take_drop]
theorem rc_setN (k : Int) (hl : l.length = 32) : (RC l n).setIfInBounds 32 (.int .i64 k) = RC l k := by
  unfold RC
  apply Array.ext'
  simp [cs, hl]
@[go_sem] theorem rc_ones : ones (RC l n) = true := by
  unfold RC; rw [ones_append, ones_8]; rfl
theorem rrow_32 {w : World} {b : Nat} (hl : l.length = 32) (h : w.rowOf b = RC l n) : w.cell? ⟨b, 32, none⟩ = some (.int .i64 n) := by rw [cell_rowOf, h]; exact rc_32 hl
end
theorem inf_rch : (Tryd.prog.info? 68).map (·.size) = some 33 := by kernel_rfl
section
variable (ρ : Operand → Value) (dst : Option Tmp) (ty : TypeId) (pos : String) (after : Array Edge) (guard : Option (Nat × Bool)) (w : World)
@[go_sem ↓] theorem rl_rch (x : Operand) : (execOp ρ { dst, op := .load 68 x, type := ty, pos, after, guard }).run Tryd.prog w = exLoad Tryd.prog 68 (ρ x) w := x_load ..
@[go_sem ↓] theorem rs_rch (x y : Operand) : (execOp ρ { dst, op := .store 68 x y, type := ty, pos, after, guard }).run Tryd.prog w = exStore Tryd.prog 68 (ρ x) (ρ y) w := x_store ..
@[go_sem ↓] theorem ra_rch : (execOp ρ { dst, op := .alloc 68, type := ty, pos, after, guard }).run Tryd.prog w = .ok (.value (.pointer (some ⟨w.heap.size, 0, none⟩))) (w.alloc (.cells (RC (zs 32) 0) 68)) :=
  (x_alloc ..).trans (x_alloc0 (v := .agg (RC (zs 32) 0)) _ (by kernel_rfl))
@[go_sem] theorem xl_rch (b : Nat) (h : (w.rowOf b).size = 33) : exLoad Tryd.prog 68 (.pointer (some ⟨b, 0, none⟩)) w = .ok (.value (.agg (w.rowOf b))) w := x_load0 _ Tryd.underlying68 rfl inf_rch b h
@[go_sem] theorem xlm_rch (b o : Nat) (ho : 0 < o) (h : o + 33 ≤ (w.rowOf b).size) : exLoad Tryd.prog 68 (.pointer (some ⟨b, o, none⟩)) w = .ok (.value (.agg ((w.rowOf b).extract o (o + 33)))) w := x_loadm _ Tryd.underlying68 rfl inf_rch b o h
@[go_sem] theorem xs_rch (b : Nat) (c : Array Value) (hl : c.size = 33) (h1 : ones c = true) (h : (w.rowOf b).size = 33) (hf : w.free b = true) : exStore Tryd.prog 68 (.pointer (some ⟨b, 0, none⟩)) (.agg c) w = .ok .skip (w.setRow b c) :=
  x_store0 _ inf_rch b c hl h hf (ones_all h1)
@[go_sem] theorem xsm_rch (b o : Nat) (ho : 0 < o) (c : Array Value) (hl : c.size = 33) (h1 : ones c = true) (h : o + 33 ≤ (w.rowOf b).size) (hf : w.free b = true) : exStore Tryd.prog 68 (.pointer (some ⟨b, o, none⟩)) (.agg c) w = .ok .skip (w.setSeg b o c) :=
  x_storem _ inf_rch b o c hl h hf (ones_all h1)
end
/-- at a step: a store, and a variable made -/
theorem wps_rch {a : Act} {w : World} {K : Act → World → Prop} {Q : Exit → Act → World → Prop} {o : Oper} (p x : Operand) (ho : o.op = .store 68 p x) (b : Nat) (c : Array Value) (hp : a.eval p = .pointer (some ⟨b, 0, none⟩)) (hx : a.eval x = .agg c)
    (hl : c.size = 33) (h1 : ones c = true) (h : (w.rowOf b).size = 33) (hf : w.free b = true) (hK : K (a.put o.dst undef) (w.setRow b c)) : o.wp Tryd.prog a w K Q := by
  obtain ⟨dst, op, ty, pos, after, guard⟩ := o
  subst ho
  unfold Oper.wp
  rw [rs_rch, hp, hx, xs_rch _ _ _ hl h1 h hf]
  simp only [Oper.upon]
  exact hK
theorem wpa_rch {a : Act} {w : World} {K : Act → World → Prop} {Q : Exit → Act → World → Prop} {o : Oper} (ho : o.op = .alloc 68)
    (hK : K (a.put o.dst (.pointer (some ⟨w.heap.size, 0, none⟩))) (w.alloc (.cells (RC (zs 32) 0) 68))) : o.wp Tryd.prog a w K Q := by
  obtain ⟨dst, op, ty, pos, after, guard⟩ := o
  subst ho
  unfold Oper.wp
  rw [ra_rch]
  simp only [Oper.upon]
  exact hK

end Go.Proofs.YtocledgjejlolaaDoor
set_option linter.unusedSimpArgs false
set_option linter.unusedVariables false
namespace Go.Proofs.YtocledgjejlolaaDoor
open Go.RowKit
theorem wpT_skip {P : Program} {ops : Array Oper} {Q : Exit → Act → World → Prop} {i : Nat} {t : Tr} {a : Act} {o : Oper} {w : World} (dst : Nat) (hdst : o.dst = some dst) (ho : ops[i]? = some o) (hw : Region.wanted o (yielded ops a.tmps) = false) (h : wpT P ops Q t (a.put (some dst) undef) w) : wpT P ops Q (.op i t) a w := by
  show wpOp P ops Q i (wpT P ops Q t) a w
  unfold wpOp
  rw [ho]
  simp only [hw, Bool.false_eq_true, if_false]
  rw [hdst]; exact h
/-- the chain's key after k steps, and the k messages' keys -/
def Sh.nxk (l : List (BitVec 8)) : Nat → List (BitVec 8)
  | 0 => l
  | k + 1 => Sh.nx (Sh.nxk l k)
def Sh.msk (l : List (BitVec 8)) (k : Nat) : List (List (BitVec 8)) := (List.range k).map fun i => Sh.ms (Sh.nxk l i)
theorem nxk_len {l : List (BitVec 8)} (hl : l.length = 32) : ∀ k, (Sh.nxk l k).length = 32
  | 0 => hl
  | k + 1 => nx_len _
@[simp] theorem msk_len (l : List (BitVec 8)) (k : Nat) : (Sh.msk l k).length = k := by simp [Sh.msk]
theorem msk_succ (l : List (BitVec 8)) (k : Nat) : Sh.msk l (k + 1) = Sh.msk l k ++ [Sh.ms (Sh.nxk l k)] := by simp [Sh.msk, List.range_succ]
theorem msk_get {l : List (BitVec 8)} {k i : Nat} (h : i < k) : (Sh.msk l k).getD i [] = Sh.ms (Sh.nxk l i) := by
  rw [List.getD_eq_getElem?_getD]
  simp [Sh.msk, List.getElem?_map, List.getElem?_range h]
attribute [local irreducible] CR Sh.nx Sh.ms Sh.nxk Sh.msk
def slen : Value → Nat
  | .slice _ k _ => k
  | _ => 0
set_option maxRecDepth 100000 in
set_option maxHeartbeats 2000000 in
theorem upto_old (w : World) (b : Nat) (l : List (BitVec 8)) (n N : Int) (M : Mm (fun g => g = b) w [(b, CR l n)] w) (hN : N < n) (hl : l.length = 32) :
    Calls Tryd.prog 45 #[.pointer (some ⟨b, 0, none⟩), .int .i64 N] w fun e w' => e = .returned (.tuple #[.slice none 0 0, .int .i64 13]) ∧ Mm (fun g => g = b) w [(b, CR l n)] w' := by
  go_enter Tryd.func45, Tryd.ntmps45
  go_upto_region 1 with fail
  refine wp_region_lin (.op 0 (.op 1 (.op 2 (.op 3 .done)))) (by rfl) ?_
  refine wpT_valp 8 (v := .pointer (some ⟨b, 0, none⟩)) rfl rfl rfl (by go_simp) ?_
  refine wpT_callv 9 M (v := .bool true) rfl rfl rfl (by go_simp) (good_v w b (crow_0 (l := l) (n := n) (by simp [hl]) (M.row (by simp)))) (fun w1 M2 => ?_)
  refine wpT_valp 10 (v := .bool false) rfl rfl rfl (by go_simp) ?_
  refine wpT_valp 7 (v := .bool false) rfl rfl rfl (by go_simp) ?_
  dsimp only [wpT]
  try simp only [Act.put, List.setIfInBounds_toArray, List.set_cons_succ, List.set_cons_zero]
  go_upto_region 3 with fail
  refine wp_region_lin (.op 0 (.op 1 (.op 2 (.op 3 (.op 4 (.op 5 (.op 6 .done))))))) (by rfl) ?_
  refine wpT_valp 12 (v := .int .i64 N) rfl rfl rfl (by go_simp) ?_
  refine wpT_valp 13 (v := .pointer (some ⟨b, 0, none⟩)) rfl rfl rfl (by go_simp) ?_
  refine wpT_valp 14 (v := .pointer (some ⟨b, 0, none⟩)) rfl rfl rfl (by go_simp) ?_
  refine wpT_valp 15 (v := .pointer (some ⟨b, 33, none⟩)) rfl rfl rfl (by go_simp) ?_
  try simp only [Act.put, List.setIfInBounds_toArray, List.set_cons_succ, List.set_cons_zero]
  refine wpT_valp 16 (v := .int .i64 n) rfl rfl rfl (by have c0 := crow_33 (by simp [hl]) (M2.row (b := b) (c := CR l n) (by simp)); go_simp) ?_
  refine wpT_valp 17 (v := .bool true) rfl rfl rfl (by go_simp) ?_
  refine wpT_valp 11 (v := .bool true) rfl rfl rfl (by go_simp) ?_
  dsimp only [wpT]
  try simp only [Act.put, List.setIfInBounds_toArray, List.set_cons_succ, List.set_cons_zero]
  go_upto_region 4 with fail
  refine wp_region_lin (.op 0 (.op 1 .done)) (by rfl) ?_
  refine wpT_valp 4 (v := (.slice none 0 0)) rfl rfl rfl (by go_simp) ?_
  refine wpT_valp 5 (v := .int .i64 13) rfl rfl rfl (by go_simp) ?_
  dsimp only [wpT]
  try simp only [Act.put, List.setIfInBounds_toArray, List.set_cons_succ, List.set_cons_zero]
  go_upto_region 5 with fail
  refine bodyPost_ret (res_two rfl (rv_tmp _ _ rfl) (rv_tmp _ _ rfl)) rfl ?_
  exact ⟨rfl, M2⟩
set_option maxRecDepth 100000 in
set_option maxHeartbeats 2000000 in
theorem upto_big (w : World) (b : Nat) (l : List (BitVec 8)) (n N : Int) (M : Mm (fun g => g = b) w [(b, CR l n)] w) (h0 : 0 ≤ n) (h1 : n ≤ 65535) (hN : 65535 < N ∨ n + 16 < N) (hl : l.length = 32) :
    Calls Tryd.prog 45 #[.pointer (some ⟨b, 0, none⟩), .int .i64 N] w fun e w' => e = .returned (.tuple #[.slice none 0 0, .int .i64 3]) ∧ Mm (fun g => g = b) w [(b, CR l n)] w' := by
  have q1 : ¬ N < n := by omega
  by_cases q2 : 65535 < N
  · skip
    go_enter Tryd.func45, Tryd.ntmps45
    go_upto_region 1 with fail
    refine wp_region_lin (.op 0 (.op 1 (.op 2 (.op 3 .done)))) (by rfl) ?_
    refine wpT_valp 8 (v := .pointer (some ⟨b, 0, none⟩)) rfl rfl rfl (by go_simp) ?_
    refine wpT_callv 9 M (v := .bool true) rfl rfl rfl (by go_simp) (good_v w b (crow_0 (l := l) (n := n) (by simp [hl]) (M.row (by simp)))) (fun w1 M2 => ?_)
    refine wpT_valp 10 (v := .bool false) rfl rfl rfl (by go_simp) ?_
    refine wpT_valp 7 (v := .bool false) rfl rfl rfl (by go_simp) ?_
    dsimp only [wpT]
    try simp only [Act.put, List.setIfInBounds_toArray, List.set_cons_succ, List.set_cons_zero]
    go_upto_region 3 with fail
    have c33 := crow_33 (b := b) (l := l) (n := n) hl (M2.row (by simp))
    go_wp2_with fail
    refine bodyPost_ret (res_two rfl (rv_tmp _ _ rfl) (rv_tmp _ _ rfl)) rfl ?_
    exact ⟨rfl, M2⟩
  · have q3 : 16 < N - n := by omega
    have q4 := i64n (N - n) (by omega) (by omega)
    go_enter Tryd.func45, Tryd.ntmps45
    go_upto_region 1 with fail
    refine wp_region_lin (.op 0 (.op 1 (.op 2 (.op 3 .done)))) (by rfl) ?_
    refine wpT_valp 8 (v := .pointer (some ⟨b, 0, none⟩)) rfl rfl rfl (by go_simp) ?_
    refine wpT_callv 9 M (v := .bool true) rfl rfl rfl (by go_simp) (good_v w b (crow_0 (l := l) (n := n) (by simp [hl]) (M.row (by simp)))) (fun w1 M2 => ?_)
    refine wpT_valp 10 (v := .bool false) rfl rfl rfl (by go_simp) ?_
    refine wpT_valp 7 (v := .bool false) rfl rfl rfl (by go_simp) ?_
    dsimp only [wpT]
    try simp only [Act.put, List.setIfInBounds_toArray, List.set_cons_succ, List.set_cons_zero]
    go_upto_region 3 with fail
    have c33 := crow_33 (b := b) (l := l) (n := n) hl (M2.row (by simp))
    go_wp2_with fail
    refine bodyPost_ret (res_two rfl (rv_tmp _ _ rfl) (rv_tmp _ _ rfl)) rfl ?_
    exact ⟨rfl, M2⟩
set_option maxRecDepth 100000 in
set_option maxHeartbeats 4000000 in
theorem upto_m (w : World) (b : Nat) (l : List (BitVec 8)) (n N : Int) (m : Nat) (hT : KT w) (hk0 : 0 < w.heap.size) (hkb : 0 ≠ b) (M : Mm (fun g => g = b) w [(b, CR l n)] w) (h0 : 0 ≤ n) (hN : N = n + m) (hm : m ≤ 16) (hN2 : N ≤ 65535) (hl : l.length = 32) :
    Calls Tryd.prog 45 #[.pointer (some ⟨b, 0, none⟩), .int .i64 N] w fun e w' => ∃ v, e = .returned (.tuple #[v, .int .i64 0]) ∧ KO w' w.heap.size v (Sh.msk l m) ∧ Mm (fun g => g = b) w [(b, CR (Sh.nxk l m) N)] w' := by
  have HK := hid (fun H w' (M : Mm (fun g => g = b) w H w') => kt_mm hT hk0 hkb M)
  have hbw : b < w.heap.size := M.lt (b := b) (c := CR l n) (by simp)
  have q1 : ¬ N < n := by omega
  have q2 : ¬ 65535 < N := by omega
  have q3 : ¬ 16 < N - n := by omega
  have HN := hid hN
  clear hT hk0 hN
  have q4 := i64n (N - n) (by omega) (by omega)
  go_enter Tryd.func45, Tryd.ntmps45
  go_upto_region 1 with fail
  refine wp_region_lin (.op 0 (.op 1 (.op 2 (.op 3 .done)))) (by rfl) ?_
  refine wpT_valp 8 (v := .pointer (some ⟨b, 0, none⟩)) rfl rfl rfl (by go_simp) ?_
  refine wpT_callv 9 M (v := .bool true) rfl rfl rfl (by go_simp) (good_v w b (crow_0 (l := l) (n := n) (by simp [hl]) (M.row (by simp)))) (fun w1 M2 => ?_)
  refine wpT_valp 10 (v := .bool false) rfl rfl rfl (by go_simp) ?_
  refine wpT_valp 7 (v := .bool false) rfl rfl rfl (by go_simp) ?_
  dsimp only [wpT]
  try simp only [Act.put, List.setIfInBounds_toArray, List.set_cons_succ, List.set_cons_zero]
  go_upto_region 3 with fail
  have c33 := crow_33 (b := b) (l := l) (n := n) hl (M2.row (by simp))
  go_wp2_with fail
  clear c33
  go_loopw [6] (fun u wr => ∃ k : Nat, k ≤ m ∧ KO wr w.heap.size u (Sh.msk l k) ∧ Mm (fun g => g = b) w [(b, CR (Sh.nxk l k) (n + k))] wr) (fun u _ => m - slen u)
  case atStart => exact ⟨0, Nat.zero_le _, by unfold Sh.msk; exact KO.nil _ _, by simpa [Sh.nxk] using M2⟩
  case round =>
    clear M2 M
    obtain ⟨k, hk, HO, M⟩ := hrel
    have hl2 := nxk_len hl k
    have hnx := hid (show Sh.nx (Sh.nxk l k) = Sh.nxk l (k + 1) by simp [Sh.nxk])
    have hms := hid (msk_succ l k)
    obtain ⟨A, cu, rfl⟩ := HO.shape k (msk_len l k)
    generalize hl2e : Sh.nxk l k = l2 at *
    generalize hn2e : n + (k : Int) = n2 at *
    by_cases hlt : k < m
    · have hlt2 : n2 < N := by have := HN.out; omega
      go_upto_region 8 with fail
      refine wp_region_lin (.op 0 (.op 1 (.op 2 (.op 3 (.op 4 (.op 5 .done)))))) (by rfl) ?_
      refine wpT_valp 30 (v := .pointer (some ⟨b, 0, none⟩)) rfl rfl rfl (by go_simp) ?_
      refine wpT_valp 31 (v := .pointer (some ⟨b, 0, none⟩)) rfl rfl rfl (by go_simp) ?_
      refine wpT_valp 32 (v := .pointer (some ⟨b, 33, none⟩)) rfl rfl rfl (by go_simp) ?_
      refine wpT_valp 33 (v := .int .i64 n2) rfl rfl rfl (by have c0 := crow_33 (by simp [hl2]) (M.row (b := b) (c := CR l2 n2) (by simp)); go_simp) ?_
      try simp only [Act.put, List.setIfInBounds_toArray, List.set_cons_succ, List.set_cons_zero]
      refine wpT_valp 34 (v := .int .i64 N) rfl rfl rfl (by go_simp) ?_
      refine wpT_valp 35 (v := .bool true) rfl rfl rfl (by go_simp) ?_
      dsimp only [wpT]
      try simp only [Act.put, List.setIfInBounds_toArray, List.set_cons_succ, List.set_cons_zero]
      go_upto_region 9 with fail
      refine wp_region_lin (.op 0 (.op 1 (.op 2 (.op 3 (.op 4 (.op 5 .done)))))) (by rfl) ?_
      refine wpT_valp 36 (v := .slice A k cu) rfl rfl rfl (by go_simp) ?_
      refine wpT_valp 37 (v := .pointer (some ⟨b, 0, none⟩)) rfl rfl rfl (by go_simp) ?_
      refine wpT_callm 38 M 0 (C' := CR (Sh.nx l2) (n2 + 1)) (v := .agg (cs U8 (Sh.ms l2))) rfl rfl rfl rfl (by go_simp) (cstep_m wr b l2 n2 (HK.out _ _ M).1 (HK.out _ _ M).2 hkb (M.loc' (k := 0) rfl) (by omega) (by omega) hl2) (fun w4 M4 F4 => ?_)
      dsimp only [List.set] at M4
      have O4 := HO.fr F4 (fun g hg e => by have := (HO.at_ g hg).1; omega)
      refine wpT_keys1 39 _ M4 (Sh.ms l2) (by simp) rfl rfl rfl (by go_simp) rfl (fun bk w5 M5 B5 L5 => ?_)
      have O5 := O4.below B5
      refine wpT_apk 40 _ _ M5 w.heap.size (.slice A k cu) (.slice (some ⟨bk, 0, none⟩) 1 1) (Sh.msk l k) (Sh.ms l2) rfl rfl rfl rfl (by go_simp) O5 (by go_simp) (by simp) (SV.key (M5.row (by simp))) (by rw [msk_len]; omega) (by have := M5.size; omega) (Nat.le_refl _) (fun g hg p hp => ?_) (fun u6 w6 O6 M6 _ _ => ?_)
      · have h1 := O4.at_ g hg
        simp only [List.mem_cons, List.mem_singleton, List.not_mem_nil, or_false] at hp
        rcases hp with rfl | rfl
        · show bk ≠ g; omega
        · show b ≠ g; omega
      rw [← hms.out] at O6
      obtain ⟨A6, c6, rfl⟩ := O6.shape (k + 1) (msk_len l (k + 1))
      refine wpT_valp 6 (v := .slice A6 (k + 1) c6) rfl rfl rfl (by go_simp) ?_
      dsimp only [wpT]
      try simp only [Act.put, List.setIfInBounds_toArray, List.set_cons_succ, List.set_cons_zero]
      go_wp2_with fail
      go_roundw
      case rel =>
        refine ⟨k + 1, by omega, O6, ?_⟩
        rw [← hnx.out, show n + ((k + 1 : Nat) : Int) = n2 + 1 by rw [← hn2e]; omega]
        exact M6.sub (List.sublist_cons_self _ _)
      case measure => simp only [slen]; omega
    · have : k = m := by omega
      subst this
      have hlt2 : ¬ n2 < N := by have := HN.out; omega
      have hN3 : n2 = N := by have := HN.out; omega
      go_upto_region 8 with fail
      refine wp_region_lin (.op 0 (.op 1 (.op 2 (.op 3 (.op 4 (.op 5 .done)))))) (by rfl) ?_
      refine wpT_valp 30 (v := .pointer (some ⟨b, 0, none⟩)) rfl rfl rfl (by go_simp) ?_
      refine wpT_valp 31 (v := .pointer (some ⟨b, 0, none⟩)) rfl rfl rfl (by go_simp) ?_
      refine wpT_valp 32 (v := .pointer (some ⟨b, 33, none⟩)) rfl rfl rfl (by go_simp) ?_
      refine wpT_valp 33 (v := .int .i64 n2) rfl rfl rfl (by have c0 := crow_33 (by simp [hl2]) (M.row (b := b) (c := CR l2 n2) (by simp)); go_simp) ?_
      try simp only [Act.put, List.setIfInBounds_toArray, List.set_cons_succ, List.set_cons_zero]
      refine wpT_valp 34 (v := .int .i64 N) rfl rfl rfl (by go_simp) ?_
      refine wpT_valp 35 (v := .bool false) rfl rfl rfl (by go_simp) ?_
      dsimp only [wpT]
      try simp only [Act.put, List.setIfInBounds_toArray, List.set_cons_succ, List.set_cons_zero]
      go_upto_region 10 with fail
      refine wp_region_lin (.op 0 (.op 1 (.op 2 .done))) (by rfl) ?_
      refine wpT_valp 41 (v := .slice A k cu) rfl rfl rfl (by go_simp) ?_
      refine wpT_valp 4 (v := .slice A k cu) rfl rfl rfl (by go_simp) ?_
      refine wpT_valp 5 (v := .int .i64 0) rfl rfl rfl (by go_simp) ?_
      dsimp only [wpT]
      try simp only [Act.put, List.setIfInBounds_toArray, List.set_cons_succ, List.set_cons_zero]
      go_wp2_with fail
      refine bodyPost_ret (res_two rfl (rv_tmp _ _ rfl) (rv_tmp _ _ rfl)) rfl ?_
      exact ⟨_, rfl, HO, hN3 ▸ M⟩
end Go.Proofs.YtocledgjejlolaaDoor
