/-
  Package setup: bundles in memory, Show; own work.
-/
import Derived.Test.YtgclegdgngldoaaDoorSuS
import Derived.Test.YtgclegdgngldoaaDoorPsl
import Derived.Test.YtgclegdgngldoaaDoorStp
import Derived.Test.YtgclegdgngldoaaDoorHmc
set_option linter.unusedSimpArgs false
set_option linter.unusedVariables false
namespace Go.Proofs.YtgclegdgngldoaaDoor
open Go.RowKit Fp
/-- a bundle's cells: a lasting key, one that changes, one for one use, and whether there is that one -/
def BR (L P O : L8) (h : Bool) : Array Value := cs U8 (L ++ (P ++ O)) ++ #[.bool h]
section
variable {L P O : L8} {h : Bool}
theorem BR_size : (BR L P O h).size = L.length + (P.length + O.length) + 1 := by simp [BR]
theorem br_0 (hL : L.length = 32) (hP : P.length = 32) (hO : O.length = 32) : (BR L P O h).extract 0 (0 + 32) = cs U8 L := by
  unfold BR
  apply Array.toList_inj.1
  simp [cs, hL, List.take_append]
theorem br_32 (hL : L.length = 32) (hP : P.length = 32) (hO : O.length = 32) : (BR L P O h).extract 32 (32 + 32) = cs U8 P := by
  unfold BR
  apply Array.toList_inj.1
  simp [cs, hL, hP, List.take_append, List.drop_append]
theorem br_64 (hL : L.length = 32) (hP : P.length = 32) (hO : O.length = 32) : (BR L P O h).extract 64 (64 + 32) = cs U8 O := by
  unfold BR
  apply Array.toList_inj.1
  simp [cs, hL, hP, hO, List.take_append, List.drop_append]
theorem br_96 {w : World} {b : Nat} (hL : L.length = 32) (hP : P.length = 32) (hO : O.length = 32) (hr : w.rowOf b = BR L P O h) : w.cell? ⟨b, 96, none⟩ = some (.bool h) := by
  rw [cell_rowOf, hr]; unfold BR
  rw [Array.getElem?_append_right (by simp [hL, hP, hO])]
  simp [hL, hP, hO]
theorem br_put {X : L8} (hL : L.length = 32) (hP : P.length = 32) (hO : O.length = 32) (hX : X.length = 32) : (BR L P O h).extract 0 64 ++ cs U8 X ++ (BR L P O h).extract (64 + (cs U8 X).size) (BR L P O h).size = BR L P X h := by
  unfold BR
  apply Array.toList_inj.1
  simp [cs, hL, hP, hO, hX, List.take_append, List.drop_append, List.take_of_length_le, List.drop_of_length_le]
end
@[go_sem] theorem ones_br (L P O : L8) (h : Bool) : ones (BR L P O h) = true := by
  unfold BR
  simp [ones, cs, List.all_eq_true]
  exact ⟨fun _ _ => rfl, fun _ _ => rfl, fun _ _ => rfl, rfl⟩
theorem inf_bool' : (Tryd.prog.info? 4).map (·.size) = some 1 := by kernel_rfl
theorem inf_bun : (Tryd.prog.info? 30).map (·.size) = some 97 := by kernel_rfl
section
variable (ρ : Operand → Value) (dst : Option Tmp) (ty : TypeId) (pos : String) (after : Array Edge) (guard : Option (Nat × Bool)) (w : World)
@[go_sem ↓] theorem rl_bun (x : Operand) : (execOp ρ { dst, op := .load 30 x, type := ty, pos, after, guard }).run Tryd.prog w = exLoad Tryd.prog 30 (ρ x) w := x_load ..
@[go_sem ↓] theorem rs_bun (x y : Operand) : (execOp ρ { dst, op := .store 30 x y, type := ty, pos, after, guard }).run Tryd.prog w = exStore Tryd.prog 30 (ρ x) (ρ y) w := x_store ..
@[go_sem ↓] theorem ra_bun : (execOp ρ { dst, op := .alloc 30, type := ty, pos, after, guard }).run Tryd.prog w = .ok (.value (.pointer (some ⟨w.heap.size, 0, none⟩))) (w.alloc (.cells (BR (zs 32) (zs 32) (zs 32) false) 30)) :=
  (x_alloc ..).trans (x_alloc0 (v := .agg (BR (zs 32) (zs 32) (zs 32) false)) _ (by kernel_rfl))
@[go_sem] theorem xl_bun (b : Nat) (h : (w.rowOf b).size = 97) : exLoad Tryd.prog 30 (.pointer (some ⟨b, 0, none⟩)) w = .ok (.value (.agg (w.rowOf b))) w := x_load0 _ Tryd.underlying30 rfl inf_bun b h
@[go_sem] theorem xlm_bun (b o : Nat) (ho : 0 < o) (h : o + 97 ≤ (w.rowOf b).size) : exLoad Tryd.prog 30 (.pointer (some ⟨b, o, none⟩)) w = .ok (.value (.agg ((w.rowOf b).extract o (o + 97)))) w := x_loadm _ Tryd.underlying30 rfl inf_bun b o h
@[go_sem] theorem xs_bun (b : Nat) (c : Array Value) (hl : c.size = 97) (h1 : ones c = true) (h : (w.rowOf b).size = 97) (hf : w.free b = true) : exStore Tryd.prog 30 (.pointer (some ⟨b, 0, none⟩)) (.agg c) w = .ok .skip (w.setRow b c) :=
  x_store0 _ inf_bun b c hl h hf (ones_all h1)
@[go_sem] theorem xsm_bun (b o : Nat) (ho : 0 < o) (c : Array Value) (hl : c.size = 97) (h1 : ones c = true) (h : o + 97 ≤ (w.rowOf b).size) (hf : w.free b = true) : exStore Tryd.prog 30 (.pointer (some ⟨b, o, none⟩)) (.agg c) w = .ok .skip (w.setSeg b o c) :=
  x_storem _ inf_bun b o c hl h hf (ones_all h1)
end
/-- at a step: a store, and a variable made -/
theorem wps_bun {a : Act} {w : World} {K : Act → World → Prop} {Q : Exit → Act → World → Prop} {o : Oper} (p x : Operand) (ho : o.op = .store 30 p x) (b : Nat) (c : Array Value) (hp : a.eval p = .pointer (some ⟨b, 0, none⟩)) (hx : a.eval x = .agg c)
    (hl : c.size = 97) (h1 : ones c = true) (h : (w.rowOf b).size = 97) (hf : w.free b = true) (hK : K (a.put o.dst undef) (w.setRow b c)) : o.wp Tryd.prog a w K Q := by
  obtain ⟨dst, op, ty, pos, after, guard⟩ := o
  subst ho
  unfold Oper.wp
  rw [rs_bun, hp, hx, xs_bun _ _ _ hl h1 h hf]
  simp only [Oper.upon]
  exact hK
theorem wpa_bun {a : Act} {w : World} {K : Act → World → Prop} {Q : Exit → Act → World → Prop} {o : Oper} (ho : o.op = .alloc 30)
    (hK : K (a.put o.dst (.pointer (some ⟨w.heap.size, 0, none⟩))) (w.alloc (.cells (BR (zs 32) (zs 32) (zs 32) false) 30))) : o.wp Tryd.prog a w K Q := by
  obtain ⟨dst, op, ty, pos, after, guard⟩ := o
  subst ho
  unfold Oper.wp
  rw [ra_bun]
  simp only [Oper.upon]
  exact hK

theorem inf_sec : (Tryd.prog.info? 35).map (·.size) = some 97 := by kernel_rfl
section
variable (ρ : Operand → Value) (dst : Option Tmp) (ty : TypeId) (pos : String) (after : Array Edge) (guard : Option (Nat × Bool)) (w : World)
@[go_sem ↓] theorem rl_sec (x : Operand) : (execOp ρ { dst, op := .load 35 x, type := ty, pos, after, guard }).run Tryd.prog w = exLoad Tryd.prog 35 (ρ x) w := x_load ..
@[go_sem ↓] theorem rs_sec (x y : Operand) : (execOp ρ { dst, op := .store 35 x y, type := ty, pos, after, guard }).run Tryd.prog w = exStore Tryd.prog 35 (ρ x) (ρ y) w := x_store ..
@[go_sem ↓] theorem ra_sec : (execOp ρ { dst, op := .alloc 35, type := ty, pos, after, guard }).run Tryd.prog w = .ok (.value (.pointer (some ⟨w.heap.size, 0, none⟩))) (w.alloc (.cells (BR (zs 32) (zs 32) (zs 32) false) 35)) :=
  (x_alloc ..).trans (x_alloc0 (v := .agg (BR (zs 32) (zs 32) (zs 32) false)) _ (by kernel_rfl))
@[go_sem] theorem xl_sec (b : Nat) (h : (w.rowOf b).size = 97) : exLoad Tryd.prog 35 (.pointer (some ⟨b, 0, none⟩)) w = .ok (.value (.agg (w.rowOf b))) w := x_load0 _ Tryd.underlying35 rfl inf_sec b h
@[go_sem] theorem xlm_sec (b o : Nat) (ho : 0 < o) (h : o + 97 ≤ (w.rowOf b).size) : exLoad Tryd.prog 35 (.pointer (some ⟨b, o, none⟩)) w = .ok (.value (.agg ((w.rowOf b).extract o (o + 97)))) w := x_loadm _ Tryd.underlying35 rfl inf_sec b o h
@[go_sem] theorem xs_sec (b : Nat) (c : Array Value) (hl : c.size = 97) (h1 : ones c = true) (h : (w.rowOf b).size = 97) (hf : w.free b = true) : exStore Tryd.prog 35 (.pointer (some ⟨b, 0, none⟩)) (.agg c) w = .ok .skip (w.setRow b c) :=
  x_store0 _ inf_sec b c hl h hf (ones_all h1)
@[go_sem] theorem xsm_sec (b o : Nat) (ho : 0 < o) (c : Array Value) (hl : c.size = 97) (h1 : ones c = true) (h : o + 97 ≤ (w.rowOf b).size) (hf : w.free b = true) : exStore Tryd.prog 35 (.pointer (some ⟨b, o, none⟩)) (.agg c) w = .ok .skip (w.setSeg b o c) :=
  x_storem _ inf_sec b o c hl h hf (ones_all h1)
end
/-- at a step: a store, and a variable made -/
theorem wps_sec {a : Act} {w : World} {K : Act → World → Prop} {Q : Exit → Act → World → Prop} {o : Oper} (p x : Operand) (ho : o.op = .store 35 p x) (b : Nat) (c : Array Value) (hp : a.eval p = .pointer (some ⟨b, 0, none⟩)) (hx : a.eval x = .agg c)
    (hl : c.size = 97) (h1 : ones c = true) (h : (w.rowOf b).size = 97) (hf : w.free b = true) (hK : K (a.put o.dst undef) (w.setRow b c)) : o.wp Tryd.prog a w K Q := by
  obtain ⟨dst, op, ty, pos, after, guard⟩ := o
  subst ho
  unfold Oper.wp
  rw [rs_sec, hp, hx, xs_sec _ _ _ hl h1 h hf]
  simp only [Oper.upon]
  exact hK
theorem wpa_sec {a : Act} {w : World} {K : Act → World → Prop} {Q : Exit → Act → World → Prop} {o : Oper} (ho : o.op = .alloc 35)
    (hK : K (a.put o.dst (.pointer (some ⟨w.heap.size, 0, none⟩))) (w.alloc (.cells (BR (zs 32) (zs 32) (zs 32) false) 35))) : o.wp Tryd.prog a w K Q := by
  obtain ⟨dst, op, ty, pos, after, guard⟩ := o
  subst ho
  unfold Oper.wp
  rw [ra_sec]
  simp only [Oper.upon]
  exact hK

theorem bp_bun (l : List (Nat × Value)) : Tryd.prog.built 30 l = Instr.fill (([(0, 32), (32, 32), (64, 32), (96, 1)] : List (Nat × Nat)).toArray[·]?) (((Tryd.prog.info? 30).bind (·.zero)).getD undef).cells l := by kernel_rfl
theorem bz_bun : (((Tryd.prog.info? 30).bind (·.zero)).getD undef).cells.size = 97 := by kernel_rfl
@[go_sem ↓] theorem rb_bun (ρ : Operand → Value) (dst : Option Tmp) (ty : TypeId) (pos : String) (after : Array Edge) (guard : Option (Nat × Bool)) (w : World) (ps : Array (Nat × Operand)) :
    (execOp ρ { dst, op := .build 30 ps, type := ty, pos, after, guard }).run Tryd.prog w = exBuild Tryd.prog 30 (ps.map fun p => (p.1, ρ p.2)) w := x_build ..
theorem xb_bun (w : World) (ps : Array (Nat × Value)) (hc : Cont (([(0, 32), (32, 32), (64, 32), (96, 1)] : List (Nat × Nat)).toArray[·]?) 0 ps.toList) (hz : (catP ps.toList).size = 97) :
    exBuild Tryd.prog 30 ps w = .ok (.value (.agg (catP ps.toList))) w := by
  unfold exBuild; rw [run_build_cat w 30 ps _ _ bp_bun hc (by rw [bz_bun]; exact hz)]; rfl

theorem bp_sec (l : List (Nat × Value)) : Tryd.prog.built 35 l = Instr.fill (([(0, 32), (32, 32), (64, 32), (96, 1)] : List (Nat × Nat)).toArray[·]?) (((Tryd.prog.info? 35).bind (·.zero)).getD undef).cells l := by kernel_rfl
theorem bz_sec : (((Tryd.prog.info? 35).bind (·.zero)).getD undef).cells.size = 97 := by kernel_rfl
@[go_sem ↓] theorem rb_sec (ρ : Operand → Value) (dst : Option Tmp) (ty : TypeId) (pos : String) (after : Array Edge) (guard : Option (Nat × Bool)) (w : World) (ps : Array (Nat × Operand)) :
    (execOp ρ { dst, op := .build 35 ps, type := ty, pos, after, guard }).run Tryd.prog w = exBuild Tryd.prog 35 (ps.map fun p => (p.1, ρ p.2)) w := x_build ..
theorem xb_sec (w : World) (ps : Array (Nat × Value)) (hc : Cont (([(0, 32), (32, 32), (64, 32), (96, 1)] : List (Nat × Nat)).toArray[·]?) 0 ps.toList) (hz : (catP ps.toList).size = 97) :
    exBuild Tryd.prog 35 ps w = .ok (.value (.agg (catP ps.toList))) w := by
  unfold exBuild; rw [run_build_cat w 35 ps _ _ bp_sec hc (by rw [bz_sec]; exact hz)]; rfl

theorem bp_pr2 (l : List (Nat × Value)) : Tryd.prog.built 76 l = Instr.fill (([(0, 32), (32, 32)] : List (Nat × Nat)).toArray[·]?) (((Tryd.prog.info? 76).bind (·.zero)).getD undef).cells l := by kernel_rfl
theorem bz_pr2 : (((Tryd.prog.info? 76).bind (·.zero)).getD undef).cells.size = 64 := by kernel_rfl
@[go_sem ↓] theorem rb_pr2 (ρ : Operand → Value) (dst : Option Tmp) (ty : TypeId) (pos : String) (after : Array Edge) (guard : Option (Nat × Bool)) (w : World) (ps : Array (Nat × Operand)) :
    (execOp ρ { dst, op := .build 76 ps, type := ty, pos, after, guard }).run Tryd.prog w = exBuild Tryd.prog 76 (ps.map fun p => (p.1, ρ p.2)) w := x_build ..
theorem xb_pr2 (w : World) (ps : Array (Nat × Value)) (hc : Cont (([(0, 32), (32, 32)] : List (Nat × Nat)).toArray[·]?) 0 ps.toList) (hz : (catP ps.toList).size = 64) :
    exBuild Tryd.prog 76 ps w = .ok (.value (.agg (catP ps.toList))) w := by
  unfold exBuild; rw [run_build_cat w 76 ps _ _ bp_pr2 hc (by rw [bz_pr2]; exact hz)]; rfl

theorem fill_one (place : Nat → Option (Nat × Nat)) (i : Nat) (v : Value) (done old rest : Array Value) (r : List (Nat × Value)) (hp : place i = some (done.size, v.cells.size)) (ho : old.size = v.cells.size) :
    Instr.fill place (done ++ old ++ rest) ((i, v) :: r) = Instr.fill place (done ++ v.cells ++ rest) r := by
  have hf : v.cells.zipIdx.foldl (fun cs (x : Value × Nat) => cs.setIfInBounds (done.size + x.2) x.1) (done ++ old ++ rest) = done ++ v.cells ++ rest := by
    have := fold_put v.cells.toList done.toList (old ++ rest).toList done.size 0 (by simp) (by simp) (by simp; omega)
    simp only [List.take_zero, List.nil_append, Nat.zero_add] at this
    rw [← Array.foldl_toList, Array.toList_zipIdx]
    have e : (done ++ old ++ rest) = (done.toList ++ (old ++ rest).toList).toArray := by simp
    rw [e]
    refine this.trans ?_
    apply Array.toList_inj.1
    simp [← ho]
  conv => lhs; unfold Instr.fill
  rw [hp]
  simp only [ne_eq, not_true_eq_false, Bool.or_eq_true, decide_eq_true_eq]
  rw [if_neg (by simp; omega), hf]
theorem xb_bun3 (w : World) (X Y : L8) (h : Bool) (hX : X.length = 32) (hY : Y.length = 32) : exBuild Tryd.prog 30 #[(0, .agg (cs U8 X)), (1, .agg (cs U8 Y)), (3, .bool h)] w = .ok (.value (.agg (BR X Y (zs 32) h))) w := by
  unfold exBuild
  rw [run_build w 30 _ (BR X Y (zs 32) h) ?_]
  · rfl
  rw [bp_bun, show (((Tryd.prog.info? 30).bind (·.zero)).getD undef).cells = #[] ++ cs U8 (zs 32) ++ (cs U8 (zs 32) ++ (cs U8 (zs 32) ++ #[.bool false])) by kernel_rfl]
  show Instr.fill _ _ [(0, Value.agg (cs U8 X)), (1, Value.agg (cs U8 Y)), (3, Value.bool h)] = _
  rw [fill_one _ 0 _ #[] _ _ _ (by simp [Value.cells, hX]) (by simp [Value.cells, hX, zs]),
    show #[] ++ (Value.agg (cs U8 X)).cells ++ (cs U8 (zs 32) ++ (cs U8 (zs 32) ++ #[.bool false])) = cs U8 X ++ cs U8 (zs 32) ++ (cs U8 (zs 32) ++ #[.bool false]) by simp [Value.cells],
    fill_one _ 1 _ (cs U8 X) _ _ _ (by simp [Value.cells, hX, hY]) (by simp [Value.cells, hY, zs]),
    show cs U8 X ++ (Value.agg (cs U8 Y)).cells ++ (cs U8 (zs 32) ++ #[.bool false]) = (cs U8 X ++ (cs U8 Y ++ cs U8 (zs 32))) ++ #[.bool false] ++ #[] by simp [Value.cells],
    fill_one _ 3 _ (cs U8 X ++ (cs U8 Y ++ cs U8 (zs 32))) _ _ _ (by simp [Value.cells, hX, hY, zs]) (by simp [Value.cells])]
  simp [Instr.fill, BR, Value.cells, cs_append]
theorem xb_sec4 (w : World) (L P O : L8) (h : Bool) (hL : L.length = 32) (hP : P.length = 32) (hO : O.length = 32) : exBuild Tryd.prog 35 #[(0, .agg (cs U8 L)), (1, .agg (cs U8 P)), (2, .agg (cs U8 O)), (3, .bool h)] w = .ok (.value (.agg (BR L P O h))) w := by
  rw [xb_sec w _ (by simp [Cont, Value.cells, hL, hP, hO]) (by simp [catP, Value.cells, hL, hP, hO])]
  simp [catP, Value.cells, BR, cs_append]
theorem xb_prs (w : World) (a b : L8) (ha : a.length = 32) (hb : b.length = 32) : exBuild Tryd.prog 76 #[(0, .agg (cs U8 a)), (1, .agg (cs U8 b))] w = .ok (.value (.agg (cs U8 (a ++ b)))) w := by
  rw [xb_pr2 w _ (by simp [Cont, Value.cells, ha, hb]) (by simp [catP, Value.cells, ha, hb])]
  simp [catP, Value.cells, cs_append]
theorem pub_v (w : World) (a X : L8) (ha : a.length = 32) (hX : X = Su.pub a) :
    Calls Tryd.prog 20 #[.agg (cs U8 a)] w fun e w' => e = .returned (.agg (cs U8 X)) ∧ Below w.heap.size w w' := by
  rw [hX]; exact public_c w a ha
theorem shr_ok (w : World) (a b X : L8) (ha : a.length = 32) (hb : b.length = 32) (hne : shv a b ≠ 0) (hX : X = K (shv a b)) :
    Calls Tryd.prog 49 #[.agg (cs U8 a), .agg (cs U8 b)] w fun e w' => e = .returned (.tuple #[.agg (cs U8 X), .int .i64 0]) ∧ Below w.heap.size w w' := by
  have h := shared_c w a b ha hb
  rw [show ec (shv a b) = 0 from if_neg hne] at h
  rw [hX]; exact h
theorem shr_bad (w : World) (a b : L8) (ha : a.length = 32) (hb : b.length = 32) (hne : shv a b = 0) :
    Calls Tryd.prog 49 #[.agg (cs U8 a), .agg (cs U8 b)] w fun e w' => e = .returned (.tuple #[.agg (cs U8 (zs 32)), .int .i64 7]) ∧ Below w.heap.size w w' := by
  have h := shared_c w a b ha hb
  rw [show ec (shv a b) = 7 from if_pos hne, hne, K_zero] at h
  exact h
theorem ext_v {w0 w : World} {v0 v1 : Value} {k m D : L8} (hD : D = Sh.mac k m) (hT : KT w0 ∧ 0 < w0.heap.size) (hb : Below w0.heap.size w0 w) (h0 : BS w v0 k) (h1 : BS w v1 m) (hkl : k.length ≤ 1073741000) (hml : m.length ≤ 1073741000) :
    Calls Tryd.prog 51 #[v0, v1] w fun e w' => e = .returned (.agg (cs U8 D)) ∧ Below w.heap.size w w' := by
  rw [hD]; exact extract_any w v0 v1 k m (hT.1.below hb hT.2) (Nat.lt_of_lt_of_le hT.2 hb.size) h0 h1 hkl hml
theorem derS_v {w0 w : World} {l D : L8} (hD : D = Sh.derive l Su.setupB) (hT : KT w0 ∧ 0 < w0.heap.size) (hb : Below w0.heap.size w0 w) (hl : l.length = 32) :
    Calls Tryd.prog 50 #[.agg (cs U8 l), .string ⟨#[115, 101, 116, 117, 112]⟩] w fun e w' => e = .returned (.agg (cs U8 D)) ∧ Below w.heap.size w w' := by
  rw [hD]; exact derive_any w l Su.setupB (hT.1.below hb hT.2) (Nat.lt_of_lt_of_le hT.2 hb.size) hl (by decide)
/-- a bundle of secrets -/
noncomputable def Su.once (O : L8) (h : Bool) : L8 := if h then Su.pub O else zs 32
attribute [local irreducible] BR Su.pub
set_option maxRecDepth 100000 in
set_option maxHeartbeats 2000000 in
theorem show_c (w : World) (L P O X Y Z : L8) (h : Bool) (hL : L.length = 32) (hP : P.length = 32) (hO : O.length = 32) (eX : X = Su.pub L) (eY : Y = Su.pub P) (eZ : Z = Su.once O h) :
    Calls Tryd.prog 15 #[.agg (BR L P O h)] w fun e w' => e = .returned (.agg (BR X Y Z h)) ∧ Below w.heap.size w w' := by
  have hX : X.length = 32 := by rw [eX]; exact pub_len _
  have hY : Y.length = 32 := by rw [eY]; exact pub_len _
  have hZ : Z.length = 32 := by rw [eZ]; unfold Su.once; split; exact pub_len _; rfl
  have HX := hid eX
  have HY := hid eY
  cases h
  · obtain rfl : Z = zs 32 := eZ
    clear eX eY
    have M0 := Mm.start no w
    go_enter Tryd.func15, Tryd.ntmps15
    have M2 := ((M0.alloc (BR L P O false) 35 (by decide)).alloc (BR (zs 32) (zs 32) (zs 32) false) 30 (by decide))
    try simp only [World.size_alloc] at M2
    go_upto_region 1 with fail
    obtain ⟨w1, hw1⟩ : ∃ w1, w1 = ((w.alloc (.cells (BR L P O false) 35)).alloc (.cells (BR (zs 32) (zs 32) (zs 32) false) 30)) := ⟨_, rfl⟩
    rw [← hw1] at M2 ⊢
    clear hw1
    refine wp_region_seq 10 [4, 5, 6, 7, 8, 9, 10, 11, 12, 3] [] [] [] (.op 10 .done) (Mm no w _) (by kernel_rfl) (by kernel_rfl) (by kernel_rfl) (fun d _ _ _ _ h => by cases d <;> exact h) (by rfl) M2.size (fun _ _ h k => h.sf k) M2 ?_
    simp only [List.take_succ_cons, List.take_zero]
    refine SeqA.pure (.pointer (some ⟨w.heap.size, 0, none⟩)) (fun w' => by go_simp) rfl rfl ?_
    refine SeqA.ldm Tryd.underlying23 rfl inf_key (w.heap.size) 0 (BR L P O false) (cs U8 L) rfl (by go_simp) (fun _ M => M.row (by simp)) (by simp [BR_size, hL, hP, hO, hX, hY, hZ]) (br_0 (by simp [BR_size, hL, hP, hO, hX, hY, hZ]) (by simp [BR_size, hL, hP, hO, hX, hY, hZ]) (by simp [BR_size, hL, hP, hO, hX, hY, hZ])) rfl ?_
    refine SeqA.call _ _ _ (fun w' => by go_simp) (fun w' hI _ => pub_v w' L X hL HX.out) M2.size rfl rfl ?_
    refine SeqA.pure (.pointer (some ⟨w.heap.size, 32, none⟩)) (fun w' => by go_simp) rfl rfl ?_
    refine SeqA.ldm Tryd.underlying23 rfl inf_key (w.heap.size) 32 (BR L P O false) (cs U8 P) rfl (by go_simp) (fun _ M => M.row (by simp)) (by simp [BR_size, hL, hP, hO, hX, hY, hZ]) (br_32 (by simp [BR_size, hL, hP, hO, hX, hY, hZ]) (by simp [BR_size, hL, hP, hO, hX, hY, hZ]) (by simp [BR_size, hL, hP, hO, hX, hY, hZ])) rfl ?_
    simp only [Act.put, List.setIfInBounds_toArray, List.set_cons_succ, List.set_cons_zero]
    refine SeqA.call _ _ _ (fun w' => by go_simp) (fun w' hI _ => pub_v w' P Y hP HY.out) M2.size rfl rfl ?_
    refine SeqA.pure (.pointer (some ⟨w.heap.size, 96, none⟩)) (fun w' => by go_simp) rfl rfl ?_
    refine SeqA.read (.bool false) (fun w' M => by have c0 := br_96 (by simp [BR_size, hL, hP, hO, hX, hY, hZ]) (by simp [BR_size, hL, hP, hO, hX, hY, hZ]) (by simp [BR_size, hL, hP, hO, hX, hY, hZ]) (M.row (b := w.heap.size) (c := BR L P O false) (by simp)); go_simp) rfl rfl ?_
    refine SeqA.pure (.agg (BR X Y (zs 32) false)) (fun w' => by have q := xb_bun3 w' X Y false hX hY; go_simp) rfl rfl ?_
    refine SeqA.var (z := .agg (BR (zs 32) (zs 32) (zs 32) false)) (by kernel_rfl) rfl rfl (by decide) rfl ?_
    refine SeqA.nil (fun w3 M4 hz => ?_)
    refine news_one (fun b5 hb1 hb2 hb3 => ?_)
    have M6 := M2.in_ (c := BR (zs 32) (zs 32) (zs 32) false) M4 hb1 hb2 (by decide) hb3 rfl
    show wpT _ _ _ _ _ _
    simp only [Act.put, List.setIfInBounds_toArray, List.set_cons_succ, List.set_cons_zero]
    refine wpT_st0 M6 0 (BR X Y (zs 32) false) inf_bun rfl rfl rfl rfl (by go_simp) (by go_simp) (by simp [BR_size, hL, hP, hO, hX, hY, hZ]) (by simp [BR_size, hL, hP, hO, hX, hY, hZ]) (by simp [go_sem]) rfl (fun w7 M8 => ?_)
    dsimp only [List.set] at M8
    dsimp only [wpT]
    go_upto_region 2 with fail
    refine wp_region_lin (.op 0 (.op 1 .done)) (by rfl) ?_
    refine wpT_valp 13 (v := .pointer (some ⟨w.heap.size, 96, none⟩)) rfl rfl rfl (by go_simp) ?_
    refine wpT_valp 14 (v := .bool false) rfl rfl rfl (by have c0 := br_96 (by simp [BR_size, hL, hP, hO, hX, hY, hZ]) (by simp [BR_size, hL, hP, hO, hX, hY, hZ]) (by simp [BR_size, hL, hP, hO, hX, hY, hZ]) (M8.row (b := w.heap.size) (c := BR L P O false) (by simp)); go_simp) ?_
    dsimp only [wpT]
    try simp only [Act.put, List.setIfInBounds_toArray, List.set_cons_succ, List.set_cons_zero]
    go_upto_region 4 with fail
    refine wp_region_lin (.op 0 (.op 1 .done)) (by rfl) ?_
    refine wpT_ld0 19 Tryd.underlying30 rfl inf_bun (b5) (BR X Y (zs 32) false) rfl rfl rfl (by go_simp) (M8.row (by simp)) (by simp [BR_size, hL, hP, hO, hX, hY, hZ]) rfl ?_
    refine wpT_st0 M8 1 (BR X Y (zs 32) false) inf_bun rfl rfl rfl rfl (by go_simp) (by go_simp) (by simp [BR_size, hL, hP, hO, hX, hY, hZ]) (by simp [BR_size, hL, hP, hO, hX, hY, hZ]) (by simp [go_sem]) rfl (fun w9 M10 => ?_)
    dsimp only [List.set] at M10
    dsimp only [wpT]
    try simp only [Act.put, List.setIfInBounds_toArray, List.set_cons_succ, List.set_cons_zero]
    go_wp2_with fail
    have r11 := M10.row (b := w.heap.size + 1) (c := BR X Y (zs 32) false) (by simp)
    refine bodyPost_ret (res_row (b := w.heap.size + 1) rfl Tryd.underlying30 rfl inf_bun _ _ rfl (by rw [r11]; simp [BR_size, hL, hP, hO, hX, hY, hZ])) rfl ?_
    rw [r11]
    exact ⟨rfl, M10.end_⟩
  · have HZ : Hid (Z = Su.pub O) := hid eZ
    clear eX eY eZ
    have M0 := Mm.start no w
    go_enter Tryd.func15, Tryd.ntmps15
    have M2 := ((M0.alloc (BR L P O true) 35 (by decide)).alloc (BR (zs 32) (zs 32) (zs 32) false) 30 (by decide))
    try simp only [World.size_alloc] at M2
    go_upto_region 1 with fail
    obtain ⟨w1, hw1⟩ : ∃ w1, w1 = ((w.alloc (.cells (BR L P O true) 35)).alloc (.cells (BR (zs 32) (zs 32) (zs 32) false) 30)) := ⟨_, rfl⟩
    rw [← hw1] at M2 ⊢
    clear hw1
    refine wp_region_seq 10 [4, 5, 6, 7, 8, 9, 10, 11, 12, 3] [] [] [] (.op 10 .done) (Mm no w _) (by kernel_rfl) (by kernel_rfl) (by kernel_rfl) (fun d _ _ _ _ h => by cases d <;> exact h) (by rfl) M2.size (fun _ _ h k => h.sf k) M2 ?_
    simp only [List.take_succ_cons, List.take_zero]
    refine SeqA.pure (.pointer (some ⟨w.heap.size, 0, none⟩)) (fun w' => by go_simp) rfl rfl ?_
    refine SeqA.ldm Tryd.underlying23 rfl inf_key (w.heap.size) 0 (BR L P O true) (cs U8 L) rfl (by go_simp) (fun _ M => M.row (by simp)) (by simp [BR_size, hL, hP, hO, hX, hY, hZ]) (br_0 (by simp [BR_size, hL, hP, hO, hX, hY, hZ]) (by simp [BR_size, hL, hP, hO, hX, hY, hZ]) (by simp [BR_size, hL, hP, hO, hX, hY, hZ])) rfl ?_
    refine SeqA.call _ _ _ (fun w' => by go_simp) (fun w' hI _ => pub_v w' L X hL HX.out) M2.size rfl rfl ?_
    refine SeqA.pure (.pointer (some ⟨w.heap.size, 32, none⟩)) (fun w' => by go_simp) rfl rfl ?_
    refine SeqA.ldm Tryd.underlying23 rfl inf_key (w.heap.size) 32 (BR L P O true) (cs U8 P) rfl (by go_simp) (fun _ M => M.row (by simp)) (by simp [BR_size, hL, hP, hO, hX, hY, hZ]) (br_32 (by simp [BR_size, hL, hP, hO, hX, hY, hZ]) (by simp [BR_size, hL, hP, hO, hX, hY, hZ]) (by simp [BR_size, hL, hP, hO, hX, hY, hZ])) rfl ?_
    simp only [Act.put, List.setIfInBounds_toArray, List.set_cons_succ, List.set_cons_zero]
    refine SeqA.call _ _ _ (fun w' => by go_simp) (fun w' hI _ => pub_v w' P Y hP HY.out) M2.size rfl rfl ?_
    refine SeqA.pure (.pointer (some ⟨w.heap.size, 96, none⟩)) (fun w' => by go_simp) rfl rfl ?_
    refine SeqA.read (.bool true) (fun w' M => by have c0 := br_96 (by simp [BR_size, hL, hP, hO, hX, hY, hZ]) (by simp [BR_size, hL, hP, hO, hX, hY, hZ]) (by simp [BR_size, hL, hP, hO, hX, hY, hZ]) (M.row (b := w.heap.size) (c := BR L P O true) (by simp)); go_simp) rfl rfl ?_
    refine SeqA.pure (.agg (BR X Y (zs 32) true)) (fun w' => by have q := xb_bun3 w' X Y true hX hY; go_simp) rfl rfl ?_
    refine SeqA.var (z := .agg (BR (zs 32) (zs 32) (zs 32) false)) (by kernel_rfl) rfl rfl (by decide) rfl ?_
    refine SeqA.nil (fun w3 M4 hz => ?_)
    refine news_one (fun b5 hb1 hb2 hb3 => ?_)
    have M6 := M2.in_ (c := BR (zs 32) (zs 32) (zs 32) false) M4 hb1 hb2 (by decide) hb3 rfl
    show wpT _ _ _ _ _ _
    simp only [Act.put, List.setIfInBounds_toArray, List.set_cons_succ, List.set_cons_zero]
    refine wpT_st0 M6 0 (BR X Y (zs 32) true) inf_bun rfl rfl rfl rfl (by go_simp) (by go_simp) (by simp [BR_size, hL, hP, hO, hX, hY, hZ]) (by simp [BR_size, hL, hP, hO, hX, hY, hZ]) (by simp [go_sem]) rfl (fun w7 M8 => ?_)
    dsimp only [List.set] at M8
    dsimp only [wpT]
    go_upto_region 2 with fail
    refine wp_region_lin (.op 0 (.op 1 .done)) (by rfl) ?_
    refine wpT_valp 13 (v := .pointer (some ⟨w.heap.size, 96, none⟩)) rfl rfl rfl (by go_simp) ?_
    refine wpT_valp 14 (v := .bool true) rfl rfl rfl (by have c0 := br_96 (by simp [BR_size, hL, hP, hO, hX, hY, hZ]) (by simp [BR_size, hL, hP, hO, hX, hY, hZ]) (by simp [BR_size, hL, hP, hO, hX, hY, hZ]) (M8.row (b := w.heap.size) (c := BR L P O true) (by simp)); go_simp) ?_
    dsimp only [wpT]
    try simp only [Act.put, List.setIfInBounds_toArray, List.set_cons_succ, List.set_cons_zero]
    go_upto_region 3 with fail
    refine wp_region_lin (.op 0 (.op 1 (.op 2 (.op 3 (.op 4 .done))))) (by rfl) ?_
    refine wpT_valp 15 (v := .pointer (some ⟨w.heap.size, 64, none⟩)) rfl rfl rfl (by go_simp) ?_
    refine wpT_ldm 16 Tryd.underlying23 rfl inf_key (w.heap.size) 64 (BR L P O true) (cs U8 O) rfl rfl rfl (by go_simp) (M8.row (by simp)) (by simp [BR_size, hL, hP, hO, hX, hY, hZ]) (br_64 (by simp [BR_size, hL, hP, hO, hX, hY, hZ]) (by simp [BR_size, hL, hP, hO, hX, hY, hZ]) (by simp [BR_size, hL, hP, hO, hX, hY, hZ])) rfl ?_
    refine wpT_callv 17 M8 (v := .agg (cs U8 Z)) rfl rfl rfl (by go_simp) (pub_v w7 O Z hO HZ.out) (fun w9 M10 => ?_)
    refine wpT_valp 18 (v := .pointer (some ⟨b5, 64, none⟩)) rfl rfl rfl (by go_simp) ?_
    try simp only [Act.put, List.setIfInBounds_toArray, List.set_cons_succ, List.set_cons_zero]
    refine wpT_stm (off := 64) M10 0 (cs U8 Z) (BR X Y Z true) inf_key rfl rfl rfl rfl (by go_simp) (by go_simp) (by simp [BR_size, hL, hP, hO, hX, hY, hZ]) (by simp [BR_size, hL, hP, hO, hX, hY, hZ]) (by simp [go_sem]) (br_put (by simp [BR_size, hL, hP, hO, hX, hY, hZ]) (by simp [BR_size, hL, hP, hO, hX, hY, hZ]) (by simp [BR_size, hL, hP, hO, hX, hY, hZ]) (by simp [BR_size, hL, hP, hO, hX, hY, hZ])) rfl (fun w11 M12 => ?_)
    dsimp only [List.set] at M12
    dsimp only [wpT]
    try simp only [Act.put, List.setIfInBounds_toArray, List.set_cons_succ, List.set_cons_zero]
    go_upto_region 4 with fail
    refine wp_region_lin (.op 0 (.op 1 .done)) (by rfl) ?_
    refine wpT_ld0 19 Tryd.underlying30 rfl inf_bun (b5) (BR X Y Z true) rfl rfl rfl (by go_simp) (M12.row (by simp)) (by simp [BR_size, hL, hP, hO, hX, hY, hZ]) rfl ?_
    refine wpT_st0 M12 1 (BR X Y Z true) inf_bun rfl rfl rfl rfl (by go_simp) (by go_simp) (by simp [BR_size, hL, hP, hO, hX, hY, hZ]) (by simp [BR_size, hL, hP, hO, hX, hY, hZ]) (by simp [go_sem]) rfl (fun w13 M14 => ?_)
    dsimp only [List.set] at M14
    dsimp only [wpT]
    try simp only [Act.put, List.setIfInBounds_toArray, List.set_cons_succ, List.set_cons_zero]
    go_wp2_with fail
    have r15 := M14.row (b := w.heap.size + 1) (c := BR X Y Z true) (by simp)
    refine bodyPost_ret (res_row (b := w.heap.size + 1) rfl Tryd.underlying30 rfl inf_bun _ _ rfl (by rw [r15]; simp [BR_size, hL, hP, hO, hX, hY, hZ])) rfl ?_
    rw [r15]
    exact ⟨rfl, M14.end_⟩
end Go.Proofs.YtgclegdgngldoaaDoor
