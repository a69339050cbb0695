/-
  Walks of package chain, and of reference 17: a step; own work.
  Package chain: a chain in memory; own work.
-/
import Derived.Test.YtocledgjejlolaaDoorLaw4c
import Derived.Test.YtocledgjejlolaaDoorFlow3
import Derived.Test.YtocledgjejlolaaDoorStep
import Derived.Test.YtocledgjejlolaaDoorLin
import Derived.Test.YtocledgjejlolaaDoorEqK
import Derived.Deep.Cut
import Derived.Deep.CutBlock
set_option linter.unusedSimpArgs false
set_option linter.unusedVariables false
namespace Go.Proofs.YtocledgjejlolaaDoor
open Go.RowKit

def Sh.nxB : List (BitVec 8) := [110, 101, 120, 116]
def Sh.msB : List (BitVec 8) := [109, 101, 115, 115, 97, 103, 101]
/-- a chain's next key, and a message's -/
def Sh.nx (l : List (BitVec 8)) : List (BitVec 8) := Sh.derive l Sh.nxB
def Sh.ms (l : List (BitVec 8)) : List (BitVec 8) := Sh.derive l Sh.msB
theorem nx_len (l : List (BitVec 8)) : (Sh.nx l).length = 32 := derive_len ..
theorem ms_len (l : List (BitVec 8)) : (Sh.ms l).length = 32 := derive_len ..
theorem derNx {w : World} {l D : List (BitVec 8)} (hD : D = Sh.nx l) (hT : KT w) (hk0 : 0 < w.heap.size) (hl : l.length = 32) :
    Calls Tryd.prog 28 #[.agg (cs U8 l), .string ⟨#[110, 101, 120, 116]⟩] w fun e w' => e = .returned (.agg (cs U8 D)) ∧ Below w.heap.size w w' :=
  deriveB (lab := Sh.nxB) hD hT hk0 hl (by decide)
theorem derMs {w : World} {l D : List (BitVec 8)} (hD : D = Sh.ms l) (hT : KT w) (hk0 : 0 < w.heap.size) (hl : l.length = 32) :
    Calls Tryd.prog 28 #[.agg (cs U8 l), .string ⟨#[109, 101, 115, 115, 97, 103, 101]⟩] w fun e w' => e = .returned (.agg (cs U8 D)) ∧ Below w.heap.size w w' :=
  deriveB (lab := Sh.msB) hD hT hk0 hl (by decide)
theorem rderNx {w : World} {l D : List (BitVec 8)} (hD : D = Sh.nx l) (hl : l.length = 32) :
    Calls Tryd.prog 29 #[.agg (cs U8 l), .string ⟨#[110, 101, 120, 116]⟩] w fun e w' => e = .returned (.agg (cs U8 D)) ∧ Below w.heap.size w w' :=
  rderiveB (lab := Sh.nxB) hD hl (by decide)
theorem rderMs {w : World} {l D : List (BitVec 8)} (hD : D = Sh.ms l) (hl : l.length = 32) :
    Calls Tryd.prog 29 #[.agg (cs U8 l), .string ⟨#[109, 101, 115, 115, 97, 103, 101]⟩] w fun e w' => e = .returned (.agg (cs U8 D)) ∧ Below w.heap.size w w' :=
  rderiveB (lab := Sh.msB) hD hl (by decide)
set_option maxRecDepth 100000 in
set_option maxHeartbeats 2000000 in
theorem step_any (w : World) (l : List (BitVec 8)) (hT : KT w) (hk0 : 0 < w.heap.size) (hl : l.length = 32) :
    Calls Tryd.prog 40 #[.agg (cs U8 l)] w fun e w' => e = .returned (.tuple #[.agg (cs U8 (Sh.nx l)), .agg (cs U8 (Sh.ms l))]) ∧ Below w.heap.size w w' := by
  obtain ⟨X, hX⟩ : ∃ X, X = Sh.nx l := ⟨_, rfl⟩
  obtain ⟨Y, hY⟩ : ∃ Y, Y = Sh.ms l := ⟨_, rfl⟩
  have hXl : X.length = 32 := by rw [hX]; exact nx_len l
  have hYl : Y.length = 32 := by rw [hY]; exact ms_len l
  rw [← hX, ← hY]
  have HXE := hid hX; have HYE := hid hY
  obtain ⟨w1, hw1⟩ : ∃ w1, w1 = ((w.alloc (.cells (cs U8 l) 25)).alloc (.cells (cs U8 (zs 32)) 25)).alloc (.cells (cs U8 (zs 32)) 25) := ⟨_, rfl⟩
  have hB1 : Below w.heap.size w w1 := by rw [hw1]; exact (((Below.refl _ _).alloc (Nat.le_refl _) _).alloc (by simp) _).alloc (by simp; omega) _
  have hz1 : w1.heap.size = w.heap.size + 3 := by rw [hw1]; simp
  have hr0 : w1.rowOf w.heap.size = cs U8 l := by rw [hw1]; simp [go_sem]
  have hr1 : w1.rowOf (w.heap.size + 1) = cs U8 (zs 32) ∧ w1.free (w.heap.size + 1) = true := by rw [hw1]; simp [go_sem]
  have hr2 : w1.rowOf (w.heap.size + 2) = cs U8 (zs 32) ∧ w1.free (w.heap.size + 2) = true := by rw [hw1]; simp [go_sem]
  have HL := hid hl; have HXL := hid hXl; have HYL := hid hYl; have HW1 := hid hw1; have HB1 := hid hB1
  have HR : Hid (∀ wc, Below w1.heap.size w1 wc → wc.rowOf w.heap.size = cs U8 l) := hid fun wc h => (below_row h (by omega)).trans hr0
  have HR1 : Hid (∀ wc, Below w1.heap.size w1 wc → wc.rowOf (w.heap.size + 1) = cs U8 (zs 32) ∧ wc.free (w.heap.size + 1) = true) := hid fun wc h => ⟨(below_row h (by omega)).trans hr1.1, (below_free h (by omega)).trans hr1.2⟩
  have HR2 : Hid (∀ wc, Below w1.heap.size w1 wc → wc.rowOf (w.heap.size + 2) = cs U8 (zs 32) ∧ wc.free (w.heap.size + 2) = true) := hid fun wc h => ⟨(below_row h (by omega)).trans hr2.1, (below_free h (by omega)).trans hr2.2⟩
  have HX : Hid (∀ wc, Below w1.heap.size w1 wc → Calls Tryd.prog 28 #[.agg (cs U8 l), .string ⟨#[110, 101, 120, 116]⟩] wc fun e w' => e = .returned (.agg (cs U8 X)) ∧ Below wc.heap.size wc w') := hid fun wc h =>
    derNx HXE.out (hT.below (hB1.trans (h.mono (by omega))) hk0) (by have := h.size; omega) HL.out
  have HY : Hid (∀ wc, Below w1.heap.size w1 wc → Calls Tryd.prog 28 #[.agg (cs U8 l), .string ⟨#[109, 101, 115, 115, 97, 103, 101]⟩] wc fun e w' => e = .returned (.agg (cs U8 Y)) ∧ Below wc.heap.size wc w') := hid fun wc h =>
    derMs HYE.out (hT.below (hB1.trans (h.mono (by omega))) hk0) (by have := h.size; omega) HL.out
  clear hX hY hXl hYl hB1 hr0 hr1 hr2 hw1 hl hT
  go_enter Tryd.func40, Tryd.ntmps40
  go_wp2_with fail
  rw [← HW1.out]
  refine wp_region_flowG 4 (4 :: 5 :: 6 :: 7 :: []) (Sp.eq (.agg (cs U8 l)) :: Sp.eq (.agg (cs U8 X)) :: Sp.eq (.agg (cs U8 l)) :: Sp.eq (.agg (cs U8 Y)) :: []) [] (.op 4 (.op 5 .done)) (by kernel_rfl) (by kernel_rfl) (by kernel_rfl) (by kernel_rfl) (fun d _ _ _ _ h => by cases d <;> exact h) (by rfl) ?_ ?_
  · refine ⟨stepF_mk trivial (fun ρ f w' hc hfn hgl hi ho hb hd => ?_), stepF_mk trivial (fun ρ f w' hc hfn hgl hi ho hb hd => ?_), stepF_mk trivial (fun ρ f w' hc hfn hgl hi ho hb hd => ?_), stepF_mk trivial (fun ρ f w' hc hfn hgl hi ho hb hd => ?_), trivial⟩
    · -- 0: slot 4 := Op.load 25 (Operand.tmp 1)
      obtain ⟨-⟩ : True := hd
      have e1 : ρ (.tmp 1) = .pointer (some ⟨w.heap.size, 0, none⟩) := ho 1 (by decide)
      have r0 := HR.out w' hb
      have hl := HL.out
      exact Gives.pure (.agg (cs U8 l)) (by go_simp) ⟨soft_refl _, hb, rfl, fun h => nomatch h⟩
    · -- 1: slot 5 := Op.call { callee := Callee.value (Operand.func 28), args := #[Operand.tmp 4, Operand.const (Value.st
      obtain ⟨h4, -⟩ : (f 4 = .agg (cs U8 l)) ∧ True := hd
      have e4 : ρ (.tmp 4) = .agg (cs U8 l) := (hi 4 (by decide)).trans h4
      have e0 := hfn
      refine Gives.call _ _ (by go_simp) ((HX.out w' hb).mono ?_)
      rintro e w'' ⟨rfl, hb2⟩
      exact ⟨_, rfl, .of hb2, hb.trans (hb2.mono hb.size), rfl, fun h => nomatch h⟩
    · -- 2: slot 6 := Op.load 25 (Operand.tmp 1)
      obtain ⟨-⟩ : True := hd
      have e1 : ρ (.tmp 1) = .pointer (some ⟨w.heap.size, 0, none⟩) := ho 1 (by decide)
      have r0 := HR.out w' hb
      have hl := HL.out
      exact Gives.pure (.agg (cs U8 l)) (by go_simp) ⟨soft_refl _, hb, rfl, fun h => nomatch h⟩
    · -- 3: slot 7 := Op.call { callee := Callee.value (Operand.func 28), args := #[Operand.tmp 6, Operand.const (Value.st
      obtain ⟨h6, -, -⟩ : (f 6 = .agg (cs U8 l)) ∧ (f 5 = .agg (cs U8 X)) ∧ True := hd
      have e6 : ρ (.tmp 6) = .agg (cs U8 l) := (hi 6 (by decide)).trans h6
      have e0 := hfn
      refine Gives.call _ _ (by go_simp) ((HY.out w' hb).mono ?_)
      rintro e w'' ⟨rfl, hb2⟩
      exact ⟨_, rfl, .of hb2, hb.trans (hb2.mono hb.size), rfl, fun h => nomatch h⟩
  · intro f wq hb hT hD
    have h4 : f 4 = .agg (cs U8 l) := hT.1
    replace hT := hT.2
    have h5 : f 5 = .agg (cs U8 X) := hT.1
    replace hT := hT.2
    have h6 : f 6 = .agg (cs U8 l) := hT.1
    replace hT := hT.2
    have h7 : f 7 = .agg (cs U8 Y) := hT.1
    replace hT := hT.2
    show wpT _ _ _ _ _ _
    refine wpT_step rfl rfl (fun K hK => ?_)
    simp only [updL]
    obtain ⟨ra, fa⟩ := HR1.out wq hb
    obtain ⟨rb, fb⟩ := HR2.out wq hb
    have hXl := HXL.out
    have hYl := HYL.out
    refine wps_key (.tmp 2) (.tmp 5) rfl (w.heap.size + 1) (cs U8 X) (by go_simp) (by go_simp) (by simp [hXl]) (by simp [go_sem]) (by rw [ra]; simp) fa (hK _ _ (wpT_step rfl rfl (fun K hK => ?_)))
    refine wps_key (.tmp 3) (.tmp 7) rfl (w.heap.size + 1 + 1) (cs U8 Y) (by go_simp) (by go_simp) (by simp [hYl]) (by simp [go_sem]) (by rw [rowOf_setRow_other _ _ (by omega), rb]; simp) (by rw [free_setRow]; exact fb) (hK _ _ ?_)
    dsimp only [wpT]
    go_wp2_with fail
    obtain ⟨wz, hwz⟩ : ∃ wz, wz = (wq.setRow (w.heap.size + 1) (cs U8 X)).setRow (w.heap.size + 1 + 1) (cs U8 Y) := ⟨_, rfl⟩
    have z1 : wz.rowOf (w.heap.size + 1) = cs U8 X := by rw [hwz, rowOf_setRow_other _ _ (by omega), rowOf_setRow_same _ fa]
    have z2 : wz.rowOf (w.heap.size + 1 + 1) = cs U8 Y := by rw [hwz, rowOf_setRow_same _ (by rw [free_setRow]; exact fb)]
    have hbz : Below w.heap.size w wz := by rw [hwz]; exact below_setRow' (below_setRow' (HB1.out.trans (hb.mono (by omega))) (by omega) _) (by omega) _
    rw [← hwz]
    refine bodyPost_ret (res_two rfl (rv_row Tryd.underlying25 rfl inf_key (w.heap.size + 1) rfl (by rw [z1]; simp [hXl])) (rv_row Tryd.underlying25 rfl inf_key (w.heap.size + 1 + 1) rfl (by rw [z2]; simp [hYl]))) rfl ?_
    rw [z1, z2]
    exact ⟨rfl, hbz⟩
set_option maxRecDepth 100000 in
set_option maxHeartbeats 400000 in
theorem good_chain (w : World) (b : Nat) (x : Bool) (h : w.cell? ⟨b, 0, none⟩ = some (.bool x)) :
    Calls Tryd.prog 58 #[.pointer (some ⟨b, 0, none⟩)] w fun e w' => e = .returned (.bool x) ∧ w = w' := by
  cases x
  · go_enter Tryd.func58, Tryd.ntmps58
    go_wp2_with fail
    go_ret
    exact ⟨rfl, rfl⟩
  · go_enter Tryd.func58, Tryd.ntmps58
    go_wp2_with fail
    go_ret
    exact ⟨rfl, rfl⟩
set_option maxHeartbeats 400000 in
theorem cgood_nil (w : World) :
    Calls Tryd.prog 58 #[.pointer none] w fun e w' => e = .returned (.bool false) ∧ w = w' := by
  go_enter Tryd.func58, Tryd.ntmps58
  go_wp2_with fail
  go_ret
  exact ⟨rfl, rfl⟩
set_option maxHeartbeats 400000 in
theorem new_bad (w : World) (l : List (BitVec 8)) (n : Int) (hn : n < 0 ∨ 65535 < n) :
    Calls Tryd.prog 42 #[.agg (cs U8 l), .int .i64 n] w fun e w' => e = .returned (.pointer none) ∧ Below w.heap.size w w' := by
  by_cases h0 : n < 0
  · go_enter Tryd.func42, Tryd.ntmps42
    go_wp2_with fail
    go_ret
    exact ⟨rfl, (Below.refl _ _).alloc (Nat.le_refl _) _⟩
  · have h1 : 65535 < n := by omega
    go_enter Tryd.func42, Tryd.ntmps42
    go_wp2_with fail
    go_ret
    exact ⟨rfl, (Below.refl _ _).alloc (Nat.le_refl _) _⟩
end Go.Proofs.YtocledgjejlolaaDoor
set_option linter.unusedSimpArgs false
set_option linter.unusedVariables false
namespace Go.Proofs.YtocledgjejlolaaDoor
open Go.RowKit

theorem bp_chain (l : List (Nat × Value)) : Tryd.prog.built 84 l = Instr.fill (([(0, 1), (1, 32), (33, 1)] : List (Nat × Nat)).toArray[·]?) (((Tryd.prog.info? 84).bind (·.zero)).getD undef).cells l := by kernel_rfl
theorem bz_chain : (((Tryd.prog.info? 84).bind (·.zero)).getD undef).cells.size = 34 := by kernel_rfl
@[go_sem ↓] theorem rb_chain (ρ : Operand → Value) (dst : Option Tmp) (ty : TypeId) (pos : String) (after : Array Edge) (guard : Option (Nat × Bool)) (w : World) (ps : Array (Nat × Operand)) :
    (execOp ρ { dst, op := .build 84 ps, type := ty, pos, after, guard }).run Tryd.prog w = exBuild Tryd.prog 84 (ps.map fun p => (p.1, ρ p.2)) w := x_build ..
theorem xb_chain (w : World) (ps : Array (Nat × Value)) (hc : Cont (([(0, 1), (1, 32), (33, 1)] : List (Nat × Nat)).toArray[·]?) 0 ps.toList) (hz : (catP ps.toList).size = 34) :
    exBuild Tryd.prog 84 ps w = .ok (.value (.agg (catP ps.toList))) w := by
  unfold exBuild; rw [run_build_cat w 84 ps _ _ bp_chain hc (by rw [bz_chain]; exact hz)]; rfl

/-- a chain's cells -/
def CR (l : List (BitVec 8)) (n : Int) : Array Value := #[.bool true] ++ cs U8 l ++ #[.int .i64 n]
section
variable {l m : List (BitVec 8)} {n : Int}
theorem cr_size (hl : l.length = 32) : (CR l n).size = 34 := by simp [CR, hl]
theorem cr_0 (hl : l.length = 32) : (CR l n)[0]? = some (.bool true) := by
  unfold CR
  rw [Array.getElem?_append_left (by simp; omega), Array.getElem?_append_left (by simp)]; rfl
theorem cr_33 (hl : l.length = 32) : (CR l n)[33]? = some (.int .i64 n) := by
  unfold CR
  rw [Array.getElem?_append_right (by simp [hl])]
  simp [hl]
theorem cr_key (hl : l.length = 32) : (CR l n).extract 1 33 = cs U8 l := by
  unfold CR
  apply Array.ext'
  simp [cs, hl, List.extract_eq_take_drop]
theorem cr_setKey (hl : l.length = 32) (hm : m.length = 32) : (CR l n).extract 0 1 ++ cs U8 m ++ (CR l n).extract (1 + (cs U8 m).size) (CR l n).size = CR m n := by
  rw [cr_size hl]
  unfold CR
  apply Array.ext'
  simp [cs, hl, hm, List.extract_eq_take_drop]
theorem cr_setN (k : Int) (hl : l.length = 32) : (CR l n).setIfInBounds 33 (.int .i64 k) = CR l k := by
  unfold CR
  apply Array.ext'
  simp [cs, hl]
theorem cr_setN0 (l : List (BitVec 8)) (n k : Int) (hl : l.length = 32) : (CR l n).setIfInBounds 33 (.int .i64 k) = CR l k := cr_setN k hl
theorem cr_ones : ones (CR l n) = true := by
  unfold CR; rw [ones_append, ones_append, ones_8]; rfl
end
@[go_sem] theorem xb_chain3 (w : World) (l : List (BitVec 8)) (n : Int) (hl : l.length = 32) : exBuild Tryd.prog 84 #[(0, .bool true), (1, .agg (cs U8 l)), (2, .int .i64 n)] w = .ok (.value (.agg (CR l n))) w := by
  rw [xb_chain w _ (by simp [Cont, Value.cells, hl]) (by simp [catP, Value.cells, hl])]
  unfold CR
  simp [catP, Value.cells]

/-- the cells of a chain's row -/
theorem crow_0 {w : World} {b : Nat} {l : List (BitVec 8)} {n : Int} (hl : l.length = 32) (h : w.rowOf b = CR l n) : w.cell? ⟨b, 0, none⟩ = some (.bool true) := by rw [cell_rowOf, h]; exact cr_0 hl
theorem crow_33 {w : World} {b : Nat} {l : List (BitVec 8)} {n : Int} (hl : l.length = 32) (h : w.rowOf b = CR l n) : w.cell? ⟨b, 33, none⟩ = some (.int .i64 n) := by rw [cell_rowOf, h]; exact cr_33 hl
end Go.Proofs.YtocledgjejlolaaDoor
