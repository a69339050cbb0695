/-
  Strings of bytes, keys as slices, tags; own work.
-/
import Derived.Test.YtbigmnhjnjeeaaaDoorLaw3d
import Derived.Lib.ConvBytes
import Derived.Laws.BytesString
import Derived.Laws.Cover3
set_option linter.unusedSimpArgs false
set_option linter.unusedVariables false
namespace Go.Proofs.YtbigmnhjnjeeaaaDoor
open Go.RowKit

theorem inf_tag : (Tryd.prog.info? 40).map (·.size) = some 16 := by kernel_rfl
section
variable (ρ : Operand → Value) (dst : Option Tmp) (ty : TypeId) (pos : String) (after : Array Edge) (guard : Option (Nat × Bool)) (w : World)
@[go_sem ↓] theorem rl_tag (x : Operand) : (execOp ρ { dst, op := .load 40 x, type := ty, pos, after, guard }).run Tryd.prog w = exLoad Tryd.prog 40 (ρ x) w := x_load ..
@[go_sem ↓] theorem rs_tag (x y : Operand) : (execOp ρ { dst, op := .store 40 x y, type := ty, pos, after, guard }).run Tryd.prog w = exStore Tryd.prog 40 (ρ x) (ρ y) w := x_store ..
@[go_sem ↓] theorem ra_tag : (execOp ρ { dst, op := .alloc 40, type := ty, pos, after, guard }).run Tryd.prog w = .ok (.value (.pointer (some ⟨w.heap.size, 0, none⟩))) (w.alloc (.cells (cs U8 (zs 16)) 40)) :=
  (x_alloc ..).trans (x_alloc0 (v := .agg (cs U8 (zs 16))) _ (by kernel_rfl))
@[go_sem] theorem xl_tag (b : Nat) (h : (w.rowOf b).size = 16) : exLoad Tryd.prog 40 (.pointer (some ⟨b, 0, none⟩)) w = .ok (.value (.agg (w.rowOf b))) w := x_load0 _ Tryd.underlying40 rfl inf_tag b h
@[go_sem] theorem xlm_tag (b o : Nat) (ho : 0 < o) (h : o + 16 ≤ (w.rowOf b).size) : exLoad Tryd.prog 40 (.pointer (some ⟨b, o, none⟩)) w = .ok (.value (.agg ((w.rowOf b).extract o (o + 16)))) w := x_loadm _ Tryd.underlying40 rfl inf_tag b o h
@[go_sem] theorem xs_tag (b : Nat) (c : Array Value) (hl : c.size = 16) (h1 : ones c = true) (h : (w.rowOf b).size = 16) (hf : w.free b = true) : exStore Tryd.prog 40 (.pointer (some ⟨b, 0, none⟩)) (.agg c) w = .ok .skip (w.setRow b c) :=
  x_store0 _ inf_tag b c hl h hf (ones_all h1)
@[go_sem] theorem xsm_tag (b o : Nat) (ho : 0 < o) (c : Array Value) (hl : c.size = 16) (h1 : ones c = true) (h : o + 16 ≤ (w.rowOf b).size) (hf : w.free b = true) : exStore Tryd.prog 40 (.pointer (some ⟨b, o, none⟩)) (.agg c) w = .ok .skip (w.setSeg b o c) :=
  x_storem _ inf_tag b o c hl h hf (ones_all h1)
end
/-- at a step: a store, and a variable made -/
theorem wps_tag {a : Act} {w : World} {K : Act → World → Prop} {Q : Exit → Act → World → Prop} {o : Oper} (p x : Operand) (ho : o.op = .store 40 p x) (b : Nat) (c : Array Value) (hp : a.eval p = .pointer (some ⟨b, 0, none⟩)) (hx : a.eval x = .agg c)
    (hl : c.size = 16) (h1 : ones c = true) (h : (w.rowOf b).size = 16) (hf : w.free b = true) (hK : K (a.put o.dst undef) (w.setRow b c)) : o.wp Tryd.prog a w K Q := by
  obtain ⟨dst, op, ty, pos, after, guard⟩ := o
  subst ho
  unfold Oper.wp
  rw [rs_tag, hp, hx, xs_tag _ _ _ hl h1 h hf]
  simp only [Oper.upon]
  exact hK
theorem wpa_tag {a : Act} {w : World} {K : Act → World → Prop} {Q : Exit → Act → World → Prop} {o : Oper} (ho : o.op = .alloc 40)
    (hK : K (a.put o.dst (.pointer (some ⟨w.heap.size, 0, none⟩))) (w.alloc (.cells (cs U8 (zs 16)) 40))) : o.wp Tryd.prog a w K Q := by
  obtain ⟨dst, op, ty, pos, after, guard⟩ := o
  subst ho
  unfold Oper.wp
  rw [ra_tag]
  simp only [Oper.upon]
  exact hK

@[go_sem] theorem arr_key (w : World) (a : Option Addr) (n c : Nat) (h : 32 ≤ n) : (Instr.arrayAt 23 (.slice a n c)).run Tryd.prog w = .ok (.pointer a) w := run_arrayAt _ _ 5 32 a n c Tryd.underlying23 h
@[go_sem] theorem arr_tag (w : World) (a : Option Addr) (n c : Nat) (h : 16 ≤ n) : (Instr.arrayAt 40 (.slice a n c)).run Tryd.prog w = .ok (.pointer a) w := run_arrayAt _ _ 5 16 a n c Tryd.underlying40 h
theorem BS.below {w w' : World} {v : Value} {l : List (BitVec 8)} (h : BS w v l) (hb : Below w.heap.size w w') : BS w' v l := SV.below h hb
/-- the string of bytes -/
def Bs (l : List (BitVec 8)) : ByteArray := ⟨(l.map UInt8.ofBitVec).toArray⟩
def Sv (l : List (BitVec 8)) : Value := .string (Bs l)
theorem Bs_size (l : List (BitVec 8)) : (Bs l).size = l.length := by
  show (l.map UInt8.ofBitVec).toArray.size = _; simp
theorem Bs_inj {a b : List (BitVec 8)} : Bs a = Bs b ↔ a = b := by
  constructor
  · intro h
    injection h with h
    have h2 : a.map UInt8.ofBitVec = b.map UInt8.ofBitVec := by simpa using h
    exact (List.map_inj_right (fun x y h => by injection h)).1 h2
  · intro h; rw [h]
theorem Bs_ex (s : ByteArray) : ∃ l, s = Bs l ∧ l.length = s.size := by
  refine ⟨s.data.toList.map (·.toBitVec), ?_, by simp⟩
  unfold Bs
  rw [List.map_map]
  have : (UInt8.ofBitVec ∘ fun x => x.toBitVec) = id := by funext x; rfl
  rw [this, List.map_id]
theorem Bs_append (a b : List (BitVec 8)) : Bs a ++ Bs b = Bs (a ++ b) := by
  apply ByteArray.ext
  rw [ByteArray.data_append]
  simp [Bs]
theorem str_bytes (w : World) (l : List (BitVec 8)) : ∃ cap w', (convert 9 24 (Sv l)).run Tryd.prog w = .ok (.slice (some ⟨w.heap.size, 0, none⟩) l.length cap) w' ∧ (l.length ≤ maxLen → BS w' (.slice (some ⟨w.heap.size, 0, none⟩) l.length cap) l) ∧ Below w.heap.size w w' ∧ w'.heap.size = w.heap.size + 1 := by
  refine ⟨grownCap w l.length 0 5, Lib.bytesWorld w 5 (Bs l), ?_, ?_, ⟨rfl, rfl, rfl, by rw [Lib.bytesWorld_size]; omega, fun k hk => Lib.bytesWorld_at_old w _ _ k hk⟩, Lib.bytesWorld_size ..⟩
  · have h := Lib.run_convert_string_bytes (P := Tryd.prog) w 9 24 5 (Bs l) Tryd.underlying9 Tryd.underlying24 Tryd.underlying5
    rw [Bs_size] at h
    exact h
  · intro hl
    refine ⟨_, _, rfl, grownCap_ge .., grownCap_le_maxLen _ _ _ _ hl, fun _ => ⟨_, _, rfl, fun i hi => ?_⟩⟩
    have hi' : i < l.length := by simpa using hi
    rw [Nat.zero_add, Lib.bytesWorld_cell w 5 (Bs l) i (by rw [Bs_size]; exact hi'), List.getElem?_map, List.getElem?_eq_getElem hi']
    have e : (Bs l).data.toList = l.map UInt8.ofBitVec := by simp [Bs]
    rw [e, List.getD_eq_getElem?_getD, List.getElem?_map, List.getElem?_eq_getElem hi']
    rfl
theorem bytes_str {w : World} {v : Value} {l : List (BitVec 8)} (h : BS w v l) : (convert 24 9 v).run Tryd.prog w = .ok (Sv l) w := by
  by_cases hl : l = []
  · subst hl
    obtain ⟨a, cap, rfl, _⟩ := h
    rw [run_convert_bytes_string w 24 9 5 a _ cap Tryd.underlying24 Tryd.underlying5 Tryd.underlying9]
    cases a <;> simp [Conv.bytesToString, loadCells] <;> rfl
  · obtain ⟨b, o, cap, rfl, hc, hcl⟩ := h.open hl
    have h2 := run_convert_bytes_back (P := Tryd.prog) w 24 9 5 ⟨b, o, none⟩ cap (l.map UInt8.ofBitVec) Tryd.underlying24 Tryd.underlying5 Tryd.underlying9 (fun j hj => by
      have hj' : j < l.length := by simpa using hj
      rw [Addr.add_mid, hcl j hj', List.getD_eq_getElem?_getD, List.getElem?_eq_getElem hj', List.getElem_map]; rfl)
    rw [List.length_map] at h2
    exact h2
end Go.Proofs.YtbigmnhjnjeeaaaDoor
