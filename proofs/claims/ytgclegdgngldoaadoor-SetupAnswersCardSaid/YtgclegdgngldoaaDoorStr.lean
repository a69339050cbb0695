/-
  Strings of bytes, keys as slices, tags; own work.
-/
import Derived.Test.YtgclegdgngldoaaDoorLaw3d
import Derived.Lib.ConvBytes
import Derived.Laws.BytesString
import Derived.Laws.Cover3
set_option linter.unusedSimpArgs false
set_option linter.unusedVariables false
namespace Go.Proofs.YtgclegdgngldoaaDoor
open Go.RowKit

@[go_sem] theorem arr_key (w : World) (a : Option Addr) (n c : Nat) (h : 32 ≤ n) : (Instr.arrayAt 23 (.slice a n c)).run Tryd.prog w = .ok (.pointer a) w := run_arrayAt _ _ 5 32 a n c Tryd.underlying23 h
theorem BS.below {w w' : World} {v : Value} {l : List (BitVec 8)} (h : BS w v l) (hb : Below w.heap.size w w') : BS w' v l := SV.below h hb
/-- the string of bytes -/
def Bs (l : List (BitVec 8)) : ByteArray := ⟨(l.map UInt8.ofBitVec).toArray⟩
def Sv (l : List (BitVec 8)) : Value := .string (Bs l)
theorem Bs_size (l : List (BitVec 8)) : (Bs l).size = l.length := by
  show (l.map UInt8.ofBitVec).toArray.size = _; simp
theorem Bs_inj {a b : List (BitVec 8)} : Bs a = Bs b ↔ a = b := by
  constructor
  · intro h
    injection h with h
    have h2 : a.map UInt8.ofBitVec = b.map UInt8.ofBitVec := by simpa using h
    exact (List.map_inj_right (fun x y h => by injection h)).1 h2
  · intro h; rw [h]
theorem Bs_ex (s : ByteArray) : ∃ l, s = Bs l ∧ l.length = s.size := by
  refine ⟨s.data.toList.map (·.toBitVec), ?_, by simp⟩
  unfold Bs
  rw [List.map_map]
  have : (UInt8.ofBitVec ∘ fun x => x.toBitVec) = id := by funext x; rfl
  rw [this, List.map_id]
theorem Bs_append (a b : List (BitVec 8)) : Bs a ++ Bs b = Bs (a ++ b) := by
  apply ByteArray.ext
  rw [ByteArray.data_append]
  simp [Bs]
theorem str_bytes (w : World) (l : List (BitVec 8)) : ∃ cap w', (convert 9 89 (Sv l)).run Tryd.prog w = .ok (.slice (some ⟨w.heap.size, 0, none⟩) l.length cap) w' ∧ (l.length ≤ maxLen → BS w' (.slice (some ⟨w.heap.size, 0, none⟩) l.length cap) l) ∧ Below w.heap.size w w' ∧ w'.heap.size = w.heap.size + 1 := by
  refine ⟨grownCap w l.length 0 5, Lib.bytesWorld w 5 (Bs l), ?_, ?_, ⟨rfl, rfl, rfl, by rw [Lib.bytesWorld_size]; omega, fun k hk => Lib.bytesWorld_at_old w _ _ k hk⟩, Lib.bytesWorld_size ..⟩
  · have h := Lib.run_convert_string_bytes (P := Tryd.prog) w 9 89 5 (Bs l) Tryd.underlying9 Tryd.underlying89 Tryd.underlying5
    rw [Bs_size] at h
    exact h
  · intro hl
    refine ⟨_, _, rfl, grownCap_ge .., grownCap_le_maxLen _ _ _ _ hl, fun _ => ⟨_, _, rfl, fun i hi => ?_⟩⟩
    have hi' : i < l.length := by simpa using hi
    rw [Nat.zero_add, Lib.bytesWorld_cell w 5 (Bs l) i (by rw [Bs_size]; exact hi'), List.getElem?_map, List.getElem?_eq_getElem hi']
    have e : (Bs l).data.toList = l.map UInt8.ofBitVec := by simp [Bs]
    rw [e, List.getD_eq_getElem?_getD, List.getElem?_map, List.getElem?_eq_getElem hi']
    rfl
theorem bytes_str {w : World} {v : Value} {l : List (BitVec 8)} (h : BS w v l) : (convert 89 9 v).run Tryd.prog w = .ok (Sv l) w := by
  by_cases hl : l = []
  · subst hl
    obtain ⟨a, cap, rfl, _⟩ := h
    rw [run_convert_bytes_string w 89 9 5 a _ cap Tryd.underlying89 Tryd.underlying5 Tryd.underlying9]
    cases a <;> simp [Conv.bytesToString, loadCells] <;> rfl
  · obtain ⟨b, o, cap, rfl, hc, hcl⟩ := h.open hl
    have h2 := run_convert_bytes_back (P := Tryd.prog) w 89 9 5 ⟨b, o, none⟩ cap (l.map UInt8.ofBitVec) Tryd.underlying89 Tryd.underlying5 Tryd.underlying9 (fun j hj => by
      have hj' : j < l.length := by simpa using hj
      rw [Addr.add_mid, hcl j hj', List.getD_eq_getElem?_getD, List.getElem?_eq_getElem hj', List.getElem_map]; rfl)
    rw [List.length_map] at h2
    exact h2
end Go.Proofs.YtgclegdgngldoaaDoor
