/-
  Two arrays of 32 bytes, compared; own work.
-/
import Derived.Test.YtojkcbhmhfjioaaBytes
import Derived.Stop.BytesEq
set_option linter.unusedSimpArgs false
set_option linter.unusedVariables false
namespace Go.Proofs.Ytojkcbhmhfjioaa
open Go.RowKit
/-! two arrays of bytes, compared -/
open Extern.Stop (cell) in
theorem cs8_cell (l : List (BitVec 8)) : cs U8 l = ((l.map UInt8.ofBitVec).map cell).toArray := by
  unfold cs; rw [List.map_map]; rfl
theorem map_u8_beq (a b : List (BitVec 8)) : (a.map UInt8.ofBitVec == b.map UInt8.ofBitVec) = (a == b) := by
  rw [Bool.eq_iff_iff, beq_iff_eq, beq_iff_eq]
  exact List.map_inj_right (fun x y h => by injection h)
theorem eqin_key (w : World) (a b : List (BitVec 8)) (ha : a.length = 32) (hb : b.length = 32) : (Op.equalIn 10000 28 (.agg (cs U8 a)) (.agg (cs U8 b))).run Try.prog w = .ok (a == b) w := by
  rw [cs8_cell, cs8_cell, run_equalIn_bytes w 9998 28 5 32 Try.underlying28 Try.underlying5 (fun w => by kernel_rfl) _ _ (by simpa using ha) (by simpa using hb), map_u8_beq]
end Go.Proofs.Ytojkcbhmhfjioaa
