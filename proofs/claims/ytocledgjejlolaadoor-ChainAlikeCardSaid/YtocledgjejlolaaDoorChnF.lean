/-
  Law 17: keys that are reckoned; own work.
-/
import Derived.Test.YtocledgjejlolaaDoorChnC
set_option linter.unusedSimpArgs false
set_option linter.unusedVariables false
namespace Go.Proofs.YtocledgjejlolaaDoor
open Go.RowKit
def k1 : List (BitVec 8) := 1#8 :: zs 31
theorem k1_len : k1.length = 32 := by decide
theorem xb_k1 (w : World) : exBuild Tryd.prog 25 #[(0, .int .u8 1)] w = .ok (.value (.agg (cs U8 k1))) w := xb_key1 w
theorem k1_ab : Sh.ms k1 ≠ Sh.ms (Sh.nx k1) := by decide +kernel
theorem k1_cb : Sh.ms (Sh.nx (Sh.nx k1)) ≠ Sh.ms (Sh.nx k1) := by decide +kernel
theorem nxk_0 (l : List (BitVec 8)) : Sh.nxk l 0 = l := rfl
theorem nxk_1 (l : List (BitVec 8)) : Sh.nxk l 1 = Sh.nx l := rfl
theorem nxk_2 (l : List (BitVec 8)) : Sh.nxk l 2 = Sh.nx (Sh.nx l) := rfl
theorem KC.fr {S : Nat → Prop} {w w' : World} {b o : Nat} {k : List (BitVec 8)} (h : KC w b o k) (hf : Fr S w w') (hS : ¬ S b) : KC w' b o k := by
  refine ⟨h.1, fun j hj => ?_⟩
  rw [← h.2 j hj]
  have h0 := h.2 j hj
  rw [cell_rowOf] at h0
  exact World.cell?_of_block (a := ⟨b, o + j, none⟩) (hf.block b (row_lt (Array.getElem?_eq_some_iff.1 h0).1) hS)
end Go.Proofs.YtocledgjejlolaaDoor
