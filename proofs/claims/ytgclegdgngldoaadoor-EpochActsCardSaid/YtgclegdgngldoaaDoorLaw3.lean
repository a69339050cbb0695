/-
  Law 03: the package is alive; own work.
  Law 03: ShaSplit; own work.
  Law 03: ShaOwn; own work.
  Strings of bytes, keys as slices, tags; own work.
-/
import Derived.Test.YtgclegdgngldoaaDoorRefe
import Derived.Test.YtgclegdgngldoaaDoorHash
import Derived.Lib.QuietBelow
import Derived.Lib.SlBytesConst
import Derived.Test.YtgclegdgngldoaaDoorApp
import Derived.Deep.RegionHeldLaw
import Derived.Lib.ConvBytes
import Derived.Laws.BytesString
import Derived.Laws.Cover3
set_option linter.unusedSimpArgs false
set_option linter.unusedVariables false
namespace Go.Proofs.YtgclegdgngldoaaDoor
open Go.RowKit

@[go_sem] theorem conv_lit (w : World) (C : Array Value) (n c : Nat) :
    (convert 89 89 (.slice (some ⟨w.heap.size, 0, none⟩) n c)).run Tryd.prog (w.alloc (.cells C 5)) = .ok (.slice (some ⟨w.heap.size, 0, none⟩) n c) (w.alloc (.cells C 5 (C.size, C.size + 1))) :=
  Go.Lib.run_convert_bytes_const w _ _ C n c Tryd.underlying89 Tryd.underlying5
theorem sumD {w : World} {b : Nat} {l D : List (BitVec 8)} {rv : Value} (hD : D = Sh.sum l) (hK : KT w) (hb0 : 0 < b) (h : HS w b l rv) (hn : l.length ≤ 1073741824) :
    Calls Tryd.prog 89 #[.pointer (some ⟨b, 0, none⟩)] w fun e w' => e = .returned (.agg (cs U8 D)) ∧ Below w.heap.size w w' := by
  rw [hD]; exact sumS hK hb0 h hn
/-- what stands below the hash stands -/
theorem hs_below {w w' : World} {b B : Nat} {l : List (BitVec 8)} {rv : Value} (h : HS w b l rv) (hf : Fr (fun k => k = b ∨ some k = rv.ownBlock) w w') (hB : B ≤ b) : Below B w w' :=
  hf.below B (by have := h.lt; omega) (fun k _ hk => by
    rcases hk with hk | hk
    · omega
    · have := h.rvge _ hk.symm; omega)
end Go.Proofs.YtgclegdgngldoaaDoor
set_option linter.unusedSimpArgs false
set_option linter.unusedVariables false
namespace Go.Proofs.YtgclegdgngldoaaDoor
open Go.RowKit

end Go.Proofs.YtgclegdgngldoaaDoor
set_option linter.unusedSimpArgs false
set_option linter.unusedVariables false
namespace Go.Proofs.YtgclegdgngldoaaDoor
open Go.RowKit

theorem zero_lit : (#[.int .u8 0, .int .u8 0, .int .u8 0, .int .u8 0, .int .u8 0, .int .u8 0, .int .u8 0, .int .u8 0, .int .u8 0, .int .u8 0, .int .u8 0, .int .u8 0, .int .u8 0, .int .u8 0, .int .u8 0, .int .u8 0, .int .u8 0, .int .u8 0, .int .u8 0, .int .u8 0, .int .u8 0, .int .u8 0, .int .u8 0, .int .u8 0, .int .u8 0, .int .u8 0, .int .u8 0, .int .u8 0, .int .u8 0, .int .u8 0, .int .u8 0, .int .u8 0] : Array Value) = cs U8 (zs 32) := rfl
@[go_sem] theorem eqin_zero (w : World) (a : List (BitVec 8)) (ha : a.length = 32) : (Op.equalIn 10000 23 (.agg (cs U8 a)) (.agg #[.int .u8 0, .int .u8 0, .int .u8 0, .int .u8 0, .int .u8 0, .int .u8 0, .int .u8 0, .int .u8 0, .int .u8 0, .int .u8 0, .int .u8 0, .int .u8 0, .int .u8 0, .int .u8 0, .int .u8 0, .int .u8 0, .int .u8 0, .int .u8 0, .int .u8 0, .int .u8 0, .int .u8 0, .int .u8 0, .int .u8 0, .int .u8 0, .int .u8 0, .int .u8 0, .int .u8 0, .int .u8 0, .int .u8 0, .int .u8 0, .int .u8 0, .int .u8 0])).run Tryd.prog w = .ok (a == zs 32) w := by
  rw [zero_lit]; exact eqin_key w a (zs 32) ha (by simp [zs])
theorem OB.set {w : World} {base g n cap : Nat} {l : List (BitVec 8)} (h : OB w base (.slice (some ⟨g, 0, none⟩) n cap) l) (hn : l.length = n) (i : Nat) (hi : i < n) (x : BitVec 8) :
    w.free g = true ∧ i < (w.rowOf g).size ∧ OB (w.setRow g ((w.rowOf g).setIfInBounds i (U8 x))) base (.slice (some ⟨g, 0, none⟩) n cap) (l.set i x) := by
  subst hn
  rcases h.2 with ⟨h1, h2⟩ | ⟨g', cap', cur, hv, hb, hg, hc, hm, hs, ht⟩
  · cases h1
  · cases hv
    have hr : w.rowOf g = cur := by simp [World.rowOf, hg]
    refine ⟨by simp [World.free, hg], by rw [hr, hs]; omega, by simp [h.1], .inr ⟨g, cap, cur.setIfInBounds i (U8 x), by simp, hb, ?_, by simpa using hc, hm, by simp [hs], ?_⟩⟩
    · rw [hr]; exact heap_setRow_same hg
    · rw [Array.toList_setIfInBounds, List.map_set, ← ht]
      simp only [List.length_set]
      rw [List.take_set]
/-! a hash that no call made -/
/-- nil, or a hash whose first cell is false -/
def Bad (w : World) (p : Option Addr) : Prop := p = none ∨ ∃ b, p = some ⟨b, 0, none⟩ ∧ w.cell? ⟨b, 0, none⟩ = some (.bool false)
theorem Bad.below {w w' : World} {p : Option Addr} {B : Nat} (h : Bad w p) (hb : Below B w w') (hp : ∀ b, p = some ⟨b, 0, none⟩ → b < B) : Bad w' p := by
  rcases h with rfl | ⟨b, rfl, hc⟩
  · exact .inl rfl
  · exact .inr ⟨b, rfl, (hb.cell (p := ⟨b, 0, none⟩) (hp b rfl)).trans hc⟩
theorem Bad.lt {w : World} {p : Option Addr} (h : Bad w p) (b : Nat) (hp : p = some ⟨b, 0, none⟩) : b < w.heap.size := by
  rcases h with rfl | ⟨b', rfl, hc⟩
  · cases hp
  · injection hp with hp; injection hp with hp; subst hp; exact block_lt_of_cell hc
end Go.Proofs.YtgclegdgngldoaaDoor
set_option linter.unusedSimpArgs false
set_option linter.unusedVariables false
namespace Go.Proofs.YtgclegdgngldoaaDoor
open Go.RowKit

@[go_sem] theorem arr_key (w : World) (a : Option Addr) (n c : Nat) (h : 32 ≤ n) : (Instr.arrayAt 23 (.slice a n c)).run Tryd.prog w = .ok (.pointer a) w := run_arrayAt _ _ 5 32 a n c Tryd.underlying23 h
theorem BS.below {w w' : World} {v : Value} {l : List (BitVec 8)} (h : BS w v l) (hb : Below w.heap.size w w') : BS w' v l := SV.below h hb
/-- the string of bytes -/
def Bs (l : List (BitVec 8)) : ByteArray := ⟨(l.map UInt8.ofBitVec).toArray⟩
def Sv (l : List (BitVec 8)) : Value := .string (Bs l)
end Go.Proofs.YtgclegdgngldoaaDoor
