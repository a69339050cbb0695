/-
  Law 03: the package is alive; own work.
  Law 03: ShaSplit; own work.
  Law 03: ShaOwn; own work.
  Strings of bytes, keys as slices, tags; own work.
-/
import Derived.Test.YtgclegdgngldoaaDoorRefe
import Derived.Test.YtgclegdgngldoaaDoorHash
import Derived.Lib.QuietBelow
import Derived.Lib.SlBytesConst
import Derived.Test.YtgclegdgngldoaaDoorApp
import Derived.Deep.RegionHeldLaw
import Derived.Lib.ConvBytes
import Derived.Laws.BytesString
import Derived.Laws.Cover3
set_option linter.unusedSimpArgs false
set_option linter.unusedVariables false
namespace Go.Proofs.YtgclegdgngldoaaDoor
open Go.RowKit

theorem sum_abc : Sh.sum [97, 98, 99] = (Sh.compress Sh.init (Sh.finish [97, 98, 99] 3)).bytes := by
  unfold Sh.sum Sh.digest
  have h : (Sh.finish [97, 98, 99] 3).length = 64 := by rw [Sh.finish_len]; rfl
  rw [show ([97, 98, 99] : List Sh.B).length = 3 from rfl, Sh.absorb_ge (by omega), List.take_of_length_le (by omega), List.drop_eq_nil_of_le (by omega), absorb_done]
set_option maxRecDepth 100000 in
theorem sum_abc_0 : (Sh.sum [97, 98, 99]).getD 0 0 = 186 := by
  rw [sum_abc]; kernel_rfl
set_option maxRecDepth 100000 in
theorem sum_abc_31 : (Sh.sum [97, 98, 99]).getD 31 0 = 173 := by
  rw [sum_abc]; kernel_rfl

theorem BS.litf (w : World) (l : List (BitVec 8)) (c : Array Value) (hc : c = cs U8 l) (n : Nat) (hn : n = l.length) (hm : l.length ≤ maxLen) (T : TypeId) (fz : Nat × Nat) : BS (w.alloc (.cells c T fz)) (.slice (some ⟨w.heap.size, 0, none⟩) n n) l := by
  subst hc; subst hn
  refine ⟨_, l.length, rfl, Nat.le_refl _, hm, fun _ => ⟨w.heap.size, 0, rfl, fun i hi => ?_⟩⟩
  have hr : (w.alloc (.cells (cs U8 l) T fz)).rowOf w.heap.size = cs U8 l := rowOf_eq (T := T) (fz := fz) (by show (w.heap.push _)[w.heap.size]? = _; simp)
  rw [cell_rowOf, hr]; simp [cs]
@[go_sem] theorem conv_lit (w : World) (C : Array Value) (n c : Nat) :
    (convert 89 89 (.slice (some ⟨w.heap.size, 0, none⟩) n c)).run Tryd.prog (w.alloc (.cells C 5)) = .ok (.slice (some ⟨w.heap.size, 0, none⟩) n c) (w.alloc (.cells C 5 (C.size, C.size + 1))) :=
  Go.Lib.run_convert_bytes_const w _ _ C n c Tryd.underlying89 Tryd.underlying5
theorem sumD {w : World} {b : Nat} {l D : List (BitVec 8)} {rv : Value} (hD : D = Sh.sum l) (hK : KT w) (hb0 : 0 < b) (h : HS w b l rv) (hn : l.length ≤ 1073741824) :
    Calls Tryd.prog 89 #[.pointer (some ⟨b, 0, none⟩)] w fun e w' => e = .returned (.agg (cs U8 D)) ∧ Below w.heap.size w w' := by
  rw [hD]; exact sumS hK hb0 h hn
/-- a literal, written -/
theorem writeLit {w : World} {b : Nat} {l : List (BitVec 8)} {rv : Value} (m : List (BitVec 8)) (c : Array Value) (n : Nat) (fz : Nat × Nat) (hK : KT w) (hb0 : 0 < b) (h : HS w b l rv) (hc : c = cs U8 m) (hm : n = m.length) (hn : l.length + m.length ≤ 1073741824) :
    Calls Tryd.prog 87 #[.pointer (some ⟨b, 0, none⟩), .slice (some ⟨w.heap.size, 0, none⟩) n n] (w.alloc (.cells c 5 fz)) fun e w' => e = .returned (.int .i64 0) ∧ ∃ rv', HS w' b (l ++ m) rv' ∧ KT w' ∧
      Fr (fun k => k = b ∨ some k = rv.ownBlock) w w' ∧ (∀ g, rv'.ownBlock = some g → w.heap.size ≤ g) := by
  have hb := h.lt
  have ha : Below w.heap.size w (w.alloc (.cells c 5 fz)) := (Below.refl _ _).alloc (Nat.le_refl _) _
  refine (writeS (.slice (some ⟨w.heap.size, 0, none⟩) n n) m (hK.below ha (by omega)) hb0 (h.below ha) (BS.litf w m c hc n hm (by unfold maxLen; omega) _ _) (.inr (by intro e; injection e with e; dsimp only at e; omega)) hn).mono ?_
  rintro e w' ⟨rfl, rv', h1, h2, h3⟩
  have hf : Fr (fun k => k = b ∨ some k = rv.ownBlock) w w' := (Fr.of_below ha).trans (h2.mono fun k _ hk => .inl hk)
  refine ⟨rfl, rv', h1, hK.fr (by omega) hf (fun hk => ?_), hf, fun g hg => by have := h3 g hg; have := ha.size; omega⟩
  rcases hk with hk | hk
  · omega
  · have := h.rvge _ hk.symm; omega
/-- what stands below the hash stands -/
theorem hs_below {w w' : World} {b B : Nat} {l : List (BitVec 8)} {rv : Value} (h : HS w b l rv) (hf : Fr (fun k => k = b ∨ some k = rv.ownBlock) w w') (hB : B ≤ b) : Below B w w' :=
  hf.below B (by have := h.lt; omega) (fun k _ hk => by
    rcases hk with hk | hk
    · omega
    · have := h.rvge _ hk.symm; omega)
end Go.Proofs.YtgclegdgngldoaaDoor
set_option linter.unusedSimpArgs false
set_option linter.unusedVariables false
namespace Go.Proofs.YtgclegdgngldoaaDoor
open Go.RowKit

theorem BS.headn {w : World} {a : Option Addr} {n cap : Nat} {l : List (BitVec 8)} (h : BS w (.slice a n cap) l) (hn : l.length = n) (k c : Nat) (hk : k ≤ n) (hc : k ≤ c) (hm : c ≤ cap) :
    BS w (.slice a k c) (l.take k) := by subst hn; exact h.head k c hk hc hm
theorem BS.tail0 {w : World} {a : Option Addr} {n cap : Nat} {l : List (BitVec 8)} (h : BS w (.slice a n cap) l) (hn : l.length = n) (k : Nat) (hk : n ≤ k) : BS w (.slice a (n - k) 0) (l.drop k) := by
  have e : l.drop k = [] := List.drop_eq_nil_of_le (by omega)
  rw [e, show n - k = 0 by omega]
  exact ⟨a, 0, rfl, Nat.le_refl _, Nat.zero_le _, fun h => absurd rfl h⟩
theorem BS.tailm {w : World} {a : Option Addr} {n cap : Nat} {l : List (BitVec 8)} (h : BS w (.slice a n cap) l) (hn : l.length = n) (k : Nat) (hk : k ≤ n) : BS w (.slice (Option.map (fun x => x.add k) a) (n - k) (cap - k)) (l.drop k) := by
  subst hn
  by_cases hl : l = []
  · subst hl
    obtain ⟨_, c, e, h1, h2, _⟩ := h
    injection e with e1 e2 e3
    subst e3
    simp only [List.length_nil, Nat.zero_sub, List.drop_nil]
    exact ⟨_, cap - k, rfl, Nat.zero_le _, by omega, fun h => absurd rfl h⟩
  · obtain ⟨b, o, c, e, h1, _⟩ := h.open hl
    injection e with e1 e2 e3
    subst e1
    exact h.tail k hk _ (fun _ => by simp [Addr.add])
end Go.Proofs.YtgclegdgngldoaaDoor
set_option linter.unusedSimpArgs false
set_option linter.unusedVariables false
namespace Go.Proofs.YtgclegdgngldoaaDoor
open Go.RowKit

theorem zero_lit : (#[.int .u8 0, .int .u8 0, .int .u8 0, .int .u8 0, .int .u8 0, .int .u8 0, .int .u8 0, .int .u8 0, .int .u8 0, .int .u8 0, .int .u8 0, .int .u8 0, .int .u8 0, .int .u8 0, .int .u8 0, .int .u8 0, .int .u8 0, .int .u8 0, .int .u8 0, .int .u8 0, .int .u8 0, .int .u8 0, .int .u8 0, .int .u8 0, .int .u8 0, .int .u8 0, .int .u8 0, .int .u8 0, .int .u8 0, .int .u8 0, .int .u8 0, .int .u8 0] : Array Value) = cs U8 (zs 32) := rfl
@[go_sem] theorem eqin_zero (w : World) (a : List (BitVec 8)) (ha : a.length = 32) : (Op.equalIn 10000 23 (.agg (cs U8 a)) (.agg #[.int .u8 0, .int .u8 0, .int .u8 0, .int .u8 0, .int .u8 0, .int .u8 0, .int .u8 0, .int .u8 0, .int .u8 0, .int .u8 0, .int .u8 0, .int .u8 0, .int .u8 0, .int .u8 0, .int .u8 0, .int .u8 0, .int .u8 0, .int .u8 0, .int .u8 0, .int .u8 0, .int .u8 0, .int .u8 0, .int .u8 0, .int .u8 0, .int .u8 0, .int .u8 0, .int .u8 0, .int .u8 0, .int .u8 0, .int .u8 0, .int .u8 0, .int .u8 0])).run Tryd.prog w = .ok (a == zs 32) w := by
  rw [zero_lit]; exact eqin_key w a (zs 32) ha (by simp [zs])
theorem OB.shape2 {w : World} {base : Nat} {v : Value} {l : List (BitVec 8)} (h : OB w base v l) (n : Nat) (hn : l.length = n) (h0 : 0 < n) : ∃ g cap, v = .slice (some ⟨g, 0, none⟩) n cap ∧ base ≤ g ∧ n ≤ cap := by
  subst hn
  rcases h.2 with ⟨h1, h2⟩ | ⟨g, cap, cur, hv, hb, hg, hc, r⟩
  · rw [h2] at h0; omega
  · exact ⟨g, cap, hv, hb, hc⟩
theorem OB.set {w : World} {base g n cap : Nat} {l : List (BitVec 8)} (h : OB w base (.slice (some ⟨g, 0, none⟩) n cap) l) (hn : l.length = n) (i : Nat) (hi : i < n) (x : BitVec 8) :
    w.free g = true ∧ i < (w.rowOf g).size ∧ OB (w.setRow g ((w.rowOf g).setIfInBounds i (U8 x))) base (.slice (some ⟨g, 0, none⟩) n cap) (l.set i x) := by
  subst hn
  rcases h.2 with ⟨h1, h2⟩ | ⟨g', cap', cur, hv, hb, hg, hc, hm, hs, ht⟩
  · cases h1
  · cases hv
    have hr : w.rowOf g = cur := by simp [World.rowOf, hg]
    refine ⟨by simp [World.free, hg], by rw [hr, hs]; omega, by simp [h.1], .inr ⟨g, cap, cur.setIfInBounds i (U8 x), by simp, hb, ?_, by simpa using hc, hm, by simp [hs], ?_⟩⟩
    · rw [hr]; exact heap_setRow_same hg
    · rw [Array.toList_setIfInBounds, List.map_set, ← ht]
      simp only [List.length_set]
      rw [List.take_set]
/-! a hash that no call made -/
/-- nil, or a hash whose first cell is false -/
def Bad (w : World) (p : Option Addr) : Prop := p = none ∨ ∃ b, p = some ⟨b, 0, none⟩ ∧ w.cell? ⟨b, 0, none⟩ = some (.bool false)
theorem good_bad {w : World} {p : Option Addr} (h : Bad w p) :
    Calls Tryd.prog 104 #[.pointer p] w fun e w' => e = .returned (.bool false) ∧ w = w' := by
  rcases h with rfl | ⟨b, rfl, hc⟩
  · exact good_nil w
  · exact good_no w b hc
set_option maxHeartbeats 400000 in
theorem write_bad {w : World} {p : Option Addr} (v : Value) (h : Bad w p) :
    Calls Tryd.prog 87 #[.pointer p, v] w fun e w' => e = .returned (.int .i64 1) ∧ w = w' := by
  have HB := hid h
  go_enter Tryd.func87, Tryd.ntmps87
  go_wp2_with (go_at_call 104; refine (good_bad HB.out).mono ?_; rintro e w' ⟨rfl, rfl⟩)
  go_ret
  exact ⟨rfl, rfl⟩
theorem Bad.below {w w' : World} {p : Option Addr} {B : Nat} (h : Bad w p) (hb : Below B w w') (hp : ∀ b, p = some ⟨b, 0, none⟩ → b < B) : Bad w' p := by
  rcases h with rfl | ⟨b, rfl, hc⟩
  · exact .inl rfl
  · exact .inr ⟨b, rfl, (hb.cell (p := ⟨b, 0, none⟩) (hp b rfl)).trans hc⟩
theorem Bad.lt {w : World} {p : Option Addr} (h : Bad w p) (b : Nat) (hp : p = some ⟨b, 0, none⟩) : b < w.heap.size := by
  rcases h with rfl | ⟨b', rfl, hc⟩
  · cases hp
  · injection hp with hp; injection hp with hp; subst hp; exact block_lt_of_cell hc
set_option maxHeartbeats 1000000 in
theorem sum_bad {w : World} {p : Option Addr} (h : Bad w p) :
    Calls Tryd.prog 89 #[.pointer p] w fun e w' => e = .returned (.agg (cs U8 (zs 32))) ∧ Below w.heap.size w w' := by
  have hb2 : Bad ((w.alloc (.cells (cs U8 (zs 32)) 23)).alloc (.cells (cs U8 (zs 32)) 23)) p :=
    h.below (B := w.heap.size) (((Below.refl _ _).alloc (Nat.le_refl _) _).alloc (by simp) _) (fun b e => h.lt b e)
  have HB := hid hb2
  clear hb2
  go_enter Tryd.func89, Tryd.ntmps89
  go_wp2_with (go_at_call 104; refine (good_bad HB.out).mono ?_; rintro e w' ⟨rfl, rfl⟩)
  refine bodyPost_ret (res_row (b := w.heap.size) rfl Tryd.underlying23 rfl inf_key _ _ rfl ?_) rfl ?_
  · simp [go_sem, zs]
  · refine ⟨by simp [go_sem], ((Below.refl _ _).alloc (Nat.le_refl _) _).alloc (by simp) _⟩
end Go.Proofs.YtgclegdgngldoaaDoor
set_option linter.unusedSimpArgs false
set_option linter.unusedVariables false
namespace Go.Proofs.YtgclegdgngldoaaDoor
open Go.RowKit

@[go_sem] theorem arr_key (w : World) (a : Option Addr) (n c : Nat) (h : 32 ≤ n) : (Instr.arrayAt 23 (.slice a n c)).run Tryd.prog w = .ok (.pointer a) w := run_arrayAt _ _ 5 32 a n c Tryd.underlying23 h
theorem BS.below {w w' : World} {v : Value} {l : List (BitVec 8)} (h : BS w v l) (hb : Below w.heap.size w w') : BS w' v l := SV.below h hb
/-- the string of bytes -/
def Bs (l : List (BitVec 8)) : ByteArray := ⟨(l.map UInt8.ofBitVec).toArray⟩
def Sv (l : List (BitVec 8)) : Value := .string (Bs l)
theorem Bs_size (l : List (BitVec 8)) : (Bs l).size = l.length := by
  show (l.map UInt8.ofBitVec).toArray.size = _; simp
theorem Bs_inj {a b : List (BitVec 8)} : Bs a = Bs b ↔ a = b := by
  constructor
  · intro h
    injection h with h
    have h2 : a.map UInt8.ofBitVec = b.map UInt8.ofBitVec := by simpa using h
    exact (List.map_inj_right (fun x y h => by injection h)).1 h2
  · intro h; rw [h]
theorem Bs_ex (s : ByteArray) : ∃ l, s = Bs l ∧ l.length = s.size := by
  refine ⟨s.data.toList.map (·.toBitVec), ?_, by simp⟩
  unfold Bs
  rw [List.map_map]
  have : (UInt8.ofBitVec ∘ fun x => x.toBitVec) = id := by funext x; rfl
  rw [this, List.map_id]
theorem Bs_append (a b : List (BitVec 8)) : Bs a ++ Bs b = Bs (a ++ b) := by
  apply ByteArray.ext
  rw [ByteArray.data_append]
  simp [Bs]
theorem str_bytes (w : World) (l : List (BitVec 8)) : ∃ cap w', (convert 9 89 (Sv l)).run Tryd.prog w = .ok (.slice (some ⟨w.heap.size, 0, none⟩) l.length cap) w' ∧ (l.length ≤ maxLen → BS w' (.slice (some ⟨w.heap.size, 0, none⟩) l.length cap) l) ∧ Below w.heap.size w w' ∧ w'.heap.size = w.heap.size + 1 := by
  refine ⟨grownCap w l.length 0 5, Lib.bytesWorld w 5 (Bs l), ?_, ?_, ⟨rfl, rfl, rfl, by rw [Lib.bytesWorld_size]; omega, fun k hk => Lib.bytesWorld_at_old w _ _ k hk⟩, Lib.bytesWorld_size ..⟩
  · have h := Lib.run_convert_string_bytes (P := Tryd.prog) w 9 89 5 (Bs l) Tryd.underlying9 Tryd.underlying89 Tryd.underlying5
    rw [Bs_size] at h
    exact h
  · intro hl
    refine ⟨_, _, rfl, grownCap_ge .., grownCap_le_maxLen _ _ _ _ hl, fun _ => ⟨_, _, rfl, fun i hi => ?_⟩⟩
    have hi' : i < l.length := by simpa using hi
    rw [Nat.zero_add, Lib.bytesWorld_cell w 5 (Bs l) i (by rw [Bs_size]; exact hi'), List.getElem?_map, List.getElem?_eq_getElem hi']
    have e : (Bs l).data.toList = l.map UInt8.ofBitVec := by simp [Bs]
    rw [e, List.getD_eq_getElem?_getD, List.getElem?_map, List.getElem?_eq_getElem hi']
    rfl
theorem bytes_str {w : World} {v : Value} {l : List (BitVec 8)} (h : BS w v l) : (convert 89 9 v).run Tryd.prog w = .ok (Sv l) w := by
  by_cases hl : l = []
  · subst hl
    obtain ⟨a, cap, rfl, _⟩ := h
    rw [run_convert_bytes_string w 89 9 5 a _ cap Tryd.underlying89 Tryd.underlying5 Tryd.underlying9]
    cases a <;> simp [Conv.bytesToString, loadCells] <;> rfl
  · obtain ⟨b, o, cap, rfl, hc, hcl⟩ := h.open hl
    have h2 := run_convert_bytes_back (P := Tryd.prog) w 89 9 5 ⟨b, o, none⟩ cap (l.map UInt8.ofBitVec) Tryd.underlying89 Tryd.underlying5 Tryd.underlying9 (fun j hj => by
      have hj' : j < l.length := by simpa using hj
      rw [Addr.add_mid, hcl j hj', List.getD_eq_getElem?_getD, List.getElem?_eq_getElem hj', List.getElem_map]; rfl)
    rw [List.length_map] at h2
    exact h2
end Go.Proofs.YtgclegdgngldoaaDoor
