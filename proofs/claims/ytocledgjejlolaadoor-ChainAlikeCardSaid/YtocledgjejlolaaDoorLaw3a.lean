/-
  Law 03: the package is alive; own work.
-/
import Derived.Test.YtocledgjejlolaaDoorRefe
import Derived.Test.YtocledgjejlolaaDoorHash
import Derived.Lib.QuietBelow
import Derived.Lib.SlBytesConst
set_option linter.unusedSimpArgs false
set_option linter.unusedVariables false
namespace Go.Proofs.YtocledgjejlolaaDoor
open Go.RowKit

theorem sum_abc : Sh.sum [97, 98, 99] = (Sh.compress Sh.init (Sh.finish [97, 98, 99] 3)).bytes := by
  unfold Sh.sum Sh.digest
  have h : (Sh.finish [97, 98, 99] 3).length = 64 := by rw [Sh.finish_len]; rfl
  rw [show ([97, 98, 99] : List Sh.B).length = 3 from rfl, Sh.absorb_ge (by omega), List.take_of_length_le (by omega), List.drop_eq_nil_of_le (by omega), absorb_done]
set_option maxRecDepth 100000 in
theorem sum_abc_0 : (Sh.sum [97, 98, 99]).getD 0 0 = 186 := by
  rw [sum_abc]; kernel_rfl
set_option maxRecDepth 100000 in
theorem sum_abc_31 : (Sh.sum [97, 98, 99]).getD 31 0 = 173 := by
  rw [sum_abc]; kernel_rfl

theorem BS.litf (w : World) (l : List (BitVec 8)) (c : Array Value) (hc : c = cs U8 l) (n : Nat) (hn : n = l.length) (hm : l.length ≤ maxLen) (T : TypeId) (fz : Nat × Nat) : BS (w.alloc (.cells c T fz)) (.slice (some ⟨w.heap.size, 0, none⟩) n n) l := by
  subst hc; subst hn
  refine ⟨_, l.length, rfl, Nat.le_refl _, hm, fun _ => ⟨w.heap.size, 0, rfl, fun i hi => ?_⟩⟩
  have hr : (w.alloc (.cells (cs U8 l) T fz)).rowOf w.heap.size = cs U8 l := rowOf_eq (T := T) (fz := fz) (by show (w.heap.push _)[w.heap.size]? = _; simp)
  rw [cell_rowOf, hr]; simp [cs]
@[go_sem] theorem conv_lit (w : World) (C : Array Value) (n c : Nat) :
    (convert 22 22 (.slice (some ⟨w.heap.size, 0, none⟩) n c)).run Tryd.prog (w.alloc (.cells C 5)) = .ok (.slice (some ⟨w.heap.size, 0, none⟩) n c) (w.alloc (.cells C 5 (C.size, C.size + 1))) :=
  Go.Lib.run_convert_bytes_const w _ _ C n c Tryd.underlying22 Tryd.underlying5
theorem lenB {w : World} {b : Nat} {l : List (BitVec 8)} {rv : Value} (h : HS w b l rv) : Calls Tryd.prog 23 #[.pointer (some ⟨b, 0, none⟩)] w fun e w' => e = .returned (.int .i64 l.length) ∧ Below w.heap.size w w' :=
  (lenS h).mono fun e w' ⟨h1, h2⟩ => ⟨h1, h2 ▸ Below.refl _ _⟩
theorem sumD {w : World} {b : Nat} {l D : List (BitVec 8)} {rv : Value} (hD : D = Sh.sum l) (hK : KT w) (hb0 : 0 < b) (h : HS w b l rv) (hn : l.length ≤ 1073741824) :
    Calls Tryd.prog 24 #[.pointer (some ⟨b, 0, none⟩)] w fun e w' => e = .returned (.agg (cs U8 D)) ∧ Below w.heap.size w w' := by
  rw [hD]; exact sumS hK hb0 h hn
/-- a literal, written -/
theorem writeLit {w : World} {b : Nat} {l : List (BitVec 8)} {rv : Value} (m : List (BitVec 8)) (c : Array Value) (n : Nat) (fz : Nat × Nat) (hK : KT w) (hb0 : 0 < b) (h : HS w b l rv) (hc : c = cs U8 m) (hm : n = m.length) (hn : l.length + m.length ≤ 1073741824) :
    Calls Tryd.prog 22 #[.pointer (some ⟨b, 0, none⟩), .slice (some ⟨w.heap.size, 0, none⟩) n n] (w.alloc (.cells c 5 fz)) fun e w' => e = .returned (.int .i64 0) ∧ ∃ rv', HS w' b (l ++ m) rv' ∧ KT w' ∧
      Fr (fun k => k = b ∨ some k = rv.ownBlock) w w' ∧ (∀ g, rv'.ownBlock = some g → w.heap.size ≤ g) := by
  have hb := h.lt
  have ha : Below w.heap.size w (w.alloc (.cells c 5 fz)) := (Below.refl _ _).alloc (Nat.le_refl _) _
  refine (writeS (.slice (some ⟨w.heap.size, 0, none⟩) n n) m (hK.below ha (by omega)) hb0 (h.below ha) (BS.litf w m c hc n hm (by unfold maxLen; omega) _ _) (.inr (by intro e; injection e with e; dsimp only at e; omega)) hn).mono ?_
  rintro e w' ⟨rfl, rv', h1, h2, h3⟩
  have hf : Fr (fun k => k = b ∨ some k = rv.ownBlock) w w' := (Fr.of_below ha).trans (h2.mono fun k _ hk => .inl hk)
  refine ⟨rfl, rv', h1, hK.fr (by omega) hf (fun hk => ?_), hf, fun g hg => by have := h3 g hg; have := ha.size; omega⟩
  rcases hk with hk | hk
  · omega
  · have := h.rvge _ hk.symm; omega
/-- what stands below the hash stands -/
theorem hs_below {w w' : World} {b B : Nat} {l : List (BitVec 8)} {rv : Value} (h : HS w b l rv) (hf : Fr (fun k => k = b ∨ some k = rv.ownBlock) w w') (hB : B ≤ b) : Below B w w' :=
  hf.below B (by have := h.lt; omega) (fun k _ hk => by
    rcases hk with hk | hk
    · omega
    · have := h.rvge _ hk.symm; omega)
set_option maxRecDepth 100000 in
set_option maxHeartbeats 2000000 in
theorem alive_any (w : World) (hK : KT w) (hk0 : 0 < w.heap.size) :
    Calls Tryd.prog 18 #[] w fun e w' => e = .returned (.bool true) ∧ Below w.heap.size w w' := by
  go_enter Tryd.func18, Tryd.ntmps18
  go_wp2_with fail
  refine (newS w).mono ?_
  rintro e w1 ⟨b, rfl, hb, hs, hbl⟩
  dsimp only
  have hz := hbl.size
  have hk1 : KT w1 := hK.below hbl hk0
  have HW1 := hid (writeLit [97] #[.int .u8 97] 1 (1, 2) hk1 (by omega) hs rfl rfl (by simp))
  go_wp2_with fail
  refine HW1.out.mono ?_
  rintro e w2 ⟨rfl, rv2, hs2, hk2, hf2, hg2⟩
  have hbl2 := hbl.trans (hs_below hs hf2 hb)
  have hz2 := hbl2.size
  have HW2 := hid (writeLit [98, 99] #[.int .u8 98, .int .u8 99] 2 (2, 3) hk2 (by omega) hs2 rfl rfl (by simp))
  clear HW1 hf2
  dsimp only
  go_wp2_with fail
  refine HW2.out.mono ?_
  rintro e w3 ⟨rfl, rv3, hs3, hk3, hf3, hg3⟩
  have hbl3 := hbl2.trans (hs_below hs2 hf3 hb)
  have hz3 := hbl3.size
  rw [show ([] ++ [97] ++ [98, 99] : List (BitVec 8)) = [97, 98, 99] from rfl] at hs3
  obtain ⟨D, hD⟩ : ∃ D, D = Sh.sum [97, 98, 99] := ⟨_, rfl⟩
  have hDl : D.length = 32 := by rw [hD]; rfl
  have hD0 : D.getD 0 0 = 186 := by rw [hD]; exact sum_abc_0
  have hD31 : D.getD 31 0 = 173 := by rw [hD]; exact sum_abc_31
  have ha3 : Below w3.heap.size w3 (w3.alloc (.cells #[.int .u8 97, .int .u8 98, .int .u8 99] 5 (3, 4))) := (Below.refl _ _).alloc (Nat.le_refl _) _
  have HSUM := hid (sum_any _ _ [97, 98, 99] (hk3.below ha3 (by omega)) (by have := ha3.size; omega) (BS.litf w3 [97, 98, 99] #[.int .u8 97, .int .u8 98, .int .u8 99] rfl 3 rfl (by decide) 5 (3, 4)) (by decide))
  rw [← hD] at HSUM
  have HD := hid hD; have HD0 := hid hD0; have HD31 := hid hD31
  clear HW2 hf3 hD hD0 hD31
  dsimp only
  go_wp2_with fail
  refine HSUM.out.mono ?_
  rintro e w4 ⟨rfl, hb4⟩
  have hb4' := ha3.trans (hb4.mono ha3.size)
  have hz4 := hb4'.size
  have hs4 := hs3.below hb4'
  have hk4 := hk3.below hb4' (by omega)
  have hbl4 := hbl3.trans (hb4'.mono hz3)
  clear HSUM ha3 hb4 hb4'
  dsimp only
  go_wp2_with fail
  have ha5 : Below w4.heap.size w4 (w4.alloc (.cells (cs U8 D) 25)) := (Below.refl _ _).alloc (Nat.le_refl _) _
  have hs5 := hs4.below ha5
  have hk5 := hk4.below ha5 (by omega)
  have hbl5 := hbl4.trans (ha5.mono (by omega))
  have hz5 := hbl5.size
  have hr5 : (w4.alloc (.cells (cs U8 D) 25)).rowOf w4.heap.size = cs U8 D := rowOf_alloc_at _ _ _ rfl
  have hl5 : w4.heap.size < (w4.alloc (.cells (cs U8 D) 25)).heap.size := by simp
  obtain ⟨w5, hw5⟩ : ∃ w5, w5 = w4.alloc (.cells (cs U8 D) 25) := ⟨_, rfl⟩
  rw [← hw5] at hs5 hk5 hbl5 hr5 hz5 hl5
  rw [← hw5]
  have hrow : ∀ d os, (Go.Sort.grow (redrawn w5 d) os).rowOf w4.heap.size = cs U8 D := fun d os => (below_row (below_regrown w5 d os) hl5).trans hr5
  have hcell : ∀ i, i < 32 → ∀ d os, (Go.Sort.grow (redrawn w5 d) os).cell? ⟨w4.heap.size, i, none⟩ = some (U8 (D.getD i 0)) := fun i hi d os => by
    rw [cell_rowOf, hrow, cs_get_lt (by omega), List.getD_eq_getElem?_getD, List.getElem?_eq_getElem (by omega)]; rfl
  have c0 := hcell 0 (by omega); have c31 := hcell 31 (by omega)
  rw [HD0.out] at c0
  rw [HD31.out] at c31
  clear hcell hr5 ha5 hw5 hs4 hk4 hbl4
  refine wp_region_quiet_below (by kernel_rfl) (by kernel_rfl) ?_
  repeat (go_big_quiet_step (first
    | (go_at_call 23; exact Calls.regrown_of (lenB (hs5.below (below_regrown w5 _ _))))
    | (go_at_call 24; exact Calls.regrown_of (sumD HD.out (hk5.below (below_regrown w5 _ _) (by omega)) (by omega) (hs5.below (below_regrown w5 _ _)) (by decide)))))
  refine wpQuiet_nil ?_
  rintro w6 ⟨p, rfl⟩
  have hb6 := hbl5.trans ((below_regrown w5 p.d p.os).mono hz5)
  clear hrow c0 c31
  go_wp2_with fail
  go_ret
  exact ⟨rfl, hb6⟩
end Go.Proofs.YtocledgjejlolaaDoor
