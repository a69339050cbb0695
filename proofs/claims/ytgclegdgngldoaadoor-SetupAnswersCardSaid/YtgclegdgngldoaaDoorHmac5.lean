/-
  Walk of hmac.Derive; own work.
-/
import Derived.Test.YtgclegdgngldoaaDoorHmac4
import Derived.Test.YtgclegdgngldoaaDoorRef4e
set_option linter.unusedSimpArgs false
set_option linter.unusedVariables false
namespace Go.Proofs.YtgclegdgngldoaaDoor
open Go.RowKit

theorem expand_c (c : Int) (n : Nat) (hc : (n : Int) = c) (w : World) (l info : List (BitVec 8)) (v : Value) (hT : KT w) (hk0 : 0 < w.heap.size) (hl : l.length = 32) (hv : BS w v info) (hil : info.length ≤ 1073730000) (hn : n ≤ 8160) :
    Calls Tryd.prog 71 #[.agg (cs U8 l), v, .int .i64 c] w fun e w' => ∃ u, e = .returned (.tuple #[u, .int .i64 0]) ∧ BS w' u (Sh.expand l info n) ∧ Below w.heap.size w w' := by
  rw [← hc]; exact expand_any w l info v n hT hk0 hl hv hil hn
/-- a whole key, read out of a slice -/
theorem ld_key {w : World} {b o n c : Nat} {l : List (BitVec 8)} (h : BS w (.slice (some ⟨b, o, none⟩) n c) l) (hn : 32 ≤ l.length) :
    exLoad Tryd.prog 23 (.pointer (some ⟨b, o, none⟩)) w = .ok (.value (.agg (cs U8 (l.take 32)))) w := by
  obtain ⟨m, hm⟩ : ∃ m, m = l.length := ⟨_, rfl⟩
  obtain ⟨b', o', cap, e, hc, hcell⟩ := h.open (by intro e; rw [e] at hn; simp at hn)
  rw [← hm] at e hcell hn
  simp only [Value.slice.injEq, Option.some.injEq, Addr.mk.injEq] at e
  obtain ⟨⟨rfl, rfl, -⟩, rfl, rfl⟩ := e
  have hsz : o + 32 ≤ (w.rowOf b).size := by
    have := hcell 31 (by omega)
    rw [cell_rowOf] at this
    have := (Array.getElem?_eq_some_iff.1 this).1
    omega
  rw [x_loadm (P := Tryd.prog) w (T := 23) Tryd.underlying23 rfl inf_key b o hsz]
  have hx : (w.rowOf b).extract o (o + 32) = cs U8 (l.take 32) := by
    apply Array.ext
    · simp; omega
    · intro i h1 h2
      have hi : i < 32 := by simp at h1; omega
      have := hcell i (by omega)
      rw [cell_rowOf] at this
      have h3 := (Array.getElem?_eq_some_iff.1 this).2
      simp only [Array.getElem_extract, h3]
      have h4 := cs_get_lt (f := U8) (l := l.take 32) (i := i) (by simp; omega)
      have h5 := (Array.getElem?_eq_some_iff.1 h4).2
      rw [h5, List.getElem_take, List.getD_eq_getElem?_getD, List.getElem?_eq_getElem (by omega)]
      rfl
  rw [hx]
set_option maxRecDepth 100000 in
set_option maxHeartbeats 2000000 in
theorem derive_any (w : World) (l lab : List (BitVec 8)) (hT : KT w) (hk0 : 0 < w.heap.size) (hl : l.length = 32) (hil : lab.length ≤ 1073700000) :
    Calls Tryd.prog 50 #[.agg (cs U8 l), .string (Bs lab)] w fun e w' => e = .returned (.agg (cs U8 (Sh.derive l lab))) ∧ Below w.heap.size w w' := by
  obtain ⟨D, hD⟩ : ∃ D, D = Sh.derive l lab := ⟨_, rfl⟩
  have hDl : D.length = 32 := by rw [hD]; exact derive_len ..
  rw [← hD]
  have HD : Hid (Sh.expand l (Sh.pig ++ lab) 32 = D) := hid (by rw [hD]; rfl)
  have HL := hid hl; have HDL := hid hDl
  have hcat := pig_str lab
  obtain ⟨M, hM⟩ : ∃ M, M = Sh.pig ++ lab := ⟨_, rfl⟩
  have hMl : M.length = 9 + lab.length := by rw [hM, List.length_append]; rfl
  rw [← hM] at HD hcat
  have HML := hid hMl
  clear hD hMl hM
  have ha : Below w.heap.size w ((w.alloc (.cells (cs U8 l) 23)).alloc (.cells (cs U8 (zs 32)) 23)) := ((Below.refl _ _).alloc (Nat.le_refl _) _).alloc (by simp) _
  have hr1 : ((w.alloc (.cells (cs U8 l) 23)).alloc (.cells (cs U8 (zs 32)) 23)).rowOf (w.heap.size + 1) = cs U8 (zs 32) := by simp [go_sem]
  have hf1 : ((w.alloc (.cells (cs U8 l) 23)).alloc (.cells (cs U8 (zs 32)) 23)).free (w.heap.size + 1) = true := by simp [go_sem]
  have hsa : ((w.alloc (.cells (cs U8 l) 23)).alloc (.cells (cs U8 (zs 32)) 23)).heap.size = w.heap.size + 2 := by simp
  obtain ⟨cap, w1, hrun, hbs, hb1, hz1⟩ := str_bytes ((w.alloc (.cells (cs U8 l) 23)).alloc (.cells (cs U8 (zs 32)) 23)) M
  rw [hsa] at hb1 hz1 hrun hbs
  have HBS := hid (hbs (by unfold maxLen; rw [HML.out]; omega))
  have HR1 : Hid (w1.rowOf (w.heap.size + 1) = cs U8 (zs 32)) := hid ((below_row hb1 (by omega)).trans hr1)
  have HF1 : Hid (w1.free (w.heap.size + 1) = true) := hid ((below_free hb1 (by omega)).trans hf1)
  have HB1 : Hid (Below w.heap.size w w1) := hid (ha.trans (hb1.mono (by omega)))
  rw [HML.out] at hrun HBS
  unfold Sv at hrun hcat
  clear hr1 hf1 hbs hDl hsa ha hb1
  have hbl : (Bs lab).size ≤ 1073700000 := by rw [Bs_size]; exact hil
  have HT1 : Hid (KT w1) := hid (hT.below HB1.out hk0)
  clear hT
  go_enter Tryd.func50, Tryd.ntmps50
  go_wp2_with fail
  have HC := hid hcat
  clear hcat hrun
  have hb0 : w.heap.size + 3 ≤ w1.heap.size := by omega
  with_reducible refine (expand_c 32 32 rfl w1 l M _ HT1.out (by omega) HL.out HBS.out (by rw [HML.out]; omega) (by decide)).mono ?_
  rintro e w2 ⟨u2, rfl, hu2, hb2⟩
  rw [HD.out] at hu2
  obtain ⟨bu, ou, cu, rfl, hcu, hcell⟩ := hu2.open (by intro e; have := HDL.out; rw [e] at this; cases this)
  rw [HDL.out] at hu2 hcu ⊢
  have hz2 := hb2.size
  have hr2 : w2.rowOf (w.heap.size + 1) = cs U8 (zs 32) := (below_row hb2 (by omega)).trans HR1.out
  have hf2 : w2.free (w.heap.size + 1) = true := (below_free hb2 (by omega)).trans HF1.out
  have HB2 : Hid (Below w.heap.size w w2) := hid (HB1.out.trans (hb2.mono (by omega)))
  have hld := ld_key hu2 (by rw [HDL.out]; exact Nat.le_refl _)
  have e32 : D.take 32 = D := List.take_of_length_le (by rw [HDL.out]; exact Nat.le_refl _)
  rw [e32] at hld
  have hDl := HDL.out
  clear hcell hb2 e32 hu2 hl
  dsimp only
  go_wp2_with fail
  refine bodyPost_ret (res_row (b := w.heap.size + 1) rfl Tryd.underlying23 rfl inf_key _ _ rfl ?_) rfl ?_
  · rw [rowOf_setRow_same _ hf2, cs_size]; exact hDl
  · rw [rowOf_setRow_same _ hf2]
    exact ⟨rfl, below_setRow' HB2.out (by omega) _⟩
end Go.Proofs.YtgclegdgngldoaaDoor
