/-
  Walk of reference 04: as many bytes as one likes; own work.
-/
import Derived.Test.YtbigmnhjnjeeaaaDoorRef4c
set_option linter.unusedSimpArgs false
set_option linter.unusedVariables false
namespace Go.Proofs.YtbigmnhjnjeeaaaDoor
open Go.RowKit

theorem okm_len (k i : List (BitVec 8)) : ∀ n, (Sh.okm k i n).length = 32 * n
  | 0 => rfl
  | n + 1 => by
    have h : (Sh.tb k i (n + 1)).length = 32 := rfl
    rw [Sh.okm, List.length_append, okm_len k i n, h]; omega
theorem tb_len (k i : List (BitVec 8)) (n : Nat) : (Sh.tb k i n).length ≤ 32 := by
  cases n with
  | zero => exact Nat.zero_le _
  | succ n => exact Nat.le_refl 32
theorem byte_j (j : Nat) (h : j + 1 ≤ 255) : Value.int .u8 ((j : Int) + 1) = U8 (BitVec.ofNat 8 (j + 1)) := by
  unfold U8; rw [BitVec.toNat_ofNat, Nat.mod_eq_of_lt (by omega)]; rfl
theorem rmacD {w : World} {v0 v1 : Value} {k m D : List (BitVec 8)} (hD : D = Sh.mac k m) (h0 : BS w v0 k) (h1 : BS w v1 m) (hkl : k.length ≤ 1073740000) (hml : m.length ≤ 1073740000) :
    Calls Tryd.prog 47 #[v0, v1] w fun e w' => e = .returned (.agg (cs U8 D)) ∧ Below w.heap.size w w' := by
  rw [hD]; exact rmac_any w v0 v1 k m h0 h1 hkl hml
set_option maxHeartbeats 400000 in
theorem rexpand_bad (w : World) (l : List (BitVec 8)) (v : Value) (n : Int) (hn : n < 0 ∨ 8160 < n) :
    Calls Tryd.prog 52 #[.agg (cs U8 l), v, .int .i64 n] w fun e w' => e = .returned (.tuple #[.slice none 0 0, .int .i64 3]) ∧ Below w.heap.size w w' := by
  by_cases h0 : n < 0
  · go_enter Tryd.func52, Tryd.ntmps52
    go_wp2_with fail
    go_ret2
    exact ⟨rfl, (Below.refl _ _).alloc (Nat.le_refl _) _⟩
  · have h1 : 8160 < n := by omega
    go_enter Tryd.func52, Tryd.ntmps52
    go_wp2_with fail
    go_ret2
    exact ⟨rfl, (Below.refl _ _).alloc (Nat.le_refl _) _⟩
set_option maxRecDepth 100000 in
set_option maxHeartbeats 2000000 in
theorem rexpand_any (w : World) (l info : List (BitVec 8)) (v : Value) (n : Nat) (hl : l.length = 32) (hv : BS w v info) (hil : info.length ≤ 1073730000) (hn : n ≤ 8160) :
    Calls Tryd.prog 52 #[.agg (cs U8 l), v, .int .i64 n] w fun e w' => ∃ u, e = .returned (.tuple #[u, .int .i64 0]) ∧ BS w' u (Sh.expand l info n) ∧ Below w.heap.size w w' := by
  have ha : Below w.heap.size w (w.alloc (.cells (cs U8 l) 23)) := (Below.refl _ _).alloc (Nat.le_refl _) _
  have hra : (w.alloc (.cells (cs U8 l) 23)).rowOf w.heap.size = cs U8 l := rowOf_alloc_at _ _ _ rfl
  have hsa : (w.alloc (.cells (cs U8 l) 23)).heap.size = w.heap.size + 1 := by simp
  have hva : BS (w.alloc (.cells (cs U8 l) 23)) v info := hv.below ha
  obtain ⟨wa, hwa⟩ : ∃ wa, wa = w.alloc (.cells (cs U8 l) 23) := ⟨_, rfl⟩
  rw [← hwa] at ha hra hsa hva
  have HWA := hid hwa; have HRA := hid hra; have HVA := hid hva; have HL := hid hl
  clear hwa hra hva hv hl
  have n0 : ¬ (n : Int) < 0 := by omega
  have n1 : ¬ (8160 : Int) < n := by omega
  go_enter Tryd.func52, Tryd.ntmps52
  go_wp2_with fail
  rw [← HWA.out]
  go_loopw [8, 9, 10] (fun u t c wr => ∃ j : Nat, j ≤ 255 ∧ 32 * j < n + 32 ∧ c = .int .i64 ((j : Int) + 1) ∧ OB wr (w.heap.size + 1) u (Sh.okm l info j) ∧ BS wr t (Sh.tb l info j) ∧ Below (w.heap.size + 1) wa wr) (fun _ _ c _ => 300 - (intOf c).toNat)
  case atStart => exact ⟨0, by omega, by omega, rfl, OB.nil _ _, (OB.nil _ (w.heap.size + 1)).bs, Below.refl _ _⟩
  case round =>
    obtain ⟨j, hj, hjn, rfl, hou, hbt, hbw⟩ := hrel
    have hz := hbw.size
    obtain ⟨au, cu, rfl, hcu⟩ := hou.bs.shape' (32 * j) (okm_len l info j)
    by_cases hlt : 32 * j < n
    · have hj1 : j + 1 ≤ 255 := by omega
      obtain ⟨D, hD⟩ : ∃ D, D = Sh.tb l info (j + 1) := ⟨_, rfl⟩
      have hDl : D.length = 32 := by rw [hD]; rfl
      have hDm : D = Sh.mac l (Sh.tb l info j ++ info ++ [BitVec.ofNat 8 (j + 1)]) := by rw [hD]; rfl
      have hok : Sh.okm l info (j + 1) = Sh.okm l info j ++ D := by rw [hD]; rfl
      have hr3 : wr.rowOf w.heap.size = cs U8 l := (below_row hbw (by omega)).trans HRA.out
      have hrs : (wr.rowOf w.heap.size).size = 32 := by rw [hr3, cs_size]; exact HL.out
      have HR3 := hid hr3; have HDM := hid hDm; have HOK := hid hok; have HDL := hid hDl; have HD := hid hD
      have HBT := hid hbt; have HOU := hid hou
      have HJ := hid (byte_j j hj1)
      have q0 : (32 * (j : Int)) < n := by omega
      have q2 : (0 : Int) ≤ (j : Int) + 1 := by omega
      have q3 : (j : Int) + 1 ≤ 255 := by omega
      clear hr3 hDm hok hDl hD hbt hou
      go_wp2_with fail
      rw [HR3.out]
      with_reducible refine (rbytes_any wr l HL.out).mono ?_
      rintro e w1 ⟨u1, rfl, ho1, hb1⟩
      dsimp only
      go_wp2_with fail
      have hb1' : Below (w.heap.size + 1) wa w1 := hbw.trans (hb1.mono (by omega))
      with_reducible refine (rjoin_any w1 _ _ (Sh.tb l info j) info (HBT.out.below hb1) (BS.below HVA.out (by rw [hsa]; exact hb1')) (by have := tb_len l info j; omega)).mono ?_
      rintro e w2 ⟨u2, rfl, ho2, hb2⟩
      have hz1 := hb1.size; have hz2 := hb2.size
      dsimp only
      go_wp2_with (refine wpList_apb rfl (.tmp 27) (.tmp 30) rfl w1.heap.size _ _ (Sh.tb l info j ++ info) [BitVec.ofNat 8 (j + 1)] rfl (OB.alloc ho2 _) rfl (BS.one _ _ _ HJ.out _) (by have := tb_len l info j; simp; omega) (by simp; omega) ?_; rintro v3 w3 hown3 hg3 -; have hb3 : Below w1.heap.size w1 w3 := ob_below1 _ hb2 ho2 hz2 hg3)
      have hz3 := hb3.size
      with_reducible refine (rmacD HDM.out (ho1.bs.below hb3) hown3.bs (by rw [HL.out]; decide) (by have := tb_len l info j; simp only [List.length_append, List.length_cons, List.length_nil]; omega)).mono ?_
      rintro e w4 ⟨rfl, hb4⟩
      have hz4 := hb4.size
      dsimp only
      go_wp2_with fail
      with_reducible refine (rbytes_any w4 D HDL.out).mono ?_
      rintro e w5 ⟨u5, rfl, ho5, hb5⟩
      have hz5 := hb5.size
      have hbr5 : Below wr.heap.size wr w5 := ((hb1.trans (hb3.mono hz1)).trans (hb4.mono (by omega))).trans (hb5.mono (by omega))
      have hou5 : OB w5 (w.heap.size + 1) (.slice au (32 * j) cu) (Sh.okm l info j) := HOU.out.fr (Fr.of_below hbr5) (fun _ _ h => h)
      have hbw5 : Below (w.heap.size + 1) wa w5 := hbw.trans (hbr5.mono (by omega))
      have HSEP : Hid (u5.ownBlock = none ∨ u5.ownBlock ≠ (Value.slice au (32 * j) cu).ownBlock) := hid (by
        cases hx : u5.ownBlock with
        | none => exact .inl rfl
        | some g => exact .inr (fun e => by have h1 := (ho5.lt g hx).1; have h2 := (HOU.out.lt g e.symm).2; omega))
      dsimp only
      go_wp2_with (refine wpList_apb rfl (.tmp 34) (.tmp 35) rfl (w.heap.size + 1) _ _ (Sh.okm l info j) D rfl hou5 rfl ho5.bs (by rw [okm_len, HDL.out]; omega) (by omega) ?_; rintro v6 w6 hown6 hg6 -; have hb6 : Below (w.heap.size + 1) wa w6 := ob_below hbw5 hou5 (by omega) hg6)
      go_roundw
      case rel => exact ⟨j + 1, by omega, by omega, by go_num, by rw [HOK.out]; exact hown6, by rw [← HD.out]; exact (OB.kept ho5 hg6 HSEP.out).bs, hb6⟩
      case measure => simp [intOf]; omega
    · have q0 : ¬ (32 * (j : Int)) < n := by omega
      have hjj : j = (n + 31) / 32 := by omega
      have HE : Hid ((Sh.okm l info j).take n = Sh.expand l info n) := hid (by rw [hjj]; rfl)
      have hle : n ≤ 32 * j := by omega
      have hh := hou.bs.headn (okm_len l info j) n cu hle (by omega) (Nat.le_refl _)
      rw [HE.out] at hh
      have HH := hid hh
      have q1 : (n : Int) ≤ cu := by omega
      have q2 : (0 : Int) ≤ n := by omega
      clear hh hou hbt hjj
      go_wp2_with fail
      go_ret2
      exact ⟨_, rfl, HH.out, ha.trans (hbw.mono (by omega))⟩
end Go.Proofs.YtbigmnhjnjeeaaaDoor
