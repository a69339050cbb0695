/-
  Walk of hmac.Expand; own work.
-/
import Derived.Test.YtgclegdgngldoaaDoorHmac3
import Derived.Test.YtgclegdgngldoaaDoorRef4d
import Derived.Test.YtgclegdgngldoaaDoorTree
set_option linter.unusedSimpArgs false
set_option linter.unusedVariables false
namespace Go.Proofs.YtgclegdgngldoaaDoor
open Go.RowKit

theorem macD {w : World} {v0 v1 : Value} {k m D : List (BitVec 8)} (hD : D = Sh.mac k m) (hT : KT w) (hk0 : 0 < w.heap.size) (h0 : BS w v0 k) (h1 : BS w v1 m) (hkl : k.length ≤ 1073741000) (hml : m.length ≤ 1073741000) :
    Calls Tryd.prog 64 #[v0, v1] w fun e w' => e = .returned (.agg (cs U8 D)) ∧ Below w.heap.size w w' := by
  rw [hD]; exact mac_any w v0 v1 k m hT hk0 h0 h1 hkl hml
theorem byte_1 (j : Nat) : BitVec.ofNat 8 (j + 1) + 1#8 = BitVec.ofNat 8 (j + 1 + 1) := by
  apply BitVec.eq_of_toNat_eq
  simp [BitVec.toNat_add, BitVec.toNat_ofNat]
theorem BS.alloc {w : World} {v : Value} {l : List (BitVec 8)} (h : BS w v l) (o : Obj) : BS (w.alloc o) v l := SV.alloc h o
theorem BS.oneAt {w : World} {g : Nat} {u : Value} {x : BitVec 8} (h : w.rowOf g = #[u]) (hu : u = U8 x) : BS w (.slice (some ⟨g, 0, none⟩) 1 1) [x] := by
  subst hu
  refine ⟨_, 1, rfl, Nat.le_refl _, by unfold maxLen; omega, fun _ => ⟨_, _, rfl, fun i hi => ?_⟩⟩
  simp at hi
  subst hi
  rw [cell_rowOf, h]; rfl
theorem below_al {B : Nat} {w0 w : World} (h : Below B w0 w) (hB : B ≤ w0.heap.size) (o : Obj) : Below B w0 (w.alloc o) := h.alloc (Nat.le_trans hB h.size) o
theorem below_dr {B : Nat} {w0 w : World} (h : Below B w0 w) : Below B w0 w.drew := below_drewN h 1
theorem fin_set {w0 w5 : World} {B g : Nat} {D : List (BitVec 8)} (hf : w5.free g = true) (hl : D.length = 32) (hg : B ≤ g) (hb : Below B w0 w5) :
    ∃ wz, wz = w5.setRow g (cs U8 D) ∧ BS wz (.slice (some ⟨g, 0, none⟩) 32 32) D ∧ Below B w0 wz :=
  ⟨_, rfl, BS.row (rowOf_setRow_same _ hf) hl (by unfold maxLen; decide), below_setRow' hb hg _⟩
theorem fin_new {w0 w5 : World} {B : Nat} {D : List (BitVec 8)} (hl : D.length = 32) (hg : B ≤ w5.heap.size) (hb : Below B w0 w5) (T : TypeId) :
    ∃ wz, wz = w5.alloc (.cells (cs U8 D) T) ∧ BS wz (.slice (some ⟨w5.heap.size, 0, none⟩) 32 32) D ∧ Below B w0 wz :=
  ⟨_, rfl, BS.row (rowOf_alloc_at _ _ _ rfl) hl (by unfold maxLen; decide), hb.alloc hg _⟩
set_option maxHeartbeats 400000 in
theorem expand_bad (w : World) (l : List (BitVec 8)) (v : Value) (n : Int) (hn : n < 0 ∨ 8160 < n) :
    Calls Tryd.prog 71 #[.agg (cs U8 l), v, .int .i64 n] w fun e w' => e = .returned (.tuple #[.slice none 0 0, .int .i64 3]) ∧ Below w.heap.size w w' := by
  by_cases h0 : n < 0
  · go_enter Tryd.func71, Tryd.ntmps71
    go_wp2_with fail
    go_ret2
    exact ⟨rfl, (Below.refl _ _).alloc (Nat.le_refl _) _⟩
  · have h1 : 8160 < n := by omega
    go_enter Tryd.func71, Tryd.ntmps71
    go_wp2_with fail
    go_ret2
    exact ⟨rfl, (Below.refl _ _).alloc (Nat.le_refl _) _⟩
set_option maxRecDepth 100000 in
set_option maxHeartbeats 4000000 in
theorem expand_any (w : World) (l info : List (BitVec 8)) (v : Value) (n : Nat) (hT : KT w) (hk0 : 0 < w.heap.size) (hl : l.length = 32) (hv : BS w v info) (hil : info.length ≤ 1073730000) (hn : n ≤ 8160) :
    Calls Tryd.prog 71 #[.agg (cs U8 l), v, .int .i64 n] w fun e w' => ∃ u, e = .returned (.tuple #[u, .int .i64 0]) ∧ BS w' u (Sh.expand l info n) ∧ Below w.heap.size w w' := by
  have ha : Below w.heap.size w (w.alloc (.cells (cs U8 l) 23)) := (Below.refl _ _).alloc (Nat.le_refl _) _
  have hra : (w.alloc (.cells (cs U8 l) 23)).rowOf w.heap.size = cs U8 l := rowOf_alloc_at _ _ _ rfl
  have hsa : (w.alloc (.cells (cs U8 l) 23)).heap.size = w.heap.size + 1 := by simp
  have hva : BS (w.alloc (.cells (cs U8 l) 23)) v info := hv.below ha
  have hta : KT (w.alloc (.cells (cs U8 l) 23)) := hT.below ha hk0
  obtain ⟨wa, hwa⟩ : ∃ wa, wa = w.alloc (.cells (cs U8 l) 23) := ⟨_, rfl⟩
  rw [← hwa] at ha hra hsa hva hta
  have HWA := hid hwa; have HRA := hid hra; have HVA := hid hva; have HL := hid hl; have HTA := hid hta
  clear hwa hra hva hv hl hta hT
  have n0 : ¬ (n : Int) < 0 := by omega
  have n1 : ¬ (8160 : Int) < n := by omega
  go_enter Tryd.func71, Tryd.ntmps71
  go_wp2_with fail
  rw [← HWA.out]
  go_loopw [8, 9, 10, 11, 12] (fun u t c _ _ wr => ∃ j : Nat, j ≤ 255 ∧ 32 * j < n + 32 ∧ c = U8 (BitVec.ofNat 8 (j + 1)) ∧ OB wr (w.heap.size + 1) u (Sh.okm l info j) ∧ BS wr t (Sh.tb l info j) ∧ Below (w.heap.size + 1) wa wr) (fun u _ _ _ _ _ => n - (match u with | .slice _ k _ => k | _ => 0))
  case atStart => exact ⟨0, by omega, by omega, rfl, OB.nil _ _, (OB.nil _ (w.heap.size + 1)).bs, Below.refl _ _⟩
  case round =>
    obtain ⟨j, hj, hjn, rfl, hou, hbt, hbw⟩ := hrel
    have hz := hbw.size
    obtain ⟨au, cu, rfl, hcu⟩ := hou.bs.shape' (32 * j) (okm_len l info j)
    by_cases hlt : 32 * j < n
    · have hj1 : j + 1 ≤ 255 := by omega
      obtain ⟨D, hD⟩ : ∃ D, D = Sh.tb l info (j + 1) := ⟨_, rfl⟩
      have hDl : D.length = 32 := by rw [hD]; rfl
      have hDm : D = Sh.mac l (Sh.tb l info j ++ info ++ [BitVec.ofNat 8 (j + 1)]) := by rw [hD]; rfl
      have hok : Sh.okm l info (j + 1) = Sh.okm l info j ++ D := by rw [hD]; rfl
      have hr3 : wr.rowOf w.heap.size = cs U8 l := (below_row hbw (by omega)).trans HRA.out
      have HR3 := hid hr3; have HDM := hid hDm; have HOK := hid hok; have HDL := hid hDl; have HD := hid hD
      have HBT := hid hbt; have HOU := hid hou
      have HJ := hid (byte_1 j)
      have q0 : (32 * (j : Int)) < n := by omega
      clear hr3 hDm hok hDl hD hbt hou
      go_wp2_with (first
        | (refine wpList_apb rfl (.const (.slice none 0 0)) (.tmp 25) rfl wr.heap.size _ _ [] (Sh.tb l info j) rfl (OB.nil _ _) rfl HBT.out (by have := tb_len l info j; simp; omega) (Nat.le_refl _) ?_; rintro v1 w1 hown1 hg1 -; have hb1 : Below wr.heap.size wr w1 := ob_below (Below.refl _ _) (OB.nil _ _) (Nat.le_refl _) hg1; have hz1 := hb1.size; have HV1 := hid (BS.below (BS.below HVA.out (by rw [hsa]; exact hbw)) hb1))
        | (refine wpList_apb rfl (.tmp 27) (.tmp 28) rfl wr.heap.size _ _ ([] ++ Sh.tb l info j) info rfl hown1 rfl HV1.out (by have := tb_len l info j; simp; omega) hz1 ?_; rintro v2 w2 hown2 hg2 -; have hb2 : Below wr.heap.size wr w2 := ob_below hb1 hown1 hz1 hg2; have hz2 := hb2.size))
      have hlt2 : ∀ g, v2.ownBlock = some g → g < w2.heap.size := fun g hg => (hown2.lt g hg).2
      have HNE : Hid (∀ g, w2.heap.size ≤ g → some g ≠ v2.ownBlock) := hid fun g h e => by have := hlt2 g e.symm; omega
      have HO2 := hid hown2
      have hwd : Below wr.heap.size wr w2.drew := below_drewN hb2 1
      have HMAC : Hid (∀ wc v', Below wr.heap.size wr wc → BS wc v' ([] ++ Sh.tb l info j ++ info ++ [BitVec.ofNat 8 (j + 1)]) → Calls Tryd.prog 64 #[.slice (some ⟨w.heap.size, 0, none⟩) 32 32, v'] wc fun e w' => e = .returned (.agg (cs U8 D)) ∧ Below wr.heap.size wr w' ∧ Below wc.heap.size wc w') := hid fun wc v' h hv' => by
        have hbc : Below (w.heap.size + 1) wa wc := hbw.trans (h.mono (by omega))
        rw [List.nil_append] at hv'
        have hk := macD (w := wc) HDM.out (HTA.out.below hbc (by omega)) (by have := h.size; omega) (BS.row ((below_row hbc (by omega)).trans HRA.out) HL.out (by unfold maxLen; decide)) hv' (by rw [HL.out]; decide) (by have := tb_len l info j; simp only [List.length_append, List.length_cons, List.length_nil]; omega)
        exact hk.mono fun e w' ⟨h1, h2⟩ => ⟨h1, h.trans (h2.mono h.size), h2⟩
      have HLEN : Hid (([] ++ Sh.tb l info j ++ info).length + ([BitVec.ofNat 8 (j + 1)] : List (BitVec 8)).length ≤ 140737488355328) := hid (by have := tb_len l info j; simp; omega)
      have hDl := HDL.out
      clear hlt2 hown1 hown2 hg1 hg2 hb1 hz1
      refine wp_region_tree [0, 1, 2] (.both (.op 3 (.both (.op 4 (.both (.op 5 (.op 6 (.op 7 .done))) (.op 6 (.op 5 (.op 7 .done))))) (.op 6 (.op 4 (.op 5 (.op 7 .done)))))) (.op 6 (.op 3 (.op 4 (.op 5 (.op 7 .done)))))) (by kernel_rfl) (by kernel_rfl) (by kernel_rfl) (fun d _ _ _ _ h => by cases d <;> exact h) ?_
      refine ⟨.slice (some ⟨w.heap.size, 0, none⟩) 32 32, .inl ⟨rfl, fun w' => ?_⟩, _, .inl ⟨rfl, fun _ => rfl⟩, _, .inl ⟨rfl, fun _ => rfl⟩, ?_⟩
      · go_simp
      refine ⟨wpT_step rfl rfl (fun K hK => ?_), wpT_step rfl rfl (fun K hK => ?_)⟩
      · go_simp
        refine hK _ _ ⟨wpT_step rfl rfl (fun K hK => ?_), wpT_step rfl rfl (fun K hK => ?_)⟩
        · refine wp_apb (.tmp 31) (.tmp 33) rfl wr.heap.size _ _ ([] ++ Sh.tb l info j ++ info) [BitVec.ofNat 8 (j + 1)] rfl (OB.drewN (HO2.out.alloc _) 1) rfl (SV.drewN (BS.one _ _ _ rfl _) 1) HLEN.out (by simp; omega) ?_
          rintro v4 w4 hown4 hg4 -
          have hb4 : Below wr.heap.size wr w4 := ow_belowb (below_dr (below_al hb2 (Nat.le_refl _) _)) (OB.drewN (HO2.out.alloc _) 1) (by simp; omega) hg4
          have hz4 := hb4.size
          refine hK _ _ ⟨wpT_step rfl rfl (fun K hK => ?_), wpT_step rfl rfl (fun K hK => ?_)⟩
          · go_simp
            with_reducible refine (HMAC.out w4 v4 hb4 hown4.bs).mono ?_
            rintro e w5 ⟨rfl, hb5, hb5'⟩
            dsimp only
            have hz5 := hb5.size
            refine hK _ _ (wpT_step rfl rfl (fun K hK => ?_))
            refine wpa_key rfl ?_
            refine hK _ _ (wpT_step rfl rfl (fun K hK => ?_))
            refine wps_key (.tmp 12) (.tmp 35) rfl w5.heap.size (cs U8 D) rfl rfl (by simp [hDl]) (by simp [go_sem]) (by simp [go_sem]) (by simp [go_sem]) (hK _ _ ?_)
            rw [setRow_alloc_at _ _ _ _ rfl]
            obtain ⟨wz, hwz, hbz, hlz⟩ := fin_new (w0 := wr) (w5 := w5) (B := wr.heap.size) HDL.out hz5 hb5 23
            have hge : wr.heap.size ≤ w5.heap.size := by omega
            rw [← hwz]
            clear hwz
            have houz : OB wz (w.heap.size + 1) (.slice au (32 * j) cu) (Sh.okm l info j) := HOU.out.fr (Fr.of_below hlz) (fun _ _ h => h)
            have hbwz : Below (w.heap.size + 1) wa wz := hbw.trans (hlz.mono (by omega))
            have hzz := hbwz.size
            dsimp only [wpT]
            go_wp2_with (refine wpList_apb rfl (.tmp 37) (.tmp 38) rfl (w.heap.size + 1) _ _ (Sh.okm l info j) D rfl houz rfl hbz (by rw [okm_len, HDL.out]; omega) (by omega) ?_; rintro v6 w6 hown6 hg6 -; have hb6 : Below (w.heap.size + 1) wa w6 := ob_below hbwz houz (by omega) hg6)
            have hb7 : BS w6 (.slice (some ⟨w5.heap.size, 0, none⟩) 32 32) D := SV.grown' hbz hg6 (.inr (fun e => by have h9 : w5.heap.size < wr.heap.size := (HOU.out.lt _ e.symm).2; omega))
            obtain ⟨n6, c6, e6, hc6⟩ := hown6.bs.shape' (32 * j + 32) (by rw [List.length_append, okm_len, HDL.out])
            go_roundw
            case rel => exact ⟨j + 1, by omega, by omega, by rw [HJ.out], by rw [HOK.out]; exact hown6, by rw [← HD.out]; exact hb7, hb6⟩
            case measure => rw [e6]; simp; omega
          · refine wpa_key rfl ?_
            refine hK _ _ (wpT_step rfl rfl (fun K hK => ?_))
            go_simp
            with_reducible refine (HMAC.out (w4.alloc (.cells (cs U8 (zs 32)) 23)) v4 (below_al hb4 (Nat.le_refl _) _) (BS.alloc hown4.bs _)).mono ?_
            rintro e w5 ⟨rfl, hb5, hb5'⟩
            have r5 : w5.rowOf w4.heap.size = cs U8 (zs 32) := (below_row hb5' (by simp)).trans (by simp [go_sem])
            have f5 : w5.free w4.heap.size = true := (below_free hb5' (by simp)).trans (by simp [go_sem])
            dsimp only
            have hz5 := hb5.size
            refine hK _ _ (wpT_step rfl rfl (fun K hK => ?_))
            refine wps_key (.tmp 12) (.tmp 35) rfl w4.heap.size (cs U8 D) rfl rfl (by simp [hDl]) (by simp [go_sem]) (by rw [r5]; simp) f5 (hK _ _ ?_)
            obtain ⟨wz, hwz, hbz, hlz⟩ := fin_set (w0 := wr) (w5 := w5) (B := wr.heap.size) (g := w4.heap.size) f5 HDL.out (by omega) hb5
            have hge : wr.heap.size ≤ w4.heap.size := by omega
            rw [← hwz]
            clear hwz
            have houz : OB wz (w.heap.size + 1) (.slice au (32 * j) cu) (Sh.okm l info j) := HOU.out.fr (Fr.of_below hlz) (fun _ _ h => h)
            have hbwz : Below (w.heap.size + 1) wa wz := hbw.trans (hlz.mono (by omega))
            have hzz := hbwz.size
            dsimp only [wpT]
            go_wp2_with (refine wpList_apb rfl (.tmp 37) (.tmp 38) rfl (w.heap.size + 1) _ _ (Sh.okm l info j) D rfl houz rfl hbz (by rw [okm_len, HDL.out]; omega) (by omega) ?_; rintro v6 w6 hown6 hg6 -; have hb6 : Below (w.heap.size + 1) wa w6 := ob_below hbwz houz (by omega) hg6)
            have hb7 : BS w6 (.slice (some ⟨w4.heap.size, 0, none⟩) 32 32) D := SV.grown' hbz hg6 (.inr (fun e => by have h9 : w4.heap.size < wr.heap.size := (HOU.out.lt _ e.symm).2; omega))
            obtain ⟨n6, c6, e6, hc6⟩ := hown6.bs.shape' (32 * j + 32) (by rw [List.length_append, okm_len, HDL.out])
            go_roundw
            case rel => exact ⟨j + 1, by omega, by omega, by rw [HJ.out], by rw [HOK.out]; exact hown6, by rw [← HD.out]; exact hb7, hb6⟩
            case measure => rw [e6]; simp; omega
        · refine wpa_key rfl ?_
          refine hK _ _ (wpT_step rfl rfl (fun K hK => ?_))
          refine wp_apb (.tmp 31) (.tmp 33) rfl wr.heap.size _ _ ([] ++ Sh.tb l info j ++ info) [BitVec.ofNat 8 (j + 1)] rfl (OB.drewN ((HO2.out.alloc _).alloc _) 1) rfl (SV.drewN (SV.alloc (BS.one _ _ _ rfl _) _) 1) HLEN.out (by simp; omega) ?_
          rintro v4 w4 hown4 hg4 -
          have hb4 : Below wr.heap.size wr w4 := ow_belowb (below_dr (below_al (below_al hb2 (Nat.le_refl _) _) (Nat.le_refl _) _)) (OB.drewN ((HO2.out.alloc _).alloc _) 1) (by simp; omega) hg4
          have r4 : w4.rowOf (w2.heap.size + 1) = cs U8 (zs 32) := (gb_row hg4 (by simp) (HNE.out _ (by omega))).trans (by simp [go_sem])
          have f4 : w4.free (w2.heap.size + 1) = true := (gb_free hg4 (by simp) (HNE.out _ (by omega))).trans (by simp [go_sem])
          have hz4 : w2.heap.size + 1 < w4.heap.size := by have := hg4.size; simp at this; omega
          refine hK _ _ (wpT_step rfl rfl (fun K hK => ?_))
          go_simp
          with_reducible refine (HMAC.out w4 v4 hb4 hown4.bs).mono ?_
          rintro e w5 ⟨rfl, hb5, hb5'⟩
          have r5 : w5.rowOf (w2.heap.size + 1) = cs U8 (zs 32) := (below_row hb5' (by omega)).trans r4
          have f5 : w5.free (w2.heap.size + 1) = true := (below_free hb5' (by omega)).trans f4
          dsimp only
          have hz5 := hb5.size
          refine hK _ _ (wpT_step rfl rfl (fun K hK => ?_))
          refine wps_key (.tmp 12) (.tmp 35) rfl (w2.heap.size + 1) (cs U8 D) rfl rfl (by simp [hDl]) (by simp [go_sem]) (by rw [r5]; simp) f5 (hK _ _ ?_)
          obtain ⟨wz, hwz, hbz, hlz⟩ := fin_set (w0 := wr) (w5 := w5) (B := wr.heap.size) (g := (w2.heap.size + 1)) f5 HDL.out (by omega) hb5
          have hge : wr.heap.size ≤ (w2.heap.size + 1) := by omega
          rw [← hwz]
          clear hwz
          have houz : OB wz (w.heap.size + 1) (.slice au (32 * j) cu) (Sh.okm l info j) := HOU.out.fr (Fr.of_below hlz) (fun _ _ h => h)
          have hbwz : Below (w.heap.size + 1) wa wz := hbw.trans (hlz.mono (by omega))
          have hzz := hbwz.size
          dsimp only [wpT]
          go_wp2_with (refine wpList_apb rfl (.tmp 37) (.tmp 38) rfl (w.heap.size + 1) _ _ (Sh.okm l info j) D rfl houz rfl hbz (by rw [okm_len, HDL.out]; omega) (by omega) ?_; rintro v6 w6 hown6 hg6 -; have hb6 : Below (w.heap.size + 1) wa w6 := ob_below hbwz houz (by omega) hg6)
          have hb7 : BS w6 (.slice (some ⟨(w2.heap.size + 1), 0, none⟩) 32 32) D := SV.grown' hbz hg6 (.inr (fun e => by have h9 : (w2.heap.size + 1) < wr.heap.size := (HOU.out.lt _ e.symm).2; omega))
          obtain ⟨n6, c6, e6, hc6⟩ := hown6.bs.shape' (32 * j + 32) (by rw [List.length_append, okm_len, HDL.out])
          go_roundw
          case rel => exact ⟨j + 1, by omega, by omega, by rw [HJ.out], by rw [HOK.out]; exact hown6, by rw [← HD.out]; exact hb7, hb6⟩
          case measure => rw [e6]; simp; omega
      · refine wpa_key rfl ?_
        refine hK _ _ (wpT_step rfl rfl (fun K hK => ?_))
        go_simp
        refine hK _ _ (wpT_step rfl rfl (fun K hK => ?_))
        refine wp_apb (.tmp 31) (.tmp 33) rfl wr.heap.size _ _ ([] ++ Sh.tb l info j ++ info) [BitVec.ofNat 8 (j + 1)] rfl (OB.drewN ((HO2.out.alloc _).alloc _) 1) rfl (BS.oneAt (by simp [go_sem]) rfl) HLEN.out (by simp; omega) ?_
        rintro v4 w4 hown4 hg4 -
        have hb4 : Below wr.heap.size wr w4 := ow_belowb (below_dr (below_al (below_al hb2 (Nat.le_refl _) _) (Nat.le_refl _) _)) (OB.drewN ((HO2.out.alloc _).alloc _) 1) (by simp; omega) hg4
        have r4 : w4.rowOf w2.heap.size = cs U8 (zs 32) := (gb_row hg4 (by simp; omega) (HNE.out _ (Nat.le_refl _))).trans (by simp [go_sem])
        have f4 : w4.free w2.heap.size = true := (gb_free hg4 (by simp; omega) (HNE.out _ (Nat.le_refl _))).trans (by simp [go_sem])
        have hz4 : w2.heap.size < w4.heap.size := by have := hg4.size; simp at this; omega
        refine hK _ _ (wpT_step rfl rfl (fun K hK => ?_))
        go_simp
        with_reducible refine (HMAC.out w4 v4 hb4 hown4.bs).mono ?_
        rintro e w5 ⟨rfl, hb5, hb5'⟩
        have r5 : w5.rowOf w2.heap.size = cs U8 (zs 32) := (below_row hb5' (by omega)).trans r4
        have f5 : w5.free w2.heap.size = true := (below_free hb5' (by omega)).trans f4
        dsimp only
        have hz5 := hb5.size
        refine hK _ _ (wpT_step rfl rfl (fun K hK => ?_))
        refine wps_key (.tmp 12) (.tmp 35) rfl w2.heap.size (cs U8 D) rfl rfl (by simp [hDl]) (by simp [go_sem]) (by rw [r5]; simp) f5 (hK _ _ ?_)
        obtain ⟨wz, hwz, hbz, hlz⟩ := fin_set (w0 := wr) (w5 := w5) (B := wr.heap.size) (g := w2.heap.size) f5 HDL.out (by omega) hb5
        have hge : wr.heap.size ≤ w2.heap.size := by omega
        rw [← hwz]
        clear hwz
        have houz : OB wz (w.heap.size + 1) (.slice au (32 * j) cu) (Sh.okm l info j) := HOU.out.fr (Fr.of_below hlz) (fun _ _ h => h)
        have hbwz : Below (w.heap.size + 1) wa wz := hbw.trans (hlz.mono (by omega))
        have hzz := hbwz.size
        dsimp only [wpT]
        go_wp2_with (refine wpList_apb rfl (.tmp 37) (.tmp 38) rfl (w.heap.size + 1) _ _ (Sh.okm l info j) D rfl houz rfl hbz (by rw [okm_len, HDL.out]; omega) (by omega) ?_; rintro v6 w6 hown6 hg6 -; have hb6 : Below (w.heap.size + 1) wa w6 := ob_below hbwz houz (by omega) hg6)
        have hb7 : BS w6 (.slice (some ⟨w2.heap.size, 0, none⟩) 32 32) D := SV.grown' hbz hg6 (.inr (fun e => by have h9 : w2.heap.size < wr.heap.size := (HOU.out.lt _ e.symm).2; omega))
        obtain ⟨n6, c6, e6, hc6⟩ := hown6.bs.shape' (32 * j + 32) (by rw [List.length_append, okm_len, HDL.out])
        go_roundw
        case rel => exact ⟨j + 1, by omega, by omega, by rw [HJ.out], by rw [HOK.out]; exact hown6, by rw [← HD.out]; exact hb7, hb6⟩
        case measure => rw [e6]; simp; omega
    · have q0 : ¬ (32 * (j : Int)) < n := by omega
      have hjj : j = (n + 31) / 32 := by omega
      have HE : Hid ((Sh.okm l info j).take n = Sh.expand l info n) := hid (by rw [hjj]; rfl)
      have hle : n ≤ 32 * j := by omega
      have hh := hou.bs.headn (okm_len l info j) n n hle (Nat.le_refl _) (by omega)
      rw [HE.out] at hh
      have HH := hid hh
      have q1 : (n : Int) ≤ cu := by omega
      have q2 : (0 : Int) ≤ n := by omega
      clear hh hou hbt hjj
      go_wp2_with fail
      go_ret2
      exact ⟨_, rfl, HH.out, ha.trans (hbw.mono (by omega))⟩
end Go.Proofs.YtgclegdgngldoaaDoor
