/-
  Reference 06: the bytes of a tag, a tag, Tag, Seal, Open; own work.
-/
import Derived.Test.YtbigmnhjnjeeaaaDoorRf5d
set_option linter.unusedSimpArgs false
set_option linter.unusedVariables false
namespace Go.Proofs.YtbigmnhjnjeeaaaDoor
open Go.RowKit
theorem meet2 {A B : Sort _} {P G : A → B → Prop} {Goal : Prop} (h1 : (∀ x y, P x y → G x y) → Goal) (h2 : ∀ x y, P x y → G x y) : Goal := h1 h2
theorem leP_0 (n : Nat) : leP n 0 = [] := by simp [leP]
theorem rderB {w : World} {l lab D : List (BitVec 8)} (hD : D = Sh.derive l lab) (hl : l.length = 32) (hil : lab.length ≤ 1073700000) :
    Calls Tryd.prog 36 #[.agg (cs U8 l), .string (Bs lab)] w fun e w' => e = .returned (.agg (cs U8 D)) ∧ Below w.heap.size w w' := by
  rw [hD]; exact rderive_any w l lab hl hil
theorem rderH {w : World} {l D : List (BitVec 8)} (hD : D = Sh.derive l Ad.hideB) (hl : l.length = 32) :
    Calls Tryd.prog 36 #[.agg (cs U8 l), .string ⟨#[104, 105, 100, 101]⟩] w fun e w' => e = .returned (.agg (cs U8 D)) ∧ Below w.heap.size w w' := rderB (lab := Ad.hideB) hD hl (by decide)
theorem rderP {w : World} {l D : List (BitVec 8)} (hD : D = Sh.derive l Ad.proveB) (hl : l.length = 32) :
    Calls Tryd.prog 36 #[.agg (cs U8 l), .string ⟨#[112, 114, 111, 118, 101]⟩] w fun e w' => e = .returned (.agg (cs U8 D)) ∧ Below w.heap.size w w' := rderB (lab := Ad.proveB) hD hl (by decide)
attribute [local irreducible] Ad.le8 leP
set_option maxRecDepth 100000 in
set_option maxHeartbeats 2000000 in
theorem rproof (w : World) (n o h : List (BitVec 8)) (vo vh : Value) (hn : n.length = 12) (hvo : BS w vo o) (hvh : BS w vh h) (hol : o.length ≤ 70000) (hhl : h.length ≤ 70000) :
    Calls Tryd.prog 49 #[.agg (cs U8 n), vo, vh] w fun e w' => ∃ v, e = .returned v ∧ OB w' w.heap.size v (Ad.le8 o.length ++ o ++ n ++ h) ∧ Below w.heap.size w w' := by
  obtain ⟨L, hL⟩ : ∃ L, L = o.length := ⟨_, rfl⟩
  rw [← hL]
  have HVO := hid hvo
  have HVH := hid hvh
  obtain ⟨AO, co, rfl, -⟩ := hvo.shape' L hL.symm
  have hL7 : L ≤ 70000 := by omega
  have hoL : o.length = L := hL.symm
  have HC := hid (show Value.int .u64 (IntKind.u64.wrap (L : Int)) = U64 (BitVec.ofNat 64 L) by rw [u64_wrap]; simp)
  obtain ⟨Y, hY⟩ : ∃ Y, Y = Ad.le8 L ++ o := ⟨_, rfl⟩
  have hYl : Y.length = 8 + L := by rw [hY]; simp [le8_len]; omega
  have HYS := hid (show Ad.le8 L ++ o ++ n ++ h = Y ++ n ++ h by rw [hY])
  have HY := hid hY
  have hsep : ∀ {x : World} {v : Value} (l : List (BitVec 8)), OB x (w.heap.size + 1) v l → ∀ g, v.ownBlock = some g → ∀ p ∈ [(w.heap.size, cs U8 n)], p.1 ≠ g := by
    intro x v l O g hg p hp
    have h1 := (O.lt g hg).1
    simp only [List.mem_cons, List.not_mem_nil, or_false] at hp
    rcases hp with rfl
    show w.heap.size ≠ g; omega
  clear hvo hvh hL hY
  have M0 := Mm.start no w
  go_enter Tryd.func49, Tryd.ntmps49
  have M2 := (M0.alloc (cs U8 n) 28 (by decide))
  try simp only [World.size_alloc] at M2
  go_upto_region 2 with fail
  obtain ⟨w1, hw1⟩ : ∃ w1, w1 = (w.alloc (.cells (cs U8 n) 28)) := ⟨_, rfl⟩
  rw [← hw1] at M2 ⊢
  clear hw1
  refine wp_region_lin (.op 0 .done) (by rfl) ?_
  refine wpT_valp 8 (v := .int .i64 0) rfl rfl rfl (by go_simp) ?_
  dsimp only [wpT]
  try simp only [Act.put, List.setIfInBounds_toArray, List.set_cons_succ, List.set_cons_zero]
  go_wp2_with fail
  go_loopw [7, 8] (fun u x wr => ∃ i : Nat, i ≤ 8 ∧ x = .int .i64 i ∧ OB wr (w.heap.size + 1) u (leP L i) ∧ Mm no w [(w.heap.size, cs U8 n)] wr) (fun _ x _ => 8 - (intOf x).toNat)
  case atStart => exact ⟨0, by omega, rfl, by rw [leP_0]; exact OB.nil _ _, M2⟩
  case round =>
    clear M2 M0
    obtain ⟨i, hi, rfl, HO, M⟩ := hrel
    by_cases hlt : i < 8
    · have hlt2 : (i : Int) < 8 := by omega
      have hi0 : (0 : Int) ≤ (i : Int) := by omega
      obtain ⟨q, hq⟩ : ∃ q, q = 8 * i := ⟨_, rfl⟩
      have HQ := hid (show IntKind.i64.wrap (8 * (i : Int)) = (q : Int) by rw [i64m _ (by omega) (by omega), hq]; omega)
      have HQ64 := hid (show IntKind.u64.wrap (q : Int) = (q : Int) by rw [IntKind.wrap_u64]; omega)
      have hq0 : (0 : Int) ≤ (q : Int) := by omega
      obtain ⟨z, hz⟩ : ∃ z, (BitVec.ofNat 64 L >>> q).setWidth 8 = z := ⟨_, rfl⟩
      have HZ := hid hz
      have HL := hid (show leP L (i + 1) = leP L i ++ [z] by rw [leP_succ, ← hz, hq, le8_z L i (by omega)])
      clear hq hz
      go_upto_region 5 with fail
      refine wp_region_lin (.op 0 (.op 1 (.op 2 (.op 3 (.op 4 (.op 5 (.op 6 (.op 7 (.op 8 (.op 9 (.op 10 (.op 11 .done)))))))))))) (by rfl) ?_
      refine wpT_valp 14 (v := u7) rfl rfl rfl (by go_simp) ?_
      refine wpT_valp 15 (v := .slice AO L co) rfl rfl rfl (by go_simp) ?_
      refine wpT_valp 16 (v := .int .i64 L) rfl rfl rfl (by go_simp) ?_
      refine wpT_valp 17 (v := U64 (BitVec.ofNat 64 L)) rfl rfl rfl (by have h := HC.out; go_simp) ?_
      try simp only [Act.put, List.setIfInBounds_toArray, List.set_cons_succ, List.set_cons_zero]
      refine wpT_valp 18 (v := .int .i64 i) rfl rfl rfl (by go_simp) ?_
      refine wpT_valp 19 (v := .int .i64 q) rfl rfl rfl (by have h := HQ.out; go_simp) ?_
      refine wpT_valp 20 (v := .int .u64 q) rfl rfl rfl (by have h := HQ64.out; go_simp) ?_
      refine wpT_valp 21 (v := U64 (BitVec.ofNat 64 L >>> q)) rfl rfl rfl (by go_simp) ?_
      refine wpT_valp 22 (v := U8 z) rfl rfl rfl (by have h := HZ.out; go_simp) ?_
      try simp only [Act.put, List.setIfInBounds_toArray, List.set_cons_succ, List.set_cons_zero]
      refine wpT_b8 (len := 1) 23 M [z] rfl (by decide) (by decide) rfl rfl rfl (by go_simp; rfl) rfl (fun g1 w2 h4 M3 B5 _ _ => ?_)
      replace HO := HO.below B5
      refine wpT_apb 24 _ _ M3 (w.heap.size + 1) (u7) (.slice (some ⟨g1, 0, none⟩) 1 1) (leP L i) ([z]) rfl rfl rfl rfl (by go_simp) HO (by go_simp) h4 (by simp [leP_len]; omega) (Nat.succ_le_of_lt (M3.lt (b := w.heap.size) (c := cs U8 n) (by simp))) (Nat.le_add_right _ _) (fun g hg p hp => hsep _ HO g hg p hp) (fun u9 w9 O9 M9 => ?_)
      refine wpT_valp 7 (v := u9) rfl rfl rfl (by go_simp) ?_
      dsimp only [wpT]
      try simp only [Act.put, List.setIfInBounds_toArray, List.set_cons_succ, List.set_cons_zero]
      go_wp2_with fail
      go_roundw
      case rel => exact ⟨i + 1, by omega, by simp, by rw [HL.out]; exact O9, M9⟩
      case measure => simp only [intOf]; omega
    · obtain rfl : i = 8 := by omega
      rw [leP_8] at HO
      go_upto_region 6 with fail
      refine wp_region_lin (.op 0 (.op 1 (.op 2 (.op 3 .done)))) (by rfl) ?_
      refine wpT_valp 25 (v := u7) rfl rfl rfl (by go_simp) ?_
      refine wpT_valp 26 (v := .slice AO L co) rfl rfl rfl (by go_simp) ?_
      refine wpT_apb 27 _ _ M (w.heap.size + 1) (u7) (.slice AO L co) (Ad.le8 L) (o) rfl rfl rfl rfl (by go_simp) HO (by go_simp) (SV.below HVO.out M.end_) (by rw [le8_len]; omega) (Nat.succ_le_of_lt (M.lt (b := w.heap.size) (c := cs U8 n) (by simp))) (Nat.le_add_right _ _) (fun g hg p hp => hsep _ HO g hg p hp) (fun u8 w8 O8 M8 => ?_)
      refine wpT_valp 7 (v := u8) rfl rfl rfl (by go_simp) ?_
      dsimp only [wpT]
      try simp only [Act.put, List.setIfInBounds_toArray, List.set_cons_succ, List.set_cons_zero]
      go_upto_region 7 with fail
      refine wp_region_lin (.op 0 .done) (by rfl) ?_
      refine wpT_valp 9 (v := .int .i64 0) rfl rfl rfl (by go_simp) ?_
      dsimp only [wpT]
      try simp only [Act.put, List.setIfInBounds_toArray, List.set_cons_succ, List.set_cons_zero]
      go_wp2_with fail
      rw [← HY.out] at O8
      go_loopw [7, 9] (fun u x wr => ∃ j : Nat, j ≤ 12 ∧ x = .int .i64 j ∧ OB wr (w.heap.size + 1) u (Y ++ n.take j) ∧ Mm no w [(w.heap.size, cs U8 n)] wr) (fun _ x _ => 12 - (intOf x).toNat)
      case atStart => exact ⟨0, by omega, rfl, by simpa using O8, M8⟩
      case round =>
        clear M8 O8 M HO
        obtain ⟨j, hj, rfl, HO, M⟩ := hrel
        by_cases hj12 : j < 12
        · have hjlt : (j : Int) < 12 := by omega
          have hj0 : (0 : Int) ≤ (j : Int) := by omega
          obtain ⟨z, ez⟩ : ∃ z, z = n.getD j 0 := ⟨_, rfl⟩
          have HZ := hid (show Y ++ n.take j ++ [z] = Y ++ n.take (j + 1) by rw [take_succ_getD n 0 j (by omega), List.append_assoc, ez])
          have Hz := hid ez
          clear ez
          go_upto_region 10 with fail
          refine wp_region_lin (.op 0 (.op 1 (.op 2 (.op 3 (.op 4 (.op 5 (.op 6 .done))))))) (by rfl) ?_
          refine wpT_valp 32 (v := u7) rfl rfl rfl (by go_simp) ?_
          refine wpT_valp 33 (v := .int .i64 j) rfl rfl rfl (by go_simp) ?_
          refine wpT_valp 34 (v := .pointer (some ⟨w.heap.size, j, none⟩)) rfl rfl rfl (by go_simp) ?_
          refine wpT_valp 35 (v := U8 z) rfl rfl rfl (by have c0 := cell_cs 0 (M.row (b := w.heap.size) (c := cs U8 n) (by simp)) (i := j) (by omega); rw [← Hz.out] at c0; go_simp) ?_
          try simp only [Act.put, List.setIfInBounds_toArray, List.set_cons_succ, List.set_cons_zero]
          refine wpT_b8 (len := 1) 36 M [z] rfl (by decide) (by decide) rfl rfl rfl (by go_simp; rfl) rfl (fun g1 w2 h4 M3 B5 _ _ => ?_)
          replace HO := HO.below B5
          refine wpT_apb 37 _ _ M3 (w.heap.size + 1) (u7) (.slice (some ⟨g1, 0, none⟩) 1 1) (Y ++ n.take j) ([z]) rfl rfl rfl rfl (by go_simp) HO (by go_simp) h4 (by simp; omega) (Nat.succ_le_of_lt (M3.lt (b := w.heap.size) (c := cs U8 n) (by simp))) (Nat.le_add_right _ _) (fun g hg p hp => hsep _ HO g hg p hp) (fun u9 w9 O9 M9 => ?_)
          refine wpT_valp 7 (v := u9) rfl rfl rfl (by go_simp) ?_
          dsimp only [wpT]
          try simp only [Act.put, List.setIfInBounds_toArray, List.set_cons_succ, List.set_cons_zero]
          go_wp2_with fail
          rw [HZ.out] at O9
          go_roundw
          case rel => exact ⟨j + 1, by omega, by simp, O9, M9⟩
          case measure => simp only [intOf]; omega
        · obtain rfl : j = 12 := by omega
          rw [List.take_of_length_le (by omega)] at HO
          go_upto_region 11 with fail
          refine wp_region_lin (.op 0 (.op 1 (.op 2 (.op 3 .done)))) (by rfl) ?_
          refine wpT_valp 38 (v := u7) rfl rfl rfl (by go_simp) ?_
          refine wpT_valp 39 (v := vh) rfl rfl rfl (by go_simp) ?_
          refine wpT_apb 40 _ _ M (w.heap.size + 1) (u7) (vh) (Y ++ n) (h) rfl rfl rfl rfl (by go_simp) HO (by go_simp) (SV.below HVH.out M.end_) (by simp; omega) (Nat.succ_le_of_lt (M.lt (b := w.heap.size) (c := cs U8 n) (by simp))) (Nat.le_add_right _ _) (fun g hg p hp => hsep _ HO g hg p hp) (fun u9 w9 O9 M9 => ?_)
          refine wpT_valp 6 (v := u9) rfl rfl rfl (by go_simp) ?_
          dsimp only [wpT]
          try simp only [Act.put, List.setIfInBounds_toArray, List.set_cons_succ, List.set_cons_zero]
          go_wp2_with fail
          go_ret
          exact ⟨_, rfl, by rw [HYS.out]; exact O9.mono (Nat.le_add_right _ _), M9.end_⟩
theorem rproof_v (w : World) (n o h : List (BitVec 8)) (vo vh : Value) (P : List (BitVec 8)) (hn : n.length = 12) (hvo : BS w vo o) (hvh : BS w vh h) (hol : o.length ≤ 70000) (hhl : h.length ≤ 70000) (hP : P = Ad.le8 o.length ++ o ++ n ++ h) :
    Calls Tryd.prog 49 #[.agg (cs U8 n), vo, vh] w fun e w' => ∃ v, e = .returned v ∧ BN w' w.heap.size v P ∧ Below w.heap.size w w' := by
  rw [hP]; exact (rproof w n o h vo vh hn hvo hvh hol hhl).mono fun e w' ⟨v, h1, h2, h3⟩ => ⟨v, h1, h2.bn, h3⟩
theorem rbytes_v (w : World) (l : List (BitVec 8)) (hl : l.length = 32) :
    Calls Tryd.prog 48 #[.agg (cs U8 l)] w fun e w' => ∃ v, e = .returned v ∧ BN w' w.heap.size v l ∧ Below w.heap.size w w' :=
  (rbytes_any w l hl).mono fun e w' ⟨v, h1, h2, h3⟩ => ⟨v, h1, h2.bn, h3⟩
theorem rshort_v (w : World) (l E : List (BitVec 8)) (hl : l.length = 32) (hE : E = l.take 16) :
    Calls Tryd.prog 46 #[.agg (cs U8 l)] w fun e w' => e = .returned (.agg (cs U8 E)) ∧ Below w.heap.size w w' := by
  rw [hE]; exact rshort_any w l hl
attribute [local irreducible] Sh.mac Sh.derive
set_option maxRecDepth 100000 in
set_option maxHeartbeats 2000000 in
theorem rtag (w : World) (k n o h : List (BitVec 8)) (vo vh : Value) (hk : k.length = 32) (hn : n.length = 12) (hvo : BS w vo o) (hvh : BS w vh h) (hol : o.length ≤ 70000) (hhl : h.length ≤ 70000) :
    Calls Tryd.prog 34 #[.agg (cs U8 k), .agg (cs U8 n), vo, vh] w fun e w' => e = .returned (.agg (cs U8 (Ad.tag k n o h))) ∧ Below w.heap.size w w' := by
  obtain ⟨A, eA⟩ : ∃ A, A = Sh.derive k Ad.proveB := ⟨_, rfl⟩
  have hA : A.length = 32 := by rw [eA]; exact derive_len ..
  obtain ⟨P, eP⟩ : ∃ P, P = Ad.le8 o.length ++ o ++ n ++ h := ⟨_, rfl⟩
  have hPl : P.length ≤ 200000 := by rw [eP]; simp [le8_len]; omega
  obtain ⟨D, eD⟩ : ∃ D, D = Sh.mac A P := ⟨_, rfl⟩
  have hD : D.length = 32 := by rw [eD]; exact mac_len32 ..
  obtain ⟨E, eE⟩ : ∃ E, E = D.take 16 := ⟨_, rfl⟩
  have hE : E.length = 16 := by rw [eE]; simp; omega
  rw [show Ad.tag k n o h = E by rw [eE, eD, eP, eA]; rfl]
  have HA := hid eA
  have HP := hid eP
  have HD := hid eD
  have HE := hid eE
  have HVO := hid hvo
  have HVH := hid hvh
  have T0 := back0 (S := no) (w0 := w)
  clear eA eP eD eE hvo hvh
  have M0 := Mm.start no w
  go_enter Tryd.func34, Tryd.ntmps34
  have M2 := (((M0.alloc (cs U8 k) 23 (by decide)).alloc (cs U8 n) 28 (by decide)).alloc (cs U8 (zs 16)) 40 (by decide))
  try simp only [World.size_alloc] at M2
  go_upto_region 1 with fail
  obtain ⟨w1, hw1⟩ : ∃ w1, w1 = (((w.alloc (.cells (cs U8 k) 23)).alloc (.cells (cs U8 n) 28)).alloc (.cells (cs U8 (zs 16)) 40)) := ⟨_, rfl⟩
  rw [← hw1] at M2 ⊢
  clear hw1
  refine wp_region_lin (.op 0 (.op 1 (.op 2 (.op 3 .done)))) (by rfl) ?_
  refine wpT_ld0 10 Tryd.underlying23 rfl inf_key (w.heap.size) (cs U8 k) rfl rfl rfl (by go_simp) (M2.row (by simp)) (by simp [hk, hn, hA, hE]) rfl ?_
  refine wpT_callv 11 M2 (v := .agg (cs U8 A)) rfl rfl rfl (by go_simp) (rderP HA.out hk) (fun w3 M4 => ?_)
  refine wpT_new (z := .agg (cs U8 (zs 32))) 9 M4 (by kernel_rfl) (by decide) rfl rfl rfl rfl (fun b5 w6 M7 => ?_)
  try dsimp only [Value.cells] at M7
  refine wpT_st0 M7 0 (cs U8 A) inf_key rfl rfl rfl rfl (by go_simp) (by go_simp) (by simp [hk, hn, hA, hE]) (by simp [hk, hn, hA, hE]) (by simp [go_sem]) rfl (fun w8 M9 => ?_)
  dsimp only [List.set] at M9
  dsimp only [wpT]
  try simp only [Act.put, List.setIfInBounds_toArray, List.set_cons_succ, List.set_cons_zero]
  go_upto_region 2 with fail
  refine wp_region_P [3, 4] (.both (.op 0 (.both (.op 1 (.op 2 (.op 5 (.op 6 (.op 7 (.op 8 .done)))))) (.op 2 (.op 1 (.op 5 (.op 6 (.op 7 (.op 8 .done)))))))) (.op 2 (.op 0 (.op 1 (.op 5 (.op 6 (.op 7 (.op 8 .done)))))))) (by kernel_rfl) (by kernel_rfl) (by kernel_rfl) (fun d _ _ _ _ h => by cases d <;> exact h) ?_
  refine wpYJd_op 15 (vo) rfl rfl rfl (fun w1 _ => by go_simp) ?_
  refine wpYJd_op 16 (vh) rfl rfl rfl (fun w1 _ => by go_simp) ?_
  show wpT _ _ _ _ _ _
  try simp only [Act.put, List.setIfInBounds_toArray, List.set_cons_succ, List.set_cons_zero]
  have M10 := M9.drewN 1
  change wpT _ _ _ _ _ (w8.drewN 1)
  obtain ⟨w11, hw11⟩ : ∃ w11, w11 = w8.drewN 1 := ⟨_, rfl⟩
  rw [← hw11] at M10 ⊢
  clear hw11
  refine ⟨?_, ?_⟩
  · refine wpT_ld0 12 Tryd.underlying23 rfl inf_key (b5) (cs U8 A) rfl rfl rfl (by go_simp) (M10.row (by simp)) (by simp [hk, hn, hA, hE]) rfl ?_
    refine ⟨?_, ?_⟩
    · refine wpT_callN 13 M10 (l := A) (fun v => v) rfl rfl rfl (by go_simp) (rbytes_v w11 A hA) (fun v21 w21 S21 M21 T21 K21 => ?_)
      replace T0 := backT T0 T21
      refine wpT_ld0 14 Tryd.underlying28 rfl inf_n12 (w.heap.size + 1) (cs U8 n) rfl rfl rfl (by go_simp) (M21.row (by simp)) (by simp [hk, hn, hA, hE]) rfl ?_
      refine wpT_callN 17 M21 (l := P) (fun v => v) rfl rfl rfl (by go_simp) (rproof_v w21 n o h vo vh P hn (SV.below HVO.out (T0.out _ _ M21).end_) (SV.below HVH.out (T0.out _ _ M21).end_) hol hhl HP.out) (fun v22 w22 S22 M22 T22 K22 => ?_)
      replace T0 := backT T0 T22
      replace K21 := backT K21 T22
      refine wpT_callv 18 M22 (v := .agg (cs U8 D)) rfl rfl rfl (by go_simp) (rmacD HD.out (K21.out _ _ M22).1 (K22.out _ _ M22).1 (by omega) (by omega)) (fun w23 M23 => ?_)
      try simp only [Act.put, List.setIfInBounds_toArray, List.set_cons_succ, List.set_cons_zero]
      refine wpT_callv 19 M23 (v := .agg (cs U8 E)) rfl rfl rfl (by go_simp) (rshort_v w23 D E hD HE.out) (fun w24 M24 => ?_)
      refine wpT_st0 M24 1 (cs U8 E) inf_tag rfl rfl rfl rfl (by go_simp) (by go_simp) (by simp [hk, hn, hA, hE]) (by simp [hk, hn, hA, hE]) (by simp [go_sem]) rfl (fun w12 M13 => ?_)
      dsimp only [List.set] at M13
      dsimp only [wpT]
      try simp only [Act.put, List.setIfInBounds_toArray, List.set_cons_succ, List.set_cons_zero]
      go_wp2_with fail
      have r14 := M13.row (b := w.heap.size + 1 + 1) (c := cs U8 E) (by simp)
      refine bodyPost_ret (res_row (b := w.heap.size + 1 + 1) rfl Tryd.underlying40 rfl inf_tag _ _ rfl (by rw [r14]; simp [hk, hn, hA, hE])) rfl ?_
      rw [r14]
      exact ⟨rfl, (T0.out _ _ M13).end_⟩
    · refine wpT_ld0 14 Tryd.underlying28 rfl inf_n12 (w.heap.size + 1) (cs U8 n) rfl rfl rfl (by go_simp) (M10.row (by simp)) (by simp [hk, hn, hA, hE]) rfl ?_
      refine wpT_callN 13 M10 (l := A) (fun v => v) rfl rfl rfl (by go_simp) (rbytes_v w11 A hA) (fun v21 w21 S21 M21 T21 K21 => ?_)
      replace T0 := backT T0 T21
      refine wpT_callN 17 M21 (l := P) (fun v => v) rfl rfl rfl (by go_simp) (rproof_v w21 n o h vo vh P hn (SV.below HVO.out (T0.out _ _ M21).end_) (SV.below HVH.out (T0.out _ _ M21).end_) hol hhl HP.out) (fun v22 w22 S22 M22 T22 K22 => ?_)
      replace T0 := backT T0 T22
      replace K21 := backT K21 T22
      refine wpT_callv 18 M22 (v := .agg (cs U8 D)) rfl rfl rfl (by go_simp) (rmacD HD.out (K21.out _ _ M22).1 (K22.out _ _ M22).1 (by omega) (by omega)) (fun w23 M23 => ?_)
      try simp only [Act.put, List.setIfInBounds_toArray, List.set_cons_succ, List.set_cons_zero]
      refine wpT_callv 19 M23 (v := .agg (cs U8 E)) rfl rfl rfl (by go_simp) (rshort_v w23 D E hD HE.out) (fun w24 M24 => ?_)
      refine wpT_st0 M24 1 (cs U8 E) inf_tag rfl rfl rfl rfl (by go_simp) (by go_simp) (by simp [hk, hn, hA, hE]) (by simp [hk, hn, hA, hE]) (by simp [go_sem]) rfl (fun w12 M13 => ?_)
      dsimp only [List.set] at M13
      dsimp only [wpT]
      try simp only [Act.put, List.setIfInBounds_toArray, List.set_cons_succ, List.set_cons_zero]
      go_wp2_with fail
      have r14 := M13.row (b := w.heap.size + 1 + 1) (c := cs U8 E) (by simp)
      refine bodyPost_ret (res_row (b := w.heap.size + 1 + 1) rfl Tryd.underlying40 rfl inf_tag _ _ rfl (by rw [r14]; simp [hk, hn, hA, hE])) rfl ?_
      rw [r14]
      exact ⟨rfl, (T0.out _ _ M13).end_⟩
  · refine wpT_ld0 14 Tryd.underlying28 rfl inf_n12 (w.heap.size + 1) (cs U8 n) rfl rfl rfl (by go_simp) (M10.row (by simp)) (by simp [hk, hn, hA, hE]) rfl ?_
    refine wpT_ld0 12 Tryd.underlying23 rfl inf_key (b5) (cs U8 A) rfl rfl rfl (by go_simp) (M10.row (by simp)) (by simp [hk, hn, hA, hE]) rfl ?_
    refine wpT_callN 13 M10 (l := A) (fun v => v) rfl rfl rfl (by go_simp) (rbytes_v w11 A hA) (fun v21 w21 S21 M21 T21 K21 => ?_)
    replace T0 := backT T0 T21
    refine wpT_callN 17 M21 (l := P) (fun v => v) rfl rfl rfl (by go_simp) (rproof_v w21 n o h vo vh P hn (SV.below HVO.out (T0.out _ _ M21).end_) (SV.below HVH.out (T0.out _ _ M21).end_) hol hhl HP.out) (fun v22 w22 S22 M22 T22 K22 => ?_)
    replace T0 := backT T0 T22
    replace K21 := backT K21 T22
    try simp only [Act.put, List.setIfInBounds_toArray, List.set_cons_succ, List.set_cons_zero]
    refine wpT_callv 18 M22 (v := .agg (cs U8 D)) rfl rfl rfl (by go_simp) (rmacD HD.out (K21.out _ _ M22).1 (K22.out _ _ M22).1 (by omega) (by omega)) (fun w23 M23 => ?_)
    refine wpT_callv 19 M23 (v := .agg (cs U8 E)) rfl rfl rfl (by go_simp) (rshort_v w23 D E hD HE.out) (fun w24 M24 => ?_)
    refine wpT_st0 M24 1 (cs U8 E) inf_tag rfl rfl rfl rfl (by go_simp) (by go_simp) (by simp [hk, hn, hA, hE]) (by simp [hk, hn, hA, hE]) (by simp [go_sem]) rfl (fun w12 M13 => ?_)
    dsimp only [List.set] at M13
    dsimp only [wpT]
    try simp only [Act.put, List.setIfInBounds_toArray, List.set_cons_succ, List.set_cons_zero]
    go_wp2_with fail
    have r14 := M13.row (b := w.heap.size + 1 + 1) (c := cs U8 E) (by simp)
    refine bodyPost_ret (res_row (b := w.heap.size + 1 + 1) rfl Tryd.underlying40 rfl inf_tag _ _ rfl (by rw [r14]; simp [hk, hn, hA, hE])) rfl ?_
    rw [r14]
    exact ⟨rfl, (T0.out _ _ M13).end_⟩
theorem rtag_v (w : World) (k n o h E : List (BitVec 8)) (vo vh : Value) (hk : k.length = 32) (hn : n.length = 12) (hvo : BS w vo o) (hvh : BS w vh h) (hol : o.length ≤ 70000) (hhl : h.length ≤ 70000) (hE : E = Ad.tag k n o h) :
    Calls Tryd.prog 34 #[.agg (cs U8 k), .agg (cs U8 n), vo, vh] w fun e w' => e = .returned (.agg (cs U8 E)) ∧ Below w.heap.size w w' := by
  rw [hE]; exact rtag w k n o h vo vh hk hn hvo hvh hol hhl
attribute [local irreducible] Ad.tag Ad.sealed Ad.hid Ch.xr
set_option maxRecDepth 100000 in
set_option maxHeartbeats 2000000 in
theorem rTag (w : World) (k n o h : List (BitVec 8)) (vo vh : Value) (hk : k.length = 32) (hn : n.length = 12) (hvo : BS w vo o) (hvh : BS w vh h) (hol : o.length ≤ 65520) (hhl : h.length ≤ 65520) :
    Calls Tryd.prog 24 #[.agg (cs U8 k), .agg (cs U8 n), vo, vh] w fun e w' => e = .returned (.tuple #[.agg (cs U8 (Ad.tag k n o h)), .int .i64 0]) ∧ Below w.heap.size w w' := by
  obtain ⟨E, eE⟩ : ∃ E, E = Ad.tag k n o h := ⟨_, rfl⟩
  have hE : E.length = 16 := by rw [eE, tag_len]
  rw [← eE]
  have HE := hid eE
  have HVO := hid hvo
  have HVH := hid hvh
  obtain ⟨AO, co, rfl, -⟩ := hvo.shape
  obtain ⟨AH, ch, rfl, -⟩ := hvh.shape
  have h1 : ¬ (65520 : Int) < (o.length : Int) := by omega
  have h2 : ¬ (65520 : Int) < (h.length : Int) := by omega
  clear eE hvo hvh
  have M0 := Mm.start no w
  go_enter Tryd.func24, Tryd.ntmps24
  have M2 := (((M0.alloc (cs U8 k) 23 (by decide)).alloc (cs U8 n) 28 (by decide)).alloc (cs U8 (zs 16)) 40 (by decide))
  try simp only [World.size_alloc] at M2
  go_upto_region 1 with fail
  obtain ⟨w1, hw1⟩ : ∃ w1, w1 = (((w.alloc (.cells (cs U8 k) 23)).alloc (.cells (cs U8 n) 28)).alloc (.cells (cs U8 (zs 16)) 40)) := ⟨_, rfl⟩
  rw [← hw1] at M2 ⊢
  clear hw1
  refine wp_region_lin (.op 0 (.op 1 (.op 2 (.op 3 (.op 4 (.op 5 (.op 6 (.op 7 .done)))))))) (by rfl) ?_
  refine wpT_valp 10 (v := .slice AO o.length co) rfl rfl rfl (by go_simp) ?_
  refine wpT_valp 11 (v := .int .i64 o.length) rfl rfl rfl (by go_simp) ?_
  refine wpT_valp 12 (v := .bool false) rfl rfl rfl (by go_simp) ?_
  refine wpT_valp 13 (v := .bool false) rfl rfl rfl (by go_simp) ?_
  try simp only [Act.put, List.setIfInBounds_toArray, List.set_cons_succ, List.set_cons_zero]
  refine wpT_valp 14 (v := .slice AH h.length ch) rfl rfl (by simp [Region.wanted, yielded, Act.put]) (by go_simp) ?_
  refine wpT_valp 15 (v := .int .i64 h.length) rfl rfl (by simp [Region.wanted, yielded, Act.put]) (by go_simp) ?_
  refine wpT_valp 16 (v := .bool false) rfl rfl (by simp [Region.wanted, yielded, Act.put]) (by go_simp) ?_
  refine wpT_valp 17 (v := .bool false) rfl rfl rfl (by go_simp) ?_
  dsimp only [wpT]
  try simp only [Act.put, List.setIfInBounds_toArray, List.set_cons_succ, List.set_cons_zero]
  go_upto_region 3 with fail
  refine wp_region_lin (.op 0 (.op 1 (.op 2 (.op 3 (.op 4 (.op 5 (.op 6 .done))))))) (by rfl) ?_
  refine wpT_ld0 19 Tryd.underlying23 rfl inf_key (w.heap.size) (cs U8 k) rfl rfl rfl (by go_simp) (M2.row (by simp)) (by simp [hk, hn, hE]) rfl ?_
  refine wpT_ld0 20 Tryd.underlying28 rfl inf_n12 (w.heap.size + 1) (cs U8 n) rfl rfl rfl (by go_simp) (M2.row (by simp)) (by simp [hk, hn, hE]) rfl ?_
  refine wpT_valp 21 (v := .slice AO o.length co) rfl rfl rfl (by go_simp) ?_
  refine wpT_valp 22 (v := .slice AH h.length ch) rfl rfl rfl (by go_simp) ?_
  try simp only [Act.put, List.setIfInBounds_toArray, List.set_cons_succ, List.set_cons_zero]
  refine wpT_callv 23 M2 (v := .agg (cs U8 E)) rfl rfl rfl (by go_simp) (rtag_v w1 k n o h E (.slice AO o.length co) (.slice AH h.length ch) hk hn (SV.below HVO.out M2.end_) (SV.below HVH.out M2.end_) (by omega) (by omega) HE.out) (fun w3 M4 => ?_)
  refine wpT_st0 M4 0 (cs U8 E) inf_tag rfl rfl rfl rfl (by go_simp) (by go_simp) (by simp [hk, hn, hE]) (by simp [hk, hn, hE]) (by simp [go_sem]) rfl (fun w5 M6 => ?_)
  dsimp only [List.set] at M6
  refine wpT_valp 9 (v := .int .i64 0) rfl rfl rfl (by go_simp) ?_
  dsimp only [wpT]
  try simp only [Act.put, List.setIfInBounds_toArray, List.set_cons_succ, List.set_cons_zero]
  go_wp2_with fail
  have r7 := M6.row (b := w.heap.size + 1 + 1) (c := cs U8 E) (by simp)
  refine bodyPost_ret (res_two rfl (rv_row Tryd.underlying40 rfl inf_tag (w.heap.size + 1 + 1) rfl (by rw [r7]; simp [hk, hn, hE])) (rv_tmp _ _ rfl)) rfl ?_
  rw [r7]
  exact ⟨rfl, M6.end_⟩
set_option maxRecDepth 100000 in
set_option maxHeartbeats 2000000 in
theorem rSeal (w : World) (k n o b : List (BitVec 8)) (vo vb : Value) (hk : k.length = 32) (hn : n.length = 12) (hvo : BS w vo o) (hvb : BS w vb b) (hol : o.length ≤ 65520) (hbl : b.length ≤ 65520) :
    Calls Tryd.prog 22 #[.agg (cs U8 k), .agg (cs U8 n), vo, vb] w fun e w' => ∃ v, e = .returned (.tuple #[v, .int .i64 0]) ∧ OB w' w.heap.size v (Ad.sealed k n o b) ∧ Below w.heap.size w w' := by
  obtain ⟨A, eA⟩ : ∃ A, A = Sh.derive k Ad.hideB := ⟨_, rfl⟩
  have hA : A.length = 32 := by rw [eA]; exact derive_len ..
  obtain ⟨X, eX⟩ : ∃ X, X = Ad.hid k n b := ⟨_, rfl⟩
  have hX : X.length = b.length := by rw [eX, hid_len]
  obtain ⟨E, eE⟩ : ∃ E, E = Ad.tag k n o X := ⟨_, rfl⟩
  have hE : E.length = 16 := by rw [eE, tag_len]
  rw [show Ad.sealed k n o b = X ++ E by rw [eE, eX]; unfold Ad.sealed; rfl]
  have HX := hid (show X = Ch.xr A n 0#32 b by rw [eX, eA]; unfold Ad.hid; rfl)
  have HA := hid eA
  have HE := hid eE
  have HVO := hid hvo
  have HVB := hid hvb
  obtain ⟨AO, co, rfl, -⟩ := hvo.shape
  obtain ⟨AB, cb, rfl, -⟩ := hvb.shape
  have h1 : ¬ (65520 : Int) < (o.length : Int) := by omega
  have h2 : ¬ (65520 : Int) < (b.length : Int) := by omega
  clear eA eX eE hvo hvb
  have M0 := Mm.start no w
  go_enter Tryd.func22, Tryd.ntmps22
  have M2 := ((M0.alloc (cs U8 k) 23 (by decide)).alloc (cs U8 n) 28 (by decide))
  try simp only [World.size_alloc] at M2
  go_upto_region 1 with fail
  obtain ⟨w1, hw1⟩ : ∃ w1, w1 = ((w.alloc (.cells (cs U8 k) 23)).alloc (.cells (cs U8 n) 28)) := ⟨_, rfl⟩
  rw [← hw1] at M2 ⊢
  clear hw1
  refine wp_region_lin (.op 0 (.op 1 (.op 2 (.op 3 (.op 4 (.op 5 (.op 6 (.op 7 .done)))))))) (by rfl) ?_
  refine wpT_valp 14 (v := .slice AO o.length co) rfl rfl rfl (by go_simp) ?_
  refine wpT_valp 15 (v := .int .i64 o.length) rfl rfl rfl (by go_simp) ?_
  refine wpT_valp 16 (v := .bool false) rfl rfl rfl (by go_simp) ?_
  refine wpT_valp 17 (v := .bool false) rfl rfl rfl (by go_simp) ?_
  try simp only [Act.put, List.setIfInBounds_toArray, List.set_cons_succ, List.set_cons_zero]
  refine wpT_valp 18 (v := .slice AB b.length cb) rfl rfl (by simp [Region.wanted, yielded, Act.put]) (by go_simp) ?_
  refine wpT_valp 19 (v := .int .i64 b.length) rfl rfl (by simp [Region.wanted, yielded, Act.put]) (by go_simp) ?_
  refine wpT_valp 20 (v := .bool false) rfl rfl (by simp [Region.wanted, yielded, Act.put]) (by go_simp) ?_
  refine wpT_valp 21 (v := .bool false) rfl rfl rfl (by go_simp) ?_
  dsimp only [wpT]
  try simp only [Act.put, List.setIfInBounds_toArray, List.set_cons_succ, List.set_cons_zero]
  go_upto_region 3 with fail
  apply meet2 (P := fun (u : Value) (w' : World) => Mm no w [(w.heap.size + 1, cs U8 n), (w.heap.size, cs U8 k)] w' ∧ OB w' (w.heap.size + 2) u X)
  case h1 =>
    intro rest
    refine wp_region_P [3] (.both (.op 0 (.both (.op 1 (.op 2 (.op 4 (.op 5 (.both (.op 6 (.both (.op 7 (.op 8 (.op 9 .done))) (.op 8 (.op 7 (.op 9 .done))))) (.op 7 (.op 6 (.op 8 (.op 9 .done))))))))) (.op 2 (.op 1 (.op 4 (.op 5 (.both (.op 6 (.both (.op 7 (.op 8 (.op 9 .done))) (.op 8 (.op 7 (.op 9 .done))))) (.op 7 (.op 6 (.op 8 (.op 9 .done))))))))))) (.op 2 (.op 0 (.op 1 (.op 4 (.op 5 (.both (.op 6 (.both (.op 7 (.op 8 (.op 9 .done))) (.op 8 (.op 7 (.op 9 .done))))) (.op 7 (.op 6 (.op 8 (.op 9 .done))))))))))) (by kernel_rfl) (by kernel_rfl) (by kernel_rfl) (fun d _ _ _ _ h => by cases d <;> exact h) ?_
    refine wpYJd_op 26 (.slice AB b.length cb) rfl rfl rfl (fun w1 _ => by go_simp) ?_
    show wpT _ _ _ _ _ _
    try simp only [Act.put, List.setIfInBounds_toArray, List.set_cons_succ, List.set_cons_zero]
    have M3 := M2.drewN 1
    change wpT _ _ _ _ _ (w1.drewN 1)
    obtain ⟨w4, hw4⟩ : ∃ w4, w4 = w1.drewN 1 := ⟨_, rfl⟩
    rw [← hw4] at M3 ⊢
    clear hw4
    refine ⟨?_, ?_⟩
    · refine wpT_ld0 23 Tryd.underlying23 rfl inf_key (w.heap.size) (cs U8 k) rfl rfl rfl (by go_simp) (M3.row (by simp)) (by simp [hk, hn, hA, hE]) rfl ?_
      refine ⟨?_, ?_⟩
      · refine wpT_callv 24 M3 (v := .agg (cs U8 A)) rfl rfl rfl (by go_simp) (rderH HA.out hk) (fun w5 M6 => ?_)
        refine wpT_ld0 25 Tryd.underlying28 rfl inf_n12 (w.heap.size + 1) (cs U8 n) rfl rfl rfl (by go_simp) (M6.row (by simp)) (by simp [hk, hn, hA, hE]) rfl ?_
        have hz26 := M6.lt (b := w.heap.size + 1) (c := cs U8 n) (by simp)
        refine wpT_callx 27 M6 (X := fun v w' => ∃ u, v = .tuple #[u, .int .i64 0] ∧ OB w' (w.heap.size + 2) u X) rfl rfl rfl (by go_simp; rfl) ((rxor w5 A n b 0#32 _ hA hn (SV.below HVB.out M6.end_) (by omega) (by decide)).mono (fun e w' ⟨v, h1, h2, h3⟩ => ⟨_, h1, ⟨v, rfl, by rw [HX.out]; exact h2.mono (by omega)⟩, h3⟩)) (fun v26 w26 h26 M26 _ => ?_)
        obtain ⟨u26, rfl, O26⟩ := h26
        refine wpT_valp 22 (v := .tuple #[u26, .int .i64 0]) rfl rfl rfl (by go_simp) ?_
        refine ⟨?_, ?_⟩
        · refine wpT_valp 28 (v := u26) rfl rfl rfl (by go_simp) ?_
          refine ⟨?_, ?_⟩
          · refine wpT_valp 29 (v := .int .i64 0) rfl rfl rfl (by go_simp) ?_
            refine wpT_valp 10 (v := u26) rfl rfl rfl (by go_simp) ?_
            refine wpT_valp 11 (v := .int .i64 0) rfl rfl rfl (by go_simp) ?_
            dsimp only [wpT]
            try simp only [Act.put, List.setIfInBounds_toArray, List.set_cons_succ, List.set_cons_zero]
            exact rest u26 _ ⟨M26, O26⟩
          · refine wpT_valp 10 (v := u26) rfl rfl rfl (by go_simp) ?_
            refine wpT_valp 29 (v := .int .i64 0) rfl rfl rfl (by go_simp) ?_
            refine wpT_valp 11 (v := .int .i64 0) rfl rfl rfl (by go_simp) ?_
            dsimp only [wpT]
            try simp only [Act.put, List.setIfInBounds_toArray, List.set_cons_succ, List.set_cons_zero]
            exact rest u26 _ ⟨M26, O26⟩
        · refine wpT_valp 29 (v := .int .i64 0) rfl rfl rfl (by go_simp) ?_
          refine wpT_valp 28 (v := u26) rfl rfl rfl (by go_simp) ?_
          refine wpT_valp 10 (v := u26) rfl rfl rfl (by go_simp) ?_
          refine wpT_valp 11 (v := .int .i64 0) rfl rfl rfl (by go_simp) ?_
          dsimp only [wpT]
          try simp only [Act.put, List.setIfInBounds_toArray, List.set_cons_succ, List.set_cons_zero]
          exact rest u26 _ ⟨M26, O26⟩
      · refine wpT_ld0 25 Tryd.underlying28 rfl inf_n12 (w.heap.size + 1) (cs U8 n) rfl rfl rfl (by go_simp) (M3.row (by simp)) (by simp [hk, hn, hA, hE]) rfl ?_
        refine wpT_callv 24 M3 (v := .agg (cs U8 A)) rfl rfl rfl (by go_simp) (rderH HA.out hk) (fun w5 M6 => ?_)
        have hz26 := M6.lt (b := w.heap.size + 1) (c := cs U8 n) (by simp)
        refine wpT_callx 27 M6 (X := fun v w' => ∃ u, v = .tuple #[u, .int .i64 0] ∧ OB w' (w.heap.size + 2) u X) rfl rfl rfl (by go_simp; rfl) ((rxor w5 A n b 0#32 _ hA hn (SV.below HVB.out M6.end_) (by omega) (by decide)).mono (fun e w' ⟨v, h1, h2, h3⟩ => ⟨_, h1, ⟨v, rfl, by rw [HX.out]; exact h2.mono (by omega)⟩, h3⟩)) (fun v26 w26 h26 M26 _ => ?_)
        obtain ⟨u26, rfl, O26⟩ := h26
        refine wpT_valp 22 (v := .tuple #[u26, .int .i64 0]) rfl rfl rfl (by go_simp) ?_
        refine ⟨?_, ?_⟩
        · refine wpT_valp 28 (v := u26) rfl rfl rfl (by go_simp) ?_
          refine ⟨?_, ?_⟩
          · refine wpT_valp 29 (v := .int .i64 0) rfl rfl rfl (by go_simp) ?_
            refine wpT_valp 10 (v := u26) rfl rfl rfl (by go_simp) ?_
            refine wpT_valp 11 (v := .int .i64 0) rfl rfl rfl (by go_simp) ?_
            dsimp only [wpT]
            try simp only [Act.put, List.setIfInBounds_toArray, List.set_cons_succ, List.set_cons_zero]
            exact rest u26 _ ⟨M26, O26⟩
          · refine wpT_valp 10 (v := u26) rfl rfl rfl (by go_simp) ?_
            refine wpT_valp 29 (v := .int .i64 0) rfl rfl rfl (by go_simp) ?_
            refine wpT_valp 11 (v := .int .i64 0) rfl rfl rfl (by go_simp) ?_
            dsimp only [wpT]
            try simp only [Act.put, List.setIfInBounds_toArray, List.set_cons_succ, List.set_cons_zero]
            exact rest u26 _ ⟨M26, O26⟩
        · refine wpT_valp 29 (v := .int .i64 0) rfl rfl rfl (by go_simp) ?_
          refine wpT_valp 28 (v := u26) rfl rfl rfl (by go_simp) ?_
          refine wpT_valp 10 (v := u26) rfl rfl rfl (by go_simp) ?_
          refine wpT_valp 11 (v := .int .i64 0) rfl rfl rfl (by go_simp) ?_
          dsimp only [wpT]
          try simp only [Act.put, List.setIfInBounds_toArray, List.set_cons_succ, List.set_cons_zero]
          exact rest u26 _ ⟨M26, O26⟩
    · refine wpT_ld0 25 Tryd.underlying28 rfl inf_n12 (w.heap.size + 1) (cs U8 n) rfl rfl rfl (by go_simp) (M3.row (by simp)) (by simp [hk, hn, hA, hE]) rfl ?_
      refine wpT_ld0 23 Tryd.underlying23 rfl inf_key (w.heap.size) (cs U8 k) rfl rfl rfl (by go_simp) (M3.row (by simp)) (by simp [hk, hn, hA, hE]) rfl ?_
      refine wpT_callv 24 M3 (v := .agg (cs U8 A)) rfl rfl rfl (by go_simp) (rderH HA.out hk) (fun w5 M6 => ?_)
      have hz26 := M6.lt (b := w.heap.size + 1) (c := cs U8 n) (by simp)
      refine wpT_callx 27 M6 (X := fun v w' => ∃ u, v = .tuple #[u, .int .i64 0] ∧ OB w' (w.heap.size + 2) u X) rfl rfl rfl (by go_simp; rfl) ((rxor w5 A n b 0#32 _ hA hn (SV.below HVB.out M6.end_) (by omega) (by decide)).mono (fun e w' ⟨v, h1, h2, h3⟩ => ⟨_, h1, ⟨v, rfl, by rw [HX.out]; exact h2.mono (by omega)⟩, h3⟩)) (fun v26 w26 h26 M26 _ => ?_)
      obtain ⟨u26, rfl, O26⟩ := h26
      try simp only [Act.put, List.setIfInBounds_toArray, List.set_cons_succ, List.set_cons_zero]
      refine wpT_valp 22 (v := .tuple #[u26, .int .i64 0]) rfl rfl rfl (by go_simp) ?_
      refine ⟨?_, ?_⟩
      · refine wpT_valp 28 (v := u26) rfl rfl rfl (by go_simp) ?_
        refine ⟨?_, ?_⟩
        · refine wpT_valp 29 (v := .int .i64 0) rfl rfl rfl (by go_simp) ?_
          refine wpT_valp 10 (v := u26) rfl rfl rfl (by go_simp) ?_
          refine wpT_valp 11 (v := .int .i64 0) rfl rfl rfl (by go_simp) ?_
          dsimp only [wpT]
          try simp only [Act.put, List.setIfInBounds_toArray, List.set_cons_succ, List.set_cons_zero]
          exact rest u26 _ ⟨M26, O26⟩
        · refine wpT_valp 10 (v := u26) rfl rfl rfl (by go_simp) ?_
          refine wpT_valp 29 (v := .int .i64 0) rfl rfl rfl (by go_simp) ?_
          refine wpT_valp 11 (v := .int .i64 0) rfl rfl rfl (by go_simp) ?_
          dsimp only [wpT]
          try simp only [Act.put, List.setIfInBounds_toArray, List.set_cons_succ, List.set_cons_zero]
          exact rest u26 _ ⟨M26, O26⟩
      · refine wpT_valp 29 (v := .int .i64 0) rfl rfl rfl (by go_simp) ?_
        refine wpT_valp 28 (v := u26) rfl rfl rfl (by go_simp) ?_
        refine wpT_valp 10 (v := u26) rfl rfl rfl (by go_simp) ?_
        refine wpT_valp 11 (v := .int .i64 0) rfl rfl rfl (by go_simp) ?_
        dsimp only [wpT]
        try simp only [Act.put, List.setIfInBounds_toArray, List.set_cons_succ, List.set_cons_zero]
        exact rest u26 _ ⟨M26, O26⟩
  case h2 =>
  rintro u1 w1 ⟨M1, O1⟩
  obtain ⟨S1, MR, hS1, hT1⟩ := M1.rebase
  have M1 := MR
  have HT1 := hid hT1
  go_upto_region 4 with fail
  refine wp_region_lin (.op 0 (.op 1 (.op 2 (.op 3 (.op 4 (.op 5 (.op 6 .done))))))) (by rfl) ?_
  refine wpT_ld0 30 Tryd.underlying23 rfl inf_key (w.heap.size) (cs U8 k) rfl rfl rfl (by go_simp) (M1.row (by simp)) (by simp [hk, hn, hA, hE]) rfl ?_
  refine wpT_ld0 31 Tryd.underlying28 rfl inf_n12 (w.heap.size + 1) (cs U8 n) rfl rfl rfl (by go_simp) (M1.row (by simp)) (by simp [hk, hn, hA, hE]) rfl ?_
  refine wpT_valp 32 (v := .slice AO o.length co) rfl rfl rfl (by go_simp) ?_
  refine wpT_valp 33 (v := u1) rfl rfl rfl (by go_simp) ?_
  try simp only [Act.put, List.setIfInBounds_toArray, List.set_cons_succ, List.set_cons_zero]
  refine wpT_callx 34 M1 (X := fun v _ => v = .agg (cs U8 E)) rfl rfl rfl (by go_simp) ((rtag_v w1 k n o X E _ _ hk hn (SV.below HVO.out (HT1.out _ _ M1).end_) O1.bs (by omega) (by omega) HE.out).mono (fun e w' ⟨h1, h2⟩ => ⟨_, h1, rfl, h2⟩)) (fun v2 w2 hv2 M2 B2 => ?_)
  subst hv2
  refine wpT_new (z := .agg (cs U8 (zs 16))) 12 M2 (by kernel_rfl) (by decide) rfl rfl rfl rfl (fun b3 w4 M5 => ?_)
  try dsimp only [Value.cells] at M5
  refine wpT_st0 M5 0 (cs U8 E) inf_tag rfl rfl rfl rfl (by go_simp) (by go_simp) (by simp [hk, hn, hA, hE]) (by simp [hk, hn, hA, hE]) (by simp [go_sem]) rfl (fun w6 M7 => ?_)
  dsimp only [List.set] at M7
  dsimp only [wpT]
  try simp only [Act.put, List.setIfInBounds_toArray, List.set_cons_succ, List.set_cons_zero]
  go_upto_region 5 with fail
  have O4 := O1.fr' M7.fr (fun g hg e => by
    have h1 := (O1.lt g hg).1
    have h2 := hS1 g e
    simp at h2
    omega)
  have nb3 : ∀ g, u1.ownBlock = some g → b3 ≠ g := by
    intro g hg e
    have h3 := O1.lt g hg
    subst e
    rcases (M7.own (b3, cs U8 E) (by simp)).1 with h | h
    · have := hS1 _ h
      simp at this
      omega
    · have : w1.heap.size ≤ b3 := h
      omega
  have MZ := hT1 _ _ M7
  refine wp_region_lin (.op 0 .done) (by rfl) ?_
  refine wpT_valp 13 (v := .int .i64 0) rfl rfl rfl (by go_simp) ?_
  dsimp only [wpT]
  try simp only [Act.put, List.setIfInBounds_toArray, List.set_cons_succ, List.set_cons_zero]
  go_wp2_with fail
  have hz3 := MZ.lt (b := b3) (c := cs U8 E) (by simp)
  clear O1 hT1 HT1 hS1 MR
  go_loopw [10, 13] (fun u x wr => ∃ j : Nat, j ≤ 16 ∧ x = .int .i64 j ∧ OB wr (w.heap.size + 2) u (X ++ E.take j) ∧ (∀ g, u.ownBlock = some g → b3 ≠ g) ∧ Mm no w [(b3, cs U8 E), (w.heap.size + 1, cs U8 n), (w.heap.size, cs U8 k)] wr) (fun _ x _ => 16 - (intOf x).toNat)
  case atStart => exact ⟨0, by omega, rfl, by simpa using O4, nb3, MZ⟩
  case round =>
    clear MZ O4 nb3
    obtain ⟨j, hj, rfl, OU, nb, M⟩ := hrel
    by_cases hj64 : j < 16
    · have hjlt : (j : Int) < 16 := by omega
      have hj0 : (0 : Int) ≤ (j : Int) := by omega
      obtain ⟨z, ez⟩ : ∃ z, z = E.getD j 0 := ⟨_, rfl⟩
      have HZ := hid (show X ++ E.take j ++ [z] = X ++ E.take (j + 1) by rw [take_succ_getD E 0 j (by omega), List.append_assoc, ez])
      have Hz := hid ez
      clear ez
      go_upto_region 8 with fail
      refine wp_region_lin (.op 0 (.op 1 (.op 2 (.op 3 (.op 4 (.op 5 (.op 6 .done))))))) (by rfl) ?_
      refine wpT_valp 39 (v := u10) rfl rfl rfl (by go_simp) ?_
      refine wpT_valp 40 (v := .int .i64 j) rfl rfl rfl (by go_simp) ?_
      refine wpT_valp 41 (v := .pointer (some ⟨b3, j, none⟩)) rfl rfl rfl (by go_simp) ?_
      refine wpT_valp 42 (v := U8 z) rfl rfl rfl (by have c0 := cell_cs 0 (M.row (b := b3) (c := cs U8 E) (by simp)) (i := j) (by omega); rw [← Hz.out] at c0; go_simp) ?_
      try simp only [Act.put, List.setIfInBounds_toArray, List.set_cons_succ, List.set_cons_zero]
      refine wpT_b8 (len := 1) 43 M [z] rfl (by decide) (by decide) rfl rfl rfl (by go_simp; rfl) rfl (fun g1 w2 h4 M3 B5 _ _ => ?_)
      replace OU := OU.below B5
      have hz9 := M3.lt (b := b3) (c := cs U8 E) (by simp)
      have hy9 := M3.lt (b := w.heap.size + 1) (c := cs U8 n) (by simp)
      refine wpT_apb2 44 _ _ M3 (w.heap.size + 2) u10 (.slice (some ⟨g1, 0, none⟩) 1 1) (X ++ E.take j) [z] rfl rfl rfl rfl (by go_simp) OU (by go_simp) h4 (by simp; omega) (by omega) (by omega) (fun g hg p hp => ?_) (fun u9 w9 O9 M9 hb9 => ?_)
      · have h1 := OU.lt g hg
        simp only [List.mem_cons, List.not_mem_nil, or_false] at hp
        rcases hp with rfl | rfl | rfl
        · exact nb g hg
        · show w.heap.size + 1 ≠ g; omega
        · show w.heap.size ≠ g; omega
      have nb9 : ∀ g, u9.ownBlock = some g → b3 ≠ g := by
        intro g hg
        rcases hb9 with e | e
        · exact nb g (by rw [← e]; exact hg)
        · rw [e] at hg; injection hg with hg; omega
      refine wpT_valp 10 (v := u9) rfl rfl rfl (by go_simp) ?_
      dsimp only [wpT]
      try simp only [Act.put, List.setIfInBounds_toArray, List.set_cons_succ, List.set_cons_zero]
      go_wp2_with fail
      rw [HZ.out] at O9
      go_roundw
      case rel => exact ⟨j + 1, by omega, by simp, O9, nb9, M9⟩
      case measure => simp only [intOf]; omega
    · obtain rfl : j = 16 := by omega
      rw [List.take_of_length_le (by omega)] at OU
      go_upto_region 9 with fail
      refine wp_region_lin (.op 0 (.op 1 (.op 2 .done))) (by rfl) ?_
      refine wpT_valp 45 (v := u10) rfl rfl rfl (by go_simp) ?_
      refine wpT_valp 8 (v := u10) rfl rfl rfl (by go_simp) ?_
      refine wpT_valp 9 (v := .int .i64 0) rfl rfl rfl (by go_simp) ?_
      dsimp only [wpT]
      try simp only [Act.put, List.setIfInBounds_toArray, List.set_cons_succ, List.set_cons_zero]
      go_wp2_with fail
      refine bodyPost_ret (res_two rfl (rv_tmp _ _ rfl) (rv_tmp _ _ rfl)) rfl ?_
      exact ⟨_, rfl, OU.mono (by omega), M.end_⟩
set_option maxRecDepth 100000 in
set_option maxHeartbeats 4000000 in
theorem rOpen_short (w : World) (k n c : List (BitVec 8)) (vo vc : Value) (hk : k.length = 32) (hn : n.length = 12) (hvc : BS w vc c) (hc : c.length < 16) :
    Calls Tryd.prog 21 #[.agg (cs U8 k), .agg (cs U8 n), vo, vc] w fun e w' => e = .returned (.tuple #[.slice none 0 0, .int .i64 4]) ∧ Below w.heap.size w w' := by
  obtain ⟨C, hC⟩ : ∃ C, C = c.length := ⟨_, rfl⟩
  obtain ⟨AC, cc, rfl, -⟩ := hvc.shape' C hC.symm
  have HI := hid (show IntKind.i64.wrap ((C : Int) - 16) = (C - 16 : Int) from i64m _ (by omega) (by omega))
  have h1 : (C : Int) - 16 < 0 := by omega
  clear hvc hC
  have M0 := Mm.start no w
  go_enter Tryd.func21, Tryd.ntmps21
  have M2 := ((M0.alloc (cs U8 k) 23 (by decide)).alloc (cs U8 n) 28 (by decide))
  try simp only [World.size_alloc] at M2
  go_upto_region 1 with fail
  obtain ⟨w1, hw1⟩ : ∃ w1, w1 = ((w.alloc (.cells (cs U8 k) 23)).alloc (.cells (cs U8 n) 28)) := ⟨_, rfl⟩
  rw [← hw1] at M2 ⊢
  clear hw1
  refine wp_region_lin (.op 0 (.op 1 (.op 2 (.op 3 .done)))) (by rfl) ?_
  refine wpT_valp 15 (v := .slice AC C cc) rfl rfl rfl (by go_simp) ?_
  refine wpT_valp 16 (v := .int .i64 C) rfl rfl rfl (by go_simp) ?_
  refine wpT_valp 17 (v := .int .i64 (C - 16 : Int)) rfl rfl rfl (by have h := HI.out; go_simp) ?_
  refine wpT_valp 10 (v := .int .i64 (C - 16 : Int)) rfl rfl rfl (by go_simp) ?_
  dsimp only [wpT]
  try simp only [Act.put, List.setIfInBounds_toArray, List.set_cons_succ, List.set_cons_zero]
  go_upto_region 2 with fail
  refine wp_region_lin (.op 0 (.op 1 (.op 2 .done))) (by rfl) ?_
  refine wpT_valp 19 (v := .int .i64 (C - 16 : Int)) rfl rfl rfl (by go_simp) ?_
  refine wpT_valp 20 (v := .bool true) rfl rfl rfl (by go_simp) ?_
  refine wpT_valp 18 (v := .bool true) rfl rfl rfl (by go_simp) ?_
  dsimp only [wpT]
  try simp only [Act.put, List.setIfInBounds_toArray, List.set_cons_succ, List.set_cons_zero]
  go_upto_region 3 with fail
  refine wp_region_lin (.op 0 (.op 1 .done)) (by rfl) ?_
  refine wpT_valp 8 (v := (.slice none 0 0)) rfl rfl rfl (by go_simp) ?_
  refine wpT_valp 9 (v := .int .i64 4) rfl rfl rfl (by go_simp) ?_
  dsimp only [wpT]
  try simp only [Act.put, List.setIfInBounds_toArray, List.set_cons_succ, List.set_cons_zero]
  go_wp2_with fail
  refine bodyPost_ret (res_two rfl (rv_tmp _ _ rfl) (rv_tmp _ _ rfl)) rfl ?_
  exact ⟨rfl, M2.end_⟩
theorem getD_ext {a b : List (BitVec 8)} (hl : a.length = b.length) (h : ∀ j, j < a.length → a.getD j 0 = b.getD j 0) : a = b := by
  apply List.ext_getElem hl
  intro j h1 h2
  have := h j h1
  rw [List.getD_eq_getElem?_getD, List.getElem?_eq_getElem h1, List.getD_eq_getElem?_getD, List.getElem?_eq_getElem h2] at this
  exact this
set_option maxRecDepth 100000 in
set_option maxHeartbeats 2000000 in
theorem rOpen (w : World) (k n o c : List (BitVec 8)) (vo vc : Value) (hk : k.length = 32) (hn : n.length = 12) (hvo : BS w vo o) (hvc : BS w vc c) (hol : o.length ≤ 65520) (hc : 16 ≤ c.length) (hcl : c.length ≤ 65536)
    (hr : Ad.tag k n o (c.take (c.length - 16)) = c.drop (c.length - 16)) :
    Calls Tryd.prog 21 #[.agg (cs U8 k), .agg (cs U8 n), vo, vc] w fun e w' => ∃ v, e = .returned (.tuple #[v, .int .i64 0]) ∧ OB w' w.heap.size v (Ad.hid k n (c.take (c.length - 16))) ∧ Below w.heap.size w w' := by
  obtain ⟨A, eA⟩ : ∃ A, A = Sh.derive k Ad.hideB := ⟨_, rfl⟩
  have hA : A.length = 32 := by rw [eA]; exact derive_len ..
  obtain ⟨X, eX⟩ : ∃ X, X = Ad.hid k n (c.take (c.length - 16)) := ⟨_, rfl⟩
  rw [← eX]
  obtain ⟨C, hC⟩ : ∃ C, C = c.length := ⟨_, rfl⟩
  obtain ⟨e, he⟩ : ∃ e, e = C - 16 := ⟨_, rfl⟩
  obtain ⟨h, hh⟩ : ∃ h, h = c.take e := ⟨_, rfl⟩
  obtain ⟨D, hD⟩ : ∃ D, D = c.drop e := ⟨_, rfl⟩
  rw [← hC, ← he, ← hh, ← hD] at hr
  have hhl : h.length = e := by rw [hh, List.length_take]; omega
  obtain ⟨E, eE⟩ : ∃ E, E = Ad.tag k n o h := ⟨_, rfl⟩
  have hE : E.length = 16 := by rw [eE, tag_len]
  rw [← eE] at hr
  have HDg := hid (show ∀ j, j < 16 → D.getD j 0 = c.getD (e + j) 0 from fun j hj => by rw [hD, List.getD_eq_getElem?_getD, List.getElem?_drop, List.getD_eq_getElem?_getD])
  have hDl : D.length = 16 := by rw [hD, List.length_drop]; omega
  have HE := hid eE
  have HVO := hid hvo
  obtain ⟨AO, co, rfl, -⟩ := hvo.shape
  have HVH : Hid (∀ cc a, BS w (.slice a C cc) c → BS w (.slice a e cc) h) := hid fun cc a hx => by rw [hC] at hx; rw [hh]; exact hx.head e cc (by omega) (by obtain ⟨_, _, e1, h1, _⟩ := hx; injection e1 with _ _ e3; omega) (Nat.le_refl _)
  obtain ⟨ba, oa, cc, ev, hcc, -⟩ := BS.open hvc (by intro e5; rw [e5] at hc; simp at hc)
  rw [← hC] at ev hcc
  subst ev
  replace HVH : Hid (BS w (.slice (some ⟨ba, oa, none⟩) e cc) h) := hid (HVH.out cc _ hvc)
  have HVC := hid hvc
  have HI := hid (show IntKind.i64.wrap ((C : Int) - 16) = (e : Int) by rw [i64m _ (by omega) (by omega)]; omega)
  have h0 : ¬ (e : Int) < 0 := by omega
  have h1 : ¬ (65520 : Int) < (o.length : Int) := by omega
  have h2 : ¬ (65520 : Int) < (e : Int) := by omega
  have hec : e ≤ cc := by omega
  have heC : e ≤ C := by omega
  have hcC : c.length = C := hC.symm
  have heC2 : e + 16 = C := by omega
  have hi0 : (0 : Int) ≤ (e : Int) := by omega
  have hhh := hid hh
  clear eE hvo hvc hh hD hC he
  have HX := hid (show X = Ch.xr A n 0#32 h by rw [eX, eA, hhh.out, hcC, show C - 16 = e by omega]; unfold Ad.hid; rfl)
  have HA := hid eA
  have hED : ∀ j, E.getD j 0 = D.getD j 0 := fun j => by rw [hr]
  clear eA eX hr
  have M0 := Mm.start no w
  go_enter Tryd.func21, Tryd.ntmps21
  have M2 := ((M0.alloc (cs U8 k) 23 (by decide)).alloc (cs U8 n) 28 (by decide))
  try simp only [World.size_alloc] at M2
  go_upto_region 1 with fail
  obtain ⟨w1, hw1⟩ : ∃ w1, w1 = ((w.alloc (.cells (cs U8 k) 23)).alloc (.cells (cs U8 n) 28)) := ⟨_, rfl⟩
  rw [← hw1] at M2 ⊢
  clear hw1
  refine wp_region_lin (.op 0 (.op 1 (.op 2 (.op 3 .done)))) (by rfl) ?_
  refine wpT_valp 15 (v := .slice (some ⟨ba, oa, none⟩) C cc) rfl rfl rfl (by go_simp) ?_
  refine wpT_valp 16 (v := .int .i64 C) rfl rfl rfl (by go_simp) ?_
  refine wpT_valp 17 (v := .int .i64 e) rfl rfl rfl (by have h := HI.out; go_simp) ?_
  refine wpT_valp 10 (v := .int .i64 e) rfl rfl rfl (by go_simp) ?_
  dsimp only [wpT]
  try simp only [Act.put, List.setIfInBounds_toArray, List.set_cons_succ, List.set_cons_zero]
  go_upto_region 2 with fail
  refine wp_region_lin (.op 0 (.op 1 (.op 2 .done))) (by rfl) ?_
  refine wpT_valp 19 (v := .int .i64 e) rfl rfl rfl (by go_simp) ?_
  refine wpT_valp 20 (v := .bool false) rfl rfl rfl (by go_simp) ?_
  refine wpT_valp 18 (v := .bool false) rfl rfl rfl (by go_simp) ?_
  dsimp only [wpT]
  try simp only [Act.put, List.setIfInBounds_toArray, List.set_cons_succ, List.set_cons_zero]
  go_upto_region 4 with fail
  refine wp_region_lin (.op 0 (.op 1 (.op 2 (.op 3 (.op 4 (.op 5 (.op 6 (.op 7 .done)))))))) (by rfl) ?_
  refine wpT_valp 22 (v := .slice AO o.length co) rfl rfl rfl (by go_simp) ?_
  refine wpT_valp 23 (v := .int .i64 o.length) rfl rfl rfl (by go_simp) ?_
  refine wpT_valp 24 (v := .bool false) rfl rfl rfl (by go_simp) ?_
  refine wpT_valp 25 (v := .bool false) rfl rfl rfl (by go_simp) ?_
  try simp only [Act.put, List.setIfInBounds_toArray, List.set_cons_succ, List.set_cons_zero]
  refine wpT_valp 26 (v := .int .i64 e) rfl rfl (by simp [Region.wanted, yielded, Act.put]) (by go_simp) ?_
  refine wpT_valp 27 (v := .bool false) rfl rfl (by simp [Region.wanted, yielded, Act.put]) (by go_simp) ?_
  refine wpT_valp 28 (v := .bool false) rfl rfl rfl (by go_simp) ?_
  refine wpT_valp 21 (v := .bool false) rfl rfl rfl (by go_simp) ?_
  dsimp only [wpT]
  try simp only [Act.put, List.setIfInBounds_toArray, List.set_cons_succ, List.set_cons_zero]
  go_upto_region 6 with fail
  refine wp_region_seq 8 [29, 30, 31, 32, 33, 34, 35, 11] [] [] [] (.op 8 .done) (Mm no w _) (by kernel_rfl) (by kernel_rfl) (by kernel_rfl) (fun d _ _ _ _ h => by cases d <;> exact h) (by rfl) M2.size (fun _ _ h k => h.sf k) M2 ?_
  simp only [List.take_succ_cons, List.take_zero]
  refine SeqA.ld0 Tryd.underlying23 rfl inf_key (w.heap.size) (cs U8 k) rfl (by go_simp) (fun _ M => M.row (by simp)) (by simp [hk, hn, hA, hE]) rfl ?_
  refine SeqA.ld0 Tryd.underlying28 rfl inf_n12 (w.heap.size + 1) (cs U8 n) rfl (by go_simp) (fun _ M => M.row (by simp)) (by simp [hk, hn, hA, hE]) rfl ?_
  refine SeqA.pure (.slice AO o.length co) (fun w' => by go_simp) rfl rfl ?_
  refine SeqA.pure (.slice (some ⟨ba, oa, none⟩) C cc) (fun w' => by go_simp) rfl rfl ?_
  refine SeqA.pure (.int .i64 e) (fun w' => by go_simp) rfl rfl ?_
  simp only [Act.put, List.setIfInBounds_toArray, List.set_cons_succ, List.set_cons_zero]
  refine SeqA.pure (.slice (some ⟨ba, oa, none⟩) e cc) (fun w' => by go_simp) rfl rfl ?_
  refine SeqA.call _ _ _ (fun w' => by go_simp) (fun w' hI _ => rtag_v w' k n o h E _ _ hk hn (SV.below HVO.out hI.end_) (SV.below HVH.out hI.end_) (by omega) (by omega) HE.out) M2.size rfl rfl ?_
  refine SeqA.var (z := .agg (cs U8 (zs 16))) (by kernel_rfl) rfl rfl (by decide) rfl ?_
  refine SeqA.nil (fun w3 M4 hz => ?_)
  refine news_one (fun b3 hb1 hb2 hb3 => ?_)
  have M6 := M2.in_ (c := cs U8 (zs 16)) M4 hb1 hb2 (by decide) hb3 rfl
  show wpT _ _ _ _ _ _
  simp only [Act.put, List.setIfInBounds_toArray, List.set_cons_succ, List.set_cons_zero]
  refine wpT_st0 M6 0 (cs U8 E) inf_tag rfl rfl rfl rfl (by go_simp) (by go_simp) (by simp [hk, hn, hA, hE]) (by simp [hk, hn, hA, hE]) (by simp [go_sem]) rfl (fun w7 M8 => ?_)
  dsimp only [List.set] at M8
  dsimp only [wpT]
  go_upto_region 7 with fail
  refine wp_region_lin (.op 0 .done) (by rfl) ?_
  refine wpT_valp 12 (v := .int .i64 0) rfl rfl rfl (by go_simp) ?_
  dsimp only [wpT]
  try simp only [Act.put, List.setIfInBounds_toArray, List.set_cons_succ, List.set_cons_zero]
  go_wp2_with fail
  go_loopw [12] (fun t wr => ∃ j : Nat, j ≤ 16 ∧ t = .int .i64 j ∧ Mm no w [(b3, cs U8 E), (w.heap.size + 1, cs U8 n), (w.heap.size, cs U8 k)] wr) (fun t _ => 16 - (intOf t).toNat)
  case atStart => exact ⟨0, by omega, rfl, M8⟩
  case round =>
    clear M8
    obtain ⟨j, hj, rfl, M⟩ := hrel
    by_cases hj16 : j < 16
    · skip
      have hjlt : (j : Int) < 16 := by omega
      have hj0 : (0 : Int) ≤ (j : Int) := by omega
      obtain ⟨p, hp⟩ : ∃ p : Nat, p = e + j := ⟨_, rfl⟩
      have HP := hid (show IntKind.i64.wrap ((e : Int) + (j : Int)) = (p : Int) by rw [i64m _ (by omega) (by omega), hp]; omega)
      have hpC : (p : Int) < (C : Int) := by omega
      have hp0 : (0 : Int) ≤ (p : Int) := by omega
      have hpc : p < c.length := by omega
      obtain ⟨x, ex⟩ : ∃ x, x = c.getD p 0 := ⟨_, rfl⟩
      obtain ⟨z, ez⟩ : ∃ z, z = E.getD j 0 := ⟨_, rfl⟩
      have hxz := HDg.out j hj16
      rw [← hp, ← ex] at hxz
      have Hx := hid ex
      have Hz := hid ez
      have HXZ := hid (show x = z by rw [ez, hED j, hxz])
      clear ex ez hp hxz hED
      go_upto_region 10 with fail
      refine wp_region_seq 10 [40, 41, 42, 43, 44, 45, 46, 47, 48, 49] [] [] [] (.done) (Mm no w _) (by kernel_rfl) (by kernel_rfl) (by kernel_rfl) (fun d _ _ _ _ h => by cases d <;> exact h) (by rfl) M.size (fun _ _ h k => h.sf k) M ?_
      simp only [List.take_succ_cons, List.take_zero]
      refine SeqA.pure (.slice (some ⟨ba, oa, none⟩) C cc) (fun w' => by go_simp) rfl rfl ?_
      refine SeqA.pure (.int .i64 e) (fun w' => by go_simp) rfl rfl ?_
      refine SeqA.pure (.int .i64 j) (fun w' => by go_simp) rfl rfl ?_
      refine SeqA.pure (.int .i64 p) (fun w' => by have h := HP.out; go_simp) rfl rfl ?_
      refine SeqA.pure (.pointer (some ⟨ba, oa + p, none⟩)) (fun w' => by go_simp) rfl rfl ?_
      simp only [Act.put, List.setIfInBounds_toArray, List.set_cons_succ, List.set_cons_zero]
      refine SeqA.read (U8 x) (fun w' hI => by have c0 := bs_cell (SV.below HVC.out hI.end_) p (by omega); rw [← Hx.out] at c0; go_simp) rfl rfl ?_
      refine SeqA.pure (.int .i64 j) (fun w' => by go_simp) rfl rfl ?_
      refine SeqA.pure (.pointer (some ⟨b3, j, none⟩)) (fun w' => by go_simp) rfl rfl ?_
      refine SeqA.read (U8 z) (fun w' hI => by have c0 := cell_cs 0 (hI.row (b := b3) (c := cs U8 E) (by simp)) (i := j) (by omega); rw [← Hz.out] at c0; go_simp) rfl rfl ?_
      refine SeqA.pure (.bool false) (fun w' => by have h := HXZ.out; go_simp) rfl rfl ?_
      refine SeqA.nil (fun w1 M2 hz => ?_)
      show wpT _ _ _ _ _ _
      simp only [Act.put, List.setIfInBounds_toArray, List.set_cons_succ, List.set_cons_zero]
      dsimp only [wpT]
      go_wp2_with fail
      go_roundw
      case rel => exact ⟨j + 1, by omega, by simp, M2⟩
      case measure => simp only [intOf]; omega
    · obtain rfl : j = 16 := by omega
      clear hED
      go_upto_region 12 with fail
      apply meet2 (P := fun (u : Value) (w' : World) => Mm no w [(b3, cs U8 E), (w.heap.size + 1, cs U8 n), (w.heap.size, cs U8 k)] w' ∧ OB w' (w.heap.size + 2) u X)
      case h1 =>
        intro rest
        refine wp_region_P [3, 4, 5] (.both (.op 0 (.both (.op 1 (.op 2 (.op 6 (.op 7 (.both (.op 8 (.both (.op 9 (.op 10 (.op 11 .done))) (.op 10 (.op 9 (.op 11 .done))))) (.op 9 (.op 8 (.op 10 (.op 11 .done))))))))) (.op 2 (.op 1 (.op 6 (.op 7 (.both (.op 8 (.both (.op 9 (.op 10 (.op 11 .done))) (.op 10 (.op 9 (.op 11 .done))))) (.op 9 (.op 8 (.op 10 (.op 11 .done))))))))))) (.op 2 (.op 0 (.op 1 (.op 6 (.op 7 (.both (.op 8 (.both (.op 9 (.op 10 (.op 11 .done))) (.op 10 (.op 9 (.op 11 .done))))) (.op 9 (.op 8 (.op 10 (.op 11 .done))))))))))) (by kernel_rfl) (by kernel_rfl) (by kernel_rfl) (fun d _ _ _ _ h => by cases d <;> exact h) ?_
        refine wpYJd_op 54 (.slice (some ⟨ba, oa, none⟩) C cc) rfl rfl rfl (fun w1 _ => by go_simp) ?_
        refine wpYJd_op 55 (.int .i64 e) rfl rfl rfl (fun w1 _ => by go_simp) ?_
        refine wpYJd_op 56 (.slice (some ⟨ba, oa, none⟩) e cc) rfl rfl rfl (fun w1 _ => by go_simp) ?_
        show wpT _ _ _ _ _ _
        try simp only [Act.put, List.setIfInBounds_toArray, List.set_cons_succ, List.set_cons_zero]
        have M1 := M.drewN 1
        change wpT _ _ _ _ _ (wr.drewN 1)
        obtain ⟨w2, hw2⟩ : ∃ w2, w2 = wr.drewN 1 := ⟨_, rfl⟩
        rw [← hw2] at M1 ⊢
        clear hw2
        refine ⟨?_, ?_⟩
        · refine wpT_ld0 51 Tryd.underlying23 rfl inf_key (w.heap.size) (cs U8 k) rfl rfl rfl (by go_simp) (M1.row (by simp)) (by simp [hk, hn, hA, hE]) rfl ?_
          refine ⟨?_, ?_⟩
          · refine wpT_callv 52 M1 (v := .agg (cs U8 A)) rfl rfl rfl (by go_simp) (rderH HA.out hk) (fun w3 M4 => ?_)
            refine wpT_ld0 53 Tryd.underlying28 rfl inf_n12 (w.heap.size + 1) (cs U8 n) rfl rfl rfl (by go_simp) (M4.row (by simp)) (by simp [hk, hn, hA, hE]) rfl ?_
            have hz26 := M4.lt (b := w.heap.size + 1) (c := cs U8 n) (by simp)
            refine wpT_callx 57 M4 (X := fun v w' => ∃ u, v = .tuple #[u, .int .i64 0] ∧ OB w' (w.heap.size + 2) u X) rfl rfl rfl (by go_simp; rfl) ((rxor w3 A n h 0#32 _ hA hn (SV.below HVH.out M4.end_) (by omega) (by decide)).mono (fun e w' ⟨v, h1, h2, h3⟩ => ⟨_, h1, ⟨v, rfl, by rw [HX.out]; exact h2.mono (by omega)⟩, h3⟩)) (fun v26 w26 h26 M26 _ => ?_)
            obtain ⟨u26, rfl, O26⟩ := h26
            refine wpT_valp 50 (v := .tuple #[u26, .int .i64 0]) rfl rfl rfl (by go_simp) ?_
            refine ⟨?_, ?_⟩
            · refine wpT_valp 58 (v := u26) rfl rfl rfl (by go_simp) ?_
              refine ⟨?_, ?_⟩
              · refine wpT_valp 59 (v := .int .i64 0) rfl rfl rfl (by go_simp) ?_
                refine wpT_valp 13 (v := u26) rfl rfl rfl (by go_simp) ?_
                refine wpT_valp 14 (v := .int .i64 0) rfl rfl rfl (by go_simp) ?_
                dsimp only [wpT]
                try simp only [Act.put, List.setIfInBounds_toArray, List.set_cons_succ, List.set_cons_zero]
                exact rest u26 _ ⟨M26, O26⟩
              · refine wpT_valp 13 (v := u26) rfl rfl rfl (by go_simp) ?_
                refine wpT_valp 59 (v := .int .i64 0) rfl rfl rfl (by go_simp) ?_
                refine wpT_valp 14 (v := .int .i64 0) rfl rfl rfl (by go_simp) ?_
                dsimp only [wpT]
                try simp only [Act.put, List.setIfInBounds_toArray, List.set_cons_succ, List.set_cons_zero]
                exact rest u26 _ ⟨M26, O26⟩
            · refine wpT_valp 59 (v := .int .i64 0) rfl rfl rfl (by go_simp) ?_
              refine wpT_valp 58 (v := u26) rfl rfl rfl (by go_simp) ?_
              refine wpT_valp 13 (v := u26) rfl rfl rfl (by go_simp) ?_
              refine wpT_valp 14 (v := .int .i64 0) rfl rfl rfl (by go_simp) ?_
              dsimp only [wpT]
              try simp only [Act.put, List.setIfInBounds_toArray, List.set_cons_succ, List.set_cons_zero]
              exact rest u26 _ ⟨M26, O26⟩
          · refine wpT_ld0 53 Tryd.underlying28 rfl inf_n12 (w.heap.size + 1) (cs U8 n) rfl rfl rfl (by go_simp) (M1.row (by simp)) (by simp [hk, hn, hA, hE]) rfl ?_
            refine wpT_callv 52 M1 (v := .agg (cs U8 A)) rfl rfl rfl (by go_simp) (rderH HA.out hk) (fun w3 M4 => ?_)
            have hz26 := M4.lt (b := w.heap.size + 1) (c := cs U8 n) (by simp)
            refine wpT_callx 57 M4 (X := fun v w' => ∃ u, v = .tuple #[u, .int .i64 0] ∧ OB w' (w.heap.size + 2) u X) rfl rfl rfl (by go_simp; rfl) ((rxor w3 A n h 0#32 _ hA hn (SV.below HVH.out M4.end_) (by omega) (by decide)).mono (fun e w' ⟨v, h1, h2, h3⟩ => ⟨_, h1, ⟨v, rfl, by rw [HX.out]; exact h2.mono (by omega)⟩, h3⟩)) (fun v26 w26 h26 M26 _ => ?_)
            obtain ⟨u26, rfl, O26⟩ := h26
            refine wpT_valp 50 (v := .tuple #[u26, .int .i64 0]) rfl rfl rfl (by go_simp) ?_
            refine ⟨?_, ?_⟩
            · refine wpT_valp 58 (v := u26) rfl rfl rfl (by go_simp) ?_
              refine ⟨?_, ?_⟩
              · refine wpT_valp 59 (v := .int .i64 0) rfl rfl rfl (by go_simp) ?_
                refine wpT_valp 13 (v := u26) rfl rfl rfl (by go_simp) ?_
                refine wpT_valp 14 (v := .int .i64 0) rfl rfl rfl (by go_simp) ?_
                dsimp only [wpT]
                try simp only [Act.put, List.setIfInBounds_toArray, List.set_cons_succ, List.set_cons_zero]
                exact rest u26 _ ⟨M26, O26⟩
              · refine wpT_valp 13 (v := u26) rfl rfl rfl (by go_simp) ?_
                refine wpT_valp 59 (v := .int .i64 0) rfl rfl rfl (by go_simp) ?_
                refine wpT_valp 14 (v := .int .i64 0) rfl rfl rfl (by go_simp) ?_
                dsimp only [wpT]
                try simp only [Act.put, List.setIfInBounds_toArray, List.set_cons_succ, List.set_cons_zero]
                exact rest u26 _ ⟨M26, O26⟩
            · refine wpT_valp 59 (v := .int .i64 0) rfl rfl rfl (by go_simp) ?_
              refine wpT_valp 58 (v := u26) rfl rfl rfl (by go_simp) ?_
              refine wpT_valp 13 (v := u26) rfl rfl rfl (by go_simp) ?_
              refine wpT_valp 14 (v := .int .i64 0) rfl rfl rfl (by go_simp) ?_
              dsimp only [wpT]
              try simp only [Act.put, List.setIfInBounds_toArray, List.set_cons_succ, List.set_cons_zero]
              exact rest u26 _ ⟨M26, O26⟩
        · refine wpT_ld0 53 Tryd.underlying28 rfl inf_n12 (w.heap.size + 1) (cs U8 n) rfl rfl rfl (by go_simp) (M1.row (by simp)) (by simp [hk, hn, hA, hE]) rfl ?_
          refine wpT_ld0 51 Tryd.underlying23 rfl inf_key (w.heap.size) (cs U8 k) rfl rfl rfl (by go_simp) (M1.row (by simp)) (by simp [hk, hn, hA, hE]) rfl ?_
          refine wpT_callv 52 M1 (v := .agg (cs U8 A)) rfl rfl rfl (by go_simp) (rderH HA.out hk) (fun w3 M4 => ?_)
          have hz26 := M4.lt (b := w.heap.size + 1) (c := cs U8 n) (by simp)
          refine wpT_callx 57 M4 (X := fun v w' => ∃ u, v = .tuple #[u, .int .i64 0] ∧ OB w' (w.heap.size + 2) u X) rfl rfl rfl (by go_simp; rfl) ((rxor w3 A n h 0#32 _ hA hn (SV.below HVH.out M4.end_) (by omega) (by decide)).mono (fun e w' ⟨v, h1, h2, h3⟩ => ⟨_, h1, ⟨v, rfl, by rw [HX.out]; exact h2.mono (by omega)⟩, h3⟩)) (fun v26 w26 h26 M26 _ => ?_)
          obtain ⟨u26, rfl, O26⟩ := h26
          try simp only [Act.put, List.setIfInBounds_toArray, List.set_cons_succ, List.set_cons_zero]
          refine wpT_valp 50 (v := .tuple #[u26, .int .i64 0]) rfl rfl rfl (by go_simp) ?_
          refine ⟨?_, ?_⟩
          · refine wpT_valp 58 (v := u26) rfl rfl rfl (by go_simp) ?_
            refine ⟨?_, ?_⟩
            · refine wpT_valp 59 (v := .int .i64 0) rfl rfl rfl (by go_simp) ?_
              refine wpT_valp 13 (v := u26) rfl rfl rfl (by go_simp) ?_
              refine wpT_valp 14 (v := .int .i64 0) rfl rfl rfl (by go_simp) ?_
              dsimp only [wpT]
              try simp only [Act.put, List.setIfInBounds_toArray, List.set_cons_succ, List.set_cons_zero]
              exact rest u26 _ ⟨M26, O26⟩
            · refine wpT_valp 13 (v := u26) rfl rfl rfl (by go_simp) ?_
              refine wpT_valp 59 (v := .int .i64 0) rfl rfl rfl (by go_simp) ?_
              refine wpT_valp 14 (v := .int .i64 0) rfl rfl rfl (by go_simp) ?_
              dsimp only [wpT]
              try simp only [Act.put, List.setIfInBounds_toArray, List.set_cons_succ, List.set_cons_zero]
              exact rest u26 _ ⟨M26, O26⟩
          · refine wpT_valp 59 (v := .int .i64 0) rfl rfl rfl (by go_simp) ?_
            refine wpT_valp 58 (v := u26) rfl rfl rfl (by go_simp) ?_
            refine wpT_valp 13 (v := u26) rfl rfl rfl (by go_simp) ?_
            refine wpT_valp 14 (v := .int .i64 0) rfl rfl rfl (by go_simp) ?_
            dsimp only [wpT]
            try simp only [Act.put, List.setIfInBounds_toArray, List.set_cons_succ, List.set_cons_zero]
            exact rest u26 _ ⟨M26, O26⟩
      case h2 =>
      rintro u1 w1 ⟨M1, O1⟩
      go_upto_region 13 with fail
      refine wp_region_lin (.op 0 (.op 1 (.op 2 .done))) (by rfl) ?_
      refine wpT_valp 60 (v := u1) rfl rfl rfl (by go_simp) ?_
      refine wpT_valp 8 (v := u1) rfl rfl rfl (by go_simp) ?_
      refine wpT_valp 9 (v := .int .i64 0) rfl rfl rfl (by go_simp) ?_
      dsimp only [wpT]
      try simp only [Act.put, List.setIfInBounds_toArray, List.set_cons_succ, List.set_cons_zero]
      go_wp2_with fail
      refine bodyPost_ret (res_two rfl (rv_tmp _ _ rfl) (rv_tmp _ _ rfl)) rfl ?_
      exact ⟨_, rfl, O1.mono (by omega), M1.end_⟩
set_option maxRecDepth 100000 in
set_option maxHeartbeats 2000000 in
theorem rOpen_bad (w : World) (k n o c : List (BitVec 8)) (vo vc : Value) (hk : k.length = 32) (hn : n.length = 12) (hvo : BS w vo o) (hvc : BS w vc c) (hol : o.length ≤ 65520) (hc : 16 ≤ c.length) (hcl : c.length ≤ 65536)
    (hr : Ad.tag k n o (c.take (c.length - 16)) ≠ c.drop (c.length - 16)) :
    Calls Tryd.prog 21 #[.agg (cs U8 k), .agg (cs U8 n), vo, vc] w fun e w' => e = .returned (.tuple #[.slice none 0 0, .int .i64 6]) ∧ Below w.heap.size w w' := by
  obtain ⟨A, eA⟩ : ∃ A, A = Sh.derive k Ad.hideB := ⟨_, rfl⟩
  have hA : A.length = 32 := by rw [eA]; exact derive_len ..
  obtain ⟨C, hC⟩ : ∃ C, C = c.length := ⟨_, rfl⟩
  obtain ⟨e, he⟩ : ∃ e, e = C - 16 := ⟨_, rfl⟩
  obtain ⟨h, hh⟩ : ∃ h, h = c.take e := ⟨_, rfl⟩
  obtain ⟨D, hD⟩ : ∃ D, D = c.drop e := ⟨_, rfl⟩
  rw [← hC, ← he, ← hh, ← hD] at hr
  have hhl : h.length = e := by rw [hh, List.length_take]; omega
  obtain ⟨E, eE⟩ : ∃ E, E = Ad.tag k n o h := ⟨_, rfl⟩
  have hE : E.length = 16 := by rw [eE, tag_len]
  rw [← eE] at hr
  have HDg := hid (show ∀ j, j < 16 → D.getD j 0 = c.getD (e + j) 0 from fun j hj => by rw [hD, List.getD_eq_getElem?_getD, List.getElem?_drop, List.getD_eq_getElem?_getD])
  have hDl : D.length = 16 := by rw [hD, List.length_drop]; omega
  have HE := hid eE
  have HVO := hid hvo
  obtain ⟨AO, co, rfl, -⟩ := hvo.shape
  have HVH : Hid (∀ cc a, BS w (.slice a C cc) c → BS w (.slice a e cc) h) := hid fun cc a hx => by rw [hC] at hx; rw [hh]; exact hx.head e cc (by omega) (by obtain ⟨_, _, e1, h1, _⟩ := hx; injection e1 with _ _ e3; omega) (Nat.le_refl _)
  obtain ⟨ba, oa, cc, ev, hcc, -⟩ := BS.open hvc (by intro e5; rw [e5] at hc; simp at hc)
  rw [← hC] at ev hcc
  subst ev
  replace HVH : Hid (BS w (.slice (some ⟨ba, oa, none⟩) e cc) h) := hid (HVH.out cc _ hvc)
  have HVC := hid hvc
  have HI := hid (show IntKind.i64.wrap ((C : Int) - 16) = (e : Int) by rw [i64m _ (by omega) (by omega)]; omega)
  have h0 : ¬ (e : Int) < 0 := by omega
  have h1 : ¬ (65520 : Int) < (o.length : Int) := by omega
  have h2 : ¬ (65520 : Int) < (e : Int) := by omega
  have hec : e ≤ cc := by omega
  have heC : e ≤ C := by omega
  have hcC : c.length = C := hC.symm
  have heC2 : e + 16 = C := by omega
  have hi0 : (0 : Int) ≤ (e : Int) := by omega
  have hhh := hid hh
  clear eE hvo hvc hh hD hC he
  have HR := hid hr
  clear eA hr
  have M0 := Mm.start no w
  go_enter Tryd.func21, Tryd.ntmps21
  have M2 := ((M0.alloc (cs U8 k) 23 (by decide)).alloc (cs U8 n) 28 (by decide))
  try simp only [World.size_alloc] at M2
  go_upto_region 1 with fail
  obtain ⟨w1, hw1⟩ : ∃ w1, w1 = ((w.alloc (.cells (cs U8 k) 23)).alloc (.cells (cs U8 n) 28)) := ⟨_, rfl⟩
  rw [← hw1] at M2 ⊢
  clear hw1
  refine wp_region_lin (.op 0 (.op 1 (.op 2 (.op 3 .done)))) (by rfl) ?_
  refine wpT_valp 15 (v := .slice (some ⟨ba, oa, none⟩) C cc) rfl rfl rfl (by go_simp) ?_
  refine wpT_valp 16 (v := .int .i64 C) rfl rfl rfl (by go_simp) ?_
  refine wpT_valp 17 (v := .int .i64 e) rfl rfl rfl (by have h := HI.out; go_simp) ?_
  refine wpT_valp 10 (v := .int .i64 e) rfl rfl rfl (by go_simp) ?_
  dsimp only [wpT]
  try simp only [Act.put, List.setIfInBounds_toArray, List.set_cons_succ, List.set_cons_zero]
  go_upto_region 2 with fail
  refine wp_region_lin (.op 0 (.op 1 (.op 2 .done))) (by rfl) ?_
  refine wpT_valp 19 (v := .int .i64 e) rfl rfl rfl (by go_simp) ?_
  refine wpT_valp 20 (v := .bool false) rfl rfl rfl (by go_simp) ?_
  refine wpT_valp 18 (v := .bool false) rfl rfl rfl (by go_simp) ?_
  dsimp only [wpT]
  try simp only [Act.put, List.setIfInBounds_toArray, List.set_cons_succ, List.set_cons_zero]
  go_upto_region 4 with fail
  refine wp_region_lin (.op 0 (.op 1 (.op 2 (.op 3 (.op 4 (.op 5 (.op 6 (.op 7 .done)))))))) (by rfl) ?_
  refine wpT_valp 22 (v := .slice AO o.length co) rfl rfl rfl (by go_simp) ?_
  refine wpT_valp 23 (v := .int .i64 o.length) rfl rfl rfl (by go_simp) ?_
  refine wpT_valp 24 (v := .bool false) rfl rfl rfl (by go_simp) ?_
  refine wpT_valp 25 (v := .bool false) rfl rfl rfl (by go_simp) ?_
  try simp only [Act.put, List.setIfInBounds_toArray, List.set_cons_succ, List.set_cons_zero]
  refine wpT_valp 26 (v := .int .i64 e) rfl rfl (by simp [Region.wanted, yielded, Act.put]) (by go_simp) ?_
  refine wpT_valp 27 (v := .bool false) rfl rfl (by simp [Region.wanted, yielded, Act.put]) (by go_simp) ?_
  refine wpT_valp 28 (v := .bool false) rfl rfl rfl (by go_simp) ?_
  refine wpT_valp 21 (v := .bool false) rfl rfl rfl (by go_simp) ?_
  dsimp only [wpT]
  try simp only [Act.put, List.setIfInBounds_toArray, List.set_cons_succ, List.set_cons_zero]
  go_upto_region 6 with fail
  refine wp_region_seq 8 [29, 30, 31, 32, 33, 34, 35, 11] [] [] [] (.op 8 .done) (Mm no w _) (by kernel_rfl) (by kernel_rfl) (by kernel_rfl) (fun d _ _ _ _ h => by cases d <;> exact h) (by rfl) M2.size (fun _ _ h k => h.sf k) M2 ?_
  simp only [List.take_succ_cons, List.take_zero]
  refine SeqA.ld0 Tryd.underlying23 rfl inf_key (w.heap.size) (cs U8 k) rfl (by go_simp) (fun _ M => M.row (by simp)) (by simp [hk, hn, hA, hE]) rfl ?_
  refine SeqA.ld0 Tryd.underlying28 rfl inf_n12 (w.heap.size + 1) (cs U8 n) rfl (by go_simp) (fun _ M => M.row (by simp)) (by simp [hk, hn, hA, hE]) rfl ?_
  refine SeqA.pure (.slice AO o.length co) (fun w' => by go_simp) rfl rfl ?_
  refine SeqA.pure (.slice (some ⟨ba, oa, none⟩) C cc) (fun w' => by go_simp) rfl rfl ?_
  refine SeqA.pure (.int .i64 e) (fun w' => by go_simp) rfl rfl ?_
  simp only [Act.put, List.setIfInBounds_toArray, List.set_cons_succ, List.set_cons_zero]
  refine SeqA.pure (.slice (some ⟨ba, oa, none⟩) e cc) (fun w' => by go_simp) rfl rfl ?_
  refine SeqA.call _ _ _ (fun w' => by go_simp) (fun w' hI _ => rtag_v w' k n o h E _ _ hk hn (SV.below HVO.out hI.end_) (SV.below HVH.out hI.end_) (by omega) (by omega) HE.out) M2.size rfl rfl ?_
  refine SeqA.var (z := .agg (cs U8 (zs 16))) (by kernel_rfl) rfl rfl (by decide) rfl ?_
  refine SeqA.nil (fun w3 M4 hz => ?_)
  refine news_one (fun b3 hb1 hb2 hb3 => ?_)
  have M6 := M2.in_ (c := cs U8 (zs 16)) M4 hb1 hb2 (by decide) hb3 rfl
  show wpT _ _ _ _ _ _
  simp only [Act.put, List.setIfInBounds_toArray, List.set_cons_succ, List.set_cons_zero]
  refine wpT_st0 M6 0 (cs U8 E) inf_tag rfl rfl rfl rfl (by go_simp) (by go_simp) (by simp [hk, hn, hA, hE]) (by simp [hk, hn, hA, hE]) (by simp [go_sem]) rfl (fun w7 M8 => ?_)
  dsimp only [List.set] at M8
  dsimp only [wpT]
  go_upto_region 7 with fail
  refine wp_region_lin (.op 0 .done) (by rfl) ?_
  refine wpT_valp 12 (v := .int .i64 0) rfl rfl rfl (by go_simp) ?_
  dsimp only [wpT]
  try simp only [Act.put, List.setIfInBounds_toArray, List.set_cons_succ, List.set_cons_zero]
  go_wp2_with fail
  go_loopw [12] (fun t wr => ∃ j : Nat, j ≤ 16 ∧ t = .int .i64 j ∧ Hid (∀ i, i < j → E.getD i 0 = D.getD i 0) ∧ Mm no w [(b3, cs U8 E), (w.heap.size + 1, cs U8 n), (w.heap.size, cs U8 k)] wr) (fun t _ => 16 - (intOf t).toNat)
  case atStart => exact ⟨0, by omega, rfl, hid fun i hi => absurd hi (Nat.not_lt_zero _), M8⟩
  case round =>
    clear M8
    obtain ⟨j, hj, rfl, HB, M⟩ := hrel
    by_cases hj16 : j < 16
    · skip
      have hjlt : (j : Int) < 16 := by omega
      have hj0 : (0 : Int) ≤ (j : Int) := by omega
      obtain ⟨p, hp⟩ : ∃ p : Nat, p = e + j := ⟨_, rfl⟩
      have HP := hid (show IntKind.i64.wrap ((e : Int) + (j : Int)) = (p : Int) by rw [i64m _ (by omega) (by omega), hp]; omega)
      have hpC : (p : Int) < (C : Int) := by omega
      have hp0 : (0 : Int) ≤ (p : Int) := by omega
      have hpc : p < c.length := by omega
      obtain ⟨x, ex⟩ : ∃ x, x = c.getD p 0 := ⟨_, rfl⟩
      obtain ⟨z, ez⟩ : ∃ z, z = E.getD j 0 := ⟨_, rfl⟩
      have hxz := HDg.out j hj16
      rw [← hp, ← ex] at hxz
      have Hx := hid ex
      have Hz := hid ez
      by_cases hxe : x = z
      · have HXZ := hid hxe
        have HB2 := hid (show ∀ i, i < j + 1 → E.getD i 0 = D.getD i 0 from fun i hi => by
          by_cases h : i < j
          · exact HB.out i h
          · obtain rfl : i = j := by omega
            rw [← ez, hxz, hxe])
        clear ex ez hp hxz hxe
        go_upto_region 10 with fail
        refine wp_region_seq 10 [40, 41, 42, 43, 44, 45, 46, 47, 48, 49] [] [] [] (.done) (Mm no w _) (by kernel_rfl) (by kernel_rfl) (by kernel_rfl) (fun d _ _ _ _ h => by cases d <;> exact h) (by rfl) M.size (fun _ _ h k => h.sf k) M ?_
        simp only [List.take_succ_cons, List.take_zero]
        refine SeqA.pure (.slice (some ⟨ba, oa, none⟩) C cc) (fun w' => by go_simp) rfl rfl ?_
        refine SeqA.pure (.int .i64 e) (fun w' => by go_simp) rfl rfl ?_
        refine SeqA.pure (.int .i64 j) (fun w' => by go_simp) rfl rfl ?_
        refine SeqA.pure (.int .i64 p) (fun w' => by have h := HP.out; go_simp) rfl rfl ?_
        refine SeqA.pure (.pointer (some ⟨ba, oa + p, none⟩)) (fun w' => by go_simp) rfl rfl ?_
        simp only [Act.put, List.setIfInBounds_toArray, List.set_cons_succ, List.set_cons_zero]
        refine SeqA.read (U8 x) (fun w' hI => by have c0 := bs_cell (SV.below HVC.out hI.end_) p (by omega); rw [← Hx.out] at c0; go_simp) rfl rfl ?_
        refine SeqA.pure (.int .i64 j) (fun w' => by go_simp) rfl rfl ?_
        refine SeqA.pure (.pointer (some ⟨b3, j, none⟩)) (fun w' => by go_simp) rfl rfl ?_
        refine SeqA.read (U8 z) (fun w' hI => by have c0 := cell_cs 0 (hI.row (b := b3) (c := cs U8 E) (by simp)) (i := j) (by omega); rw [← Hz.out] at c0; go_simp) rfl rfl ?_
        refine SeqA.pure (.bool false) (fun w' => by have h := HXZ.out; go_simp) rfl rfl ?_
        refine SeqA.nil (fun w1 M2 hz => ?_)
        show wpT _ _ _ _ _ _
        simp only [Act.put, List.setIfInBounds_toArray, List.set_cons_succ, List.set_cons_zero]
        dsimp only [wpT]
        go_wp2_with fail
        go_roundw
        case rel => exact ⟨j + 1, by omega, by simp, HB2, M2⟩
        case measure => simp only [intOf]; omega
      · clear ex ez hp hxz
        go_upto_region 10 with fail
        refine wp_region_seq 10 [40, 41, 42, 43, 44, 45, 46, 47, 48, 49] [] [] [] (.done) (Mm no w _) (by kernel_rfl) (by kernel_rfl) (by kernel_rfl) (fun d _ _ _ _ h => by cases d <;> exact h) (by rfl) M.size (fun _ _ h k => h.sf k) M ?_
        simp only [List.take_succ_cons, List.take_zero]
        refine SeqA.pure (.slice (some ⟨ba, oa, none⟩) C cc) (fun w' => by go_simp) rfl rfl ?_
        refine SeqA.pure (.int .i64 e) (fun w' => by go_simp) rfl rfl ?_
        refine SeqA.pure (.int .i64 j) (fun w' => by go_simp) rfl rfl ?_
        refine SeqA.pure (.int .i64 p) (fun w' => by have h := HP.out; go_simp) rfl rfl ?_
        refine SeqA.pure (.pointer (some ⟨ba, oa + p, none⟩)) (fun w' => by go_simp) rfl rfl ?_
        simp only [Act.put, List.setIfInBounds_toArray, List.set_cons_succ, List.set_cons_zero]
        refine SeqA.read (U8 x) (fun w' hI => by have c0 := bs_cell (SV.below HVC.out hI.end_) p (by omega); rw [← Hx.out] at c0; go_simp) rfl rfl ?_
        refine SeqA.pure (.int .i64 j) (fun w' => by go_simp) rfl rfl ?_
        refine SeqA.pure (.pointer (some ⟨b3, j, none⟩)) (fun w' => by go_simp) rfl rfl ?_
        refine SeqA.read (U8 z) (fun w' hI => by have c0 := cell_cs 0 (hI.row (b := b3) (c := cs U8 E) (by simp)) (i := j) (by omega); rw [← Hz.out] at c0; go_simp) rfl rfl ?_
        refine SeqA.pure (.bool true) (fun w' => by have h := hxe; go_simp) rfl rfl ?_
        refine SeqA.nil (fun w1 M2 hz => ?_)
        show wpT _ _ _ _ _ _
        simp only [Act.put, List.setIfInBounds_toArray, List.set_cons_succ, List.set_cons_zero]
        dsimp only [wpT]
        go_upto_region 11 with fail
        refine wp_region_lin (.op 0 (.op 1 .done)) (by rfl) ?_
        refine wpT_valp 8 (v := (.slice none 0 0)) rfl rfl rfl (by go_simp) ?_
        refine wpT_valp 9 (v := .int .i64 6) rfl rfl rfl (by go_simp) ?_
        dsimp only [wpT]
        try simp only [Act.put, List.setIfInBounds_toArray, List.set_cons_succ, List.set_cons_zero]
        go_wp2_with fail
        refine bodyPost_ret (res_two rfl (rv_tmp _ _ rfl) (rv_tmp _ _ rfl)) rfl ?_
        exact ⟨rfl, M2.end_⟩
    · obtain rfl : j = 16 := by omega
      exact absurd (getD_ext (by rw [hE, hDl]) (fun j h => HB.out j (by omega))) HR.out
end Go.Proofs.YtbigmnhjnjeeaaaDoor
