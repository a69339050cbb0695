/-
  Reference 08, and the law that asks it; own work.
-/
import Derived.Test.YtbigmnhjnjeeaaaDoorLi5
import Derived.Test.YtbigmnhjnjeeaaaDoorRf5d
set_option linter.unusedSimpArgs false
set_option linter.unusedVariables false
namespace Go.Proofs.YtbigmnhjnjeeaaaDoor
open Go.RowKit
theorem rbytes_v (w : World) (l : List (BitVec 8)) (hl : l.length = 32) :
    Calls Tryd.prog 48 #[.agg (cs U8 l)] w fun e w' => ∃ v, e = .returned v ∧ BN w' w.heap.size v l ∧ Below w.heap.size w w' :=
  (rbytes_any w l hl).mono fun e w' ⟨v, h1, h2, h3⟩ => ⟨v, h1, h2.bn, h3⟩
theorem rderL {w : World} {l D : List (BitVec 8)} (i : Nat) (hD : D = Li.key l i) (hl : l.length = 32) :
    Calls Tryd.prog 36 #[.agg (cs U8 l), .string (Bs (Li.lab i))] w fun e w' => e = .returned (.agg (cs U8 D)) ∧ Below w.heap.size w w' := by
  rw [hD]; exact rderive_any w l (Li.lab i) hl (by simp [Li.lab])
theorem rderL1 {w : World} {l D : List (BitVec 8)} (hD : D = Li.key l 1) (hl : l.length = 32) :
    Calls Tryd.prog 36 #[.agg (cs U8 l), .string ⟨#[108, 105, 111, 110, 32, 49]⟩] w fun e w' => e = .returned (.agg (cs U8 D)) ∧ Below w.heap.size w w' := rderL 1 hD hl
theorem rderL2 {w : World} {l D : List (BitVec 8)} (hD : D = Li.key l 2) (hl : l.length = 32) :
    Calls Tryd.prog 36 #[.agg (cs U8 l), .string ⟨#[108, 105, 111, 110, 32, 50]⟩] w fun e w' => e = .returned (.agg (cs U8 D)) ∧ Below w.heap.size w w' := rderL 2 hD hl
theorem rderL3 {w : World} {l D : List (BitVec 8)} (hD : D = Li.key l 3) (hl : l.length = 32) :
    Calls Tryd.prog 36 #[.agg (cs U8 l), .string ⟨#[108, 105, 111, 110, 32, 51]⟩] w fun e w' => e = .returned (.agg (cs U8 D)) ∧ Below w.heap.size w w' := rderL 3 hD hl
theorem rderL4 {w : World} {l D : List (BitVec 8)} (hD : D = Li.key l 4) (hl : l.length = 32) :
    Calls Tryd.prog 36 #[.agg (cs U8 l), .string ⟨#[108, 105, 111, 110, 32, 52]⟩] w fun e w' => e = .returned (.agg (cs U8 D)) ∧ Below w.heap.size w w' := rderL 4 hD hl
attribute [local irreducible] XP Li.xo Ch.xr Sh.mac Li.key Li.st Li.tg Li.cut Li.join
set_option maxHeartbeats 1000000 in
theorem rkey1 (w : World) (k A : Bs8) (hk : k.length = 32) (hA : A.length = 32) (eA : A = Li.key k 1) : Calls Tryd.prog 43 #[.agg (cs U8 k), .int .i64 1] w fun e w' => e = .returned (.agg (cs U8 A)) ∧ Below w.heap.size w w' := by
  have HA := hid eA
  clear eA
  have M0 := Mm.start no w
  go_enter Tryd.func43, Tryd.ntmps43
  have M2 := ((M0.alloc (cs U8 k) 23 (by decide)).alloc (cs U8 (zs 32)) 23 (by decide))
  try simp only [World.size_alloc] at M2
  go_upto_region 1 with fail
  obtain ⟨w1, hw1⟩ : ∃ w1, w1 = ((w.alloc (.cells (cs U8 k) 23)).alloc (.cells (cs U8 (zs 32)) 23)) := ⟨_, rfl⟩
  rw [← hw1] at M2 ⊢
  clear hw1
  refine wp_region_lin (.op 0 .done) (by rfl) ?_
  refine wpT_valp 5 (v := .int .i64 1) rfl rfl rfl (by go_simp) ?_
  dsimp only [wpT]
  try simp only [Act.put, List.setIfInBounds_toArray, List.set_cons_succ, List.set_cons_zero]
  go_upto_region 2 with fail
  refine wp_region_lin (.op 0 (.op 1 .done)) (by rfl) ?_
  refine wpT_valp 7 (v := .bool true) rfl rfl rfl (by go_simp) ?_
  refine wpT_valp 6 (v := .bool true) rfl rfl rfl (by go_simp) ?_
  dsimp only [wpT]
  try simp only [Act.put, List.setIfInBounds_toArray, List.set_cons_succ, List.set_cons_zero]
  go_upto_region 3 with fail
  refine wp_region_lin (.op 0 (.op 1 (.op 2 .done))) (by rfl) ?_
  refine wpT_ld0 8 Tryd.underlying23 rfl inf_key (w.heap.size) (cs U8 k) rfl rfl rfl (by go_simp) (M2.row (by simp)) (by simp [hk, hA]) rfl ?_
  refine wpT_callv 9 M2 (v := .agg (cs U8 A)) rfl rfl rfl (by go_simp) (rderL1 HA.out hk) (fun w3 M4 => ?_)
  refine wpT_st0 M4 0 (cs U8 A) inf_key rfl rfl rfl rfl (by go_simp) (by go_simp) (by simp [hk, hA]) (by simp [hk, hA]) (by simp [go_sem]) rfl (fun w5 M6 => ?_)
  dsimp only [List.set] at M6
  dsimp only [wpT]
  try simp only [Act.put, List.setIfInBounds_toArray, List.set_cons_succ, List.set_cons_zero]
  go_wp2_with fail
  have r7 := M6.row (b := w.heap.size + 1) (c := cs U8 A) (by simp)
  refine bodyPost_ret (res_row (b := w.heap.size + 1) rfl Tryd.underlying23 rfl inf_key _ _ rfl (by rw [r7]; simp [hk, hA])) rfl ?_
  rw [r7]
  exact ⟨rfl, M6.end_⟩
set_option maxHeartbeats 1000000 in
theorem rkey2 (w : World) (k A : Bs8) (hk : k.length = 32) (hA : A.length = 32) (eA : A = Li.key k 2) : Calls Tryd.prog 43 #[.agg (cs U8 k), .int .i64 2] w fun e w' => e = .returned (.agg (cs U8 A)) ∧ Below w.heap.size w w' := by
  have HA := hid eA
  clear eA
  have M0 := Mm.start no w
  go_enter Tryd.func43, Tryd.ntmps43
  have M2 := ((M0.alloc (cs U8 k) 23 (by decide)).alloc (cs U8 (zs 32)) 23 (by decide))
  try simp only [World.size_alloc] at M2
  go_upto_region 1 with fail
  obtain ⟨w1, hw1⟩ : ∃ w1, w1 = ((w.alloc (.cells (cs U8 k) 23)).alloc (.cells (cs U8 (zs 32)) 23)) := ⟨_, rfl⟩
  rw [← hw1] at M2 ⊢
  clear hw1
  refine wp_region_lin (.op 0 .done) (by rfl) ?_
  refine wpT_valp 5 (v := .int .i64 2) rfl rfl rfl (by go_simp) ?_
  dsimp only [wpT]
  try simp only [Act.put, List.setIfInBounds_toArray, List.set_cons_succ, List.set_cons_zero]
  go_upto_region 2 with fail
  refine wp_region_lin (.op 0 (.op 1 .done)) (by rfl) ?_
  refine wpT_valp 7 (v := .bool false) rfl rfl rfl (by go_simp) ?_
  refine wpT_valp 6 (v := .bool false) rfl rfl rfl (by go_simp) ?_
  dsimp only [wpT]
  try simp only [Act.put, List.setIfInBounds_toArray, List.set_cons_succ, List.set_cons_zero]
  go_upto_region 4 with fail
  refine wp_region_lin (.op 0 (.op 1 .done)) (by rfl) ?_
  refine wpT_valp 11 (v := .bool true) rfl rfl rfl (by go_simp) ?_
  refine wpT_valp 10 (v := .bool true) rfl rfl rfl (by go_simp) ?_
  dsimp only [wpT]
  try simp only [Act.put, List.setIfInBounds_toArray, List.set_cons_succ, List.set_cons_zero]
  go_upto_region 5 with fail
  refine wp_region_lin (.op 0 (.op 1 (.op 2 .done))) (by rfl) ?_
  refine wpT_ld0 12 Tryd.underlying23 rfl inf_key (w.heap.size) (cs U8 k) rfl rfl rfl (by go_simp) (M2.row (by simp)) (by simp [hk, hA]) rfl ?_
  refine wpT_callv 13 M2 (v := .agg (cs U8 A)) rfl rfl rfl (by go_simp) (rderL2 HA.out hk) (fun w3 M4 => ?_)
  refine wpT_st0 M4 0 (cs U8 A) inf_key rfl rfl rfl rfl (by go_simp) (by go_simp) (by simp [hk, hA]) (by simp [hk, hA]) (by simp [go_sem]) rfl (fun w5 M6 => ?_)
  dsimp only [List.set] at M6
  dsimp only [wpT]
  try simp only [Act.put, List.setIfInBounds_toArray, List.set_cons_succ, List.set_cons_zero]
  go_wp2_with fail
  have r7 := M6.row (b := w.heap.size + 1) (c := cs U8 A) (by simp)
  refine bodyPost_ret (res_row (b := w.heap.size + 1) rfl Tryd.underlying23 rfl inf_key _ _ rfl (by rw [r7]; simp [hk, hA])) rfl ?_
  rw [r7]
  exact ⟨rfl, M6.end_⟩
set_option maxHeartbeats 1000000 in
theorem rkey3 (w : World) (k A : Bs8) (hk : k.length = 32) (hA : A.length = 32) (eA : A = Li.key k 3) : Calls Tryd.prog 43 #[.agg (cs U8 k), .int .i64 3] w fun e w' => e = .returned (.agg (cs U8 A)) ∧ Below w.heap.size w w' := by
  have HA := hid eA
  clear eA
  have M0 := Mm.start no w
  go_enter Tryd.func43, Tryd.ntmps43
  have M2 := ((M0.alloc (cs U8 k) 23 (by decide)).alloc (cs U8 (zs 32)) 23 (by decide))
  try simp only [World.size_alloc] at M2
  go_upto_region 1 with fail
  obtain ⟨w1, hw1⟩ : ∃ w1, w1 = ((w.alloc (.cells (cs U8 k) 23)).alloc (.cells (cs U8 (zs 32)) 23)) := ⟨_, rfl⟩
  rw [← hw1] at M2 ⊢
  clear hw1
  refine wp_region_lin (.op 0 .done) (by rfl) ?_
  refine wpT_valp 5 (v := .int .i64 3) rfl rfl rfl (by go_simp) ?_
  dsimp only [wpT]
  try simp only [Act.put, List.setIfInBounds_toArray, List.set_cons_succ, List.set_cons_zero]
  go_upto_region 2 with fail
  refine wp_region_lin (.op 0 (.op 1 .done)) (by rfl) ?_
  refine wpT_valp 7 (v := .bool false) rfl rfl rfl (by go_simp) ?_
  refine wpT_valp 6 (v := .bool false) rfl rfl rfl (by go_simp) ?_
  dsimp only [wpT]
  try simp only [Act.put, List.setIfInBounds_toArray, List.set_cons_succ, List.set_cons_zero]
  go_upto_region 4 with fail
  refine wp_region_lin (.op 0 (.op 1 .done)) (by rfl) ?_
  refine wpT_valp 11 (v := .bool false) rfl rfl rfl (by go_simp) ?_
  refine wpT_valp 10 (v := .bool false) rfl rfl rfl (by go_simp) ?_
  dsimp only [wpT]
  try simp only [Act.put, List.setIfInBounds_toArray, List.set_cons_succ, List.set_cons_zero]
  go_upto_region 6 with fail
  refine wp_region_lin (.op 0 (.op 1 .done)) (by rfl) ?_
  refine wpT_valp 15 (v := .bool true) rfl rfl rfl (by go_simp) ?_
  refine wpT_valp 14 (v := .bool true) rfl rfl rfl (by go_simp) ?_
  dsimp only [wpT]
  try simp only [Act.put, List.setIfInBounds_toArray, List.set_cons_succ, List.set_cons_zero]
  go_upto_region 7 with fail
  refine wp_region_lin (.op 0 (.op 1 (.op 2 .done))) (by rfl) ?_
  refine wpT_ld0 16 Tryd.underlying23 rfl inf_key (w.heap.size) (cs U8 k) rfl rfl rfl (by go_simp) (M2.row (by simp)) (by simp [hk, hA]) rfl ?_
  refine wpT_callv 17 M2 (v := .agg (cs U8 A)) rfl rfl rfl (by go_simp) (rderL3 HA.out hk) (fun w3 M4 => ?_)
  refine wpT_st0 M4 0 (cs U8 A) inf_key rfl rfl rfl rfl (by go_simp) (by go_simp) (by simp [hk, hA]) (by simp [hk, hA]) (by simp [go_sem]) rfl (fun w5 M6 => ?_)
  dsimp only [List.set] at M6
  dsimp only [wpT]
  try simp only [Act.put, List.setIfInBounds_toArray, List.set_cons_succ, List.set_cons_zero]
  go_wp2_with fail
  have r7 := M6.row (b := w.heap.size + 1) (c := cs U8 A) (by simp)
  refine bodyPost_ret (res_row (b := w.heap.size + 1) rfl Tryd.underlying23 rfl inf_key _ _ rfl (by rw [r7]; simp [hk, hA])) rfl ?_
  rw [r7]
  exact ⟨rfl, M6.end_⟩
set_option maxHeartbeats 1000000 in
theorem rkey4 (w : World) (k A : Bs8) (hk : k.length = 32) (hA : A.length = 32) (eA : A = Li.key k 4) : Calls Tryd.prog 43 #[.agg (cs U8 k), .int .i64 4] w fun e w' => e = .returned (.agg (cs U8 A)) ∧ Below w.heap.size w w' := by
  have HA := hid eA
  clear eA
  have M0 := Mm.start no w
  go_enter Tryd.func43, Tryd.ntmps43
  have M2 := ((M0.alloc (cs U8 k) 23 (by decide)).alloc (cs U8 (zs 32)) 23 (by decide))
  try simp only [World.size_alloc] at M2
  go_upto_region 1 with fail
  obtain ⟨w1, hw1⟩ : ∃ w1, w1 = ((w.alloc (.cells (cs U8 k) 23)).alloc (.cells (cs U8 (zs 32)) 23)) := ⟨_, rfl⟩
  rw [← hw1] at M2 ⊢
  clear hw1
  refine wp_region_lin (.op 0 .done) (by rfl) ?_
  refine wpT_valp 5 (v := .int .i64 4) rfl rfl rfl (by go_simp) ?_
  dsimp only [wpT]
  try simp only [Act.put, List.setIfInBounds_toArray, List.set_cons_succ, List.set_cons_zero]
  go_upto_region 2 with fail
  refine wp_region_lin (.op 0 (.op 1 .done)) (by rfl) ?_
  refine wpT_valp 7 (v := .bool false) rfl rfl rfl (by go_simp) ?_
  refine wpT_valp 6 (v := .bool false) rfl rfl rfl (by go_simp) ?_
  dsimp only [wpT]
  try simp only [Act.put, List.setIfInBounds_toArray, List.set_cons_succ, List.set_cons_zero]
  go_upto_region 4 with fail
  refine wp_region_lin (.op 0 (.op 1 .done)) (by rfl) ?_
  refine wpT_valp 11 (v := .bool false) rfl rfl rfl (by go_simp) ?_
  refine wpT_valp 10 (v := .bool false) rfl rfl rfl (by go_simp) ?_
  dsimp only [wpT]
  try simp only [Act.put, List.setIfInBounds_toArray, List.set_cons_succ, List.set_cons_zero]
  go_upto_region 6 with fail
  refine wp_region_lin (.op 0 (.op 1 .done)) (by rfl) ?_
  refine wpT_valp 15 (v := .bool false) rfl rfl rfl (by go_simp) ?_
  refine wpT_valp 14 (v := .bool false) rfl rfl rfl (by go_simp) ?_
  dsimp only [wpT]
  try simp only [Act.put, List.setIfInBounds_toArray, List.set_cons_succ, List.set_cons_zero]
  go_upto_region 8 with fail
  refine wp_region_lin (.op 0 (.op 1 (.op 2 .done))) (by rfl) ?_
  refine wpT_ld0 18 Tryd.underlying23 rfl inf_key (w.heap.size) (cs U8 k) rfl rfl rfl (by go_simp) (M2.row (by simp)) (by simp [hk, hA]) rfl ?_
  refine wpT_callv 19 M2 (v := .agg (cs U8 A)) rfl rfl rfl (by go_simp) (rderL4 HA.out hk) (fun w3 M4 => ?_)
  refine wpT_st0 M4 0 (cs U8 A) inf_key rfl rfl rfl rfl (by go_simp) (by go_simp) (by simp [hk, hA]) (by simp [hk, hA]) (by simp [go_sem]) rfl (fun w5 M6 => ?_)
  dsimp only [List.set] at M6
  dsimp only [wpT]
  try simp only [Act.put, List.setIfInBounds_toArray, List.set_cons_succ, List.set_cons_zero]
  go_wp2_with fail
  have r7 := M6.row (b := w.heap.size + 1) (c := cs U8 A) (by simp)
  refine bodyPost_ret (res_row (b := w.heap.size + 1) rfl Tryd.underlying23 rfl inf_key _ _ rfl (by rw [r7]; simp [hk, hA])) rfl ?_
  rw [r7]
  exact ⟨rfl, M6.end_⟩
set_option maxRecDepth 100000 in
set_option maxHeartbeats 4000000 in
theorem rstream8 (w : World) (k b : Bs8) (vb : Value) (hk : k.length = 32) (hvb : BS w vb b) (h33 : 33 ≤ b.length) (h40 : b.length ≤ 4096) :
    Calls Tryd.prog 44 #[.agg (cs U8 k), vb] w fun e w' => ∃ v, e = .returned v ∧ OB w' w.heap.size v (Li.join (Li.st k (Li.cut b))) ∧ Below w.heap.size w w' := by
  obtain ⟨L, hLe⟩ : ∃ L, L = b.take 32 := ⟨_, rfl⟩
  obtain ⟨r, hre⟩ : ∃ r, r = b.drop 32 := ⟨_, rfl⟩
  obtain ⟨K2, hK⟩ : ∃ K2, K2 = Li.xo k L := ⟨_, rfl⟩
  obtain ⟨r2, er2⟩ : ∃ r2, r2 = Ch.xr K2 (zs 12) 0#32 r := ⟨_, rfl⟩
  rw [show Li.join (Li.st k (Li.cut b)) = L ++ r2 by rw [er2, hK, hLe, hre]; unfold Li.join Li.st Li.cut; rfl]
  obtain ⟨n, hn⟩ : ∃ n, b.length = n := ⟨_, rfl⟩
  obtain ⟨ba, oa, cb, rfl, hcb, -⟩ := BS.open hvb (by intro e; rw [e] at h33; simp at h33)
  rw [hn] at h33 h40 hcb hvb ⊢
  have hL : L.length = 32 := by rw [hLe, List.length_take]; omega
  have hr : r.length = n - 32 := by rw [hre, List.length_drop]; omega
  have HVL : Hid (BS w (.slice (some ⟨ba, oa, none⟩) 32 cb) L) := hid (by
    rw [hLe]; rw [← hn] at hvb hcb; exact hvb.head 32 cb (by omega) (by omega) (Nat.le_refl _))
  have HVR : Hid (BS w (.slice (some ⟨ba, oa + 32, none⟩) (n - 32) (cb - 32)) r) := hid (by
    rw [hre]; rw [← hn] at hvb ⊢; exact hvb.tail 32 (by omega) _ (fun _ => rfl))
  clear hvb hLe hre hn
  have n3 : 32 ≤ n := by omega
  have n4 : 32 ≤ cb := by omega
  have n5 : ¬ (cb : Int) < 32 := by omega
  have n6 : (32 : Int) ≤ (n : Int) := by omega
  have n7 : ¬ cb = 32 := by omega
  have hK2 : K2.length = 32 := by rw [hK, xo_len _ _ (by omega), hk]
  have hr2 : r2.length = n - 32 := by rw [er2, xr_len, hr]
  have HX := hid er2
  have HK := hid hK
  clear hK er2
  have M0 := Mm.start no w
  go_enter Tryd.func44, Tryd.ntmps44
  have M2 := (M0.alloc (cs U8 k) 23 (by decide))
  try simp only [World.size_alloc] at M2
  go_upto_region 1 with fail
  obtain ⟨w1, hw1⟩ : ∃ w1, w1 = (w.alloc (.cells (cs U8 k) 23)) := ⟨_, rfl⟩
  rw [← hw1] at M2 ⊢
  clear hw1
  refine wp_region_lin (.op 0 .done) (by rfl) ?_
  refine wpT_valp 5 (v := .int .i64 0) rfl rfl rfl (by go_simp) ?_
  dsimp only [wpT]
  try simp only [Act.put, List.setIfInBounds_toArray, List.set_cons_succ, List.set_cons_zero]
  go_wp2_with fail
  go_loopw [5] (fun x wr => ∃ i : Nat, i ≤ 32 ∧ x = .int .i64 i ∧ Mm no w [(w.heap.size, cs U8 (XP k L i))] wr) (fun x _ => 32 - (intOf x).toNat)
  case atStart => exact ⟨0, by omega, rfl, by rw [XP_0]; exact M2⟩
  case round =>
    clear M2
    obtain ⟨i, hi, rfl, M⟩ := hrel
    by_cases hi32 : i < 32
    · have hlt : (i : Int) < 32 := by omega
      have hltn : (i : Int) < (n : Int) := by omega
      have hi0 : (0 : Int) ≤ (i : Int) := by omega
      have hxl := XP_len k L i (by omega) (by omega)
      rw [hk] at hxl
      have hxi : i < (XP k L i).length := by omega
      have hiL : i < L.length := by omega
      obtain ⟨p, hp⟩ : ∃ p, p = (XP k L i).getD i 0 := ⟨_, rfl⟩
      obtain ⟨q, hq⟩ : ∃ q, q = L.getD i 0 := ⟨_, rfl⟩
      obtain ⟨y, hy⟩ : ∃ y, p ^^^ q = y := ⟨_, rfl⟩
      have HS := hid (show (XP k L i).set i y = XP k L (i + 1) by rw [← hy, hp, hq]; exact XP_step k L i (by omega) (by omega))
      have Hp := hid hp
      have Hq := hid hq
      have HY := hid hy
      clear hp hq hy
      go_upto_region 4 with fail
      refine wp_region_seq 10 [13, 14, 15, 16, 17, 18, 19, 20, 21, 22] [] [] [] (.op 10 .done) (Mm no w _) (by kernel_rfl) (by kernel_rfl) (by kernel_rfl) (fun d _ _ _ _ h => by cases d <;> exact h) (by rfl) M.size (fun _ _ h k => h.sf k) M ?_
      simp only [List.take_succ_cons, List.take_zero]
      refine SeqA.pure (.int .i64 i) (fun w' => by go_simp) rfl rfl ?_
      refine SeqA.pure (.int .i64 i) (fun w' => by go_simp) rfl rfl ?_
      refine SeqA.pure (.pointer (some ⟨w.heap.size, i, none⟩)) (fun w' => by go_simp) rfl rfl ?_
      refine SeqA.read (U8 p) (fun w' hI => by have c0 := cell_cs 0 (hI.row (b := w.heap.size) (c := cs U8 (XP k L i)) (by simp)) (i := i) hxi; rw [← Hp.out] at c0; go_simp) rfl rfl ?_
      refine SeqA.pure (.slice (some ⟨ba, oa, none⟩) n cb) (fun w' => by go_simp) rfl rfl ?_
      simp only [Act.put, List.setIfInBounds_toArray, List.set_cons_succ, List.set_cons_zero]
      refine SeqA.pure (.int .i64 i) (fun w' => by go_simp) rfl rfl ?_
      refine SeqA.pure (.pointer (some ⟨ba, oa + i, none⟩)) (fun w' => by go_simp) rfl rfl ?_
      refine SeqA.read (U8 q) (fun w' hI => by have c0 := bs_cell (SV.below HVL.out hI.end_) i hiL; rw [← Hq.out] at c0; go_simp) rfl rfl ?_
      refine SeqA.pure (U8 y) (fun w' => by have h := HY.out; go_simp) rfl rfl ?_
      refine SeqA.pure (.pointer (some ⟨w.heap.size, i, none⟩)) (fun w' => by go_simp) rfl rfl ?_
      refine SeqA.nil (fun w1 M2 hz => ?_)
      show wpT _ _ _ _ _ _
      simp only [Act.put, List.setIfInBounds_toArray, List.set_cons_succ, List.set_cons_zero]
      refine wpT_stc M2 0 (U8 y) (cs U8 ((XP k L i).set i y)) inf_u8 rfl rfl rfl rfl (by go_simp) (by go_simp) (by have := (by omega : i < (XP k L i).length); first | (simp; done) | (simpa using this) | (simp; omega)) (by simp [go_sem]) (cs_set _ _) rfl (fun w3 M4 => ?_)
      dsimp only [List.set] at M4
      dsimp only [wpT]
      go_wp2_with fail
      rw [HS.out] at M4
      go_roundw
      case rel => exact ⟨i + 1, by omega, by simp, M4⟩
      case measure => simp only [intOf]; omega
    · obtain rfl : i = 32 := by omega
      rw [show XP k L 32 = K2 by rw [HK.out, ← hk]; exact XP_all k L (by omega)] at M
      go_upto_region 5 with fail
      refine wp_region_lin (.op 0 .done) (by rfl) ?_
      refine wpT_new (z := .agg (cs U8 (zs 12))) 6 M (by kernel_rfl) (by decide) rfl rfl rfl rfl (fun b6 w2 M3 => ?_)
      try dsimp only [Value.cells] at M3
      dsimp only [wpT]
      try simp only [Act.put, List.setIfInBounds_toArray, List.set_cons_succ, List.set_cons_zero]
      go_upto_region 6 with fail
      apply meet2 (P := fun (u : Value) (w' : World) => Mm no w [(b6, cs U8 (zs 12)), (w.heap.size, cs U8 K2)] w' ∧ OB w' w.heap.size u r2)
      case h1 =>
        intro rest
        refine wp_region_P [2, 3] (.both (.op 0 (.op 1 (.op 4 (.op 5 (.both (.op 6 (.both (.op 7 (.op 8 (.op 9 .done))) (.op 8 (.op 7 (.op 9 .done))))) (.op 7 (.op 6 (.op 8 (.op 9 .done))))))))) (.op 1 (.op 0 (.op 4 (.op 5 (.both (.op 6 (.both (.op 7 (.op 8 (.op 9 .done))) (.op 8 (.op 7 (.op 9 .done))))) (.op 7 (.op 6 (.op 8 (.op 9 .done)))))))))) (by kernel_rfl) (by kernel_rfl) (by kernel_rfl) (fun d _ _ _ _ h => by cases d <;> exact h) ?_
        refine wpYJd_op 26 (.slice (some ⟨ba, oa, none⟩) n cb) rfl rfl rfl (fun w1 _ => by go_simp) ?_
        refine wpYJd_op 27 (.slice (some ⟨ba, oa + 32, none⟩) (n - 32) (cb - 32)) rfl rfl rfl (fun w1 _ => by go_simp) ?_
        show wpT _ _ _ _ _ _
        try simp only [Act.put, List.setIfInBounds_toArray, List.set_cons_succ, List.set_cons_zero]
        have M4 := M3.drewN 1
        change wpT _ _ _ _ _ (w2.drewN 1)
        obtain ⟨w5, hw5⟩ : ∃ w5, w5 = w2.drewN 1 := ⟨_, rfl⟩
        rw [← hw5] at M4 ⊢
        clear hw5
        refine ⟨?_, ?_⟩
        · refine wpT_ld0 24 Tryd.underlying23 rfl inf_key (w.heap.size) (cs U8 K2) rfl rfl rfl (by go_simp) (M4.row (by simp)) (by simp [hk, hK2]) rfl ?_
          refine wpT_ld0 25 Tryd.underlying28 rfl inf_n12 (b6) (cs U8 (zs 12)) rfl rfl rfl (by go_simp) (M4.row (by simp)) (by simp [hk, hK2]) rfl ?_
          have hz26 := M4.size
          refine wpT_callx 28 M4 (X := fun v w' => ∃ u, v = .tuple #[u, .int .i64 0] ∧ OB w' w.heap.size u r2) rfl rfl rfl (by go_simp; rfl) ((rxor w5 K2 (zs 12) r 0#32 _ hK2 (by simp [zs]) (SV.below HVR.out M4.end_) (by omega) (by decide)).mono (fun e w' ⟨v, h1, h2, h3⟩ => ⟨_, h1, ⟨v, rfl, by rw [HX.out]; exact h2.mono hz26⟩, h3⟩)) (fun v26 w26 h26 M26 _ => ?_)
          obtain ⟨u26, rfl, O26⟩ := h26
          refine wpT_valp 23 (v := .tuple #[u26, .int .i64 0]) rfl rfl rfl (by go_simp) ?_
          refine ⟨?_, ?_⟩
          · refine wpT_valp 29 (v := u26) rfl rfl rfl (by go_simp) ?_
            refine ⟨?_, ?_⟩
            · refine wpT_valp 30 (v := .int .i64 0) rfl rfl rfl (by go_simp) ?_
              refine wpT_valp 7 (v := u26) rfl rfl rfl (by go_simp) ?_
              refine wpT_valp 8 (v := .int .i64 0) rfl rfl rfl (by go_simp) ?_
              dsimp only [wpT]
              try simp only [Act.put, List.setIfInBounds_toArray, List.set_cons_succ, List.set_cons_zero]
              exact rest u26 _ ⟨M26, O26⟩
            · refine wpT_valp 7 (v := u26) rfl rfl rfl (by go_simp) ?_
              refine wpT_valp 30 (v := .int .i64 0) rfl rfl rfl (by go_simp) ?_
              refine wpT_valp 8 (v := .int .i64 0) rfl rfl rfl (by go_simp) ?_
              dsimp only [wpT]
              try simp only [Act.put, List.setIfInBounds_toArray, List.set_cons_succ, List.set_cons_zero]
              exact rest u26 _ ⟨M26, O26⟩
          · refine wpT_valp 30 (v := .int .i64 0) rfl rfl rfl (by go_simp) ?_
            refine wpT_valp 29 (v := u26) rfl rfl rfl (by go_simp) ?_
            refine wpT_valp 7 (v := u26) rfl rfl rfl (by go_simp) ?_
            refine wpT_valp 8 (v := .int .i64 0) rfl rfl rfl (by go_simp) ?_
            dsimp only [wpT]
            try simp only [Act.put, List.setIfInBounds_toArray, List.set_cons_succ, List.set_cons_zero]
            exact rest u26 _ ⟨M26, O26⟩
        · refine wpT_ld0 25 Tryd.underlying28 rfl inf_n12 (b6) (cs U8 (zs 12)) rfl rfl rfl (by go_simp) (M4.row (by simp)) (by simp [hk, hK2]) rfl ?_
          refine wpT_ld0 24 Tryd.underlying23 rfl inf_key (w.heap.size) (cs U8 K2) rfl rfl rfl (by go_simp) (M4.row (by simp)) (by simp [hk, hK2]) rfl ?_
          have hz26 := M4.size
          refine wpT_callx 28 M4 (X := fun v w' => ∃ u, v = .tuple #[u, .int .i64 0] ∧ OB w' w.heap.size u r2) rfl rfl rfl (by go_simp; rfl) ((rxor w5 K2 (zs 12) r 0#32 _ hK2 (by simp [zs]) (SV.below HVR.out M4.end_) (by omega) (by decide)).mono (fun e w' ⟨v, h1, h2, h3⟩ => ⟨_, h1, ⟨v, rfl, by rw [HX.out]; exact h2.mono hz26⟩, h3⟩)) (fun v26 w26 h26 M26 _ => ?_)
          obtain ⟨u26, rfl, O26⟩ := h26
          refine wpT_valp 23 (v := .tuple #[u26, .int .i64 0]) rfl rfl rfl (by go_simp) ?_
          refine ⟨?_, ?_⟩
          · refine wpT_valp 29 (v := u26) rfl rfl rfl (by go_simp) ?_
            refine ⟨?_, ?_⟩
            · refine wpT_valp 30 (v := .int .i64 0) rfl rfl rfl (by go_simp) ?_
              refine wpT_valp 7 (v := u26) rfl rfl rfl (by go_simp) ?_
              refine wpT_valp 8 (v := .int .i64 0) rfl rfl rfl (by go_simp) ?_
              dsimp only [wpT]
              try simp only [Act.put, List.setIfInBounds_toArray, List.set_cons_succ, List.set_cons_zero]
              exact rest u26 _ ⟨M26, O26⟩
            · refine wpT_valp 7 (v := u26) rfl rfl rfl (by go_simp) ?_
              refine wpT_valp 30 (v := .int .i64 0) rfl rfl rfl (by go_simp) ?_
              refine wpT_valp 8 (v := .int .i64 0) rfl rfl rfl (by go_simp) ?_
              dsimp only [wpT]
              try simp only [Act.put, List.setIfInBounds_toArray, List.set_cons_succ, List.set_cons_zero]
              exact rest u26 _ ⟨M26, O26⟩
          · refine wpT_valp 30 (v := .int .i64 0) rfl rfl rfl (by go_simp) ?_
            refine wpT_valp 29 (v := u26) rfl rfl rfl (by go_simp) ?_
            refine wpT_valp 7 (v := u26) rfl rfl rfl (by go_simp) ?_
            refine wpT_valp 8 (v := .int .i64 0) rfl rfl rfl (by go_simp) ?_
            dsimp only [wpT]
            try simp only [Act.put, List.setIfInBounds_toArray, List.set_cons_succ, List.set_cons_zero]
            exact rest u26 _ ⟨M26, O26⟩
      case h2 =>
      rintro u1 w1 ⟨M1, O1⟩
      go_upto_region 7 with fail
      refine wp_region_lin (.op 0 (.op 1 (.op 2 (.op 3 (.op 4 .done))))) (by rfl) ?_
      refine wpT_valp 31 (v := .slice (some ⟨ba, oa, none⟩) n cb) rfl rfl rfl (by go_simp) ?_
      refine wpT_valp 32 (v := .slice (some ⟨ba, oa, none⟩) 32 cb) rfl rfl rfl (by go_simp) ?_
      refine wpT_valp 33 (v := u1) rfl rfl rfl (by go_simp) ?_
      have hz9 := M1.size
      refine wpT_callx 34 M1 (X := fun v w' => OB w' w.heap.size v (L ++ r2)) rfl rfl rfl (by go_simp) ((rjoin_any w1 _ _ (L) (r2) (SV.below HVL.out M1.end_) O1.bs (by rw [hL, hr2]; omega)).mono (fun e w' ⟨v, h1, h2, h3⟩ => ⟨v, h1, h2.mono hz9, h3⟩)) (fun u9 w9 O9 M9 _ => ?_)
      try simp only [Act.put, List.setIfInBounds_toArray, List.set_cons_succ, List.set_cons_zero]
      refine wpT_valp 4 (v := u9) rfl rfl rfl (by go_simp) ?_
      dsimp only [wpT]
      try simp only [Act.put, List.setIfInBounds_toArray, List.set_cons_succ, List.set_cons_zero]
      go_wp2_with fail
      go_ret
      exact ⟨_, rfl, O9, M9.end_⟩
theorem xo_comm (a b : Bs8) : List.zipWith (· ^^^ ·) a b = List.zipWith (· ^^^ ·) b a := by
  induction a generalizing b with
  | nil => simp
  | cons x a ih => cases b with
    | nil => simp
    | cons y b => simp [ih b, BitVec.xor_comm]
set_option maxRecDepth 100000 in
set_option maxHeartbeats 4000000 in
theorem rtag8 (w : World) (k b : Bs8) (vb : Value) (hk : k.length = 32) (hvb : BS w vb b) (h33 : 33 ≤ b.length) (h40 : b.length ≤ 4096) :
    Calls Tryd.prog 45 #[.agg (cs U8 k), vb] w fun e w' => ∃ v, e = .returned v ∧ OB w' w.heap.size v (Li.join (Li.tg k (Li.cut b))) ∧ Below w.heap.size w w' := by
  obtain ⟨L, hLe⟩ : ∃ L, L = b.take 32 := ⟨_, rfl⟩
  obtain ⟨r, hre⟩ : ∃ r, r = b.drop 32 := ⟨_, rfl⟩
  obtain ⟨D, eD⟩ : ∃ D, D = Sh.mac k r := ⟨_, rfl⟩
  have hD : D.length = 32 := by rw [eD, mac_len32]
  obtain ⟨L2, eL2⟩ : ∃ L2, L2 = List.zipWith (· ^^^ ·) D L := ⟨_, rfl⟩
  rw [show Li.join (Li.tg k (Li.cut b)) = L2 ++ r by rw [eL2, xo_comm, eD, hLe, hre]; unfold Li.join Li.tg Li.cut Li.xo; rfl]
  obtain ⟨n, hn⟩ : ∃ n, b.length = n := ⟨_, rfl⟩
  obtain ⟨ba, oa, cb, rfl, hcb, -⟩ := BS.open hvb (by intro e; rw [e] at h33; simp at h33)
  rw [hn] at h33 h40 hcb hvb ⊢
  have hL : L.length = 32 := by rw [hLe, List.length_take]; omega
  have hr : r.length = n - 32 := by rw [hre, List.length_drop]; omega
  have HVL : Hid (BS w (.slice (some ⟨ba, oa, none⟩) 32 cb) L) := hid (by
    rw [hLe]; rw [← hn] at hvb hcb; exact hvb.head 32 cb (by omega) (by omega) (Nat.le_refl _))
  have HVR : Hid (BS w (.slice (some ⟨ba, oa + 32, none⟩) (n - 32) (cb - 32)) r) := hid (by
    rw [hre]; rw [← hn] at hvb ⊢; exact hvb.tail 32 (by omega) _ (fun _ => rfl))
  clear hvb hLe hre hn
  have n3 : 32 ≤ n := by omega
  have n4 : 32 ≤ cb := by omega
  have n5 : ¬ (cb : Int) < 32 := by omega
  have n6 : (32 : Int) ≤ (n : Int) := by omega
  have n7 : ¬ cb = 32 := by omega
  have hL2 : L2.length = 32 := by rw [eL2, List.length_zipWith]; omega
  have HD := hid eD
  have HL2 := hid eL2
  have T0 := back0 (S := no) (w0 := w)
  clear eD eL2
  have M0 := Mm.start no w
  go_enter Tryd.func45, Tryd.ntmps45
  have M2 := (M0.alloc (cs U8 k) 23 (by decide))
  try simp only [World.size_alloc] at M2
  go_upto_region 1 with fail
  obtain ⟨w1, hw1⟩ : ∃ w1, w1 = (w.alloc (.cells (cs U8 k) 23)) := ⟨_, rfl⟩
  rw [← hw1] at M2 ⊢
  clear hw1
  refine wp_region_P [2, 3] (.both (.op 0 (.both (.op 1 (.both (.op 4 (.op 5 (.op 6 .done))) (.op 5 (.op 4 (.op 6 .done))))) (.op 5 (.op 1 (.op 4 (.op 6 .done)))))) (.op 5 (.op 0 (.op 1 (.op 4 (.op 6 .done)))))) (by kernel_rfl) (by kernel_rfl) (by kernel_rfl) (fun d _ _ _ _ h => by cases d <;> exact h) ?_
  refine wpYJd_op 9 (.slice (some ⟨ba, oa, none⟩) n cb) rfl rfl rfl (fun w1 _ => by go_simp) ?_
  refine wpYJd_op 10 (.slice (some ⟨ba, oa + 32, none⟩) (n - 32) (cb - 32)) rfl rfl rfl (fun w1 _ => by go_simp) ?_
  show wpT _ _ _ _ _ _
  try simp only [Act.put, List.setIfInBounds_toArray, List.set_cons_succ, List.set_cons_zero]
  have M3 := M2.drewN 1
  change wpT _ _ _ _ _ (w1.drewN 1)
  obtain ⟨w4, hw4⟩ : ∃ w4, w4 = w1.drewN 1 := ⟨_, rfl⟩
  rw [← hw4] at M3 ⊢
  clear hw4
  refine ⟨?_, ?_⟩
  · refine wpT_ld0 7 Tryd.underlying23 rfl inf_key (w.heap.size) (cs U8 k) rfl rfl rfl (by go_simp) (M3.row (by simp)) (by simp [hk, hD]) rfl ?_
    refine ⟨?_, ?_⟩
    · refine wpT_callN 8 M3 (l := k) (fun v => v) rfl rfl rfl (by go_simp) (rbytes_v w4 k hk) (fun v21 w21 S21 M21 T21 K21 => ?_)
      replace T0 := backT T0 T21
      refine ⟨?_, ?_⟩
      · refine wpT_callv 11 M21 (v := .agg (cs U8 D)) rfl rfl rfl (by go_simp) (rmacD HD.out (K21.out _ _ M21).1 (SV.below HVR.out (T0.out _ _ M21).end_) (by omega) (by omega)) (fun w22 M22 => ?_)
        refine wpT_new (z := .agg (cs U8 (zs 32))) 5 M22 (by kernel_rfl) (by decide) rfl rfl rfl rfl (fun b5 w6 M7 => ?_)
        try dsimp only [Value.cells] at M7
        refine wpT_st0 M7 0 (cs U8 D) inf_key rfl rfl rfl rfl (by go_simp) (by go_simp) (by simp [hk, hD]) (by simp [hk, hD]) (by simp [go_sem]) rfl (fun w8 M9 => ?_)
        dsimp only [List.set] at M9
        dsimp only [wpT]
        try simp only [Act.put, List.setIfInBounds_toArray, List.set_cons_succ, List.set_cons_zero]
        go_upto_region 2 with fail
        refine wp_region_P [2, 3] (.op 0 (.op 1 (.op 4 (.op 5 .done)))) (by kernel_rfl) (by kernel_rfl) (by kernel_rfl) (fun d _ _ _ _ h => by cases d <;> exact h) ?_
        refine wpYJd_op 14 (.slice (some ⟨ba, oa, none⟩) n cb) rfl rfl rfl (fun w1 _ => by go_simp) ?_
        refine wpYJd_op 15 (.slice (some ⟨ba, oa, none⟩) 32 cb) rfl rfl rfl (fun w1 _ => by go_simp) ?_
        show wpT _ _ _ _ _ _
        try simp only [Act.put, List.setIfInBounds_toArray, List.set_cons_succ, List.set_cons_zero]
        have M10 := M9.drewN 1
        change wpT _ _ _ _ _ (w8.drewN 1)
        obtain ⟨w11, hw11⟩ : ∃ w11, w11 = w8.drewN 1 := ⟨_, rfl⟩
        rw [← hw11] at M10 ⊢
        clear hw11
        refine wpT_ld0 12 Tryd.underlying23 rfl inf_key (b5) (cs U8 D) rfl rfl rfl (by go_simp) (M10.row (by simp)) (by simp [hk, hD]) rfl ?_
        refine wpT_callN 13 M10 (l := D) (fun v => v) rfl rfl rfl (by go_simp) (rbytes_v w11 D hD) (fun v24 w24 S24 M24 T24 K24 => ?_)
        replace T0 := backT T0 T24
        replace K21 := backT K21 T24
        refine wpT_callx 16 M24 (X := fun v w' => BS w' v L2) rfl rfl rfl (by go_simp) ((rmixed w24 D L _ _ 32 hD hL (K24.out _ _ M24).1 (SV.below HVL.out (T0.out _ _ M24).end_) (by omega)).mono (fun e w' ⟨v, h1, h2, h3⟩ => ⟨v, h1, by rw [HL2.out]; exact h2.bs, h3⟩)) (fun u8 w8 O8 M8 _ => ?_)
        refine wpT_valp 6 (v := u8) rfl rfl rfl (by go_simp) ?_
        dsimp only [wpT]
        try simp only [Act.put, List.setIfInBounds_toArray, List.set_cons_succ, List.set_cons_zero]
        go_upto_region 3 with fail
        refine wp_region_lin (.op 0 (.op 1 (.op 2 (.op 3 (.op 4 .done))))) (by rfl) ?_
        refine wpT_valp 17 (v := u8) rfl rfl rfl (by go_simp) ?_
        refine wpT_valp 18 (v := .slice (some ⟨ba, oa, none⟩) n cb) rfl rfl rfl (by go_simp) ?_
        refine wpT_valp 19 (v := .slice (some ⟨ba, oa + 32, none⟩) (n - 32) (cb - 32)) rfl rfl rfl (by go_simp) ?_
        have hz9 := (T0.out _ _ M8).size
        refine wpT_callx 20 M8 (X := fun v w' => OB w' w.heap.size v (L2 ++ r)) rfl rfl rfl (by go_simp) ((rjoin_any w8 _ _ (L2) (r) O8 (SV.below HVR.out (T0.out _ _ M8).end_) (by rw [hL2, hr]; omega)).mono (fun e w' ⟨v, h1, h2, h3⟩ => ⟨v, h1, h2.mono hz9, h3⟩)) (fun u9 w9 O9 M9 _ => ?_)
        try simp only [Act.put, List.setIfInBounds_toArray, List.set_cons_succ, List.set_cons_zero]
        refine wpT_valp 4 (v := u9) rfl rfl rfl (by go_simp) ?_
        dsimp only [wpT]
        try simp only [Act.put, List.setIfInBounds_toArray, List.set_cons_succ, List.set_cons_zero]
        go_wp2_with fail
        go_ret
        exact ⟨_, rfl, O9, (T0.out _ _ M9).end_⟩
      · refine wpT_new (z := .agg (cs U8 (zs 32))) 5 M21 (by kernel_rfl) (by decide) rfl rfl rfl rfl (fun b5 w6 M7 => ?_)
        try dsimp only [Value.cells] at M7
        refine wpT_callv 11 M7 (v := .agg (cs U8 D)) rfl rfl rfl (by go_simp) (rmacD HD.out (K21.out _ _ M7).1 (SV.below HVR.out (T0.out _ _ M7).end_) (by omega) (by omega)) (fun w22 M22 => ?_)
        refine wpT_st0 M22 0 (cs U8 D) inf_key rfl rfl rfl rfl (by go_simp) (by go_simp) (by simp [hk, hD]) (by simp [hk, hD]) (by simp [go_sem]) rfl (fun w8 M9 => ?_)
        dsimp only [List.set] at M9
        dsimp only [wpT]
        try simp only [Act.put, List.setIfInBounds_toArray, List.set_cons_succ, List.set_cons_zero]
        go_upto_region 2 with fail
        refine wp_region_P [2, 3] (.op 0 (.op 1 (.op 4 (.op 5 .done)))) (by kernel_rfl) (by kernel_rfl) (by kernel_rfl) (fun d _ _ _ _ h => by cases d <;> exact h) ?_
        refine wpYJd_op 14 (.slice (some ⟨ba, oa, none⟩) n cb) rfl rfl rfl (fun w1 _ => by go_simp) ?_
        refine wpYJd_op 15 (.slice (some ⟨ba, oa, none⟩) 32 cb) rfl rfl rfl (fun w1 _ => by go_simp) ?_
        show wpT _ _ _ _ _ _
        try simp only [Act.put, List.setIfInBounds_toArray, List.set_cons_succ, List.set_cons_zero]
        have M10 := M9.drewN 1
        change wpT _ _ _ _ _ (w8.drewN 1)
        obtain ⟨w11, hw11⟩ : ∃ w11, w11 = w8.drewN 1 := ⟨_, rfl⟩
        rw [← hw11] at M10 ⊢
        clear hw11
        refine wpT_ld0 12 Tryd.underlying23 rfl inf_key (b5) (cs U8 D) rfl rfl rfl (by go_simp) (M10.row (by simp)) (by simp [hk, hD]) rfl ?_
        refine wpT_callN 13 M10 (l := D) (fun v => v) rfl rfl rfl (by go_simp) (rbytes_v w11 D hD) (fun v24 w24 S24 M24 T24 K24 => ?_)
        replace T0 := backT T0 T24
        replace K21 := backT K21 T24
        refine wpT_callx 16 M24 (X := fun v w' => BS w' v L2) rfl rfl rfl (by go_simp) ((rmixed w24 D L _ _ 32 hD hL (K24.out _ _ M24).1 (SV.below HVL.out (T0.out _ _ M24).end_) (by omega)).mono (fun e w' ⟨v, h1, h2, h3⟩ => ⟨v, h1, by rw [HL2.out]; exact h2.bs, h3⟩)) (fun u8 w8 O8 M8 _ => ?_)
        refine wpT_valp 6 (v := u8) rfl rfl rfl (by go_simp) ?_
        dsimp only [wpT]
        try simp only [Act.put, List.setIfInBounds_toArray, List.set_cons_succ, List.set_cons_zero]
        go_upto_region 3 with fail
        refine wp_region_lin (.op 0 (.op 1 (.op 2 (.op 3 (.op 4 .done))))) (by rfl) ?_
        refine wpT_valp 17 (v := u8) rfl rfl rfl (by go_simp) ?_
        refine wpT_valp 18 (v := .slice (some ⟨ba, oa, none⟩) n cb) rfl rfl rfl (by go_simp) ?_
        refine wpT_valp 19 (v := .slice (some ⟨ba, oa + 32, none⟩) (n - 32) (cb - 32)) rfl rfl rfl (by go_simp) ?_
        have hz9 := (T0.out _ _ M8).size
        refine wpT_callx 20 M8 (X := fun v w' => OB w' w.heap.size v (L2 ++ r)) rfl rfl rfl (by go_simp) ((rjoin_any w8 _ _ (L2) (r) O8 (SV.below HVR.out (T0.out _ _ M8).end_) (by rw [hL2, hr]; omega)).mono (fun e w' ⟨v, h1, h2, h3⟩ => ⟨v, h1, h2.mono hz9, h3⟩)) (fun u9 w9 O9 M9 _ => ?_)
        try simp only [Act.put, List.setIfInBounds_toArray, List.set_cons_succ, List.set_cons_zero]
        refine wpT_valp 4 (v := u9) rfl rfl rfl (by go_simp) ?_
        dsimp only [wpT]
        try simp only [Act.put, List.setIfInBounds_toArray, List.set_cons_succ, List.set_cons_zero]
        go_wp2_with fail
        go_ret
        exact ⟨_, rfl, O9, (T0.out _ _ M9).end_⟩
    · refine wpT_new (z := .agg (cs U8 (zs 32))) 5 M3 (by kernel_rfl) (by decide) rfl rfl rfl rfl (fun b5 w6 M7 => ?_)
      try dsimp only [Value.cells] at M7
      refine wpT_callN 8 M7 (l := k) (fun v => v) rfl rfl rfl (by go_simp) (rbytes_v w6 k hk) (fun v21 w21 S21 M21 T21 K21 => ?_)
      replace T0 := backT T0 T21
      refine wpT_callv 11 M21 (v := .agg (cs U8 D)) rfl rfl rfl (by go_simp) (rmacD HD.out (K21.out _ _ M21).1 (SV.below HVR.out (T0.out _ _ M21).end_) (by omega) (by omega)) (fun w22 M22 => ?_)
      refine wpT_st0 M22 0 (cs U8 D) inf_key rfl rfl rfl rfl (by go_simp) (by go_simp) (by simp [hk, hD]) (by simp [hk, hD]) (by simp [go_sem]) rfl (fun w8 M9 => ?_)
      dsimp only [List.set] at M9
      dsimp only [wpT]
      try simp only [Act.put, List.setIfInBounds_toArray, List.set_cons_succ, List.set_cons_zero]
      go_upto_region 2 with fail
      refine wp_region_P [2, 3] (.op 0 (.op 1 (.op 4 (.op 5 .done)))) (by kernel_rfl) (by kernel_rfl) (by kernel_rfl) (fun d _ _ _ _ h => by cases d <;> exact h) ?_
      refine wpYJd_op 14 (.slice (some ⟨ba, oa, none⟩) n cb) rfl rfl rfl (fun w1 _ => by go_simp) ?_
      refine wpYJd_op 15 (.slice (some ⟨ba, oa, none⟩) 32 cb) rfl rfl rfl (fun w1 _ => by go_simp) ?_
      show wpT _ _ _ _ _ _
      try simp only [Act.put, List.setIfInBounds_toArray, List.set_cons_succ, List.set_cons_zero]
      have M10 := M9.drewN 1
      change wpT _ _ _ _ _ (w8.drewN 1)
      obtain ⟨w11, hw11⟩ : ∃ w11, w11 = w8.drewN 1 := ⟨_, rfl⟩
      rw [← hw11] at M10 ⊢
      clear hw11
      refine wpT_ld0 12 Tryd.underlying23 rfl inf_key (b5) (cs U8 D) rfl rfl rfl (by go_simp) (M10.row (by simp)) (by simp [hk, hD]) rfl ?_
      refine wpT_callN 13 M10 (l := D) (fun v => v) rfl rfl rfl (by go_simp) (rbytes_v w11 D hD) (fun v24 w24 S24 M24 T24 K24 => ?_)
      replace T0 := backT T0 T24
      replace K21 := backT K21 T24
      refine wpT_callx 16 M24 (X := fun v w' => BS w' v L2) rfl rfl rfl (by go_simp) ((rmixed w24 D L _ _ 32 hD hL (K24.out _ _ M24).1 (SV.below HVL.out (T0.out _ _ M24).end_) (by omega)).mono (fun e w' ⟨v, h1, h2, h3⟩ => ⟨v, h1, by rw [HL2.out]; exact h2.bs, h3⟩)) (fun u8 w8 O8 M8 _ => ?_)
      refine wpT_valp 6 (v := u8) rfl rfl rfl (by go_simp) ?_
      dsimp only [wpT]
      try simp only [Act.put, List.setIfInBounds_toArray, List.set_cons_succ, List.set_cons_zero]
      go_upto_region 3 with fail
      refine wp_region_lin (.op 0 (.op 1 (.op 2 (.op 3 (.op 4 .done))))) (by rfl) ?_
      refine wpT_valp 17 (v := u8) rfl rfl rfl (by go_simp) ?_
      refine wpT_valp 18 (v := .slice (some ⟨ba, oa, none⟩) n cb) rfl rfl rfl (by go_simp) ?_
      refine wpT_valp 19 (v := .slice (some ⟨ba, oa + 32, none⟩) (n - 32) (cb - 32)) rfl rfl rfl (by go_simp) ?_
      have hz9 := (T0.out _ _ M8).size
      refine wpT_callx 20 M8 (X := fun v w' => OB w' w.heap.size v (L2 ++ r)) rfl rfl rfl (by go_simp) ((rjoin_any w8 _ _ (L2) (r) O8 (SV.below HVR.out (T0.out _ _ M8).end_) (by rw [hL2, hr]; omega)).mono (fun e w' ⟨v, h1, h2, h3⟩ => ⟨v, h1, h2.mono hz9, h3⟩)) (fun u9 w9 O9 M9 _ => ?_)
      try simp only [Act.put, List.setIfInBounds_toArray, List.set_cons_succ, List.set_cons_zero]
      refine wpT_valp 4 (v := u9) rfl rfl rfl (by go_simp) ?_
      dsimp only [wpT]
      try simp only [Act.put, List.setIfInBounds_toArray, List.set_cons_succ, List.set_cons_zero]
      go_wp2_with fail
      go_ret
      exact ⟨_, rfl, O9, (T0.out _ _ M9).end_⟩
  · refine wpT_new (z := .agg (cs U8 (zs 32))) 5 M3 (by kernel_rfl) (by decide) rfl rfl rfl rfl (fun b5 w6 M7 => ?_)
    try dsimp only [Value.cells] at M7
    refine wpT_ld0 7 Tryd.underlying23 rfl inf_key (w.heap.size) (cs U8 k) rfl rfl rfl (by go_simp) (M7.row (by simp)) (by simp [hk, hD]) rfl ?_
    refine wpT_callN 8 M7 (l := k) (fun v => v) rfl rfl rfl (by go_simp) (rbytes_v w6 k hk) (fun v21 w21 S21 M21 T21 K21 => ?_)
    replace T0 := backT T0 T21
    refine wpT_callv 11 M21 (v := .agg (cs U8 D)) rfl rfl rfl (by go_simp) (rmacD HD.out (K21.out _ _ M21).1 (SV.below HVR.out (T0.out _ _ M21).end_) (by omega) (by omega)) (fun w22 M22 => ?_)
    try simp only [Act.put, List.setIfInBounds_toArray, List.set_cons_succ, List.set_cons_zero]
    refine wpT_st0 M22 0 (cs U8 D) inf_key rfl rfl rfl rfl (by go_simp) (by go_simp) (by simp [hk, hD]) (by simp [hk, hD]) (by simp [go_sem]) rfl (fun w8 M9 => ?_)
    dsimp only [List.set] at M9
    dsimp only [wpT]
    try simp only [Act.put, List.setIfInBounds_toArray, List.set_cons_succ, List.set_cons_zero]
    go_upto_region 2 with fail
    refine wp_region_P [2, 3] (.op 0 (.op 1 (.op 4 (.op 5 .done)))) (by kernel_rfl) (by kernel_rfl) (by kernel_rfl) (fun d _ _ _ _ h => by cases d <;> exact h) ?_
    refine wpYJd_op 14 (.slice (some ⟨ba, oa, none⟩) n cb) rfl rfl rfl (fun w1 _ => by go_simp) ?_
    refine wpYJd_op 15 (.slice (some ⟨ba, oa, none⟩) 32 cb) rfl rfl rfl (fun w1 _ => by go_simp) ?_
    show wpT _ _ _ _ _ _
    try simp only [Act.put, List.setIfInBounds_toArray, List.set_cons_succ, List.set_cons_zero]
    have M10 := M9.drewN 1
    change wpT _ _ _ _ _ (w8.drewN 1)
    obtain ⟨w11, hw11⟩ : ∃ w11, w11 = w8.drewN 1 := ⟨_, rfl⟩
    rw [← hw11] at M10 ⊢
    clear hw11
    refine wpT_ld0 12 Tryd.underlying23 rfl inf_key (b5) (cs U8 D) rfl rfl rfl (by go_simp) (M10.row (by simp)) (by simp [hk, hD]) rfl ?_
    refine wpT_callN 13 M10 (l := D) (fun v => v) rfl rfl rfl (by go_simp) (rbytes_v w11 D hD) (fun v24 w24 S24 M24 T24 K24 => ?_)
    replace T0 := backT T0 T24
    replace K21 := backT K21 T24
    refine wpT_callx 16 M24 (X := fun v w' => BS w' v L2) rfl rfl rfl (by go_simp) ((rmixed w24 D L _ _ 32 hD hL (K24.out _ _ M24).1 (SV.below HVL.out (T0.out _ _ M24).end_) (by omega)).mono (fun e w' ⟨v, h1, h2, h3⟩ => ⟨v, h1, by rw [HL2.out]; exact h2.bs, h3⟩)) (fun u8 w8 O8 M8 _ => ?_)
    refine wpT_valp 6 (v := u8) rfl rfl rfl (by go_simp) ?_
    dsimp only [wpT]
    try simp only [Act.put, List.setIfInBounds_toArray, List.set_cons_succ, List.set_cons_zero]
    go_upto_region 3 with fail
    refine wp_region_lin (.op 0 (.op 1 (.op 2 (.op 3 (.op 4 .done))))) (by rfl) ?_
    refine wpT_valp 17 (v := u8) rfl rfl rfl (by go_simp) ?_
    refine wpT_valp 18 (v := .slice (some ⟨ba, oa, none⟩) n cb) rfl rfl rfl (by go_simp) ?_
    refine wpT_valp 19 (v := .slice (some ⟨ba, oa + 32, none⟩) (n - 32) (cb - 32)) rfl rfl rfl (by go_simp) ?_
    have hz9 := (T0.out _ _ M8).size
    refine wpT_callx 20 M8 (X := fun v w' => OB w' w.heap.size v (L2 ++ r)) rfl rfl rfl (by go_simp) ((rjoin_any w8 _ _ (L2) (r) O8 (SV.below HVR.out (T0.out _ _ M8).end_) (by rw [hL2, hr]; omega)).mono (fun e w' ⟨v, h1, h2, h3⟩ => ⟨v, h1, h2.mono hz9, h3⟩)) (fun u9 w9 O9 M9 _ => ?_)
    try simp only [Act.put, List.setIfInBounds_toArray, List.set_cons_succ, List.set_cons_zero]
    refine wpT_valp 4 (v := u9) rfl rfl rfl (by go_simp) ?_
    dsimp only [wpT]
    try simp only [Act.put, List.setIfInBounds_toArray, List.set_cons_succ, List.set_cons_zero]
    go_wp2_with fail
    go_ret
    exact ⟨_, rfl, O9, (T0.out _ _ M9).end_⟩
/-- a round, on a whole block -/
def RS (k b : Bs8) (i : Nat) : Bs8 := Li.join ((if i % 2 = 1 then Li.st else Li.tg) (Li.key k i) (Li.cut b))
set_option maxHeartbeats 1000000 in
theorem rround1 (w : World) (k b X : Bs8) (vb : Value) (hk : k.length = 32) (hvb : BS w vb b) (h33 : 33 ≤ b.length) (h40 : b.length ≤ 4096) (hX : X = RS k b 1) :
    Calls Tryd.prog 32 #[.agg (cs U8 k), .int .i64 1, vb] w fun e w' => ∃ v, e = .returned v ∧ BN w' w.heap.size v X ∧ Below w.heap.size w w' := by
  obtain ⟨A, eA⟩ : ∃ A, A = Li.key k 1 := ⟨_, rfl⟩
  have hA : A.length = 32 := by rw [eA]; unfold Li.key; exact derive_len ..
  have HX : Hid (X = Li.join (Li.st A (Li.cut b))) := hid (by rw [hX, eA]; rfl)
  have HA := hid eA
  have HVB := hid hvb
  clear eA hX hvb
  have M0 := Mm.start no w
  go_enter Tryd.func32, Tryd.ntmps32
  have M2 := (M0.alloc (cs U8 k) 23 (by decide))
  try simp only [World.size_alloc] at M2
  go_upto_region 1 with fail
  obtain ⟨w1, hw1⟩ : ∃ w1, w1 = (w.alloc (.cells (cs U8 k) 23)) := ⟨_, rfl⟩
  rw [← hw1] at M2 ⊢
  clear hw1
  refine wp_region_lin (.op 0 (.op 1 (.op 2 (.op 3 (.op 4 .done))))) (by rfl) ?_
  refine wpT_ld0 8 Tryd.underlying23 rfl inf_key (w.heap.size) (cs U8 k) rfl rfl rfl (by go_simp) (M2.row (by simp)) (by simp [hk, hA]) rfl ?_
  refine wpT_valp 9 (v := .int .i64 1) rfl rfl rfl (by go_simp) ?_
  refine wpT_callv 10 M2 (v := .agg (cs U8 A)) rfl rfl rfl (by go_simp) (rkey1 w1 k A hk hA HA.out) (fun w3 M4 => ?_)
  refine wpT_new (z := .agg (cs U8 (zs 32))) 7 M4 (by kernel_rfl) (by decide) rfl rfl rfl rfl (fun b5 w6 M7 => ?_)
  try dsimp only [Value.cells] at M7
  try simp only [Act.put, List.setIfInBounds_toArray, List.set_cons_succ, List.set_cons_zero]
  refine wpT_st0 M7 0 (cs U8 A) inf_key rfl rfl rfl rfl (by go_simp) (by go_simp) (by simp [hk, hA]) (by simp [hk, hA]) (by simp [go_sem]) rfl (fun w8 M9 => ?_)
  dsimp only [List.set] at M9
  dsimp only [wpT]
  try simp only [Act.put, List.setIfInBounds_toArray, List.set_cons_succ, List.set_cons_zero]
  go_upto_region 2 with fail
  refine wp_region_lin (.op 0 (.op 1 (.op 2 .done))) (by rfl) ?_
  refine wpT_valp 11 (v := .int .i64 1) rfl rfl rfl (by go_simp) ?_
  refine wpT_valp 12 (v := .int .i64 1) rfl rfl rfl (by go_simp) ?_
  refine wpT_valp 13 (v := .bool true) rfl rfl rfl (by go_simp) ?_
  dsimp only [wpT]
  try simp only [Act.put, List.setIfInBounds_toArray, List.set_cons_succ, List.set_cons_zero]
  go_upto_region 3 with fail
  refine wp_region_lin (.op 0 (.op 1 (.op 2 (.op 3 .done)))) (by rfl) ?_
  refine wpT_ld0 14 Tryd.underlying23 rfl inf_key (b5) (cs U8 A) rfl rfl rfl (by go_simp) (M9.row (by simp)) (by simp [hk, hA]) rfl ?_
  refine wpT_valp 15 (v := vb) rfl rfl rfl (by go_simp) ?_
  have hz9 := M9.size
  refine wpT_callx 16 M9 (X := fun v w' => BN w' w.heap.size v X) rfl rfl rfl (by go_simp) ((rstream8 w8 A b vb hA (SV.below HVB.out M9.end_) h33 h40).mono (fun e w' ⟨v, h1, h2, h3⟩ => ⟨v, h1, by rw [HX.out]; exact (h2.mono hz9).bn, h3⟩)) (fun u9 w9 O9 M9 _ => ?_)
  refine wpT_valp 6 (v := u9) rfl rfl rfl (by go_simp) ?_
  dsimp only [wpT]
  try simp only [Act.put, List.setIfInBounds_toArray, List.set_cons_succ, List.set_cons_zero]
  go_wp2_with fail
  go_ret
  exact ⟨_, rfl, O9, M9.end_⟩
set_option maxHeartbeats 1000000 in
theorem rround2 (w : World) (k b X : Bs8) (vb : Value) (hk : k.length = 32) (hvb : BS w vb b) (h33 : 33 ≤ b.length) (h40 : b.length ≤ 4096) (hX : X = RS k b 2) :
    Calls Tryd.prog 32 #[.agg (cs U8 k), .int .i64 2, vb] w fun e w' => ∃ v, e = .returned v ∧ BN w' w.heap.size v X ∧ Below w.heap.size w w' := by
  obtain ⟨A, eA⟩ : ∃ A, A = Li.key k 2 := ⟨_, rfl⟩
  have hA : A.length = 32 := by rw [eA]; unfold Li.key; exact derive_len ..
  have HX : Hid (X = Li.join (Li.tg A (Li.cut b))) := hid (by rw [hX, eA]; rfl)
  have HA := hid eA
  have HVB := hid hvb
  clear eA hX hvb
  have M0 := Mm.start no w
  go_enter Tryd.func32, Tryd.ntmps32
  have M2 := (M0.alloc (cs U8 k) 23 (by decide))
  try simp only [World.size_alloc] at M2
  go_upto_region 1 with fail
  obtain ⟨w1, hw1⟩ : ∃ w1, w1 = (w.alloc (.cells (cs U8 k) 23)) := ⟨_, rfl⟩
  rw [← hw1] at M2 ⊢
  clear hw1
  refine wp_region_lin (.op 0 (.op 1 (.op 2 (.op 3 (.op 4 .done))))) (by rfl) ?_
  refine wpT_ld0 8 Tryd.underlying23 rfl inf_key (w.heap.size) (cs U8 k) rfl rfl rfl (by go_simp) (M2.row (by simp)) (by simp [hk, hA]) rfl ?_
  refine wpT_valp 9 (v := .int .i64 2) rfl rfl rfl (by go_simp) ?_
  refine wpT_callv 10 M2 (v := .agg (cs U8 A)) rfl rfl rfl (by go_simp) (rkey2 w1 k A hk hA HA.out) (fun w3 M4 => ?_)
  refine wpT_new (z := .agg (cs U8 (zs 32))) 7 M4 (by kernel_rfl) (by decide) rfl rfl rfl rfl (fun b5 w6 M7 => ?_)
  try dsimp only [Value.cells] at M7
  try simp only [Act.put, List.setIfInBounds_toArray, List.set_cons_succ, List.set_cons_zero]
  refine wpT_st0 M7 0 (cs U8 A) inf_key rfl rfl rfl rfl (by go_simp) (by go_simp) (by simp [hk, hA]) (by simp [hk, hA]) (by simp [go_sem]) rfl (fun w8 M9 => ?_)
  dsimp only [List.set] at M9
  dsimp only [wpT]
  try simp only [Act.put, List.setIfInBounds_toArray, List.set_cons_succ, List.set_cons_zero]
  go_upto_region 2 with fail
  refine wp_region_lin (.op 0 (.op 1 (.op 2 .done))) (by rfl) ?_
  refine wpT_valp 11 (v := .int .i64 2) rfl rfl rfl (by go_simp) ?_
  refine wpT_valp 12 (v := .int .i64 0) rfl rfl rfl (by go_simp) ?_
  refine wpT_valp 13 (v := .bool false) rfl rfl rfl (by go_simp) ?_
  dsimp only [wpT]
  try simp only [Act.put, List.setIfInBounds_toArray, List.set_cons_succ, List.set_cons_zero]
  go_upto_region 4 with fail
  refine wp_region_lin (.op 0 (.op 1 (.op 2 (.op 3 .done)))) (by rfl) ?_
  refine wpT_ld0 17 Tryd.underlying23 rfl inf_key (b5) (cs U8 A) rfl rfl rfl (by go_simp) (M9.row (by simp)) (by simp [hk, hA]) rfl ?_
  refine wpT_valp 18 (v := vb) rfl rfl rfl (by go_simp) ?_
  have hz9 := M9.size
  refine wpT_callx 19 M9 (X := fun v w' => BN w' w.heap.size v X) rfl rfl rfl (by go_simp) ((rtag8 w8 A b vb hA (SV.below HVB.out M9.end_) h33 h40).mono (fun e w' ⟨v, h1, h2, h3⟩ => ⟨v, h1, by rw [HX.out]; exact (h2.mono hz9).bn, h3⟩)) (fun u9 w9 O9 M9 _ => ?_)
  refine wpT_valp 6 (v := u9) rfl rfl rfl (by go_simp) ?_
  dsimp only [wpT]
  try simp only [Act.put, List.setIfInBounds_toArray, List.set_cons_succ, List.set_cons_zero]
  go_wp2_with fail
  go_ret
  exact ⟨_, rfl, O9, M9.end_⟩
set_option maxHeartbeats 1000000 in
theorem rround3 (w : World) (k b X : Bs8) (vb : Value) (hk : k.length = 32) (hvb : BS w vb b) (h33 : 33 ≤ b.length) (h40 : b.length ≤ 4096) (hX : X = RS k b 3) :
    Calls Tryd.prog 32 #[.agg (cs U8 k), .int .i64 3, vb] w fun e w' => ∃ v, e = .returned v ∧ BN w' w.heap.size v X ∧ Below w.heap.size w w' := by
  obtain ⟨A, eA⟩ : ∃ A, A = Li.key k 3 := ⟨_, rfl⟩
  have hA : A.length = 32 := by rw [eA]; unfold Li.key; exact derive_len ..
  have HX : Hid (X = Li.join (Li.st A (Li.cut b))) := hid (by rw [hX, eA]; rfl)
  have HA := hid eA
  have HVB := hid hvb
  clear eA hX hvb
  have M0 := Mm.start no w
  go_enter Tryd.func32, Tryd.ntmps32
  have M2 := (M0.alloc (cs U8 k) 23 (by decide))
  try simp only [World.size_alloc] at M2
  go_upto_region 1 with fail
  obtain ⟨w1, hw1⟩ : ∃ w1, w1 = (w.alloc (.cells (cs U8 k) 23)) := ⟨_, rfl⟩
  rw [← hw1] at M2 ⊢
  clear hw1
  refine wp_region_lin (.op 0 (.op 1 (.op 2 (.op 3 (.op 4 .done))))) (by rfl) ?_
  refine wpT_ld0 8 Tryd.underlying23 rfl inf_key (w.heap.size) (cs U8 k) rfl rfl rfl (by go_simp) (M2.row (by simp)) (by simp [hk, hA]) rfl ?_
  refine wpT_valp 9 (v := .int .i64 3) rfl rfl rfl (by go_simp) ?_
  refine wpT_callv 10 M2 (v := .agg (cs U8 A)) rfl rfl rfl (by go_simp) (rkey3 w1 k A hk hA HA.out) (fun w3 M4 => ?_)
  refine wpT_new (z := .agg (cs U8 (zs 32))) 7 M4 (by kernel_rfl) (by decide) rfl rfl rfl rfl (fun b5 w6 M7 => ?_)
  try dsimp only [Value.cells] at M7
  try simp only [Act.put, List.setIfInBounds_toArray, List.set_cons_succ, List.set_cons_zero]
  refine wpT_st0 M7 0 (cs U8 A) inf_key rfl rfl rfl rfl (by go_simp) (by go_simp) (by simp [hk, hA]) (by simp [hk, hA]) (by simp [go_sem]) rfl (fun w8 M9 => ?_)
  dsimp only [List.set] at M9
  dsimp only [wpT]
  try simp only [Act.put, List.setIfInBounds_toArray, List.set_cons_succ, List.set_cons_zero]
  go_upto_region 2 with fail
  refine wp_region_lin (.op 0 (.op 1 (.op 2 .done))) (by rfl) ?_
  refine wpT_valp 11 (v := .int .i64 3) rfl rfl rfl (by go_simp) ?_
  refine wpT_valp 12 (v := .int .i64 1) rfl rfl rfl (by go_simp) ?_
  refine wpT_valp 13 (v := .bool true) rfl rfl rfl (by go_simp) ?_
  dsimp only [wpT]
  try simp only [Act.put, List.setIfInBounds_toArray, List.set_cons_succ, List.set_cons_zero]
  go_upto_region 3 with fail
  refine wp_region_lin (.op 0 (.op 1 (.op 2 (.op 3 .done)))) (by rfl) ?_
  refine wpT_ld0 14 Tryd.underlying23 rfl inf_key (b5) (cs U8 A) rfl rfl rfl (by go_simp) (M9.row (by simp)) (by simp [hk, hA]) rfl ?_
  refine wpT_valp 15 (v := vb) rfl rfl rfl (by go_simp) ?_
  have hz9 := M9.size
  refine wpT_callx 16 M9 (X := fun v w' => BN w' w.heap.size v X) rfl rfl rfl (by go_simp) ((rstream8 w8 A b vb hA (SV.below HVB.out M9.end_) h33 h40).mono (fun e w' ⟨v, h1, h2, h3⟩ => ⟨v, h1, by rw [HX.out]; exact (h2.mono hz9).bn, h3⟩)) (fun u9 w9 O9 M9 _ => ?_)
  refine wpT_valp 6 (v := u9) rfl rfl rfl (by go_simp) ?_
  dsimp only [wpT]
  try simp only [Act.put, List.setIfInBounds_toArray, List.set_cons_succ, List.set_cons_zero]
  go_wp2_with fail
  go_ret
  exact ⟨_, rfl, O9, M9.end_⟩
set_option maxHeartbeats 1000000 in
theorem rround4 (w : World) (k b X : Bs8) (vb : Value) (hk : k.length = 32) (hvb : BS w vb b) (h33 : 33 ≤ b.length) (h40 : b.length ≤ 4096) (hX : X = RS k b 4) :
    Calls Tryd.prog 32 #[.agg (cs U8 k), .int .i64 4, vb] w fun e w' => ∃ v, e = .returned v ∧ BN w' w.heap.size v X ∧ Below w.heap.size w w' := by
  obtain ⟨A, eA⟩ : ∃ A, A = Li.key k 4 := ⟨_, rfl⟩
  have hA : A.length = 32 := by rw [eA]; unfold Li.key; exact derive_len ..
  have HX : Hid (X = Li.join (Li.tg A (Li.cut b))) := hid (by rw [hX, eA]; rfl)
  have HA := hid eA
  have HVB := hid hvb
  clear eA hX hvb
  have M0 := Mm.start no w
  go_enter Tryd.func32, Tryd.ntmps32
  have M2 := (M0.alloc (cs U8 k) 23 (by decide))
  try simp only [World.size_alloc] at M2
  go_upto_region 1 with fail
  obtain ⟨w1, hw1⟩ : ∃ w1, w1 = (w.alloc (.cells (cs U8 k) 23)) := ⟨_, rfl⟩
  rw [← hw1] at M2 ⊢
  clear hw1
  refine wp_region_lin (.op 0 (.op 1 (.op 2 (.op 3 (.op 4 .done))))) (by rfl) ?_
  refine wpT_ld0 8 Tryd.underlying23 rfl inf_key (w.heap.size) (cs U8 k) rfl rfl rfl (by go_simp) (M2.row (by simp)) (by simp [hk, hA]) rfl ?_
  refine wpT_valp 9 (v := .int .i64 4) rfl rfl rfl (by go_simp) ?_
  refine wpT_callv 10 M2 (v := .agg (cs U8 A)) rfl rfl rfl (by go_simp) (rkey4 w1 k A hk hA HA.out) (fun w3 M4 => ?_)
  refine wpT_new (z := .agg (cs U8 (zs 32))) 7 M4 (by kernel_rfl) (by decide) rfl rfl rfl rfl (fun b5 w6 M7 => ?_)
  try dsimp only [Value.cells] at M7
  try simp only [Act.put, List.setIfInBounds_toArray, List.set_cons_succ, List.set_cons_zero]
  refine wpT_st0 M7 0 (cs U8 A) inf_key rfl rfl rfl rfl (by go_simp) (by go_simp) (by simp [hk, hA]) (by simp [hk, hA]) (by simp [go_sem]) rfl (fun w8 M9 => ?_)
  dsimp only [List.set] at M9
  dsimp only [wpT]
  try simp only [Act.put, List.setIfInBounds_toArray, List.set_cons_succ, List.set_cons_zero]
  go_upto_region 2 with fail
  refine wp_region_lin (.op 0 (.op 1 (.op 2 .done))) (by rfl) ?_
  refine wpT_valp 11 (v := .int .i64 4) rfl rfl rfl (by go_simp) ?_
  refine wpT_valp 12 (v := .int .i64 0) rfl rfl rfl (by go_simp) ?_
  refine wpT_valp 13 (v := .bool false) rfl rfl rfl (by go_simp) ?_
  dsimp only [wpT]
  try simp only [Act.put, List.setIfInBounds_toArray, List.set_cons_succ, List.set_cons_zero]
  go_upto_region 4 with fail
  refine wp_region_lin (.op 0 (.op 1 (.op 2 (.op 3 .done)))) (by rfl) ?_
  refine wpT_ld0 17 Tryd.underlying23 rfl inf_key (b5) (cs U8 A) rfl rfl rfl (by go_simp) (M9.row (by simp)) (by simp [hk, hA]) rfl ?_
  refine wpT_valp 18 (v := vb) rfl rfl rfl (by go_simp) ?_
  have hz9 := M9.size
  refine wpT_callx 19 M9 (X := fun v w' => BN w' w.heap.size v X) rfl rfl rfl (by go_simp) ((rtag8 w8 A b vb hA (SV.below HVB.out M9.end_) h33 h40).mono (fun e w' ⟨v, h1, h2, h3⟩ => ⟨v, h1, by rw [HX.out]; exact (h2.mono hz9).bn, h3⟩)) (fun u9 w9 O9 M9 _ => ?_)
  refine wpT_valp 6 (v := u9) rfl rfl rfl (by go_simp) ?_
  dsimp only [wpT]
  try simp only [Act.put, List.setIfInBounds_toArray, List.set_cons_succ, List.set_cons_zero]
  go_wp2_with fail
  go_ret
  exact ⟨_, rfl, O9, M9.end_⟩
theorem rmay_e (w : World) (b : Bs8) (vb : Value) (er : Int) (hvb : BS w vb b) (he : szErr b.length er) :
    Calls Tryd.prog 31 #[vb] w fun e w' => e = .returned (.int .i64 er) ∧ Below w.heap.size w w' := by
  obtain ⟨n, hn⟩ : ∃ n, n = b.length := ⟨_, rfl⟩
  obtain ⟨AB, cb, rfl, -⟩ := hvb.shape' n hn.symm
  rw [← hn] at he
  clear hvb hn
  rcases he with ⟨h, rfl⟩ | ⟨h, rfl⟩
  · have h1 : (n : Int) < 33 := by omega
    have M0 := Mm.start no w
    go_enter Tryd.func31, Tryd.ntmps31
    go_upto_region 1 with fail
    refine wp_region_lin (.op 0 (.op 1 (.op 2 (.op 3 .done)))) (by rfl) ?_
    refine wpT_valp 4 (v := .slice AB n cb) rfl rfl rfl (by go_simp) ?_
    refine wpT_valp 5 (v := .int .i64 n) rfl rfl rfl (by go_simp) ?_
    refine wpT_valp 6 (v := .bool true) rfl rfl rfl (by go_simp) ?_
    refine wpT_valp 3 (v := .bool true) rfl rfl rfl (by go_simp) ?_
    dsimp only [wpT]
    try simp only [Act.put, List.setIfInBounds_toArray, List.set_cons_succ, List.set_cons_zero]
    go_upto_region 2 with fail
    refine wp_region_lin (.op 0 .done) (by rfl) ?_
    refine wpT_valp 2 (v := .int .i64 4) rfl rfl rfl (by go_simp) ?_
    dsimp only [wpT]
    try simp only [Act.put, List.setIfInBounds_toArray, List.set_cons_succ, List.set_cons_zero]
    go_wp2_with fail
    go_ret
    exact ⟨rfl, M0.end_⟩
  · have h1 : ¬ (n : Int) < 33 := by omega
    have h2 : (4096 : Int) < (n : Int) := by omega
    have M0 := Mm.start no w
    go_enter Tryd.func31, Tryd.ntmps31
    go_upto_region 1 with fail
    refine wp_region_lin (.op 0 (.op 1 (.op 2 (.op 3 .done)))) (by rfl) ?_
    refine wpT_valp 4 (v := .slice AB n cb) rfl rfl rfl (by go_simp) ?_
    refine wpT_valp 5 (v := .int .i64 n) rfl rfl rfl (by go_simp) ?_
    refine wpT_valp 6 (v := .bool false) rfl rfl rfl (by go_simp) ?_
    refine wpT_valp 3 (v := .bool false) rfl rfl rfl (by go_simp) ?_
    dsimp only [wpT]
    try simp only [Act.put, List.setIfInBounds_toArray, List.set_cons_succ, List.set_cons_zero]
    go_upto_region 3 with fail
    refine wp_region_lin (.op 0 (.op 1 (.op 2 (.op 3 .done)))) (by rfl) ?_
    refine wpT_valp 8 (v := .slice AB n cb) rfl rfl rfl (by go_simp) ?_
    refine wpT_valp 9 (v := .int .i64 n) rfl rfl rfl (by go_simp) ?_
    refine wpT_valp 10 (v := .bool true) rfl rfl rfl (by go_simp) ?_
    refine wpT_valp 7 (v := .bool true) rfl rfl rfl (by go_simp) ?_
    dsimp only [wpT]
    try simp only [Act.put, List.setIfInBounds_toArray, List.set_cons_succ, List.set_cons_zero]
    go_upto_region 4 with fail
    refine wp_region_lin (.op 0 .done) (by rfl) ?_
    refine wpT_valp 2 (v := .int .i64 3) rfl rfl rfl (by go_simp) ?_
    dsimp only [wpT]
    try simp only [Act.put, List.setIfInBounds_toArray, List.set_cons_succ, List.set_cons_zero]
    go_wp2_with fail
    go_ret
    exact ⟨rfl, M0.end_⟩
theorem rmay_ok (w : World) (b : Bs8) (vb : Value) (hvb : BS w vb b) (h33 : 33 ≤ b.length) (h40 : b.length ≤ 4096) :
    Calls Tryd.prog 31 #[vb] w fun e w' => e = .returned (.int .i64 0) ∧ Below w.heap.size w w' := by
  obtain ⟨n, hn⟩ : ∃ n, n = b.length := ⟨_, rfl⟩
  obtain ⟨AB, cb, rfl, -⟩ := hvb.shape' n hn.symm
  rw [← hn] at h33 h40
  clear hvb hn
  have h1 : ¬ (n : Int) < 33 := by omega
  have h2 : ¬ (4096 : Int) < (n : Int) := by omega
  have M0 := Mm.start no w
  go_enter Tryd.func31, Tryd.ntmps31
  go_upto_region 1 with fail
  refine wp_region_lin (.op 0 (.op 1 (.op 2 (.op 3 .done)))) (by rfl) ?_
  refine wpT_valp 4 (v := .slice AB n cb) rfl rfl rfl (by go_simp) ?_
  refine wpT_valp 5 (v := .int .i64 n) rfl rfl rfl (by go_simp) ?_
  refine wpT_valp 6 (v := .bool false) rfl rfl rfl (by go_simp) ?_
  refine wpT_valp 3 (v := .bool false) rfl rfl rfl (by go_simp) ?_
  dsimp only [wpT]
  try simp only [Act.put, List.setIfInBounds_toArray, List.set_cons_succ, List.set_cons_zero]
  go_upto_region 3 with fail
  refine wp_region_lin (.op 0 (.op 1 (.op 2 (.op 3 .done)))) (by rfl) ?_
  refine wpT_valp 8 (v := .slice AB n cb) rfl rfl rfl (by go_simp) ?_
  refine wpT_valp 9 (v := .int .i64 n) rfl rfl rfl (by go_simp) ?_
  refine wpT_valp 10 (v := .bool false) rfl rfl rfl (by go_simp) ?_
  refine wpT_valp 7 (v := .bool false) rfl rfl rfl (by go_simp) ?_
  dsimp only [wpT]
  try simp only [Act.put, List.setIfInBounds_toArray, List.set_cons_succ, List.set_cons_zero]
  go_upto_region 5 with fail
  refine wp_region_lin (.op 0 .done) (by rfl) ?_
  refine wpT_valp 2 (v := .int .i64 0) rfl rfl rfl (by go_simp) ?_
  dsimp only [wpT]
  try simp only [Act.put, List.setIfInBounds_toArray, List.set_cons_succ, List.set_cons_zero]
  go_wp2_with fail
  go_ret
  exact ⟨rfl, M0.end_⟩
theorem RS_len (k b : Bs8) (i : Nat) (h : 32 ≤ b.length) : (RS k b i).length = b.length := by
  obtain ⟨h1, h2⟩ := cut_len b h
  unfold RS
  split
  · have h3 := st_len (Li.key k i) (Li.cut b)
    unfold Li.join; rw [List.length_append, h3.1, h3.2, h1, h2]; omega
  · have h3 := tg_len (Li.key k i) (Li.cut b) h1
    unfold Li.join; rw [List.length_append, h3.1, h3.2, h1, h2]; omega
theorem cut_RS (k b : Bs8) (i : Nat) (h : 32 ≤ b.length) : Li.cut (RS k b i) = (if i % 2 = 1 then Li.st else Li.tg) (Li.key k i) (Li.cut b) := by
  obtain ⟨h1, h2⟩ := cut_len b h
  unfold RS
  rw [cut_join]
  split
  · rw [(st_len ..).1, h1]
  · rw [(tg_len _ _ h1).1, h1]
theorem RS_lock (k b : Bs8) (h : 32 ≤ b.length) : RS k (RS k (RS k (RS k b 1) 2) 3) 4 = Li.lock k b := by
  have l1 := RS_len k b 1 h
  have l2 := RS_len k (RS k b 1) 2 (by omega)
  have l3 := RS_len k (RS k (RS k b 1) 2) 3 (by omega)
  have e : RS k (RS k (RS k (RS k b 1) 2) 3) 4 = Li.join (Li.tg (Li.key k 4) (Li.cut (RS k (RS k (RS k b 1) 2) 3))) := rfl
  rw [e, cut_RS _ _ _ (by omega), cut_RS _ _ _ (by omega), cut_RS _ _ _ h]
  unfold Li.lock; rfl
theorem RS_unlock (k b : Bs8) (h : 32 ≤ b.length) : RS k (RS k (RS k (RS k b 4) 3) 2) 1 = Li.unlock k b := by
  have l1 := RS_len k b 4 h
  have l2 := RS_len k (RS k b 4) 3 (by omega)
  have l3 := RS_len k (RS k (RS k b 4) 3) 2 (by omega)
  have e : RS k (RS k (RS k (RS k b 4) 3) 2) 1 = Li.join (Li.st (Li.key k 1) (Li.cut (RS k (RS k (RS k b 4) 3) 2))) := rfl
  rw [e, cut_RS _ _ _ (by omega), cut_RS _ _ _ (by omega), cut_RS _ _ _ h]
  unfold Li.unlock; rfl
attribute [local irreducible] RS Li.lock Li.unlock
set_option maxRecDepth 100000 in
set_option maxHeartbeats 4000000 in
theorem rLock (w : World) (k b : Bs8) (vb : Value) (hk : k.length = 32) (hvb : BS w vb b) (h33 : 33 ≤ b.length) (h40 : b.length ≤ 4096) :
    Calls Tryd.prog 17 #[.agg (cs U8 k), vb] w fun e w' => ∃ v, e = .returned (.tuple #[v, .int .i64 0]) ∧ BN w' w.heap.size v (Li.lock k b) ∧ Below w.heap.size w w' := by
  obtain ⟨B0, e0⟩ : ∃ B, B = b := ⟨_, rfl⟩
  obtain ⟨B1, e1⟩ : ∃ B, B = RS k B0 1 := ⟨_, rfl⟩
  obtain ⟨B2, e2⟩ : ∃ B, B = RS k B1 2 := ⟨_, rfl⟩
  obtain ⟨B3, e3⟩ : ∃ B, B = RS k B2 3 := ⟨_, rfl⟩
  obtain ⟨B4, e4⟩ : ∃ B, B = RS k B3 4 := ⟨_, rfl⟩
  have l0 : B0.length = b.length := by rw [e0]
  have l1 : B1.length = b.length := by rw [e1, RS_len _ _ _ (by omega), l0]
  have l2 : B2.length = b.length := by rw [e2, RS_len _ _ _ (by omega), l1]
  have l3 : B3.length = b.length := by rw [e3, RS_len _ _ _ (by omega), l2]
  have HS0 := hid e1
  have HS1 := hid e2
  have HS2 := hid e3
  have HS3 := hid e4
  have HVB := hid hvb
  rw [show Li.lock k b = B4 by rw [e4, e3, e2, e1, e0]; exact (RS_lock k b (by omega)).symm]
  have HB0 := hid e0
  clear e0 e1 e2 e3 e4 hvb
  have iw2 : IntKind.i64.wrap 2 = 2 := by decide
  have iw3 : IntKind.i64.wrap 3 = 3 := by decide
  have iw4 : IntKind.i64.wrap 4 = 4 := by decide
  have iw5 : IntKind.i64.wrap 5 = 5 := by decide
  have M0 := Mm.start no w
  go_enter Tryd.func17, Tryd.ntmps17
  have M2 := (M0.alloc (cs U8 k) 23 (by decide))
  try simp only [World.size_alloc] at M2
  go_upto_region 1 with fail
  obtain ⟨w1, hw1⟩ : ∃ w1, w1 = (w.alloc (.cells (cs U8 k) 23)) := ⟨_, rfl⟩
  rw [← hw1] at M2 ⊢
  clear hw1
  refine wp_region_lin (.op 0 (.op 1 (.op 2 .done))) (by rfl) ?_
  refine wpT_valp 8 (v := vb) rfl rfl rfl (by go_simp) ?_
  refine wpT_callv 9 M2 (v := .int .i64 0) rfl rfl rfl (by go_simp) (rmay_ok w1 b vb (SV.below HVB.out M2.end_) h33 h40) (fun w3 M4 => ?_)
  refine wpT_valp 6 (v := .int .i64 0) rfl rfl rfl (by go_simp) ?_
  dsimp only [wpT]
  try simp only [Act.put, List.setIfInBounds_toArray, List.set_cons_succ, List.set_cons_zero]
  go_upto_region 2 with fail
  refine wp_region_lin (.op 0 (.op 1 .done)) (by rfl) ?_
  refine wpT_valp 10 (v := .int .i64 0) rfl rfl rfl (by go_simp) ?_
  refine wpT_valp 11 (v := .bool false) rfl rfl rfl (by go_simp) ?_
  dsimp only [wpT]
  try simp only [Act.put, List.setIfInBounds_toArray, List.set_cons_succ, List.set_cons_zero]
  go_upto_region 4 with fail
  refine wp_region_lin (.op 0 .done) (by rfl) ?_
  refine wpT_valp 7 (v := .int .i64 1) rfl rfl rfl (by go_simp) ?_
  dsimp only [wpT]
  try simp only [Act.put, List.setIfInBounds_toArray, List.set_cons_succ, List.set_cons_zero]
  go_wp2_with fail
  go_loopw [1, 7] (fun u x wr => (x = .int .i64 1 ∧ BS wr u B0 ∧ Mm no w [(w.heap.size, cs U8 k)] wr) ∨ (x = .int .i64 2 ∧ BN wr w.heap.size u B1 ∧ Mm no w [(w.heap.size, cs U8 k)] wr) ∨ (x = .int .i64 3 ∧ BN wr w.heap.size u B2 ∧ Mm no w [(w.heap.size, cs U8 k)] wr) ∨ (x = .int .i64 4 ∧ BN wr w.heap.size u B3 ∧ Mm no w [(w.heap.size, cs U8 k)] wr) ∨ (x = .int .i64 5 ∧ BN wr w.heap.size u B4 ∧ Mm no w [(w.heap.size, cs U8 k)] wr)) (fun _ x _ => 5 - (intOf x).toNat)
  case atStart => exact .inl ⟨rfl, by rw [HB0.out]; exact SV.below HVB.out M4.end_, M4⟩
  case round =>
    clear M4
    rcases hrel with ⟨rfl, OU, M⟩ | ⟨rfl, OU, M⟩ | ⟨rfl, OU, M⟩ | ⟨rfl, OU, M⟩ | ⟨rfl, OU, M⟩
    · skip
      go_upto_region 7 with fail
      refine wp_region_lin (.op 0 (.op 1 (.op 2 (.op 3 (.op 4 .done))))) (by rfl) ?_
      refine wpT_ld0 17 Tryd.underlying23 rfl inf_key (w.heap.size) (cs U8 k) rfl rfl rfl (by go_simp) (M.row (by simp)) (by simp [hk]) rfl ?_
      refine wpT_valp 18 (v := .int .i64 1) rfl rfl rfl (by go_simp) ?_
      refine wpT_valp 19 (v := u1) rfl rfl rfl (by go_simp) ?_
      have hz9 := M.size
      refine wpT_callx 20 M (X := fun v w' => BN w' w.heap.size v B1) rfl rfl rfl (by go_simp) ((rround1 wr k B0 B1 u1 hk OU (by omega) (by omega) HS0.out).mono (fun e w' ⟨v, h1, h2, h3⟩ => ⟨v, h1, h2.mono hz9, h3⟩)) (fun u9 w9 O9 M9 _ => ?_)
      try simp only [Act.put, List.setIfInBounds_toArray, List.set_cons_succ, List.set_cons_zero]
      refine wpT_valp 1 (v := u9) rfl rfl rfl (by go_simp) ?_
      dsimp only [wpT]
      try simp only [Act.put, List.setIfInBounds_toArray, List.set_cons_succ, List.set_cons_zero]
      go_wp2_with fail
      go_roundw
      case rel => exact .inr (.inl ⟨by simp, O9, M9⟩)
      case measure => simp [intOf]
    · skip
      go_upto_region 7 with fail
      refine wp_region_lin (.op 0 (.op 1 (.op 2 (.op 3 (.op 4 .done))))) (by rfl) ?_
      refine wpT_ld0 17 Tryd.underlying23 rfl inf_key (w.heap.size) (cs U8 k) rfl rfl rfl (by go_simp) (M.row (by simp)) (by simp [hk]) rfl ?_
      refine wpT_valp 18 (v := .int .i64 2) rfl rfl rfl (by go_simp) ?_
      refine wpT_valp 19 (v := u1) rfl rfl rfl (by go_simp) ?_
      have hz9 := M.size
      refine wpT_callx 20 M (X := fun v w' => BN w' w.heap.size v B2) rfl rfl rfl (by go_simp) ((rround2 wr k B1 B2 u1 hk OU.1 (by omega) (by omega) HS1.out).mono (fun e w' ⟨v, h1, h2, h3⟩ => ⟨v, h1, h2.mono hz9, h3⟩)) (fun u9 w9 O9 M9 _ => ?_)
      try simp only [Act.put, List.setIfInBounds_toArray, List.set_cons_succ, List.set_cons_zero]
      refine wpT_valp 1 (v := u9) rfl rfl rfl (by go_simp) ?_
      dsimp only [wpT]
      try simp only [Act.put, List.setIfInBounds_toArray, List.set_cons_succ, List.set_cons_zero]
      go_wp2_with fail
      go_roundw
      case rel => exact .inr (.inr (.inl ⟨by simp, O9, M9⟩))
      case measure => simp [intOf]
    · skip
      go_upto_region 7 with fail
      refine wp_region_lin (.op 0 (.op 1 (.op 2 (.op 3 (.op 4 .done))))) (by rfl) ?_
      refine wpT_ld0 17 Tryd.underlying23 rfl inf_key (w.heap.size) (cs U8 k) rfl rfl rfl (by go_simp) (M.row (by simp)) (by simp [hk]) rfl ?_
      refine wpT_valp 18 (v := .int .i64 3) rfl rfl rfl (by go_simp) ?_
      refine wpT_valp 19 (v := u1) rfl rfl rfl (by go_simp) ?_
      have hz9 := M.size
      refine wpT_callx 20 M (X := fun v w' => BN w' w.heap.size v B3) rfl rfl rfl (by go_simp) ((rround3 wr k B2 B3 u1 hk OU.1 (by omega) (by omega) HS2.out).mono (fun e w' ⟨v, h1, h2, h3⟩ => ⟨v, h1, h2.mono hz9, h3⟩)) (fun u9 w9 O9 M9 _ => ?_)
      try simp only [Act.put, List.setIfInBounds_toArray, List.set_cons_succ, List.set_cons_zero]
      refine wpT_valp 1 (v := u9) rfl rfl rfl (by go_simp) ?_
      dsimp only [wpT]
      try simp only [Act.put, List.setIfInBounds_toArray, List.set_cons_succ, List.set_cons_zero]
      go_wp2_with fail
      go_roundw
      case rel => exact .inr (.inr (.inr (.inl ⟨by simp, O9, M9⟩)))
      case measure => simp [intOf]
    · skip
      go_upto_region 7 with fail
      refine wp_region_lin (.op 0 (.op 1 (.op 2 (.op 3 (.op 4 .done))))) (by rfl) ?_
      refine wpT_ld0 17 Tryd.underlying23 rfl inf_key (w.heap.size) (cs U8 k) rfl rfl rfl (by go_simp) (M.row (by simp)) (by simp [hk]) rfl ?_
      refine wpT_valp 18 (v := .int .i64 4) rfl rfl rfl (by go_simp) ?_
      refine wpT_valp 19 (v := u1) rfl rfl rfl (by go_simp) ?_
      have hz9 := M.size
      refine wpT_callx 20 M (X := fun v w' => BN w' w.heap.size v B4) rfl rfl rfl (by go_simp) ((rround4 wr k B3 B4 u1 hk OU.1 (by omega) (by omega) HS3.out).mono (fun e w' ⟨v, h1, h2, h3⟩ => ⟨v, h1, h2.mono hz9, h3⟩)) (fun u9 w9 O9 M9 _ => ?_)
      try simp only [Act.put, List.setIfInBounds_toArray, List.set_cons_succ, List.set_cons_zero]
      refine wpT_valp 1 (v := u9) rfl rfl rfl (by go_simp) ?_
      dsimp only [wpT]
      try simp only [Act.put, List.setIfInBounds_toArray, List.set_cons_succ, List.set_cons_zero]
      go_wp2_with fail
      go_roundw
      case rel => exact .inr (.inr (.inr (.inr ⟨by simp, O9, M9⟩)))
      case measure => simp [intOf]
    · skip
      go_upto_region 8 with fail
      refine wp_region_lin (.op 0 (.op 1 (.op 2 .done))) (by rfl) ?_
      refine wpT_valp 21 (v := u1) rfl rfl rfl (by go_simp) ?_
      refine wpT_valp 4 (v := u1) rfl rfl rfl (by go_simp) ?_
      refine wpT_valp 5 (v := .int .i64 0) rfl rfl rfl (by go_simp) ?_
      dsimp only [wpT]
      try simp only [Act.put, List.setIfInBounds_toArray, List.set_cons_succ, List.set_cons_zero]
      go_wp2_with fail
      refine bodyPost_ret (res_two rfl (rv_tmp _ _ rfl) (rv_tmp _ _ rfl)) rfl ?_
      exact ⟨_, rfl, OU, M.end_⟩
set_option maxRecDepth 100000 in
set_option maxHeartbeats 4000000 in
theorem rUnlock (w : World) (k b : Bs8) (vb : Value) (hk : k.length = 32) (hvb : BS w vb b) (h33 : 33 ≤ b.length) (h40 : b.length ≤ 4096) :
    Calls Tryd.prog 19 #[.agg (cs U8 k), vb] w fun e w' => ∃ v, e = .returned (.tuple #[v, .int .i64 0]) ∧ BN w' w.heap.size v (Li.unlock k b) ∧ Below w.heap.size w w' := by
  obtain ⟨B0, e0⟩ : ∃ B, B = b := ⟨_, rfl⟩
  obtain ⟨B1, e1⟩ : ∃ B, B = RS k B0 4 := ⟨_, rfl⟩
  obtain ⟨B2, e2⟩ : ∃ B, B = RS k B1 3 := ⟨_, rfl⟩
  obtain ⟨B3, e3⟩ : ∃ B, B = RS k B2 2 := ⟨_, rfl⟩
  obtain ⟨B4, e4⟩ : ∃ B, B = RS k B3 1 := ⟨_, rfl⟩
  have l0 : B0.length = b.length := by rw [e0]
  have l1 : B1.length = b.length := by rw [e1, RS_len _ _ _ (by omega), l0]
  have l2 : B2.length = b.length := by rw [e2, RS_len _ _ _ (by omega), l1]
  have l3 : B3.length = b.length := by rw [e3, RS_len _ _ _ (by omega), l2]
  have HS0 := hid e1
  have HS1 := hid e2
  have HS2 := hid e3
  have HS3 := hid e4
  have HVB := hid hvb
  rw [show Li.unlock k b = B4 by rw [e4, e3, e2, e1, e0]; exact (RS_unlock k b (by omega)).symm]
  have HB0 := hid e0
  clear e0 e1 e2 e3 e4 hvb
  have iw0 : IntKind.i64.wrap 0 = 0 := by decide
  have iw1 : IntKind.i64.wrap 1 = 1 := by decide
  have iw2 : IntKind.i64.wrap 2 = 2 := by decide
  have iw3 : IntKind.i64.wrap 3 = 3 := by decide
  have M0 := Mm.start no w
  go_enter Tryd.func19, Tryd.ntmps19
  have M2 := (M0.alloc (cs U8 k) 23 (by decide))
  try simp only [World.size_alloc] at M2
  go_upto_region 1 with fail
  obtain ⟨w1, hw1⟩ : ∃ w1, w1 = (w.alloc (.cells (cs U8 k) 23)) := ⟨_, rfl⟩
  rw [← hw1] at M2 ⊢
  clear hw1
  refine wp_region_lin (.op 0 (.op 1 (.op 2 .done))) (by rfl) ?_
  refine wpT_valp 8 (v := vb) rfl rfl rfl (by go_simp) ?_
  refine wpT_callv 9 M2 (v := .int .i64 0) rfl rfl rfl (by go_simp) (rmay_ok w1 b vb (SV.below HVB.out M2.end_) h33 h40) (fun w3 M4 => ?_)
  refine wpT_valp 6 (v := .int .i64 0) rfl rfl rfl (by go_simp) ?_
  dsimp only [wpT]
  try simp only [Act.put, List.setIfInBounds_toArray, List.set_cons_succ, List.set_cons_zero]
  go_upto_region 2 with fail
  refine wp_region_lin (.op 0 (.op 1 .done)) (by rfl) ?_
  refine wpT_valp 10 (v := .int .i64 0) rfl rfl rfl (by go_simp) ?_
  refine wpT_valp 11 (v := .bool false) rfl rfl rfl (by go_simp) ?_
  dsimp only [wpT]
  try simp only [Act.put, List.setIfInBounds_toArray, List.set_cons_succ, List.set_cons_zero]
  go_upto_region 4 with fail
  refine wp_region_lin (.op 0 .done) (by rfl) ?_
  refine wpT_valp 7 (v := .int .i64 4) rfl rfl rfl (by go_simp) ?_
  dsimp only [wpT]
  try simp only [Act.put, List.setIfInBounds_toArray, List.set_cons_succ, List.set_cons_zero]
  go_wp2_with fail
  go_loopw [1, 7] (fun u x wr => (x = .int .i64 4 ∧ BS wr u B0 ∧ Mm no w [(w.heap.size, cs U8 k)] wr) ∨ (x = .int .i64 3 ∧ BN wr w.heap.size u B1 ∧ Mm no w [(w.heap.size, cs U8 k)] wr) ∨ (x = .int .i64 2 ∧ BN wr w.heap.size u B2 ∧ Mm no w [(w.heap.size, cs U8 k)] wr) ∨ (x = .int .i64 1 ∧ BN wr w.heap.size u B3 ∧ Mm no w [(w.heap.size, cs U8 k)] wr) ∨ (x = .int .i64 0 ∧ BN wr w.heap.size u B4 ∧ Mm no w [(w.heap.size, cs U8 k)] wr)) (fun _ x _ => (intOf x).toNat)
  case atStart => exact .inl ⟨rfl, by rw [HB0.out]; exact SV.below HVB.out M4.end_, M4⟩
  case round =>
    clear M4
    rcases hrel with ⟨rfl, OU, M⟩ | ⟨rfl, OU, M⟩ | ⟨rfl, OU, M⟩ | ⟨rfl, OU, M⟩ | ⟨rfl, OU, M⟩
    · skip
      go_upto_region 7 with fail
      refine wp_region_lin (.op 0 (.op 1 (.op 2 (.op 3 (.op 4 .done))))) (by rfl) ?_
      refine wpT_ld0 17 Tryd.underlying23 rfl inf_key (w.heap.size) (cs U8 k) rfl rfl rfl (by go_simp) (M.row (by simp)) (by simp [hk]) rfl ?_
      refine wpT_valp 18 (v := .int .i64 4) rfl rfl rfl (by go_simp) ?_
      refine wpT_valp 19 (v := u1) rfl rfl rfl (by go_simp) ?_
      have hz9 := M.size
      refine wpT_callx 20 M (X := fun v w' => BN w' w.heap.size v B1) rfl rfl rfl (by go_simp) ((rround4 wr k B0 B1 u1 hk OU (by omega) (by omega) HS0.out).mono (fun e w' ⟨v, h1, h2, h3⟩ => ⟨v, h1, h2.mono hz9, h3⟩)) (fun u9 w9 O9 M9 _ => ?_)
      try simp only [Act.put, List.setIfInBounds_toArray, List.set_cons_succ, List.set_cons_zero]
      refine wpT_valp 1 (v := u9) rfl rfl rfl (by go_simp) ?_
      dsimp only [wpT]
      try simp only [Act.put, List.setIfInBounds_toArray, List.set_cons_succ, List.set_cons_zero]
      go_wp2_with fail
      go_roundw
      case rel => exact .inr (.inl ⟨by simp, O9, M9⟩)
      case measure => simp [intOf]
    · skip
      go_upto_region 7 with fail
      refine wp_region_lin (.op 0 (.op 1 (.op 2 (.op 3 (.op 4 .done))))) (by rfl) ?_
      refine wpT_ld0 17 Tryd.underlying23 rfl inf_key (w.heap.size) (cs U8 k) rfl rfl rfl (by go_simp) (M.row (by simp)) (by simp [hk]) rfl ?_
      refine wpT_valp 18 (v := .int .i64 3) rfl rfl rfl (by go_simp) ?_
      refine wpT_valp 19 (v := u1) rfl rfl rfl (by go_simp) ?_
      have hz9 := M.size
      refine wpT_callx 20 M (X := fun v w' => BN w' w.heap.size v B2) rfl rfl rfl (by go_simp) ((rround3 wr k B1 B2 u1 hk OU.1 (by omega) (by omega) HS1.out).mono (fun e w' ⟨v, h1, h2, h3⟩ => ⟨v, h1, h2.mono hz9, h3⟩)) (fun u9 w9 O9 M9 _ => ?_)
      try simp only [Act.put, List.setIfInBounds_toArray, List.set_cons_succ, List.set_cons_zero]
      refine wpT_valp 1 (v := u9) rfl rfl rfl (by go_simp) ?_
      dsimp only [wpT]
      try simp only [Act.put, List.setIfInBounds_toArray, List.set_cons_succ, List.set_cons_zero]
      go_wp2_with fail
      go_roundw
      case rel => exact .inr (.inr (.inl ⟨by simp, O9, M9⟩))
      case measure => simp [intOf]
    · skip
      go_upto_region 7 with fail
      refine wp_region_lin (.op 0 (.op 1 (.op 2 (.op 3 (.op 4 .done))))) (by rfl) ?_
      refine wpT_ld0 17 Tryd.underlying23 rfl inf_key (w.heap.size) (cs U8 k) rfl rfl rfl (by go_simp) (M.row (by simp)) (by simp [hk]) rfl ?_
      refine wpT_valp 18 (v := .int .i64 2) rfl rfl rfl (by go_simp) ?_
      refine wpT_valp 19 (v := u1) rfl rfl rfl (by go_simp) ?_
      have hz9 := M.size
      refine wpT_callx 20 M (X := fun v w' => BN w' w.heap.size v B3) rfl rfl rfl (by go_simp) ((rround2 wr k B2 B3 u1 hk OU.1 (by omega) (by omega) HS2.out).mono (fun e w' ⟨v, h1, h2, h3⟩ => ⟨v, h1, h2.mono hz9, h3⟩)) (fun u9 w9 O9 M9 _ => ?_)
      try simp only [Act.put, List.setIfInBounds_toArray, List.set_cons_succ, List.set_cons_zero]
      refine wpT_valp 1 (v := u9) rfl rfl rfl (by go_simp) ?_
      dsimp only [wpT]
      try simp only [Act.put, List.setIfInBounds_toArray, List.set_cons_succ, List.set_cons_zero]
      go_wp2_with fail
      go_roundw
      case rel => exact .inr (.inr (.inr (.inl ⟨by simp, O9, M9⟩)))
      case measure => simp [intOf]
    · skip
      go_upto_region 7 with fail
      refine wp_region_lin (.op 0 (.op 1 (.op 2 (.op 3 (.op 4 .done))))) (by rfl) ?_
      refine wpT_ld0 17 Tryd.underlying23 rfl inf_key (w.heap.size) (cs U8 k) rfl rfl rfl (by go_simp) (M.row (by simp)) (by simp [hk]) rfl ?_
      refine wpT_valp 18 (v := .int .i64 1) rfl rfl rfl (by go_simp) ?_
      refine wpT_valp 19 (v := u1) rfl rfl rfl (by go_simp) ?_
      have hz9 := M.size
      refine wpT_callx 20 M (X := fun v w' => BN w' w.heap.size v B4) rfl rfl rfl (by go_simp) ((rround1 wr k B3 B4 u1 hk OU.1 (by omega) (by omega) HS3.out).mono (fun e w' ⟨v, h1, h2, h3⟩ => ⟨v, h1, h2.mono hz9, h3⟩)) (fun u9 w9 O9 M9 _ => ?_)
      try simp only [Act.put, List.setIfInBounds_toArray, List.set_cons_succ, List.set_cons_zero]
      refine wpT_valp 1 (v := u9) rfl rfl rfl (by go_simp) ?_
      dsimp only [wpT]
      try simp only [Act.put, List.setIfInBounds_toArray, List.set_cons_succ, List.set_cons_zero]
      go_wp2_with fail
      go_roundw
      case rel => exact .inr (.inr (.inr (.inr ⟨by simp, O9, M9⟩)))
      case measure => simp [intOf]
    · skip
      go_upto_region 8 with fail
      refine wp_region_lin (.op 0 (.op 1 (.op 2 .done))) (by rfl) ?_
      refine wpT_valp 21 (v := u1) rfl rfl rfl (by go_simp) ?_
      refine wpT_valp 4 (v := u1) rfl rfl rfl (by go_simp) ?_
      refine wpT_valp 5 (v := .int .i64 0) rfl rfl rfl (by go_simp) ?_
      dsimp only [wpT]
      try simp only [Act.put, List.setIfInBounds_toArray, List.set_cons_succ, List.set_cons_zero]
      go_wp2_with fail
      refine bodyPost_ret (res_two rfl (rv_tmp _ _ rfl) (rv_tmp _ _ rfl)) rfl ?_
      exact ⟨_, rfl, OU, M.end_⟩
theorem rLock_e (w : World) (k b : Bs8) (vb : Value) (er : Int) (hk : k.length = 32) (hvb : BS w vb b) (he : szErr b.length er) :
    Calls Tryd.prog 17 #[.agg (cs U8 k), vb] w fun e w' => e = .returned (.tuple #[.slice none 0 0, .int .i64 er]) ∧ Below w.heap.size w w' := by
  have HVB := hid hvb
  have HE := hid he
  have hne : ¬ er = 0 := by rcases he with ⟨_, h⟩ | ⟨_, h⟩ <;> omega
  clear hvb he
  have M0 := Mm.start no w
  go_enter Tryd.func17, Tryd.ntmps17
  have M2 := (M0.alloc (cs U8 k) 23 (by decide))
  try simp only [World.size_alloc] at M2
  go_upto_region 1 with fail
  obtain ⟨w1, hw1⟩ : ∃ w1, w1 = (w.alloc (.cells (cs U8 k) 23)) := ⟨_, rfl⟩
  rw [← hw1] at M2 ⊢
  clear hw1
  refine wp_region_lin (.op 0 (.op 1 (.op 2 .done))) (by rfl) ?_
  refine wpT_valp 8 (v := vb) rfl rfl rfl (by go_simp) ?_
  refine wpT_callv 9 M2 (v := .int .i64 er) rfl rfl rfl (by go_simp) (rmay_e w1 b vb er (SV.below HVB.out M2.end_) HE.out) (fun w3 M4 => ?_)
  refine wpT_valp 6 (v := .int .i64 er) rfl rfl rfl (by go_simp) ?_
  dsimp only [wpT]
  try simp only [Act.put, List.setIfInBounds_toArray, List.set_cons_succ, List.set_cons_zero]
  go_upto_region 2 with fail
  refine wp_region_lin (.op 0 (.op 1 .done)) (by rfl) ?_
  refine wpT_valp 10 (v := .int .i64 er) rfl rfl rfl (by go_simp) ?_
  refine wpT_valp 11 (v := .bool true) rfl rfl rfl (by go_simp) ?_
  dsimp only [wpT]
  try simp only [Act.put, List.setIfInBounds_toArray, List.set_cons_succ, List.set_cons_zero]
  go_upto_region 3 with fail
  refine wp_region_lin (.op 0 (.op 1 (.op 2 .done))) (by rfl) ?_
  refine wpT_valp 12 (v := .int .i64 er) rfl rfl rfl (by go_simp) ?_
  refine wpT_valp 4 (v := (.slice none 0 0)) rfl rfl rfl (by go_simp) ?_
  refine wpT_valp 5 (v := .int .i64 er) rfl rfl rfl (by go_simp) ?_
  dsimp only [wpT]
  try simp only [Act.put, List.setIfInBounds_toArray, List.set_cons_succ, List.set_cons_zero]
  go_wp2_with fail
  refine bodyPost_ret (res_two rfl (rv_tmp _ _ rfl) (rv_tmp _ _ rfl)) rfl ?_
  exact ⟨rfl, M4.end_⟩
theorem rUnlock_e (w : World) (k b : Bs8) (vb : Value) (er : Int) (hk : k.length = 32) (hvb : BS w vb b) (he : szErr b.length er) :
    Calls Tryd.prog 19 #[.agg (cs U8 k), vb] w fun e w' => e = .returned (.tuple #[.slice none 0 0, .int .i64 er]) ∧ Below w.heap.size w w' := by
  have HVB := hid hvb
  have HE := hid he
  have hne : ¬ er = 0 := by rcases he with ⟨_, h⟩ | ⟨_, h⟩ <;> omega
  clear hvb he
  have M0 := Mm.start no w
  go_enter Tryd.func19, Tryd.ntmps19
  have M2 := (M0.alloc (cs U8 k) 23 (by decide))
  try simp only [World.size_alloc] at M2
  go_upto_region 1 with fail
  obtain ⟨w1, hw1⟩ : ∃ w1, w1 = (w.alloc (.cells (cs U8 k) 23)) := ⟨_, rfl⟩
  rw [← hw1] at M2 ⊢
  clear hw1
  refine wp_region_lin (.op 0 (.op 1 (.op 2 .done))) (by rfl) ?_
  refine wpT_valp 8 (v := vb) rfl rfl rfl (by go_simp) ?_
  refine wpT_callv 9 M2 (v := .int .i64 er) rfl rfl rfl (by go_simp) (rmay_e w1 b vb er (SV.below HVB.out M2.end_) HE.out) (fun w3 M4 => ?_)
  refine wpT_valp 6 (v := .int .i64 er) rfl rfl rfl (by go_simp) ?_
  dsimp only [wpT]
  try simp only [Act.put, List.setIfInBounds_toArray, List.set_cons_succ, List.set_cons_zero]
  go_upto_region 2 with fail
  refine wp_region_lin (.op 0 (.op 1 .done)) (by rfl) ?_
  refine wpT_valp 10 (v := .int .i64 er) rfl rfl rfl (by go_simp) ?_
  refine wpT_valp 11 (v := .bool true) rfl rfl rfl (by go_simp) ?_
  dsimp only [wpT]
  try simp only [Act.put, List.setIfInBounds_toArray, List.set_cons_succ, List.set_cons_zero]
  go_upto_region 3 with fail
  refine wp_region_lin (.op 0 (.op 1 (.op 2 .done))) (by rfl) ?_
  refine wpT_valp 12 (v := .int .i64 er) rfl rfl rfl (by go_simp) ?_
  refine wpT_valp 4 (v := (.slice none 0 0)) rfl rfl rfl (by go_simp) ?_
  refine wpT_valp 5 (v := .int .i64 er) rfl rfl rfl (by go_simp) ?_
  dsimp only [wpT]
  try simp only [Act.put, List.setIfInBounds_toArray, List.set_cons_succ, List.set_cons_zero]
  go_wp2_with fail
  refine bodyPost_ret (res_two rfl (rv_tmp _ _ rfl) (rv_tmp _ _ rfl)) rfl ?_
  exact ⟨rfl, M4.end_⟩
theorem rLock_v (w : World) (k b X : Bs8) (vb : Value) (hX : X = Li.lock k b) (hk : k.length = 32) (hvb : BS w vb b) (h33 : 33 ≤ b.length) (h40 : b.length ≤ 4096) :
    Calls Tryd.prog 17 #[.agg (cs U8 k), vb] w fun e w' => ∃ v, e = .returned (.tuple #[v, .int .i64 0]) ∧ BN w' w.heap.size v X ∧ Below w.heap.size w w' := by
  rw [hX]; exact rLock w k b vb hk hvb h33 h40
theorem rUnlock_v (w : World) (k b X : Bs8) (vb : Value) (hX : X = Li.unlock k b) (hk : k.length = 32) (hvb : BS w vb b) (h33 : 33 ≤ b.length) (h40 : b.length ≤ 4096) :
    Calls Tryd.prog 19 #[.agg (cs U8 k), vb] w fun e w' => ∃ v, e = .returned (.tuple #[v, .int .i64 0]) ∧ BN w' w.heap.size v X ∧ Below w.heap.size w w' := by
  rw [hX]; exact rUnlock w k b vb hk hvb h33 h40
theorem alive8_v2 {w0 w : World} (hT : KT w0 ∧ 0 < w0.heap.size) (hw : Below w0.heap.size w0 w) : Calls Tryd.prog 15 #[] w fun e w' => e = .returned (.bool true) ∧ Below w.heap.size w w' :=
  alive8_c w ⟨hT.1.below hw hT.2, Nat.lt_of_lt_of_le hT.2 hw.size⟩
set_option maxRecDepth 100000 in
set_option maxHeartbeats 4000000 in
theorem LionLocks_w (w : World) (k b : Bs8) (vb : Value) (hT : KT w ∧ 0 < w.heap.size) (hk : k.length = 32) (hvb : BS w vb b) :
    Calls Tryd.prog 4 #[.agg (cs U8 k), vb] w fun e w' => e = .returned (.bool true) ∧ Below w.heap.size w w' := by
  have hmb : b.length ≤ 9223372036854775807 := hvb.len
  have HT := hid hT
  have HVB := hid hvb
  obtain ⟨AB, cb, rfl, -⟩ := hvb.shape
  clear hT hvb
  by_cases h1 : 700 < b.length
  · have h1i : (700 : Int) < (b.length : Int) := by omega
    by_cases h2 : b.length ≤ 4096
    · have h2i : (b.length : Int) ≤ 4096 := by omega
      have M0 := Mm.start no w
      go_enter Tryd.func4, Tryd.ntmps4
      have M2 := (M0.alloc (cs U8 k) 23 (by decide))
      try simp only [World.size_alloc] at M2
      go_upto_region 1 with fail
      obtain ⟨w1, hw1⟩ : ∃ w1, w1 = (w.alloc (.cells (cs U8 k) 23)) := ⟨_, rfl⟩
      rw [← hw1] at M2 ⊢
      clear hw1
      refine wp_region_lin (.op 0 (.op 1 .done)) (by rfl) ?_
      refine wpT_callv 13 M2 (v := .bool true) rfl rfl rfl (by go_simp) (alive8_v2 HT.out M2.end_) (fun w3 M4 => ?_)
      refine wpT_valp 14 (v := .bool false) rfl rfl rfl (by go_simp) ?_
      dsimp only [wpT]
      try simp only [Act.put, List.setIfInBounds_toArray, List.set_cons_succ, List.set_cons_zero]
      go_upto_region 3 with fail
      refine wp_region_lin (.op 0 (.op 1 (.op 2 (.op 3 (.op 4 (.op 5 (.op 6 (.op 7 .done)))))))) (by rfl) ?_
      refine wpT_valp 15 (v := .slice AB b.length cb) rfl rfl rfl (by go_simp) ?_
      refine wpT_valp 16 (v := .int .i64 b.length) rfl rfl rfl (by go_simp) ?_
      refine wpT_valp 17 (v := .bool true) rfl rfl rfl (by go_simp) ?_
      refine wpT_valp 18 (v := .bool true) rfl rfl rfl (by go_simp) ?_
      try simp only [Act.put, List.setIfInBounds_toArray, List.set_cons_succ, List.set_cons_zero]
      refine wpT_valp 19 (v := .slice AB b.length cb) rfl rfl (by simp [Region.wanted, yielded, Act.put]) (by go_simp) ?_
      refine wpT_valp 20 (v := .int .i64 b.length) rfl rfl (by simp [Region.wanted, yielded, Act.put]) (by go_simp) ?_
      refine wpT_valp 21 (v := .bool true) rfl rfl (by simp [Region.wanted, yielded, Act.put]) (by go_simp) ?_
      refine wpT_valp 22 (v := .bool true) rfl rfl rfl (by go_simp) ?_
      dsimp only [wpT]
      try simp only [Act.put, List.setIfInBounds_toArray, List.set_cons_succ, List.set_cons_zero]
      go_upto_region 4 with fail
      refine wp_region_lin (.op 0 .done) (by rfl) ?_
      refine wpT_valp 4 (v := .bool true) rfl rfl rfl (by go_simp) ?_
      dsimp only [wpT]
      try simp only [Act.put, List.setIfInBounds_toArray, List.set_cons_succ, List.set_cons_zero]
      go_wp2_with fail
      go_ret
      exact ⟨rfl, M4.end_⟩
    · have h2i : ¬ (b.length : Int) ≤ 4096 := by omega
      obtain ⟨er, her⟩ : ∃ er : Int, er = 3 := ⟨_, rfl⟩
      have HE : Hid (szErr b.length er) := hid (.inr ⟨by omega, her⟩)
      clear her
      have M0 := Mm.start no w
      go_enter Tryd.func4, Tryd.ntmps4
      have M2 := (M0.alloc (cs U8 k) 23 (by decide))
      try simp only [World.size_alloc] at M2
      go_upto_region 1 with fail
      obtain ⟨w1, hw1⟩ : ∃ w1, w1 = (w.alloc (.cells (cs U8 k) 23)) := ⟨_, rfl⟩
      rw [← hw1] at M2 ⊢
      clear hw1
      refine wp_region_lin (.op 0 (.op 1 .done)) (by rfl) ?_
      refine wpT_callv 13 M2 (v := .bool true) rfl rfl rfl (by go_simp) (alive8_v2 HT.out M2.end_) (fun w3 M4 => ?_)
      refine wpT_valp 14 (v := .bool false) rfl rfl rfl (by go_simp) ?_
      dsimp only [wpT]
      try simp only [Act.put, List.setIfInBounds_toArray, List.set_cons_succ, List.set_cons_zero]
      go_upto_region 3 with fail
      refine wp_region_lin (.op 0 (.op 1 (.op 2 (.op 3 (.op 4 (.op 5 (.op 6 (.op 7 .done)))))))) (by rfl) ?_
      refine wpT_valp 15 (v := .slice AB b.length cb) rfl rfl rfl (by go_simp) ?_
      refine wpT_valp 16 (v := .int .i64 b.length) rfl rfl rfl (by go_simp) ?_
      refine wpT_valp 17 (v := .bool true) rfl rfl rfl (by go_simp) ?_
      refine wpT_valp 18 (v := .bool true) rfl rfl rfl (by go_simp) ?_
      try simp only [Act.put, List.setIfInBounds_toArray, List.set_cons_succ, List.set_cons_zero]
      refine wpT_valp 19 (v := .slice AB b.length cb) rfl rfl (by simp [Region.wanted, yielded, Act.put]) (by go_simp) ?_
      refine wpT_valp 20 (v := .int .i64 b.length) rfl rfl (by simp [Region.wanted, yielded, Act.put]) (by go_simp) ?_
      refine wpT_valp 21 (v := .bool false) rfl rfl (by simp [Region.wanted, yielded, Act.put]) (by go_simp) ?_
      refine wpT_valp 22 (v := .bool false) rfl rfl rfl (by go_simp) ?_
      dsimp only [wpT]
      try simp only [Act.put, List.setIfInBounds_toArray, List.set_cons_succ, List.set_cons_zero]
      go_upto_region 5 with fail
      refine wp_region_lin (.op 0 (.op 1 (.op 2 (.op 3 (.op 4 (.op 5 (.op 6 (.op 7 .done)))))))) (by rfl) ?_
      refine wpT_ld0 24 Tryd.underlying23 rfl inf_key (w.heap.size) (cs U8 k) rfl rfl rfl (by go_simp) (M4.row (by simp)) (by simp [hk]) rfl ?_
      refine wpT_valp 25 (v := .slice AB b.length cb) rfl rfl rfl (by go_simp) ?_
      refine wpT_callv 26 M4 (v := .tuple #[.slice none 0 0, .int .i64 er]) rfl rfl rfl (by go_simp) (Lock_e w3 k b (.slice AB b.length cb) er hk (SV.below HVB.out M4.end_) HE.out) (fun w5 M6 => ?_)
      refine wpT_valp 23 (v := .tuple #[.slice none 0 0, .int .i64 er]) rfl rfl rfl (by go_simp) ?_
      try simp only [Act.put, List.setIfInBounds_toArray, List.set_cons_succ, List.set_cons_zero]
      refine wpT_valp 27 (v := .slice none 0 0) rfl rfl rfl (by go_simp) ?_
      refine wpT_valp 28 (v := .int .i64 er) rfl rfl rfl (by go_simp) ?_
      refine wpT_valp 5 (v := .slice none 0 0) rfl rfl rfl (by go_simp) ?_
      refine wpT_valp 6 (v := .int .i64 er) rfl rfl rfl (by go_simp) ?_
      dsimp only [wpT]
      try simp only [Act.put, List.setIfInBounds_toArray, List.set_cons_succ, List.set_cons_zero]
      go_upto_region 6 with fail
      refine wp_region_lin (.op 0 (.op 1 (.op 2 (.op 3 (.op 4 (.op 5 (.op 6 (.op 7 .done)))))))) (by rfl) ?_
      refine wpT_ld0 30 Tryd.underlying23 rfl inf_key (w.heap.size) (cs U8 k) rfl rfl rfl (by go_simp) (M6.row (by simp)) (by simp [hk]) rfl ?_
      refine wpT_valp 31 (v := .slice AB b.length cb) rfl rfl rfl (by go_simp) ?_
      refine wpT_callv 32 M6 (v := .tuple #[.slice none 0 0, .int .i64 er]) rfl rfl rfl (by go_simp) (rLock_e w5 k b (.slice AB b.length cb) er hk (SV.below HVB.out M6.end_) HE.out) (fun w7 M8 => ?_)
      refine wpT_valp 29 (v := .tuple #[.slice none 0 0, .int .i64 er]) rfl rfl rfl (by go_simp) ?_
      try simp only [Act.put, List.setIfInBounds_toArray, List.set_cons_succ, List.set_cons_zero]
      refine wpT_valp 33 (v := .slice none 0 0) rfl rfl rfl (by go_simp) ?_
      refine wpT_valp 34 (v := .int .i64 er) rfl rfl rfl (by go_simp) ?_
      refine wpT_valp 7 (v := .slice none 0 0) rfl rfl rfl (by go_simp) ?_
      refine wpT_valp 8 (v := .int .i64 er) rfl rfl rfl (by go_simp) ?_
      dsimp only [wpT]
      try simp only [Act.put, List.setIfInBounds_toArray, List.set_cons_succ, List.set_cons_zero]
      go_upto_region 7 with fail
      refine wp_region_lin (.op 0 (.op 1 (.op 2 (.op 3 (.op 4 (.op 5 (.op 6 (.op 7 .done)))))))) (by rfl) ?_
      refine wpT_ld0 36 Tryd.underlying23 rfl inf_key (w.heap.size) (cs U8 k) rfl rfl rfl (by go_simp) (M8.row (by simp)) (by simp [hk]) rfl ?_
      refine wpT_valp 37 (v := .slice AB b.length cb) rfl rfl rfl (by go_simp) ?_
      refine wpT_callv 38 M8 (v := .tuple #[.slice none 0 0, .int .i64 er]) rfl rfl rfl (by go_simp) (Unlock_e w7 k b (.slice AB b.length cb) er hk (SV.below HVB.out M8.end_) HE.out) (fun w9 M10 => ?_)
      refine wpT_valp 35 (v := .tuple #[.slice none 0 0, .int .i64 er]) rfl rfl rfl (by go_simp) ?_
      try simp only [Act.put, List.setIfInBounds_toArray, List.set_cons_succ, List.set_cons_zero]
      refine wpT_valp 39 (v := .slice none 0 0) rfl rfl rfl (by go_simp) ?_
      refine wpT_valp 40 (v := .int .i64 er) rfl rfl rfl (by go_simp) ?_
      refine wpT_valp 9 (v := .slice none 0 0) rfl rfl rfl (by go_simp) ?_
      refine wpT_valp 10 (v := .int .i64 er) rfl rfl rfl (by go_simp) ?_
      dsimp only [wpT]
      try simp only [Act.put, List.setIfInBounds_toArray, List.set_cons_succ, List.set_cons_zero]
      go_upto_region 8 with fail
      refine wp_region_lin (.op 0 (.op 1 (.op 2 (.op 3 (.op 4 (.op 5 (.op 6 (.op 7 .done)))))))) (by rfl) ?_
      refine wpT_ld0 42 Tryd.underlying23 rfl inf_key (w.heap.size) (cs U8 k) rfl rfl rfl (by go_simp) (M10.row (by simp)) (by simp [hk]) rfl ?_
      refine wpT_valp 43 (v := .slice AB b.length cb) rfl rfl rfl (by go_simp) ?_
      refine wpT_callv 44 M10 (v := .tuple #[.slice none 0 0, .int .i64 er]) rfl rfl rfl (by go_simp) (rUnlock_e w9 k b (.slice AB b.length cb) er hk (SV.below HVB.out M10.end_) HE.out) (fun w11 M12 => ?_)
      refine wpT_valp 41 (v := .tuple #[.slice none 0 0, .int .i64 er]) rfl rfl rfl (by go_simp) ?_
      try simp only [Act.put, List.setIfInBounds_toArray, List.set_cons_succ, List.set_cons_zero]
      refine wpT_valp 45 (v := .slice none 0 0) rfl rfl rfl (by go_simp) ?_
      refine wpT_valp 46 (v := .int .i64 er) rfl rfl rfl (by go_simp) ?_
      refine wpT_valp 11 (v := .slice none 0 0) rfl rfl rfl (by go_simp) ?_
      refine wpT_valp 12 (v := .int .i64 er) rfl rfl rfl (by go_simp) ?_
      dsimp only [wpT]
      try simp only [Act.put, List.setIfInBounds_toArray, List.set_cons_succ, List.set_cons_zero]
      go_upto_region 9 with fail
      refine wp_region_lin (.op 0 (.op 1 (.op 2 (.op 3 (.op 4 (.op 5 (.op 6 (.op 7 (.op 8 (.op 9 (.op 10 (.op 11 (.op 12 (.op 13 (.op 14 (.op 15 (.op 16 (.op 17 (.op 18 (.op 19 (.op 20 (.op 21 (.op 22 .done))))))))))))))))))))))) (by rfl) ?_
      refine wpT_valp 47 (v := .slice none 0 0) rfl rfl rfl (by go_simp) ?_
      refine wpT_valp 48 (v := .string (Bs [])) rfl rfl rfl (by have s0 := bytes_str (OB.nil w11 0).bs; unfold Sv at s0; go_simp) ?_
      refine wpT_valp 49 (v := .slice none 0 0) rfl rfl rfl (by go_simp) ?_
      refine wpT_valp 50 (v := .string (Bs [])) rfl rfl rfl (by have s0 := bytes_str (OB.nil w11 0).bs; unfold Sv at s0; go_simp) ?_
      try simp only [Act.put, List.setIfInBounds_toArray, List.set_cons_succ, List.set_cons_zero]
      refine wpT_valp 51 (v := .bool true) rfl rfl rfl (by go_simp) ?_
      refine wpT_valp 52 (v := .bool true) rfl rfl rfl (by go_simp) ?_
      refine wpT_valp 53 (v := .int .i64 er) rfl rfl (by simp [Region.wanted, yielded, Act.put]) (by go_simp) ?_
      refine wpT_valp 54 (v := .int .i64 er) rfl rfl (by simp [Region.wanted, yielded, Act.put]) (by go_simp) ?_
      refine wpT_valp 55 (v := .bool true) rfl rfl (by simp [Region.wanted, yielded, Act.put]) (by go_simp) ?_
      try simp only [Act.put, List.setIfInBounds_toArray, List.set_cons_succ, List.set_cons_zero]
      refine wpT_valp 56 (v := .bool true) rfl rfl rfl (by go_simp) ?_
      refine wpT_valp 57 (v := .bool true) rfl rfl rfl (by go_simp) ?_
      refine wpT_valp 58 (v := .slice none 0 0) rfl rfl (by simp [Region.wanted, yielded, Act.put]) (by go_simp) ?_
      refine wpT_valp 59 (v := .string (Bs [])) rfl rfl (by simp [Region.wanted, yielded, Act.put]) (by have s0 := bytes_str (OB.nil w11 0).bs; unfold Sv at s0; go_simp) ?_
      refine wpT_valp 60 (v := .slice none 0 0) rfl rfl (by simp [Region.wanted, yielded, Act.put]) (by go_simp) ?_
      try simp only [Act.put, List.setIfInBounds_toArray, List.set_cons_succ, List.set_cons_zero]
      refine wpT_valp 61 (v := .string (Bs [])) rfl rfl (by simp [Region.wanted, yielded, Act.put]) (by have s0 := bytes_str (OB.nil w11 0).bs; unfold Sv at s0; go_simp) ?_
      refine wpT_valp 62 (v := .bool true) rfl rfl (by simp [Region.wanted, yielded, Act.put]) (by go_simp) ?_
      refine wpT_valp 63 (v := .bool true) rfl rfl rfl (by go_simp) ?_
      refine wpT_valp 64 (v := .bool true) rfl rfl rfl (by go_simp) ?_
      refine wpT_valp 65 (v := .int .i64 er) rfl rfl (by simp [Region.wanted, yielded, Act.put]) (by go_simp) ?_
      try simp only [Act.put, List.setIfInBounds_toArray, List.set_cons_succ, List.set_cons_zero]
      refine wpT_valp 66 (v := .int .i64 er) rfl rfl (by simp [Region.wanted, yielded, Act.put]) (by go_simp) ?_
      refine wpT_valp 67 (v := .bool true) rfl rfl (by simp [Region.wanted, yielded, Act.put]) (by go_simp) ?_
      refine wpT_valp 68 (v := .bool true) rfl rfl rfl (by go_simp) ?_
      refine wpT_valp 4 (v := .bool true) rfl rfl rfl (by go_simp) ?_
      dsimp only [wpT]
      try simp only [Act.put, List.setIfInBounds_toArray, List.set_cons_succ, List.set_cons_zero]
      go_wp2_with fail
      go_ret
      exact ⟨rfl, M12.end_⟩
  have h1i : ¬ (700 : Int) < (b.length : Int) := by omega
  by_cases h2 : b.length < 33
  · obtain ⟨er, her⟩ : ∃ er : Int, er = 4 := ⟨_, rfl⟩
    have HE : Hid (szErr b.length er) := hid (.inl ⟨by omega, her⟩)
    clear her
    have M0 := Mm.start no w
    go_enter Tryd.func4, Tryd.ntmps4
    have M2 := (M0.alloc (cs U8 k) 23 (by decide))
    try simp only [World.size_alloc] at M2
    go_upto_region 1 with fail
    obtain ⟨w1, hw1⟩ : ∃ w1, w1 = (w.alloc (.cells (cs U8 k) 23)) := ⟨_, rfl⟩
    rw [← hw1] at M2 ⊢
    clear hw1
    refine wp_region_lin (.op 0 (.op 1 .done)) (by rfl) ?_
    refine wpT_callv 13 M2 (v := .bool true) rfl rfl rfl (by go_simp) (alive8_v2 HT.out M2.end_) (fun w3 M4 => ?_)
    refine wpT_valp 14 (v := .bool false) rfl rfl rfl (by go_simp) ?_
    dsimp only [wpT]
    try simp only [Act.put, List.setIfInBounds_toArray, List.set_cons_succ, List.set_cons_zero]
    go_upto_region 3 with fail
    refine wp_region_lin (.op 0 (.op 1 (.op 2 (.op 3 (.op 4 (.op 5 (.op 6 (.op 7 .done)))))))) (by rfl) ?_
    refine wpT_valp 15 (v := .slice AB b.length cb) rfl rfl rfl (by go_simp) ?_
    refine wpT_valp 16 (v := .int .i64 b.length) rfl rfl rfl (by go_simp) ?_
    refine wpT_valp 17 (v := .bool false) rfl rfl rfl (by go_simp) ?_
    refine wpT_valp 18 (v := .bool false) rfl rfl rfl (by go_simp) ?_
    try simp only [Act.put, List.setIfInBounds_toArray, List.set_cons_succ, List.set_cons_zero]
    refine wpT_unw 19 rfl rfl (by simp [Region.wanted, yielded, Act.put]) ?_
    refine wpT_unw 20 rfl rfl (by simp [Region.wanted, yielded, Act.put]) ?_
    refine wpT_unw 21 rfl rfl (by simp [Region.wanted, yielded, Act.put]) ?_
    refine wpT_valp 22 (v := .bool false) rfl rfl rfl (by go_simp) ?_
    dsimp only [wpT]
    try simp only [Act.put, List.setIfInBounds_toArray, List.set_cons_succ, List.set_cons_zero]
    go_upto_region 5 with fail
    refine wp_region_lin (.op 0 (.op 1 (.op 2 (.op 3 (.op 4 (.op 5 (.op 6 (.op 7 .done)))))))) (by rfl) ?_
    refine wpT_ld0 24 Tryd.underlying23 rfl inf_key (w.heap.size) (cs U8 k) rfl rfl rfl (by go_simp) (M4.row (by simp)) (by simp [hk]) rfl ?_
    refine wpT_valp 25 (v := .slice AB b.length cb) rfl rfl rfl (by go_simp) ?_
    refine wpT_callv 26 M4 (v := .tuple #[.slice none 0 0, .int .i64 er]) rfl rfl rfl (by go_simp) (Lock_e w3 k b (.slice AB b.length cb) er hk (SV.below HVB.out M4.end_) HE.out) (fun w5 M6 => ?_)
    refine wpT_valp 23 (v := .tuple #[.slice none 0 0, .int .i64 er]) rfl rfl rfl (by go_simp) ?_
    try simp only [Act.put, List.setIfInBounds_toArray, List.set_cons_succ, List.set_cons_zero]
    refine wpT_valp 27 (v := .slice none 0 0) rfl rfl rfl (by go_simp) ?_
    refine wpT_valp 28 (v := .int .i64 er) rfl rfl rfl (by go_simp) ?_
    refine wpT_valp 5 (v := .slice none 0 0) rfl rfl rfl (by go_simp) ?_
    refine wpT_valp 6 (v := .int .i64 er) rfl rfl rfl (by go_simp) ?_
    dsimp only [wpT]
    try simp only [Act.put, List.setIfInBounds_toArray, List.set_cons_succ, List.set_cons_zero]
    go_upto_region 6 with fail
    refine wp_region_lin (.op 0 (.op 1 (.op 2 (.op 3 (.op 4 (.op 5 (.op 6 (.op 7 .done)))))))) (by rfl) ?_
    refine wpT_ld0 30 Tryd.underlying23 rfl inf_key (w.heap.size) (cs U8 k) rfl rfl rfl (by go_simp) (M6.row (by simp)) (by simp [hk]) rfl ?_
    refine wpT_valp 31 (v := .slice AB b.length cb) rfl rfl rfl (by go_simp) ?_
    refine wpT_callv 32 M6 (v := .tuple #[.slice none 0 0, .int .i64 er]) rfl rfl rfl (by go_simp) (rLock_e w5 k b (.slice AB b.length cb) er hk (SV.below HVB.out M6.end_) HE.out) (fun w7 M8 => ?_)
    refine wpT_valp 29 (v := .tuple #[.slice none 0 0, .int .i64 er]) rfl rfl rfl (by go_simp) ?_
    try simp only [Act.put, List.setIfInBounds_toArray, List.set_cons_succ, List.set_cons_zero]
    refine wpT_valp 33 (v := .slice none 0 0) rfl rfl rfl (by go_simp) ?_
    refine wpT_valp 34 (v := .int .i64 er) rfl rfl rfl (by go_simp) ?_
    refine wpT_valp 7 (v := .slice none 0 0) rfl rfl rfl (by go_simp) ?_
    refine wpT_valp 8 (v := .int .i64 er) rfl rfl rfl (by go_simp) ?_
    dsimp only [wpT]
    try simp only [Act.put, List.setIfInBounds_toArray, List.set_cons_succ, List.set_cons_zero]
    go_upto_region 7 with fail
    refine wp_region_lin (.op 0 (.op 1 (.op 2 (.op 3 (.op 4 (.op 5 (.op 6 (.op 7 .done)))))))) (by rfl) ?_
    refine wpT_ld0 36 Tryd.underlying23 rfl inf_key (w.heap.size) (cs U8 k) rfl rfl rfl (by go_simp) (M8.row (by simp)) (by simp [hk]) rfl ?_
    refine wpT_valp 37 (v := .slice AB b.length cb) rfl rfl rfl (by go_simp) ?_
    refine wpT_callv 38 M8 (v := .tuple #[.slice none 0 0, .int .i64 er]) rfl rfl rfl (by go_simp) (Unlock_e w7 k b (.slice AB b.length cb) er hk (SV.below HVB.out M8.end_) HE.out) (fun w9 M10 => ?_)
    refine wpT_valp 35 (v := .tuple #[.slice none 0 0, .int .i64 er]) rfl rfl rfl (by go_simp) ?_
    try simp only [Act.put, List.setIfInBounds_toArray, List.set_cons_succ, List.set_cons_zero]
    refine wpT_valp 39 (v := .slice none 0 0) rfl rfl rfl (by go_simp) ?_
    refine wpT_valp 40 (v := .int .i64 er) rfl rfl rfl (by go_simp) ?_
    refine wpT_valp 9 (v := .slice none 0 0) rfl rfl rfl (by go_simp) ?_
    refine wpT_valp 10 (v := .int .i64 er) rfl rfl rfl (by go_simp) ?_
    dsimp only [wpT]
    try simp only [Act.put, List.setIfInBounds_toArray, List.set_cons_succ, List.set_cons_zero]
    go_upto_region 8 with fail
    refine wp_region_lin (.op 0 (.op 1 (.op 2 (.op 3 (.op 4 (.op 5 (.op 6 (.op 7 .done)))))))) (by rfl) ?_
    refine wpT_ld0 42 Tryd.underlying23 rfl inf_key (w.heap.size) (cs U8 k) rfl rfl rfl (by go_simp) (M10.row (by simp)) (by simp [hk]) rfl ?_
    refine wpT_valp 43 (v := .slice AB b.length cb) rfl rfl rfl (by go_simp) ?_
    refine wpT_callv 44 M10 (v := .tuple #[.slice none 0 0, .int .i64 er]) rfl rfl rfl (by go_simp) (rUnlock_e w9 k b (.slice AB b.length cb) er hk (SV.below HVB.out M10.end_) HE.out) (fun w11 M12 => ?_)
    refine wpT_valp 41 (v := .tuple #[.slice none 0 0, .int .i64 er]) rfl rfl rfl (by go_simp) ?_
    try simp only [Act.put, List.setIfInBounds_toArray, List.set_cons_succ, List.set_cons_zero]
    refine wpT_valp 45 (v := .slice none 0 0) rfl rfl rfl (by go_simp) ?_
    refine wpT_valp 46 (v := .int .i64 er) rfl rfl rfl (by go_simp) ?_
    refine wpT_valp 11 (v := .slice none 0 0) rfl rfl rfl (by go_simp) ?_
    refine wpT_valp 12 (v := .int .i64 er) rfl rfl rfl (by go_simp) ?_
    dsimp only [wpT]
    try simp only [Act.put, List.setIfInBounds_toArray, List.set_cons_succ, List.set_cons_zero]
    go_upto_region 9 with fail
    refine wp_region_lin (.op 0 (.op 1 (.op 2 (.op 3 (.op 4 (.op 5 (.op 6 (.op 7 (.op 8 (.op 9 (.op 10 (.op 11 (.op 12 (.op 13 (.op 14 (.op 15 (.op 16 (.op 17 (.op 18 (.op 19 (.op 20 (.op 21 (.op 22 .done))))))))))))))))))))))) (by rfl) ?_
    refine wpT_valp 47 (v := .slice none 0 0) rfl rfl rfl (by go_simp) ?_
    refine wpT_valp 48 (v := .string (Bs [])) rfl rfl rfl (by have s0 := bytes_str (OB.nil w11 0).bs; unfold Sv at s0; go_simp) ?_
    refine wpT_valp 49 (v := .slice none 0 0) rfl rfl rfl (by go_simp) ?_
    refine wpT_valp 50 (v := .string (Bs [])) rfl rfl rfl (by have s0 := bytes_str (OB.nil w11 0).bs; unfold Sv at s0; go_simp) ?_
    try simp only [Act.put, List.setIfInBounds_toArray, List.set_cons_succ, List.set_cons_zero]
    refine wpT_valp 51 (v := .bool true) rfl rfl rfl (by go_simp) ?_
    refine wpT_valp 52 (v := .bool true) rfl rfl rfl (by go_simp) ?_
    refine wpT_valp 53 (v := .int .i64 er) rfl rfl (by simp [Region.wanted, yielded, Act.put]) (by go_simp) ?_
    refine wpT_valp 54 (v := .int .i64 er) rfl rfl (by simp [Region.wanted, yielded, Act.put]) (by go_simp) ?_
    refine wpT_valp 55 (v := .bool true) rfl rfl (by simp [Region.wanted, yielded, Act.put]) (by go_simp) ?_
    try simp only [Act.put, List.setIfInBounds_toArray, List.set_cons_succ, List.set_cons_zero]
    refine wpT_valp 56 (v := .bool true) rfl rfl rfl (by go_simp) ?_
    refine wpT_valp 57 (v := .bool true) rfl rfl rfl (by go_simp) ?_
    refine wpT_valp 58 (v := .slice none 0 0) rfl rfl (by simp [Region.wanted, yielded, Act.put]) (by go_simp) ?_
    refine wpT_valp 59 (v := .string (Bs [])) rfl rfl (by simp [Region.wanted, yielded, Act.put]) (by have s0 := bytes_str (OB.nil w11 0).bs; unfold Sv at s0; go_simp) ?_
    refine wpT_valp 60 (v := .slice none 0 0) rfl rfl (by simp [Region.wanted, yielded, Act.put]) (by go_simp) ?_
    try simp only [Act.put, List.setIfInBounds_toArray, List.set_cons_succ, List.set_cons_zero]
    refine wpT_valp 61 (v := .string (Bs [])) rfl rfl (by simp [Region.wanted, yielded, Act.put]) (by have s0 := bytes_str (OB.nil w11 0).bs; unfold Sv at s0; go_simp) ?_
    refine wpT_valp 62 (v := .bool true) rfl rfl (by simp [Region.wanted, yielded, Act.put]) (by go_simp) ?_
    refine wpT_valp 63 (v := .bool true) rfl rfl rfl (by go_simp) ?_
    refine wpT_valp 64 (v := .bool true) rfl rfl rfl (by go_simp) ?_
    refine wpT_valp 65 (v := .int .i64 er) rfl rfl (by simp [Region.wanted, yielded, Act.put]) (by go_simp) ?_
    try simp only [Act.put, List.setIfInBounds_toArray, List.set_cons_succ, List.set_cons_zero]
    refine wpT_valp 66 (v := .int .i64 er) rfl rfl (by simp [Region.wanted, yielded, Act.put]) (by go_simp) ?_
    refine wpT_valp 67 (v := .bool true) rfl rfl (by simp [Region.wanted, yielded, Act.put]) (by go_simp) ?_
    refine wpT_valp 68 (v := .bool true) rfl rfl rfl (by go_simp) ?_
    refine wpT_valp 4 (v := .bool true) rfl rfl rfl (by go_simp) ?_
    dsimp only [wpT]
    try simp only [Act.put, List.setIfInBounds_toArray, List.set_cons_succ, List.set_cons_zero]
    go_wp2_with fail
    go_ret
    exact ⟨rfl, M12.end_⟩
  obtain ⟨x, ex⟩ : ∃ x, x = Li.lock k b := ⟨_, rfl⟩
  obtain ⟨u, eu⟩ : ∃ u, u = Li.unlock k b := ⟨_, rfl⟩
  have hx : x.length = b.length := by rw [ex, lock_len _ _ (by omega)]
  have hu : u.length = b.length := by rw [eu, unlock_len _ _ (by omega)]
  have HX := hid ex
  have HU := hid eu
  have T0 := back0 (S := no) (w0 := w)
  clear ex eu
  have M0 := Mm.start no w
  go_enter Tryd.func4, Tryd.ntmps4
  have M2 := (M0.alloc (cs U8 k) 23 (by decide))
  try simp only [World.size_alloc] at M2
  go_upto_region 1 with fail
  obtain ⟨w1, hw1⟩ : ∃ w1, w1 = (w.alloc (.cells (cs U8 k) 23)) := ⟨_, rfl⟩
  rw [← hw1] at M2 ⊢
  clear hw1
  refine wp_region_lin (.op 0 (.op 1 .done)) (by rfl) ?_
  refine wpT_callv 13 M2 (v := .bool true) rfl rfl rfl (by go_simp) (alive8_v2 HT.out M2.end_) (fun w3 M4 => ?_)
  refine wpT_valp 14 (v := .bool false) rfl rfl rfl (by go_simp) ?_
  dsimp only [wpT]
  try simp only [Act.put, List.setIfInBounds_toArray, List.set_cons_succ, List.set_cons_zero]
  go_upto_region 3 with fail
  refine wp_region_lin (.op 0 (.op 1 (.op 2 (.op 3 (.op 4 (.op 5 (.op 6 (.op 7 .done)))))))) (by rfl) ?_
  refine wpT_valp 15 (v := .slice AB b.length cb) rfl rfl rfl (by go_simp) ?_
  refine wpT_valp 16 (v := .int .i64 b.length) rfl rfl rfl (by go_simp) ?_
  refine wpT_valp 17 (v := .bool false) rfl rfl rfl (by go_simp) ?_
  refine wpT_valp 18 (v := .bool false) rfl rfl rfl (by go_simp) ?_
  try simp only [Act.put, List.setIfInBounds_toArray, List.set_cons_succ, List.set_cons_zero]
  refine wpT_unw 19 rfl rfl (by simp [Region.wanted, yielded, Act.put]) ?_
  refine wpT_unw 20 rfl rfl (by simp [Region.wanted, yielded, Act.put]) ?_
  refine wpT_unw 21 rfl rfl (by simp [Region.wanted, yielded, Act.put]) ?_
  refine wpT_valp 22 (v := .bool false) rfl rfl rfl (by go_simp) ?_
  dsimp only [wpT]
  try simp only [Act.put, List.setIfInBounds_toArray, List.set_cons_succ, List.set_cons_zero]
  go_upto_region 5 with fail
  refine wp_region_lin (.op 0 (.op 1 (.op 2 (.op 3 (.op 4 (.op 5 (.op 6 (.op 7 .done)))))))) (by rfl) ?_
  refine wpT_ld0 24 Tryd.underlying23 rfl inf_key (w.heap.size) (cs U8 k) rfl rfl rfl (by go_simp) (M4.row (by simp)) (by simp [hk]) rfl ?_
  refine wpT_valp 25 (v := .slice AB b.length cb) rfl rfl rfl (by go_simp) ?_
  refine wpT_callN 26 M4 (l := x) (fun v => .tuple #[v, .int .i64 0]) rfl rfl rfl (by go_simp) (lock_v HX.out HT.out (T0.out _ _ M4).end_ hk (SV.below HVB.out (T0.out _ _ M4).end_) (by omega) (by omega)) (fun v5 w6 S8 M7 T9 K10 => ?_)
  replace T0 := backT T0 T9
  obtain ⟨A11, c12, rfl, -⟩ := (K10.out _ _ M7).1.shape' b.length hx
  refine wpT_valp 23 (v := .tuple #[.slice A11 b.length c12, .int .i64 0]) rfl rfl rfl (by go_simp) ?_
  try simp only [Act.put, List.setIfInBounds_toArray, List.set_cons_succ, List.set_cons_zero]
  refine wpT_valp 27 (v := .slice A11 b.length c12) rfl rfl rfl (by go_simp) ?_
  refine wpT_valp 28 (v := .int .i64 0) rfl rfl rfl (by go_simp) ?_
  refine wpT_valp 5 (v := .slice A11 b.length c12) rfl rfl rfl (by go_simp) ?_
  refine wpT_valp 6 (v := .int .i64 0) rfl rfl rfl (by go_simp) ?_
  dsimp only [wpT]
  try simp only [Act.put, List.setIfInBounds_toArray, List.set_cons_succ, List.set_cons_zero]
  go_upto_region 6 with fail
  refine wp_region_lin (.op 0 (.op 1 (.op 2 (.op 3 (.op 4 (.op 5 (.op 6 (.op 7 .done)))))))) (by rfl) ?_
  refine wpT_ld0 30 Tryd.underlying23 rfl inf_key (w.heap.size) (cs U8 k) rfl rfl rfl (by go_simp) (M7.row (by simp)) (by simp [hk]) rfl ?_
  refine wpT_valp 31 (v := .slice AB b.length cb) rfl rfl rfl (by go_simp) ?_
  refine wpT_callN 32 M7 (l := x) (fun v => .tuple #[v, .int .i64 0]) rfl rfl rfl (by go_simp) (rLock_v w6 k b x _ HX.out hk (SV.below HVB.out (T0.out _ _ M7).end_) (by omega) (by omega)) (fun v13 w14 S16 M15 T17 K18 => ?_)
  replace K10 := backT K10 T17
  replace T0 := backT T0 T17
  obtain ⟨A19, c20, rfl, -⟩ := (K18.out _ _ M15).1.shape' b.length hx
  refine wpT_valp 29 (v := .tuple #[.slice A19 b.length c20, .int .i64 0]) rfl rfl rfl (by go_simp) ?_
  try simp only [Act.put, List.setIfInBounds_toArray, List.set_cons_succ, List.set_cons_zero]
  refine wpT_valp 33 (v := .slice A19 b.length c20) rfl rfl rfl (by go_simp) ?_
  refine wpT_valp 34 (v := .int .i64 0) rfl rfl rfl (by go_simp) ?_
  refine wpT_valp 7 (v := .slice A19 b.length c20) rfl rfl rfl (by go_simp) ?_
  refine wpT_valp 8 (v := .int .i64 0) rfl rfl rfl (by go_simp) ?_
  dsimp only [wpT]
  try simp only [Act.put, List.setIfInBounds_toArray, List.set_cons_succ, List.set_cons_zero]
  go_upto_region 7 with fail
  refine wp_region_lin (.op 0 (.op 1 (.op 2 (.op 3 (.op 4 (.op 5 (.op 6 (.op 7 .done)))))))) (by rfl) ?_
  refine wpT_ld0 36 Tryd.underlying23 rfl inf_key (w.heap.size) (cs U8 k) rfl rfl rfl (by go_simp) (M15.row (by simp)) (by simp [hk]) rfl ?_
  refine wpT_valp 37 (v := .slice AB b.length cb) rfl rfl rfl (by go_simp) ?_
  refine wpT_callN 38 M15 (l := u) (fun v => .tuple #[v, .int .i64 0]) rfl rfl rfl (by go_simp) (unlock_v HU.out HT.out (T0.out _ _ M15).end_ hk (SV.below HVB.out (T0.out _ _ M15).end_) (by omega) (by omega)) (fun v21 w22 S24 M23 T25 K26 => ?_)
  replace K10 := backT K10 T25
  replace K18 := backT K18 T25
  replace T0 := backT T0 T25
  obtain ⟨A27, c28, rfl, -⟩ := (K26.out _ _ M23).1.shape' b.length hu
  refine wpT_valp 35 (v := .tuple #[.slice A27 b.length c28, .int .i64 0]) rfl rfl rfl (by go_simp) ?_
  try simp only [Act.put, List.setIfInBounds_toArray, List.set_cons_succ, List.set_cons_zero]
  refine wpT_valp 39 (v := .slice A27 b.length c28) rfl rfl rfl (by go_simp) ?_
  refine wpT_valp 40 (v := .int .i64 0) rfl rfl rfl (by go_simp) ?_
  refine wpT_valp 9 (v := .slice A27 b.length c28) rfl rfl rfl (by go_simp) ?_
  refine wpT_valp 10 (v := .int .i64 0) rfl rfl rfl (by go_simp) ?_
  dsimp only [wpT]
  try simp only [Act.put, List.setIfInBounds_toArray, List.set_cons_succ, List.set_cons_zero]
  go_upto_region 8 with fail
  refine wp_region_lin (.op 0 (.op 1 (.op 2 (.op 3 (.op 4 (.op 5 (.op 6 (.op 7 .done)))))))) (by rfl) ?_
  refine wpT_ld0 42 Tryd.underlying23 rfl inf_key (w.heap.size) (cs U8 k) rfl rfl rfl (by go_simp) (M23.row (by simp)) (by simp [hk]) rfl ?_
  refine wpT_valp 43 (v := .slice AB b.length cb) rfl rfl rfl (by go_simp) ?_
  refine wpT_callN 44 M23 (l := u) (fun v => .tuple #[v, .int .i64 0]) rfl rfl rfl (by go_simp) (rUnlock_v w22 k b u _ HU.out hk (SV.below HVB.out (T0.out _ _ M23).end_) (by omega) (by omega)) (fun v29 w30 S32 M31 T33 K34 => ?_)
  replace K10 := backT K10 T33
  replace K18 := backT K18 T33
  replace K26 := backT K26 T33
  replace T0 := backT T0 T33
  obtain ⟨A35, c36, rfl, -⟩ := (K34.out _ _ M31).1.shape' b.length hu
  refine wpT_valp 41 (v := .tuple #[.slice A35 b.length c36, .int .i64 0]) rfl rfl rfl (by go_simp) ?_
  try simp only [Act.put, List.setIfInBounds_toArray, List.set_cons_succ, List.set_cons_zero]
  refine wpT_valp 45 (v := .slice A35 b.length c36) rfl rfl rfl (by go_simp) ?_
  refine wpT_valp 46 (v := .int .i64 0) rfl rfl rfl (by go_simp) ?_
  refine wpT_valp 11 (v := .slice A35 b.length c36) rfl rfl rfl (by go_simp) ?_
  refine wpT_valp 12 (v := .int .i64 0) rfl rfl rfl (by go_simp) ?_
  dsimp only [wpT]
  try simp only [Act.put, List.setIfInBounds_toArray, List.set_cons_succ, List.set_cons_zero]
  go_upto_region 9 with fail
  refine wp_region_lin (.op 0 (.op 1 (.op 2 (.op 3 (.op 4 (.op 5 (.op 6 (.op 7 (.op 8 (.op 9 (.op 10 (.op 11 (.op 12 (.op 13 (.op 14 (.op 15 (.op 16 (.op 17 (.op 18 (.op 19 (.op 20 (.op 21 (.op 22 .done))))))))))))))))))))))) (by rfl) ?_
  refine wpT_valp 47 (v := .slice A11 b.length c12) rfl rfl rfl (by go_simp) ?_
  refine wpT_valp 48 (v := .string (Bs x)) rfl rfl rfl (by have s0 := bytes_str (K10.out _ _ M31).1; unfold Sv at s0; go_simp) ?_
  refine wpT_valp 49 (v := .slice A19 b.length c20) rfl rfl rfl (by go_simp) ?_
  refine wpT_valp 50 (v := .string (Bs x)) rfl rfl rfl (by have s0 := bytes_str (K18.out _ _ M31).1; unfold Sv at s0; go_simp) ?_
  try simp only [Act.put, List.setIfInBounds_toArray, List.set_cons_succ, List.set_cons_zero]
  refine wpT_valp 51 (v := .bool true) rfl rfl rfl (by go_simp) ?_
  refine wpT_valp 52 (v := .bool true) rfl rfl rfl (by go_simp) ?_
  refine wpT_valp 53 (v := .int .i64 0) rfl rfl (by simp [Region.wanted, yielded, Act.put]) (by go_simp) ?_
  refine wpT_valp 54 (v := .int .i64 0) rfl rfl (by simp [Region.wanted, yielded, Act.put]) (by go_simp) ?_
  refine wpT_valp 55 (v := .bool true) rfl rfl (by simp [Region.wanted, yielded, Act.put]) (by go_simp) ?_
  try simp only [Act.put, List.setIfInBounds_toArray, List.set_cons_succ, List.set_cons_zero]
  refine wpT_valp 56 (v := .bool true) rfl rfl rfl (by go_simp) ?_
  refine wpT_valp 57 (v := .bool true) rfl rfl rfl (by go_simp) ?_
  refine wpT_valp 58 (v := .slice A27 b.length c28) rfl rfl (by simp [Region.wanted, yielded, Act.put]) (by go_simp) ?_
  refine wpT_valp 59 (v := .string (Bs u)) rfl rfl (by simp [Region.wanted, yielded, Act.put]) (by have s0 := bytes_str (K26.out _ _ M31).1; unfold Sv at s0; go_simp) ?_
  refine wpT_valp 60 (v := .slice A35 b.length c36) rfl rfl (by simp [Region.wanted, yielded, Act.put]) (by go_simp) ?_
  try simp only [Act.put, List.setIfInBounds_toArray, List.set_cons_succ, List.set_cons_zero]
  refine wpT_valp 61 (v := .string (Bs u)) rfl rfl (by simp [Region.wanted, yielded, Act.put]) (by have s0 := bytes_str (K34.out _ _ M31).1; unfold Sv at s0; go_simp) ?_
  refine wpT_valp 62 (v := .bool true) rfl rfl (by simp [Region.wanted, yielded, Act.put]) (by go_simp) ?_
  refine wpT_valp 63 (v := .bool true) rfl rfl rfl (by go_simp) ?_
  refine wpT_valp 64 (v := .bool true) rfl rfl rfl (by go_simp) ?_
  refine wpT_valp 65 (v := .int .i64 0) rfl rfl (by simp [Region.wanted, yielded, Act.put]) (by go_simp) ?_
  try simp only [Act.put, List.setIfInBounds_toArray, List.set_cons_succ, List.set_cons_zero]
  refine wpT_valp 66 (v := .int .i64 0) rfl rfl (by simp [Region.wanted, yielded, Act.put]) (by go_simp) ?_
  refine wpT_valp 67 (v := .bool true) rfl rfl (by simp [Region.wanted, yielded, Act.put]) (by go_simp) ?_
  refine wpT_valp 68 (v := .bool true) rfl rfl rfl (by go_simp) ?_
  refine wpT_valp 4 (v := .bool true) rfl rfl rfl (by go_simp) ?_
  dsimp only [wpT]
  try simp only [Act.put, List.setIfInBounds_toArray, List.set_cons_succ, List.set_cons_zero]
  go_wp2_with fail
  go_ret
  exact ⟨rfl, (T0.out _ _ M31).end_⟩
end Go.Proofs.YtbigmnhjnjeeaaaDoor
