/-
  Law 08: mixing and its undoing; unlike blocks; own work.
-/
import Derived.Test.YtbigmnhjnjeeaaaDoorLi5
set_option linter.unusedSimpArgs false
set_option linter.unusedVariables false
namespace Go.Proofs.YtbigmnhjnjeeaaaDoor
open Go.RowKit
theorem alive8_v {w0 w : World} (hT : KT w0 ∧ 0 < w0.heap.size) (hw : Below w0.heap.size w0 w) : Calls Tryd.prog 15 #[] w fun e w' => e = .returned (.bool true) ∧ Below w.heap.size w w' :=
  alive8_c w ⟨hT.1.below hw hT.2, Nat.lt_of_lt_of_le hT.2 hw.size⟩
attribute [local irreducible] RR RQ Rds LP Li.lock Li.unlock Li.join
set_option maxRecDepth 100000 in
set_option maxHeartbeats 8000000 in
theorem LionBack_w (w : World) (k b : Bs8) (vb : Value) (hT : KT w ∧ 0 < w.heap.size) (hk : k.length = 32) (hvb : BS w vb b) :
    Calls Tryd.prog 5 #[.agg (cs U8 k), vb] w fun e w' => e = .returned (.bool true) ∧ Below w.heap.size w w' := by
  have hmb : b.length ≤ 9223372036854775807 := hvb.len
  have HT := hid hT
  have HVB := hid hvb
  obtain ⟨AB, cb, rfl, -⟩ := hvb.shape
  clear hT hvb
  by_cases h1 : b.length < 33
  · have h1i : (b.length : Int) < 33 := by omega
    have M0 := Mm.start no w
    go_enter Tryd.func5, Tryd.ntmps5
    have M2 := (M0.alloc (cs U8 k) 23 (by decide))
    try simp only [World.size_alloc] at M2
    go_upto_region 1 with fail
    obtain ⟨w1, hw1⟩ : ∃ w1, w1 = (w.alloc (.cells (cs U8 k) 23)) := ⟨_, rfl⟩
    rw [← hw1] at M2 ⊢
    clear hw1
    refine wp_region_lin (.op 0 (.op 1 .done)) (by rfl) ?_
    refine wpT_callv 13 M2 (v := .bool true) rfl rfl rfl (by go_simp) (alive8_v HT.out M2.end_) (fun w3 M4 => ?_)
    refine wpT_valp 14 (v := .bool false) rfl rfl rfl (by go_simp) ?_
    dsimp only [wpT]
    try simp only [Act.put, List.setIfInBounds_toArray, List.set_cons_succ, List.set_cons_zero]
    go_upto_region 3 with fail
    refine wp_region_lin (.op 0 (.op 1 (.op 2 (.op 3 (.op 4 (.op 5 (.op 6 (.op 7 .done)))))))) (by rfl) ?_
    refine wpT_valp 15 (v := .slice AB b.length cb) rfl rfl rfl (by go_simp) ?_
    refine wpT_valp 16 (v := .int .i64 b.length) rfl rfl rfl (by go_simp) ?_
    refine wpT_valp 17 (v := .bool true) rfl rfl rfl (by go_simp) ?_
    refine wpT_valp 18 (v := .bool true) rfl rfl rfl (by go_simp) ?_
    try simp only [Act.put, List.setIfInBounds_toArray, List.set_cons_succ, List.set_cons_zero]
    refine wpT_unw 19 rfl rfl (by simp [Region.wanted, yielded, Act.put]) ?_
    refine wpT_unw 20 rfl rfl (by simp [Region.wanted, yielded, Act.put]) ?_
    refine wpT_unw 21 rfl rfl (by simp [Region.wanted, yielded, Act.put]) ?_
    refine wpT_valp 22 (v := .bool true) rfl rfl rfl (by go_simp) ?_
    dsimp only [wpT]
    try simp only [Act.put, List.setIfInBounds_toArray, List.set_cons_succ, List.set_cons_zero]
    go_upto_region 4 with fail
    refine wp_region_lin (.op 0 .done) (by rfl) ?_
    refine wpT_valp 4 (v := .bool true) rfl rfl rfl (by go_simp) ?_
    dsimp only [wpT]
    try simp only [Act.put, List.setIfInBounds_toArray, List.set_cons_succ, List.set_cons_zero]
    go_wp2_with fail
    go_ret
    exact ⟨rfl, M4.end_⟩
  have h1i : ¬ (b.length : Int) < 33 := by omega
  by_cases h2 : 700 < b.length
  · have h2i : (700 : Int) < (b.length : Int) := by omega
    have M0 := Mm.start no w
    go_enter Tryd.func5, Tryd.ntmps5
    have M2 := (M0.alloc (cs U8 k) 23 (by decide))
    try simp only [World.size_alloc] at M2
    go_upto_region 1 with fail
    obtain ⟨w1, hw1⟩ : ∃ w1, w1 = (w.alloc (.cells (cs U8 k) 23)) := ⟨_, rfl⟩
    rw [← hw1] at M2 ⊢
    clear hw1
    refine wp_region_lin (.op 0 (.op 1 .done)) (by rfl) ?_
    refine wpT_callv 13 M2 (v := .bool true) rfl rfl rfl (by go_simp) (alive8_v HT.out M2.end_) (fun w3 M4 => ?_)
    refine wpT_valp 14 (v := .bool false) rfl rfl rfl (by go_simp) ?_
    dsimp only [wpT]
    try simp only [Act.put, List.setIfInBounds_toArray, List.set_cons_succ, List.set_cons_zero]
    go_upto_region 3 with fail
    refine wp_region_lin (.op 0 (.op 1 (.op 2 (.op 3 (.op 4 (.op 5 (.op 6 (.op 7 .done)))))))) (by rfl) ?_
    refine wpT_valp 15 (v := .slice AB b.length cb) rfl rfl rfl (by go_simp) ?_
    refine wpT_valp 16 (v := .int .i64 b.length) rfl rfl rfl (by go_simp) ?_
    refine wpT_valp 17 (v := .bool false) rfl rfl rfl (by go_simp) ?_
    refine wpT_valp 18 (v := .bool false) rfl rfl rfl (by go_simp) ?_
    try simp only [Act.put, List.setIfInBounds_toArray, List.set_cons_succ, List.set_cons_zero]
    refine wpT_valp 19 (v := .slice AB b.length cb) rfl rfl (by simp [Region.wanted, yielded, Act.put]) (by go_simp) ?_
    refine wpT_valp 20 (v := .int .i64 b.length) rfl rfl (by simp [Region.wanted, yielded, Act.put]) (by go_simp) ?_
    refine wpT_valp 21 (v := .bool true) rfl rfl (by simp [Region.wanted, yielded, Act.put]) (by go_simp) ?_
    refine wpT_valp 22 (v := .bool true) rfl rfl rfl (by go_simp) ?_
    dsimp only [wpT]
    try simp only [Act.put, List.setIfInBounds_toArray, List.set_cons_succ, List.set_cons_zero]
    go_upto_region 4 with fail
    refine wp_region_lin (.op 0 .done) (by rfl) ?_
    refine wpT_valp 4 (v := .bool true) rfl rfl rfl (by go_simp) ?_
    dsimp only [wpT]
    try simp only [Act.put, List.setIfInBounds_toArray, List.set_cons_succ, List.set_cons_zero]
    go_wp2_with fail
    go_ret
    exact ⟨rfl, M4.end_⟩
  have h2i : ¬ (700 : Int) < (b.length : Int) := by omega
  obtain ⟨x, ex⟩ : ∃ x, x = Li.lock k b := ⟨_, rfl⟩
  obtain ⟨u, eu⟩ : ∃ u, u = Li.unlock k b := ⟨_, rfl⟩
  have hx : x.length = b.length := by rw [ex, lock_len _ _ (by omega)]
  have hu : u.length = b.length := by rw [eu, unlock_len _ _ (by omega)]
  have HBX := hid (show b = Li.unlock k x by rw [ex, unlock_lock _ _ (by omega)])
  have HBU := hid (show b = Li.lock k u by rw [eu, lock_unlock _ _ (by omega)])
  have HX := hid ex
  have HU := hid eu
  have T0 := back0 (S := no) (w0 := w)
  clear ex eu
  have M0 := Mm.start no w
  go_enter Tryd.func5, Tryd.ntmps5
  have M2 := (M0.alloc (cs U8 k) 23 (by decide))
  try simp only [World.size_alloc] at M2
  go_upto_region 1 with fail
  obtain ⟨w1, hw1⟩ : ∃ w1, w1 = (w.alloc (.cells (cs U8 k) 23)) := ⟨_, rfl⟩
  rw [← hw1] at M2 ⊢
  clear hw1
  refine wp_region_lin (.op 0 (.op 1 .done)) (by rfl) ?_
  refine wpT_callv 13 M2 (v := .bool true) rfl rfl rfl (by go_simp) (alive8_v HT.out M2.end_) (fun w3 M4 => ?_)
  refine wpT_valp 14 (v := .bool false) rfl rfl rfl (by go_simp) ?_
  dsimp only [wpT]
  try simp only [Act.put, List.setIfInBounds_toArray, List.set_cons_succ, List.set_cons_zero]
  go_upto_region 3 with fail
  refine wp_region_lin (.op 0 (.op 1 (.op 2 (.op 3 (.op 4 (.op 5 (.op 6 (.op 7 .done)))))))) (by rfl) ?_
  refine wpT_valp 15 (v := .slice AB b.length cb) rfl rfl rfl (by go_simp) ?_
  refine wpT_valp 16 (v := .int .i64 b.length) rfl rfl rfl (by go_simp) ?_
  refine wpT_valp 17 (v := .bool false) rfl rfl rfl (by go_simp) ?_
  refine wpT_valp 18 (v := .bool false) rfl rfl rfl (by go_simp) ?_
  try simp only [Act.put, List.setIfInBounds_toArray, List.set_cons_succ, List.set_cons_zero]
  refine wpT_valp 19 (v := .slice AB b.length cb) rfl rfl (by simp [Region.wanted, yielded, Act.put]) (by go_simp) ?_
  refine wpT_valp 20 (v := .int .i64 b.length) rfl rfl (by simp [Region.wanted, yielded, Act.put]) (by go_simp) ?_
  refine wpT_valp 21 (v := .bool false) rfl rfl (by simp [Region.wanted, yielded, Act.put]) (by go_simp) ?_
  refine wpT_valp 22 (v := .bool false) rfl rfl rfl (by go_simp) ?_
  dsimp only [wpT]
  try simp only [Act.put, List.setIfInBounds_toArray, List.set_cons_succ, List.set_cons_zero]
  go_upto_region 5 with fail
  refine wp_region_lin (.op 0 (.op 1 (.op 2 (.op 3 (.op 4 (.op 5 (.op 6 (.op 7 .done)))))))) (by rfl) ?_
  refine wpT_ld0 24 Tryd.underlying23 rfl inf_key (w.heap.size) (cs U8 k) rfl rfl rfl (by go_simp) (M4.row (by simp)) (by simp [hk]) rfl ?_
  refine wpT_valp 25 (v := .slice AB b.length cb) rfl rfl rfl (by go_simp) ?_
  refine wpT_callN 26 M4 (l := x) (fun v => .tuple #[v, .int .i64 0]) rfl rfl rfl (by go_simp) (lock_v HX.out HT.out (T0.out _ _ M4).end_ hk (SV.below HVB.out (T0.out _ _ M4).end_) (by omega) (by omega)) (fun v5 w6 S8 M7 T9 K10 => ?_)
  replace T0 := backT T0 T9
  obtain ⟨A11, c12, rfl, -⟩ := (K10.out _ _ M7).1.shape' b.length hx
  refine wpT_valp 23 (v := .tuple #[.slice A11 b.length c12, .int .i64 0]) rfl rfl rfl (by go_simp) ?_
  try simp only [Act.put, List.setIfInBounds_toArray, List.set_cons_succ, List.set_cons_zero]
  refine wpT_valp 27 (v := .slice A11 b.length c12) rfl rfl rfl (by go_simp) ?_
  refine wpT_valp 28 (v := .int .i64 0) rfl rfl rfl (by go_simp) ?_
  refine wpT_valp 5 (v := .slice A11 b.length c12) rfl rfl rfl (by go_simp) ?_
  refine wpT_valp 6 (v := .int .i64 0) rfl rfl rfl (by go_simp) ?_
  dsimp only [wpT]
  try simp only [Act.put, List.setIfInBounds_toArray, List.set_cons_succ, List.set_cons_zero]
  go_upto_region 6 with fail
  refine wp_region_lin (.op 0 (.op 1 (.op 2 (.op 3 (.op 4 (.op 5 (.op 6 (.op 7 .done)))))))) (by rfl) ?_
  refine wpT_ld0 30 Tryd.underlying23 rfl inf_key (w.heap.size) (cs U8 k) rfl rfl rfl (by go_simp) (M7.row (by simp)) (by simp [hk]) rfl ?_
  refine wpT_valp 31 (v := .slice A11 b.length c12) rfl rfl rfl (by go_simp) ?_
  refine wpT_callN 32 M7 (l := b) (fun v => .tuple #[v, .int .i64 0]) rfl rfl rfl (by go_simp) (unlock_v HBX.out HT.out (T0.out _ _ M7).end_ hk (K10.out _ _ M7).1 (by omega) (by omega)) (fun v13 w14 S16 M15 T17 K18 => ?_)
  replace K10 := backT K10 T17
  replace T0 := backT T0 T17
  obtain ⟨A19, c20, rfl, -⟩ := (K18.out _ _ M15).1.shape' b.length rfl
  refine wpT_valp 29 (v := .tuple #[.slice A19 b.length c20, .int .i64 0]) rfl rfl rfl (by go_simp) ?_
  try simp only [Act.put, List.setIfInBounds_toArray, List.set_cons_succ, List.set_cons_zero]
  refine wpT_valp 33 (v := .slice A19 b.length c20) rfl rfl rfl (by go_simp) ?_
  refine wpT_valp 34 (v := .int .i64 0) rfl rfl rfl (by go_simp) ?_
  refine wpT_valp 7 (v := .slice A19 b.length c20) rfl rfl rfl (by go_simp) ?_
  refine wpT_valp 8 (v := .int .i64 0) rfl rfl rfl (by go_simp) ?_
  dsimp only [wpT]
  try simp only [Act.put, List.setIfInBounds_toArray, List.set_cons_succ, List.set_cons_zero]
  go_upto_region 7 with fail
  refine wp_region_lin (.op 0 (.op 1 (.op 2 (.op 3 (.op 4 (.op 5 (.op 6 (.op 7 .done)))))))) (by rfl) ?_
  refine wpT_ld0 36 Tryd.underlying23 rfl inf_key (w.heap.size) (cs U8 k) rfl rfl rfl (by go_simp) (M15.row (by simp)) (by simp [hk]) rfl ?_
  refine wpT_valp 37 (v := .slice AB b.length cb) rfl rfl rfl (by go_simp) ?_
  refine wpT_callN 38 M15 (l := u) (fun v => .tuple #[v, .int .i64 0]) rfl rfl rfl (by go_simp) (unlock_v HU.out HT.out (T0.out _ _ M15).end_ hk (SV.below HVB.out (T0.out _ _ M15).end_) (by omega) (by omega)) (fun v21 w22 S24 M23 T25 K26 => ?_)
  replace K10 := backT K10 T25
  replace K18 := backT K18 T25
  replace T0 := backT T0 T25
  obtain ⟨A27, c28, rfl, -⟩ := (K26.out _ _ M23).1.shape' b.length hu
  refine wpT_valp 35 (v := .tuple #[.slice A27 b.length c28, .int .i64 0]) rfl rfl rfl (by go_simp) ?_
  try simp only [Act.put, List.setIfInBounds_toArray, List.set_cons_succ, List.set_cons_zero]
  refine wpT_valp 39 (v := .slice A27 b.length c28) rfl rfl rfl (by go_simp) ?_
  refine wpT_valp 40 (v := .int .i64 0) rfl rfl rfl (by go_simp) ?_
  refine wpT_valp 9 (v := .slice A27 b.length c28) rfl rfl rfl (by go_simp) ?_
  refine wpT_valp 10 (v := .int .i64 0) rfl rfl rfl (by go_simp) ?_
  dsimp only [wpT]
  try simp only [Act.put, List.setIfInBounds_toArray, List.set_cons_succ, List.set_cons_zero]
  go_upto_region 8 with fail
  refine wp_region_lin (.op 0 (.op 1 (.op 2 (.op 3 (.op 4 (.op 5 (.op 6 (.op 7 .done)))))))) (by rfl) ?_
  refine wpT_ld0 42 Tryd.underlying23 rfl inf_key (w.heap.size) (cs U8 k) rfl rfl rfl (by go_simp) (M23.row (by simp)) (by simp [hk]) rfl ?_
  refine wpT_valp 43 (v := .slice A27 b.length c28) rfl rfl rfl (by go_simp) ?_
  refine wpT_callN 44 M23 (l := b) (fun v => .tuple #[v, .int .i64 0]) rfl rfl rfl (by go_simp) (lock_v HBU.out HT.out (T0.out _ _ M23).end_ hk (K26.out _ _ M23).1 (by omega) (by omega)) (fun v29 w30 S32 M31 T33 K34 => ?_)
  replace K10 := backT K10 T33
  replace K18 := backT K18 T33
  replace K26 := backT K26 T33
  replace T0 := backT T0 T33
  obtain ⟨A35, c36, rfl, -⟩ := (K34.out _ _ M31).1.shape' b.length rfl
  refine wpT_valp 41 (v := .tuple #[.slice A35 b.length c36, .int .i64 0]) rfl rfl rfl (by go_simp) ?_
  try simp only [Act.put, List.setIfInBounds_toArray, List.set_cons_succ, List.set_cons_zero]
  refine wpT_valp 45 (v := .slice A35 b.length c36) rfl rfl rfl (by go_simp) ?_
  refine wpT_valp 46 (v := .int .i64 0) rfl rfl rfl (by go_simp) ?_
  refine wpT_valp 11 (v := .slice A35 b.length c36) rfl rfl rfl (by go_simp) ?_
  refine wpT_valp 12 (v := .int .i64 0) rfl rfl rfl (by go_simp) ?_
  dsimp only [wpT]
  try simp only [Act.put, List.setIfInBounds_toArray, List.set_cons_succ, List.set_cons_zero]
  go_upto_region 9 with fail
  refine wp_region_lin (.op 0 (.op 1 (.op 2 (.op 3 (.op 4 (.op 5 (.op 6 (.op 7 (.op 8 (.op 9 (.op 10 (.op 11 (.op 12 (.op 13 (.op 14 (.op 15 (.op 16 (.op 17 (.op 18 (.op 19 (.op 20 (.op 21 (.op 22 (.op 23 (.op 24 (.op 25 (.op 26 (.op 27 (.op 28 (.op 29 (.op 30 (.op 31 (.op 32 (.op 33 (.op 34 (.op 35 (.op 36 (.op 37 (.op 38 (.op 39 (.op 40 (.op 41 (.op 42 .done))))))))))))))))))))))))))))))))))))))))))) (by rfl) ?_
  refine wpT_valp 47 (v := .int .i64 0) rfl rfl rfl (by go_simp) ?_
  refine wpT_valp 48 (v := .bool true) rfl rfl rfl (by go_simp) ?_
  refine wpT_valp 49 (v := .bool true) rfl rfl rfl (by go_simp) ?_
  refine wpT_valp 50 (v := .int .i64 0) rfl rfl (by simp [Region.wanted, yielded, Act.put]) (by go_simp) ?_
  try simp only [Act.put, List.setIfInBounds_toArray, List.set_cons_succ, List.set_cons_zero]
  refine wpT_valp 51 (v := .bool true) rfl rfl (by simp [Region.wanted, yielded, Act.put]) (by go_simp) ?_
  refine wpT_valp 52 (v := .bool true) rfl rfl rfl (by go_simp) ?_
  refine wpT_valp 53 (v := .bool true) rfl rfl rfl (by go_simp) ?_
  refine wpT_valp 54 (v := .int .i64 0) rfl rfl (by simp [Region.wanted, yielded, Act.put]) (by go_simp) ?_
  refine wpT_valp 55 (v := .bool true) rfl rfl (by simp [Region.wanted, yielded, Act.put]) (by go_simp) ?_
  try simp only [Act.put, List.setIfInBounds_toArray, List.set_cons_succ, List.set_cons_zero]
  refine wpT_valp 56 (v := .bool true) rfl rfl rfl (by go_simp) ?_
  refine wpT_valp 57 (v := .bool true) rfl rfl rfl (by go_simp) ?_
  refine wpT_valp 58 (v := .int .i64 0) rfl rfl (by simp [Region.wanted, yielded, Act.put]) (by go_simp) ?_
  refine wpT_valp 59 (v := .bool true) rfl rfl (by simp [Region.wanted, yielded, Act.put]) (by go_simp) ?_
  refine wpT_valp 60 (v := .bool true) rfl rfl rfl (by go_simp) ?_
  try simp only [Act.put, List.setIfInBounds_toArray, List.set_cons_succ, List.set_cons_zero]
  refine wpT_valp 61 (v := .bool true) rfl rfl rfl (by go_simp) ?_
  refine wpT_valp 62 (v := .slice A11 b.length c12) rfl rfl (by simp [Region.wanted, yielded, Act.put]) (by go_simp) ?_
  refine wpT_valp 63 (v := .int .i64 b.length) rfl rfl (by simp [Region.wanted, yielded, Act.put]) (by go_simp) ?_
  refine wpT_valp 64 (v := .slice AB b.length cb) rfl rfl (by simp [Region.wanted, yielded, Act.put]) (by go_simp) ?_
  refine wpT_valp 65 (v := .int .i64 b.length) rfl rfl (by simp [Region.wanted, yielded, Act.put]) (by go_simp) ?_
  try simp only [Act.put, List.setIfInBounds_toArray, List.set_cons_succ, List.set_cons_zero]
  refine wpT_valp 66 (v := .bool true) rfl rfl (by simp [Region.wanted, yielded, Act.put]) (by go_simp) ?_
  refine wpT_valp 67 (v := .bool true) rfl rfl rfl (by go_simp) ?_
  refine wpT_valp 68 (v := .bool true) rfl rfl rfl (by go_simp) ?_
  refine wpT_valp 69 (v := .slice A27 b.length c28) rfl rfl (by simp [Region.wanted, yielded, Act.put]) (by go_simp) ?_
  refine wpT_valp 70 (v := .int .i64 b.length) rfl rfl (by simp [Region.wanted, yielded, Act.put]) (by go_simp) ?_
  try simp only [Act.put, List.setIfInBounds_toArray, List.set_cons_succ, List.set_cons_zero]
  refine wpT_valp 71 (v := .slice AB b.length cb) rfl rfl (by simp [Region.wanted, yielded, Act.put]) (by go_simp) ?_
  refine wpT_valp 72 (v := .int .i64 b.length) rfl rfl (by simp [Region.wanted, yielded, Act.put]) (by go_simp) ?_
  refine wpT_valp 73 (v := .bool true) rfl rfl (by simp [Region.wanted, yielded, Act.put]) (by go_simp) ?_
  refine wpT_valp 74 (v := .bool true) rfl rfl rfl (by go_simp) ?_
  refine wpT_valp 75 (v := .bool true) rfl rfl rfl (by go_simp) ?_
  try simp only [Act.put, List.setIfInBounds_toArray, List.set_cons_succ, List.set_cons_zero]
  refine wpT_valp 76 (v := .slice A19 b.length c20) rfl rfl (by simp [Region.wanted, yielded, Act.put]) (by go_simp) ?_
  refine wpT_valp 77 (v := .string (Bs b)) rfl rfl (by simp [Region.wanted, yielded, Act.put]) (by have s0 := bytes_str ((K18.out _ _ M31).1); unfold Sv at s0; go_simp) ?_
  refine wpT_valp 78 (v := .slice AB b.length cb) rfl rfl (by simp [Region.wanted, yielded, Act.put]) (by go_simp) ?_
  refine wpT_valp 79 (v := .string (Bs b)) rfl rfl (by simp [Region.wanted, yielded, Act.put]) (by have s0 := bytes_str ((SV.below HVB.out (T0.out _ _ M31).end_)); unfold Sv at s0; go_simp) ?_
  refine wpT_valp 80 (v := .bool true) rfl rfl (by simp [Region.wanted, yielded, Act.put]) (by go_simp) ?_
  try simp only [Act.put, List.setIfInBounds_toArray, List.set_cons_succ, List.set_cons_zero]
  refine wpT_valp 81 (v := .bool true) rfl rfl rfl (by go_simp) ?_
  refine wpT_valp 82 (v := .bool true) rfl rfl rfl (by go_simp) ?_
  refine wpT_valp 83 (v := .slice A35 b.length c36) rfl rfl (by simp [Region.wanted, yielded, Act.put]) (by go_simp) ?_
  refine wpT_valp 84 (v := .string (Bs b)) rfl rfl (by simp [Region.wanted, yielded, Act.put]) (by have s0 := bytes_str ((K34.out _ _ M31).1); unfold Sv at s0; go_simp) ?_
  refine wpT_valp 85 (v := .slice AB b.length cb) rfl rfl (by simp [Region.wanted, yielded, Act.put]) (by go_simp) ?_
  try simp only [Act.put, List.setIfInBounds_toArray, List.set_cons_succ, List.set_cons_zero]
  refine wpT_valp 86 (v := .string (Bs b)) rfl rfl (by simp [Region.wanted, yielded, Act.put]) (by have s0 := bytes_str ((SV.below HVB.out (T0.out _ _ M31).end_)); unfold Sv at s0; go_simp) ?_
  refine wpT_valp 87 (v := .bool true) rfl rfl (by simp [Region.wanted, yielded, Act.put]) (by go_simp) ?_
  refine wpT_valp 88 (v := .bool true) rfl rfl rfl (by go_simp) ?_
  refine wpT_valp 4 (v := .bool true) rfl rfl rfl (by go_simp) ?_
  dsimp only [wpT]
  try simp only [Act.put, List.setIfInBounds_toArray, List.set_cons_succ, List.set_cons_zero]
  go_wp2_with fail
  go_ret
  exact ⟨rfl, (T0.out _ _ M31).end_⟩
set_option maxRecDepth 100000 in
set_option maxHeartbeats 8000000 in
theorem LionUnlike_w (w : World) (k a b : Bs8) (va vb : Value) (hT : KT w ∧ 0 < w.heap.size) (hk : k.length = 32) (hva : BS w va a) (hvb : BS w vb b) :
    Calls Tryd.prog 6 #[.agg (cs U8 k), va, vb] w fun e w' => e = .returned (.bool true) ∧ Below w.heap.size w w' := by
  have hma : a.length ≤ 9223372036854775807 := hva.len
  have hmb : b.length ≤ 9223372036854775807 := hvb.len
  have HT := hid hT
  have HVA := hid hva
  have HVB := hid hvb
  obtain ⟨AA, ca, rfl, -⟩ := hva.shape
  obtain ⟨AB, cb, rfl, -⟩ := hvb.shape
  clear hT hva hvb
  by_cases h1 : a.length < 33
  · have h1i : (a.length : Int) < 33 := by omega
    have M0 := Mm.start no w
    go_enter Tryd.func6, Tryd.ntmps6
    have M2 := (M0.alloc (cs U8 k) 23 (by decide))
    try simp only [World.size_alloc] at M2
    go_upto_region 1 with fail
    obtain ⟨w1, hw1⟩ : ∃ w1, w1 = (w.alloc (.cells (cs U8 k) 23)) := ⟨_, rfl⟩
    rw [← hw1] at M2 ⊢
    clear hw1
    refine wp_region_lin (.op 0 (.op 1 .done)) (by rfl) ?_
    refine wpT_callv 11 M2 (v := .bool true) rfl rfl rfl (by go_simp) (alive8_v HT.out M2.end_) (fun w3 M4 => ?_)
    refine wpT_valp 12 (v := .bool false) rfl rfl rfl (by go_simp) ?_
    dsimp only [wpT]
    try simp only [Act.put, List.setIfInBounds_toArray, List.set_cons_succ, List.set_cons_zero]
    go_upto_region 3 with fail
    refine wp_region_lin (.op 0 (.op 1 (.op 2 (.op 3 (.op 4 (.op 5 (.op 6 (.op 7 (.op 8 (.op 9 (.op 10 (.op 11 (.op 12 (.op 13 (.op 14 (.op 15 (.op 16 (.op 17 .done)))))))))))))))))) (by rfl) ?_
    refine wpT_valp 13 (v := .slice AA a.length ca) rfl rfl rfl (by go_simp) ?_
    refine wpT_valp 14 (v := .int .i64 a.length) rfl rfl rfl (by go_simp) ?_
    refine wpT_valp 15 (v := .bool true) rfl rfl rfl (by go_simp) ?_
    refine wpT_valp 16 (v := .bool true) rfl rfl rfl (by go_simp) ?_
    try simp only [Act.put, List.setIfInBounds_toArray, List.set_cons_succ, List.set_cons_zero]
    refine wpT_unw 17 rfl rfl (by simp [Region.wanted, yielded, Act.put]) ?_
    refine wpT_unw 18 rfl rfl (by simp [Region.wanted, yielded, Act.put]) ?_
    refine wpT_unw 19 rfl rfl (by simp [Region.wanted, yielded, Act.put]) ?_
    refine wpT_valp 20 (v := .bool true) rfl rfl rfl (by go_simp) ?_
    refine wpT_valp 21 (v := .bool true) rfl rfl rfl (by go_simp) ?_
    try simp only [Act.put, List.setIfInBounds_toArray, List.set_cons_succ, List.set_cons_zero]
    refine wpT_unw 22 rfl rfl (by simp [Region.wanted, yielded, Act.put]) ?_
    refine wpT_unw 23 rfl rfl (by simp [Region.wanted, yielded, Act.put]) ?_
    refine wpT_unw 24 rfl rfl (by simp [Region.wanted, yielded, Act.put]) ?_
    refine wpT_valp 25 (v := .bool true) rfl rfl rfl (by go_simp) ?_
    refine wpT_valp 26 (v := .bool true) rfl rfl rfl (by go_simp) ?_
    try simp only [Act.put, List.setIfInBounds_toArray, List.set_cons_succ, List.set_cons_zero]
    refine wpT_unw 27 rfl rfl (by simp [Region.wanted, yielded, Act.put]) ?_
    refine wpT_unw 28 rfl rfl (by simp [Region.wanted, yielded, Act.put]) ?_
    refine wpT_unw 29 rfl rfl (by simp [Region.wanted, yielded, Act.put]) ?_
    refine wpT_valp 30 (v := .bool true) rfl rfl rfl (by go_simp) ?_
    dsimp only [wpT]
    try simp only [Act.put, List.setIfInBounds_toArray, List.set_cons_succ, List.set_cons_zero]
    go_upto_region 4 with fail
    refine wp_region_lin (.op 0 .done) (by rfl) ?_
    refine wpT_valp 6 (v := .bool true) rfl rfl rfl (by go_simp) ?_
    dsimp only [wpT]
    try simp only [Act.put, List.setIfInBounds_toArray, List.set_cons_succ, List.set_cons_zero]
    go_wp2_with fail
    go_ret
    exact ⟨rfl, M4.end_⟩
  have h1i : ¬ (a.length : Int) < 33 := by omega
  by_cases h2 : 700 < a.length
  · have h2i : (700 : Int) < (a.length : Int) := by omega
    have M0 := Mm.start no w
    go_enter Tryd.func6, Tryd.ntmps6
    have M2 := (M0.alloc (cs U8 k) 23 (by decide))
    try simp only [World.size_alloc] at M2
    go_upto_region 1 with fail
    obtain ⟨w1, hw1⟩ : ∃ w1, w1 = (w.alloc (.cells (cs U8 k) 23)) := ⟨_, rfl⟩
    rw [← hw1] at M2 ⊢
    clear hw1
    refine wp_region_lin (.op 0 (.op 1 .done)) (by rfl) ?_
    refine wpT_callv 11 M2 (v := .bool true) rfl rfl rfl (by go_simp) (alive8_v HT.out M2.end_) (fun w3 M4 => ?_)
    refine wpT_valp 12 (v := .bool false) rfl rfl rfl (by go_simp) ?_
    dsimp only [wpT]
    try simp only [Act.put, List.setIfInBounds_toArray, List.set_cons_succ, List.set_cons_zero]
    go_upto_region 3 with fail
    refine wp_region_lin (.op 0 (.op 1 (.op 2 (.op 3 (.op 4 (.op 5 (.op 6 (.op 7 (.op 8 (.op 9 (.op 10 (.op 11 (.op 12 (.op 13 (.op 14 (.op 15 (.op 16 (.op 17 .done)))))))))))))))))) (by rfl) ?_
    refine wpT_valp 13 (v := .slice AA a.length ca) rfl rfl rfl (by go_simp) ?_
    refine wpT_valp 14 (v := .int .i64 a.length) rfl rfl rfl (by go_simp) ?_
    refine wpT_valp 15 (v := .bool false) rfl rfl rfl (by go_simp) ?_
    refine wpT_valp 16 (v := .bool false) rfl rfl rfl (by go_simp) ?_
    try simp only [Act.put, List.setIfInBounds_toArray, List.set_cons_succ, List.set_cons_zero]
    refine wpT_valp 17 (v := .slice AA a.length ca) rfl rfl (by simp [Region.wanted, yielded, Act.put]) (by go_simp) ?_
    refine wpT_valp 18 (v := .int .i64 a.length) rfl rfl (by simp [Region.wanted, yielded, Act.put]) (by go_simp) ?_
    refine wpT_valp 19 (v := .bool true) rfl rfl (by simp [Region.wanted, yielded, Act.put]) (by go_simp) ?_
    refine wpT_valp 20 (v := .bool true) rfl rfl rfl (by go_simp) ?_
    refine wpT_valp 21 (v := .bool true) rfl rfl rfl (by go_simp) ?_
    try simp only [Act.put, List.setIfInBounds_toArray, List.set_cons_succ, List.set_cons_zero]
    refine wpT_unw 22 rfl rfl (by simp [Region.wanted, yielded, Act.put]) ?_
    refine wpT_unw 23 rfl rfl (by simp [Region.wanted, yielded, Act.put]) ?_
    refine wpT_unw 24 rfl rfl (by simp [Region.wanted, yielded, Act.put]) ?_
    refine wpT_valp 25 (v := .bool true) rfl rfl rfl (by go_simp) ?_
    refine wpT_valp 26 (v := .bool true) rfl rfl rfl (by go_simp) ?_
    try simp only [Act.put, List.setIfInBounds_toArray, List.set_cons_succ, List.set_cons_zero]
    refine wpT_unw 27 rfl rfl (by simp [Region.wanted, yielded, Act.put]) ?_
    refine wpT_unw 28 rfl rfl (by simp [Region.wanted, yielded, Act.put]) ?_
    refine wpT_unw 29 rfl rfl (by simp [Region.wanted, yielded, Act.put]) ?_
    refine wpT_valp 30 (v := .bool true) rfl rfl rfl (by go_simp) ?_
    dsimp only [wpT]
    try simp only [Act.put, List.setIfInBounds_toArray, List.set_cons_succ, List.set_cons_zero]
    go_upto_region 4 with fail
    refine wp_region_lin (.op 0 .done) (by rfl) ?_
    refine wpT_valp 6 (v := .bool true) rfl rfl rfl (by go_simp) ?_
    dsimp only [wpT]
    try simp only [Act.put, List.setIfInBounds_toArray, List.set_cons_succ, List.set_cons_zero]
    go_wp2_with fail
    go_ret
    exact ⟨rfl, M4.end_⟩
  have h2i : ¬ (700 : Int) < (a.length : Int) := by omega
  by_cases h3 : b.length < 33
  · have h3i : (b.length : Int) < 33 := by omega
    have M0 := Mm.start no w
    go_enter Tryd.func6, Tryd.ntmps6
    have M2 := (M0.alloc (cs U8 k) 23 (by decide))
    try simp only [World.size_alloc] at M2
    go_upto_region 1 with fail
    obtain ⟨w1, hw1⟩ : ∃ w1, w1 = (w.alloc (.cells (cs U8 k) 23)) := ⟨_, rfl⟩
    rw [← hw1] at M2 ⊢
    clear hw1
    refine wp_region_lin (.op 0 (.op 1 .done)) (by rfl) ?_
    refine wpT_callv 11 M2 (v := .bool true) rfl rfl rfl (by go_simp) (alive8_v HT.out M2.end_) (fun w3 M4 => ?_)
    refine wpT_valp 12 (v := .bool false) rfl rfl rfl (by go_simp) ?_
    dsimp only [wpT]
    try simp only [Act.put, List.setIfInBounds_toArray, List.set_cons_succ, List.set_cons_zero]
    go_upto_region 3 with fail
    refine wp_region_lin (.op 0 (.op 1 (.op 2 (.op 3 (.op 4 (.op 5 (.op 6 (.op 7 (.op 8 (.op 9 (.op 10 (.op 11 (.op 12 (.op 13 (.op 14 (.op 15 (.op 16 (.op 17 .done)))))))))))))))))) (by rfl) ?_
    refine wpT_valp 13 (v := .slice AA a.length ca) rfl rfl rfl (by go_simp) ?_
    refine wpT_valp 14 (v := .int .i64 a.length) rfl rfl rfl (by go_simp) ?_
    refine wpT_valp 15 (v := .bool false) rfl rfl rfl (by go_simp) ?_
    refine wpT_valp 16 (v := .bool false) rfl rfl rfl (by go_simp) ?_
    try simp only [Act.put, List.setIfInBounds_toArray, List.set_cons_succ, List.set_cons_zero]
    refine wpT_valp 17 (v := .slice AA a.length ca) rfl rfl (by simp [Region.wanted, yielded, Act.put]) (by go_simp) ?_
    refine wpT_valp 18 (v := .int .i64 a.length) rfl rfl (by simp [Region.wanted, yielded, Act.put]) (by go_simp) ?_
    refine wpT_valp 19 (v := .bool false) rfl rfl (by simp [Region.wanted, yielded, Act.put]) (by go_simp) ?_
    refine wpT_valp 20 (v := .bool false) rfl rfl rfl (by go_simp) ?_
    refine wpT_valp 21 (v := .bool false) rfl rfl rfl (by go_simp) ?_
    try simp only [Act.put, List.setIfInBounds_toArray, List.set_cons_succ, List.set_cons_zero]
    refine wpT_valp 22 (v := .slice AB b.length cb) rfl rfl (by simp [Region.wanted, yielded, Act.put]) (by go_simp) ?_
    refine wpT_valp 23 (v := .int .i64 b.length) rfl rfl (by simp [Region.wanted, yielded, Act.put]) (by go_simp) ?_
    refine wpT_valp 24 (v := .bool true) rfl rfl (by simp [Region.wanted, yielded, Act.put]) (by go_simp) ?_
    refine wpT_valp 25 (v := .bool true) rfl rfl rfl (by go_simp) ?_
    refine wpT_valp 26 (v := .bool true) rfl rfl rfl (by go_simp) ?_
    try simp only [Act.put, List.setIfInBounds_toArray, List.set_cons_succ, List.set_cons_zero]
    refine wpT_unw 27 rfl rfl (by simp [Region.wanted, yielded, Act.put]) ?_
    refine wpT_unw 28 rfl rfl (by simp [Region.wanted, yielded, Act.put]) ?_
    refine wpT_unw 29 rfl rfl (by simp [Region.wanted, yielded, Act.put]) ?_
    refine wpT_valp 30 (v := .bool true) rfl rfl rfl (by go_simp) ?_
    dsimp only [wpT]
    try simp only [Act.put, List.setIfInBounds_toArray, List.set_cons_succ, List.set_cons_zero]
    go_upto_region 4 with fail
    refine wp_region_lin (.op 0 .done) (by rfl) ?_
    refine wpT_valp 6 (v := .bool true) rfl rfl rfl (by go_simp) ?_
    dsimp only [wpT]
    try simp only [Act.put, List.setIfInBounds_toArray, List.set_cons_succ, List.set_cons_zero]
    go_wp2_with fail
    go_ret
    exact ⟨rfl, M4.end_⟩
  have h3i : ¬ (b.length : Int) < 33 := by omega
  by_cases h4 : 700 < b.length
  · have h4i : (700 : Int) < (b.length : Int) := by omega
    have M0 := Mm.start no w
    go_enter Tryd.func6, Tryd.ntmps6
    have M2 := (M0.alloc (cs U8 k) 23 (by decide))
    try simp only [World.size_alloc] at M2
    go_upto_region 1 with fail
    obtain ⟨w1, hw1⟩ : ∃ w1, w1 = (w.alloc (.cells (cs U8 k) 23)) := ⟨_, rfl⟩
    rw [← hw1] at M2 ⊢
    clear hw1
    refine wp_region_lin (.op 0 (.op 1 .done)) (by rfl) ?_
    refine wpT_callv 11 M2 (v := .bool true) rfl rfl rfl (by go_simp) (alive8_v HT.out M2.end_) (fun w3 M4 => ?_)
    refine wpT_valp 12 (v := .bool false) rfl rfl rfl (by go_simp) ?_
    dsimp only [wpT]
    try simp only [Act.put, List.setIfInBounds_toArray, List.set_cons_succ, List.set_cons_zero]
    go_upto_region 3 with fail
    refine wp_region_lin (.op 0 (.op 1 (.op 2 (.op 3 (.op 4 (.op 5 (.op 6 (.op 7 (.op 8 (.op 9 (.op 10 (.op 11 (.op 12 (.op 13 (.op 14 (.op 15 (.op 16 (.op 17 .done)))))))))))))))))) (by rfl) ?_
    refine wpT_valp 13 (v := .slice AA a.length ca) rfl rfl rfl (by go_simp) ?_
    refine wpT_valp 14 (v := .int .i64 a.length) rfl rfl rfl (by go_simp) ?_
    refine wpT_valp 15 (v := .bool false) rfl rfl rfl (by go_simp) ?_
    refine wpT_valp 16 (v := .bool false) rfl rfl rfl (by go_simp) ?_
    try simp only [Act.put, List.setIfInBounds_toArray, List.set_cons_succ, List.set_cons_zero]
    refine wpT_valp 17 (v := .slice AA a.length ca) rfl rfl (by simp [Region.wanted, yielded, Act.put]) (by go_simp) ?_
    refine wpT_valp 18 (v := .int .i64 a.length) rfl rfl (by simp [Region.wanted, yielded, Act.put]) (by go_simp) ?_
    refine wpT_valp 19 (v := .bool false) rfl rfl (by simp [Region.wanted, yielded, Act.put]) (by go_simp) ?_
    refine wpT_valp 20 (v := .bool false) rfl rfl rfl (by go_simp) ?_
    refine wpT_valp 21 (v := .bool false) rfl rfl rfl (by go_simp) ?_
    try simp only [Act.put, List.setIfInBounds_toArray, List.set_cons_succ, List.set_cons_zero]
    refine wpT_valp 22 (v := .slice AB b.length cb) rfl rfl (by simp [Region.wanted, yielded, Act.put]) (by go_simp) ?_
    refine wpT_valp 23 (v := .int .i64 b.length) rfl rfl (by simp [Region.wanted, yielded, Act.put]) (by go_simp) ?_
    refine wpT_valp 24 (v := .bool false) rfl rfl (by simp [Region.wanted, yielded, Act.put]) (by go_simp) ?_
    refine wpT_valp 25 (v := .bool false) rfl rfl rfl (by go_simp) ?_
    refine wpT_valp 26 (v := .bool false) rfl rfl rfl (by go_simp) ?_
    try simp only [Act.put, List.setIfInBounds_toArray, List.set_cons_succ, List.set_cons_zero]
    refine wpT_valp 27 (v := .slice AB b.length cb) rfl rfl (by simp [Region.wanted, yielded, Act.put]) (by go_simp) ?_
    refine wpT_valp 28 (v := .int .i64 b.length) rfl rfl (by simp [Region.wanted, yielded, Act.put]) (by go_simp) ?_
    refine wpT_valp 29 (v := .bool true) rfl rfl (by simp [Region.wanted, yielded, Act.put]) (by go_simp) ?_
    refine wpT_valp 30 (v := .bool true) rfl rfl rfl (by go_simp) ?_
    dsimp only [wpT]
    try simp only [Act.put, List.setIfInBounds_toArray, List.set_cons_succ, List.set_cons_zero]
    go_upto_region 4 with fail
    refine wp_region_lin (.op 0 .done) (by rfl) ?_
    refine wpT_valp 6 (v := .bool true) rfl rfl rfl (by go_simp) ?_
    dsimp only [wpT]
    try simp only [Act.put, List.setIfInBounds_toArray, List.set_cons_succ, List.set_cons_zero]
    go_wp2_with fail
    go_ret
    exact ⟨rfl, M4.end_⟩
  have h4i : ¬ (700 : Int) < (b.length : Int) := by omega
  obtain ⟨x, ex⟩ : ∃ x, x = Li.lock k a := ⟨_, rfl⟩
  obtain ⟨y, ey⟩ : ∃ y, y = Li.lock k b := ⟨_, rfl⟩
  have hx : x.length = a.length := by rw [ex, lock_len _ _ (by omega)]
  have hy : y.length = b.length := by rw [ey, lock_len _ _ (by omega)]
  obtain ⟨r, hr⟩ : ∃ r, (x == y) = r := ⟨_, rfl⟩
  have HR2 : Hid ((a == b) = r) := hid (by
    rw [← hr, Bool.eq_iff_iff, beq_iff_eq, beq_iff_eq]
    refine ⟨fun e => by rw [ex, ey, e], fun e => ?_⟩
    rw [← unlock_lock k a (by omega), ← unlock_lock k b (by omega), ← ex, ← ey, e])
  have HR := hid hr
  have HX := hid ex
  have HY := hid ey
  have T0 := back0 (S := no) (w0 := w)
  clear ex ey hr
  have M0 := Mm.start no w
  go_enter Tryd.func6, Tryd.ntmps6
  have M2 := (M0.alloc (cs U8 k) 23 (by decide))
  try simp only [World.size_alloc] at M2
  go_upto_region 1 with fail
  obtain ⟨w1, hw1⟩ : ∃ w1, w1 = (w.alloc (.cells (cs U8 k) 23)) := ⟨_, rfl⟩
  rw [← hw1] at M2 ⊢
  clear hw1
  refine wp_region_lin (.op 0 (.op 1 .done)) (by rfl) ?_
  refine wpT_callv 11 M2 (v := .bool true) rfl rfl rfl (by go_simp) (alive8_v HT.out M2.end_) (fun w3 M4 => ?_)
  refine wpT_valp 12 (v := .bool false) rfl rfl rfl (by go_simp) ?_
  dsimp only [wpT]
  try simp only [Act.put, List.setIfInBounds_toArray, List.set_cons_succ, List.set_cons_zero]
  go_upto_region 3 with fail
  refine wp_region_lin (.op 0 (.op 1 (.op 2 (.op 3 (.op 4 (.op 5 (.op 6 (.op 7 (.op 8 (.op 9 (.op 10 (.op 11 (.op 12 (.op 13 (.op 14 (.op 15 (.op 16 (.op 17 .done)))))))))))))))))) (by rfl) ?_
  refine wpT_valp 13 (v := .slice AA a.length ca) rfl rfl rfl (by go_simp) ?_
  refine wpT_valp 14 (v := .int .i64 a.length) rfl rfl rfl (by go_simp) ?_
  refine wpT_valp 15 (v := .bool false) rfl rfl rfl (by go_simp) ?_
  refine wpT_valp 16 (v := .bool false) rfl rfl rfl (by go_simp) ?_
  try simp only [Act.put, List.setIfInBounds_toArray, List.set_cons_succ, List.set_cons_zero]
  refine wpT_valp 17 (v := .slice AA a.length ca) rfl rfl (by simp [Region.wanted, yielded, Act.put]) (by go_simp) ?_
  refine wpT_valp 18 (v := .int .i64 a.length) rfl rfl (by simp [Region.wanted, yielded, Act.put]) (by go_simp) ?_
  refine wpT_valp 19 (v := .bool false) rfl rfl (by simp [Region.wanted, yielded, Act.put]) (by go_simp) ?_
  refine wpT_valp 20 (v := .bool false) rfl rfl rfl (by go_simp) ?_
  refine wpT_valp 21 (v := .bool false) rfl rfl rfl (by go_simp) ?_
  try simp only [Act.put, List.setIfInBounds_toArray, List.set_cons_succ, List.set_cons_zero]
  refine wpT_valp 22 (v := .slice AB b.length cb) rfl rfl (by simp [Region.wanted, yielded, Act.put]) (by go_simp) ?_
  refine wpT_valp 23 (v := .int .i64 b.length) rfl rfl (by simp [Region.wanted, yielded, Act.put]) (by go_simp) ?_
  refine wpT_valp 24 (v := .bool false) rfl rfl (by simp [Region.wanted, yielded, Act.put]) (by go_simp) ?_
  refine wpT_valp 25 (v := .bool false) rfl rfl rfl (by go_simp) ?_
  refine wpT_valp 26 (v := .bool false) rfl rfl rfl (by go_simp) ?_
  try simp only [Act.put, List.setIfInBounds_toArray, List.set_cons_succ, List.set_cons_zero]
  refine wpT_valp 27 (v := .slice AB b.length cb) rfl rfl (by simp [Region.wanted, yielded, Act.put]) (by go_simp) ?_
  refine wpT_valp 28 (v := .int .i64 b.length) rfl rfl (by simp [Region.wanted, yielded, Act.put]) (by go_simp) ?_
  refine wpT_valp 29 (v := .bool false) rfl rfl (by simp [Region.wanted, yielded, Act.put]) (by go_simp) ?_
  refine wpT_valp 30 (v := .bool false) rfl rfl rfl (by go_simp) ?_
  dsimp only [wpT]
  try simp only [Act.put, List.setIfInBounds_toArray, List.set_cons_succ, List.set_cons_zero]
  go_upto_region 5 with fail
  refine wp_region_lin (.op 0 (.op 1 (.op 2 (.op 3 (.op 4 (.op 5 (.op 6 (.op 7 .done)))))))) (by rfl) ?_
  refine wpT_ld0 32 Tryd.underlying23 rfl inf_key (w.heap.size) (cs U8 k) rfl rfl rfl (by go_simp) (M4.row (by simp)) (by simp [hk]) rfl ?_
  refine wpT_valp 33 (v := .slice AA a.length ca) rfl rfl rfl (by go_simp) ?_
  refine wpT_callN 34 M4 (l := x) (fun v => .tuple #[v, .int .i64 0]) rfl rfl rfl (by go_simp) (lock_v HX.out HT.out (T0.out _ _ M4).end_ hk (SV.below HVA.out (T0.out _ _ M4).end_) (by omega) (by omega)) (fun v5 w6 S8 M7 T9 K10 => ?_)
  replace T0 := backT T0 T9
  obtain ⟨A11, c12, rfl, -⟩ := (K10.out _ _ M7).1.shape' a.length hx
  refine wpT_valp 31 (v := .tuple #[.slice A11 a.length c12, .int .i64 0]) rfl rfl rfl (by go_simp) ?_
  try simp only [Act.put, List.setIfInBounds_toArray, List.set_cons_succ, List.set_cons_zero]
  refine wpT_valp 35 (v := .slice A11 a.length c12) rfl rfl rfl (by go_simp) ?_
  refine wpT_valp 36 (v := .int .i64 0) rfl rfl rfl (by go_simp) ?_
  refine wpT_valp 7 (v := .slice A11 a.length c12) rfl rfl rfl (by go_simp) ?_
  refine wpT_valp 8 (v := .int .i64 0) rfl rfl rfl (by go_simp) ?_
  dsimp only [wpT]
  try simp only [Act.put, List.setIfInBounds_toArray, List.set_cons_succ, List.set_cons_zero]
  go_upto_region 6 with fail
  refine wp_region_lin (.op 0 (.op 1 (.op 2 (.op 3 (.op 4 (.op 5 (.op 6 (.op 7 .done)))))))) (by rfl) ?_
  refine wpT_ld0 38 Tryd.underlying23 rfl inf_key (w.heap.size) (cs U8 k) rfl rfl rfl (by go_simp) (M7.row (by simp)) (by simp [hk]) rfl ?_
  refine wpT_valp 39 (v := .slice AB b.length cb) rfl rfl rfl (by go_simp) ?_
  refine wpT_callN 40 M7 (l := y) (fun v => .tuple #[v, .int .i64 0]) rfl rfl rfl (by go_simp) (lock_v HY.out HT.out (T0.out _ _ M7).end_ hk (SV.below HVB.out (T0.out _ _ M7).end_) (by omega) (by omega)) (fun v13 w14 S16 M15 T17 K18 => ?_)
  replace K10 := backT K10 T17
  replace T0 := backT T0 T17
  obtain ⟨A19, c20, rfl, -⟩ := (K18.out _ _ M15).1.shape' b.length hy
  refine wpT_valp 37 (v := .tuple #[.slice A19 b.length c20, .int .i64 0]) rfl rfl rfl (by go_simp) ?_
  try simp only [Act.put, List.setIfInBounds_toArray, List.set_cons_succ, List.set_cons_zero]
  refine wpT_valp 41 (v := .slice A19 b.length c20) rfl rfl rfl (by go_simp) ?_
  refine wpT_valp 42 (v := .int .i64 0) rfl rfl rfl (by go_simp) ?_
  refine wpT_valp 9 (v := .slice A19 b.length c20) rfl rfl rfl (by go_simp) ?_
  refine wpT_valp 10 (v := .int .i64 0) rfl rfl rfl (by go_simp) ?_
  dsimp only [wpT]
  try simp only [Act.put, List.setIfInBounds_toArray, List.set_cons_succ, List.set_cons_zero]
  go_upto_region 7 with fail
  refine wp_region_lin (.op 0 (.op 1 (.op 2 (.op 3 (.op 4 (.op 5 (.op 6 (.op 7 (.op 8 (.op 9 (.op 10 (.op 11 (.op 12 (.op 13 (.op 14 (.op 15 (.op 16 (.op 17 (.op 18 (.op 19 .done)))))))))))))))))))) (by rfl) ?_
  refine wpT_valp 43 (v := .int .i64 0) rfl rfl rfl (by go_simp) ?_
  refine wpT_valp 44 (v := .bool true) rfl rfl rfl (by go_simp) ?_
  refine wpT_valp 45 (v := .bool true) rfl rfl rfl (by go_simp) ?_
  refine wpT_valp 46 (v := .int .i64 0) rfl rfl (by simp [Region.wanted, yielded, Act.put]) (by go_simp) ?_
  try simp only [Act.put, List.setIfInBounds_toArray, List.set_cons_succ, List.set_cons_zero]
  refine wpT_valp 47 (v := .bool true) rfl rfl (by simp [Region.wanted, yielded, Act.put]) (by go_simp) ?_
  refine wpT_valp 48 (v := .bool true) rfl rfl rfl (by go_simp) ?_
  refine wpT_valp 49 (v := .bool true) rfl rfl rfl (by go_simp) ?_
  refine wpT_valp 50 (v := .slice A11 a.length c12) rfl rfl (by simp [Region.wanted, yielded, Act.put]) (by go_simp) ?_
  refine wpT_valp 51 (v := .string (Bs x)) rfl rfl (by simp [Region.wanted, yielded, Act.put]) (by have s0 := bytes_str ((K10.out _ _ M15).1); unfold Sv at s0; go_simp) ?_
  try simp only [Act.put, List.setIfInBounds_toArray, List.set_cons_succ, List.set_cons_zero]
  refine wpT_valp 52 (v := .slice A19 b.length c20) rfl rfl (by simp [Region.wanted, yielded, Act.put]) (by go_simp) ?_
  refine wpT_valp 53 (v := .string (Bs y)) rfl rfl (by simp [Region.wanted, yielded, Act.put]) (by have s0 := bytes_str ((K18.out _ _ M15).1); unfold Sv at s0; go_simp) ?_
  refine wpT_valp 54 (v := .bool r) rfl rfl (by simp [Region.wanted, yielded, Act.put]) (by have q := str_tl6 x y; have q2 := HR.out; go_simp) ?_
  refine wpT_valp 55 (v := .slice AA a.length ca) rfl rfl (by simp [Region.wanted, yielded, Act.put]) (by go_simp) ?_
  refine wpT_valp 56 (v := .string (Bs a)) rfl rfl (by simp [Region.wanted, yielded, Act.put]) (by have s0 := bytes_str ((SV.below HVA.out (T0.out _ _ M15).end_)); unfold Sv at s0; go_simp) ?_
  try simp only [Act.put, List.setIfInBounds_toArray, List.set_cons_succ, List.set_cons_zero]
  refine wpT_valp 57 (v := .slice AB b.length cb) rfl rfl (by simp [Region.wanted, yielded, Act.put]) (by go_simp) ?_
  refine wpT_valp 58 (v := .string (Bs b)) rfl rfl (by simp [Region.wanted, yielded, Act.put]) (by have s0 := bytes_str ((SV.below HVB.out (T0.out _ _ M15).end_)); unfold Sv at s0; go_simp) ?_
  refine wpT_valp 59 (v := .bool r) rfl rfl (by simp [Region.wanted, yielded, Act.put]) (by have q := str_tl6 a b; have q2 := HR2.out; go_simp) ?_
  refine wpT_valp 60 (v := .bool true) rfl rfl (by simp [Region.wanted, yielded, Act.put]) (by go_simp) ?_
  refine wpT_valp 61 (v := .bool true) rfl rfl rfl (by go_simp) ?_
  try simp only [Act.put, List.setIfInBounds_toArray, List.set_cons_succ, List.set_cons_zero]
  refine wpT_valp 6 (v := .bool true) rfl rfl rfl (by go_simp) ?_
  dsimp only [wpT]
  try simp only [Act.put, List.setIfInBounds_toArray, List.set_cons_succ, List.set_cons_zero]
  go_wp2_with fail
  go_ret
  exact ⟨rfl, (T0.out _ _ M15).end_⟩
end Go.Proofs.YtbigmnhjnjeeaaaDoor
