/-
  Law 06: what was sealed is opened; bytes are opened just if they are what is sealed of what comes out; own work.
-/
import Derived.Test.YtbigmnhjnjeeaaaDoorAea3
set_option linter.unusedSimpArgs false
set_option linter.unusedVariables false
namespace Go.Proofs.YtbigmnhjnjeeaaaDoor
open Go.RowKit
theorem alive6_v {w0 w : World} (hT : KT w0 ∧ 0 < w0.heap.size) (hw : Below w0.heap.size w0 w) : Calls Tryd.prog 20 #[] w fun e w' => e = .returned (.bool true) ∧ Below w.heap.size w w' :=
  alive6_c w ⟨hT.1.below hw hT.2, Nat.lt_of_lt_of_le hT.2 hw.size⟩
attribute [local irreducible] Ad.sealed Ad.tag Ad.hid
set_option maxRecDepth 100000 in
set_option maxHeartbeats 8000000 in
theorem AeadBack_w (w : World) (k o b : List (BitVec 8)) (vo vb : Value) (hT : KT w ∧ 0 < w.heap.size) (hk : k.length = 32) (hvo : BS w vo o) (hvb : BS w vb b) :
    Calls Tryd.prog 9 #[.agg (cs U8 k), vo, vb] w fun e w' => e = .returned (.bool true) ∧ Below w.heap.size w w' := by
  have hmo : o.length ≤ 9223372036854775807 := hvo.len
  have hmb : b.length ≤ 9223372036854775807 := hvb.len
  have HT := hid hT
  have HVO := hid hvo
  obtain ⟨AO, co, rfl, -⟩ := hvo.shape
  have HVB := hid hvb
  obtain ⟨AB, cb, rfl, -⟩ := hvb.shape
  clear hT hvo hvb
  have hn : True := trivial
  by_cases h1 : 1500 < o.length
  · have h1i : (1500 : Int) < (o.length : Int) := by omega
    have M0 := Mm.start no w
    go_enter Tryd.func9, Tryd.ntmps9
    have M2 := (M0.alloc (cs U8 k) 23 (by decide))
    try simp only [World.size_alloc] at M2
    go_upto_region 1 with fail
    obtain ⟨w1, hw1⟩ : ∃ w1, w1 = (w.alloc (.cells (cs U8 k) 23)) := ⟨_, rfl⟩
    rw [← hw1] at M2 ⊢
    clear hw1
    refine wp_region_lin (.op 0 (.op 1 .done)) (by rfl) ?_
    refine wpT_callv 12 M2 (v := .bool true) rfl rfl rfl (by go_simp) (alive6_v HT.out M2.end_) (fun w3 M4 => ?_)
    refine wpT_valp 13 (v := .bool false) rfl rfl rfl (by go_simp) ?_
    dsimp only [wpT]
    try simp only [Act.put, List.setIfInBounds_toArray, List.set_cons_succ, List.set_cons_zero]
    go_upto_region 3 with fail
    refine wp_region_lin (.op 0 (.op 1 (.op 2 (.op 3 (.op 4 (.op 5 (.op 6 (.op 7 .done)))))))) (by rfl) ?_
    refine wpT_valp 14 (v := .slice AO o.length co) rfl rfl rfl (by go_simp) ?_
    refine wpT_valp 15 (v := .int .i64 o.length) rfl rfl rfl (by go_simp) ?_
    refine wpT_valp 16 (v := .bool true) rfl rfl rfl (by go_simp) ?_
    refine wpT_valp 17 (v := .bool true) rfl rfl rfl (by go_simp) ?_
    try simp only [Act.put, List.setIfInBounds_toArray, List.set_cons_succ, List.set_cons_zero]
    refine wpT_unw 18 rfl rfl (by simp [Region.wanted, yielded, Act.put]) ?_
    refine wpT_unw 19 rfl rfl (by simp [Region.wanted, yielded, Act.put]) ?_
    refine wpT_unw 20 rfl rfl (by simp [Region.wanted, yielded, Act.put]) ?_
    refine wpT_valp 21 (v := .bool true) rfl rfl rfl (by go_simp) ?_
    dsimp only [wpT]
    try simp only [Act.put, List.setIfInBounds_toArray, List.set_cons_succ, List.set_cons_zero]
    go_upto_region 4 with fail
    refine wp_region_lin (.op 0 .done) (by rfl) ?_
    refine wpT_valp 6 (v := .bool true) rfl rfl rfl (by go_simp) ?_
    dsimp only [wpT]
    try simp only [Act.put, List.setIfInBounds_toArray, List.set_cons_succ, List.set_cons_zero]
    go_wp2_with fail
    go_ret
    exact ⟨rfl, M4.end_⟩
  have h1i : ¬ (1500 : Int) < (o.length : Int) := by omega
  by_cases h2 : 1500 < b.length
  · have h2i : (1500 : Int) < (b.length : Int) := by omega
    have M0 := Mm.start no w
    go_enter Tryd.func9, Tryd.ntmps9
    have M2 := (M0.alloc (cs U8 k) 23 (by decide))
    try simp only [World.size_alloc] at M2
    go_upto_region 1 with fail
    obtain ⟨w1, hw1⟩ : ∃ w1, w1 = (w.alloc (.cells (cs U8 k) 23)) := ⟨_, rfl⟩
    rw [← hw1] at M2 ⊢
    clear hw1
    refine wp_region_lin (.op 0 (.op 1 .done)) (by rfl) ?_
    refine wpT_callv 12 M2 (v := .bool true) rfl rfl rfl (by go_simp) (alive6_v HT.out M2.end_) (fun w3 M4 => ?_)
    refine wpT_valp 13 (v := .bool false) rfl rfl rfl (by go_simp) ?_
    dsimp only [wpT]
    try simp only [Act.put, List.setIfInBounds_toArray, List.set_cons_succ, List.set_cons_zero]
    go_upto_region 3 with fail
    refine wp_region_lin (.op 0 (.op 1 (.op 2 (.op 3 (.op 4 (.op 5 (.op 6 (.op 7 .done)))))))) (by rfl) ?_
    refine wpT_valp 14 (v := .slice AO o.length co) rfl rfl rfl (by go_simp) ?_
    refine wpT_valp 15 (v := .int .i64 o.length) rfl rfl rfl (by go_simp) ?_
    refine wpT_valp 16 (v := .bool false) rfl rfl rfl (by go_simp) ?_
    refine wpT_valp 17 (v := .bool false) rfl rfl rfl (by go_simp) ?_
    try simp only [Act.put, List.setIfInBounds_toArray, List.set_cons_succ, List.set_cons_zero]
    refine wpT_valp 18 (v := .slice AB b.length cb) rfl rfl (by simp [Region.wanted, yielded, Act.put]) (by go_simp) ?_
    refine wpT_valp 19 (v := .int .i64 b.length) rfl rfl (by simp [Region.wanted, yielded, Act.put]) (by go_simp) ?_
    refine wpT_valp 20 (v := .bool true) rfl rfl (by simp [Region.wanted, yielded, Act.put]) (by go_simp) ?_
    refine wpT_valp 21 (v := .bool true) rfl rfl rfl (by go_simp) ?_
    dsimp only [wpT]
    try simp only [Act.put, List.setIfInBounds_toArray, List.set_cons_succ, List.set_cons_zero]
    go_upto_region 4 with fail
    refine wp_region_lin (.op 0 .done) (by rfl) ?_
    refine wpT_valp 6 (v := .bool true) rfl rfl rfl (by go_simp) ?_
    dsimp only [wpT]
    try simp only [Act.put, List.setIfInBounds_toArray, List.set_cons_succ, List.set_cons_zero]
    go_wp2_with fail
    go_ret
    exact ⟨rfl, M4.end_⟩
  have h2i : ¬ (1500 : Int) < (b.length : Int) := by omega
  clear hn
  obtain ⟨n, en⟩ : ∃ n, n = k.drop 20 := ⟨_, rfl⟩
  have hn : n.length = 12 := by rw [en]; simp; omega
  have HNK := hid (show (cs U8 k).extract 20 (20 + 12) = cs U8 n by rw [cs_extract, en]; congr 1; rw [List.take_of_length_le (by omega)])
  obtain ⟨s, es⟩ : ∃ s, s = Ad.sealed k n o b := ⟨_, rfl⟩
  obtain ⟨hs, ht, hh⟩ := sealed_open es
  obtain ⟨L16, hL16⟩ : ∃ L16, L16 = b.length + 16 := ⟨_, rfl⟩
  have hsL : s.length = L16 := by omega
  have hL2 : L16 ≤ 1516 := by omega
  have hL3 : 16 ≤ L16 := by omega
  have HL16 := hid (show IntKind.i64.wrap ((b.length : Int) + 16) = (L16 : Int) by rw [i64m _ (by omega) (by omega)]; omega)
  have HS := hid es
  have HTG := hid ht
  have HH := hid hh
  have T0 := back0 (S := no) (w0 := w)
  clear es ht hh en hs hL16
  have M0 := Mm.start no w
  go_enter Tryd.func9, Tryd.ntmps9
  have M2 := (M0.alloc (cs U8 k) 23 (by decide))
  try simp only [World.size_alloc] at M2
  go_upto_region 1 with fail
  obtain ⟨w1, hw1⟩ : ∃ w1, w1 = (w.alloc (.cells (cs U8 k) 23)) := ⟨_, rfl⟩
  rw [← hw1] at M2 ⊢
  clear hw1
  refine wp_region_lin (.op 0 (.op 1 .done)) (by rfl) ?_
  refine wpT_callv 12 M2 (v := .bool true) rfl rfl rfl (by go_simp) (alive6_v HT.out M2.end_) (fun w3 M4 => ?_)
  refine wpT_valp 13 (v := .bool false) rfl rfl rfl (by go_simp) ?_
  dsimp only [wpT]
  try simp only [Act.put, List.setIfInBounds_toArray, List.set_cons_succ, List.set_cons_zero]
  go_upto_region 3 with fail
  refine wp_region_lin (.op 0 (.op 1 (.op 2 (.op 3 (.op 4 (.op 5 (.op 6 (.op 7 .done)))))))) (by rfl) ?_
  refine wpT_valp 14 (v := .slice AO o.length co) rfl rfl rfl (by go_simp) ?_
  refine wpT_valp 15 (v := .int .i64 o.length) rfl rfl rfl (by go_simp) ?_
  refine wpT_valp 16 (v := .bool false) rfl rfl rfl (by go_simp) ?_
  refine wpT_valp 17 (v := .bool false) rfl rfl rfl (by go_simp) ?_
  try simp only [Act.put, List.setIfInBounds_toArray, List.set_cons_succ, List.set_cons_zero]
  refine wpT_valp 18 (v := .slice AB b.length cb) rfl rfl (by simp [Region.wanted, yielded, Act.put]) (by go_simp) ?_
  refine wpT_valp 19 (v := .int .i64 b.length) rfl rfl (by simp [Region.wanted, yielded, Act.put]) (by go_simp) ?_
  refine wpT_valp 20 (v := .bool false) rfl rfl (by simp [Region.wanted, yielded, Act.put]) (by go_simp) ?_
  refine wpT_valp 21 (v := .bool false) rfl rfl rfl (by go_simp) ?_
  dsimp only [wpT]
  try simp only [Act.put, List.setIfInBounds_toArray, List.set_cons_succ, List.set_cons_zero]
  go_upto_region 5 with fail
  refine wp_region_lin (.op 0 (.op 1 (.op 2 (.op 3 (.op 4 .done))))) (by rfl) ?_
  refine wpT_valp 22 (v := .slice (some ⟨w.heap.size, 20, none⟩) 12 12) rfl rfl rfl (by go_simp) ?_
  refine wpT_valp 23 (v := .pointer (some ⟨w.heap.size, 20, none⟩)) rfl rfl rfl (by go_simp) ?_
  refine wpT_ldm 24 Tryd.underlying29 rfl inf_nonce (w.heap.size) 20 (cs U8 k) (cs U8 n) rfl rfl rfl (by go_simp) (M4.row (by simp)) (by simp [hk]) HNK.out rfl ?_
  refine wpT_new (z := .agg (cs U8 (zs 12))) 7 M4 (by kernel_rfl) (by decide) rfl rfl rfl rfl (fun b5 w6 M7 => ?_)
  try dsimp only [Value.cells] at M7
  try simp only [Act.put, List.setIfInBounds_toArray, List.set_cons_succ, List.set_cons_zero]
  refine wpT_st0 M7 0 (cs U8 n) inf_nonce rfl rfl rfl rfl (by go_simp) (by go_simp) (by simp [hk, hn]) (by simp [hk, hn]) (by simp [go_sem]) rfl (fun w8 M9 => ?_)
  dsimp only [List.set] at M9
  dsimp only [wpT]
  try simp only [Act.put, List.setIfInBounds_toArray, List.set_cons_succ, List.set_cons_zero]
  go_upto_region 6 with fail
  refine wp_region_lin (.op 0 (.op 1 (.op 2 (.op 3 (.op 4 (.op 5 (.op 6 (.op 7 (.op 8 (.op 9 .done)))))))))) (by rfl) ?_
  refine wpT_ld0 26 Tryd.underlying23 rfl inf_key (w.heap.size) (cs U8 k) rfl rfl rfl (by go_simp) (M9.row (by simp)) (by simp [hk, hn]) rfl ?_
  refine wpT_ld0 27 Tryd.underlying29 rfl inf_nonce (b5) (cs U8 n) rfl rfl rfl (by go_simp) (M9.row (by simp)) (by simp [hk, hn]) rfl ?_
  refine wpT_valp 28 (v := .slice AO o.length co) rfl rfl rfl (by go_simp) ?_
  refine wpT_valp 29 (v := .slice AB b.length cb) rfl rfl rfl (by go_simp) ?_
  try simp only [Act.put, List.setIfInBounds_toArray, List.set_cons_succ, List.set_cons_zero]
  refine wpT_callN 30 M9 (l := s) (fun v => .tuple #[v, .int .i64 0]) rfl rfl rfl (by go_simp) (seal_v HS.out HT.out (T0.out _ _ M9).end_ hk hn (SV.below HVO.out (T0.out _ _ M9).end_) (SV.below HVB.out (T0.out _ _ M9).end_) (by omega) (by omega)) (fun v10 w11 S13 M12 T14 K15 => ?_)
  replace T0 := backT T0 T14
  obtain ⟨A16, c17, rfl, -⟩ := (K15.out _ _ M12).1.shape' L16 hsL
  refine wpT_valp 25 (v := .tuple #[.slice A16 L16 c17, .int .i64 0]) rfl rfl rfl (by go_simp) ?_
  refine wpT_valp 31 (v := .slice A16 L16 c17) rfl rfl rfl (by go_simp) ?_
  refine wpT_valp 32 (v := .int .i64 0) rfl rfl rfl (by go_simp) ?_
  refine wpT_valp 8 (v := .slice A16 L16 c17) rfl rfl rfl (by go_simp) ?_
  try simp only [Act.put, List.setIfInBounds_toArray, List.set_cons_succ, List.set_cons_zero]
  refine wpT_valp 9 (v := .int .i64 0) rfl rfl rfl (by go_simp) ?_
  dsimp only [wpT]
  try simp only [Act.put, List.setIfInBounds_toArray, List.set_cons_succ, List.set_cons_zero]
  go_upto_region 7 with fail
  refine wp_region_lin (.op 0 (.op 1 (.op 2 (.op 3 (.op 4 (.op 5 (.op 6 (.op 7 (.op 8 (.op 9 .done)))))))))) (by rfl) ?_
  refine wpT_ld0 34 Tryd.underlying23 rfl inf_key (w.heap.size) (cs U8 k) rfl rfl rfl (by go_simp) (M12.row (by simp)) (by simp [hk, hn]) rfl ?_
  refine wpT_ld0 35 Tryd.underlying29 rfl inf_nonce (b5) (cs U8 n) rfl rfl rfl (by go_simp) (M12.row (by simp)) (by simp [hk, hn]) rfl ?_
  refine wpT_valp 36 (v := .slice AO o.length co) rfl rfl rfl (by go_simp) ?_
  refine wpT_valp 37 (v := .slice A16 L16 c17) rfl rfl rfl (by go_simp) ?_
  try simp only [Act.put, List.setIfInBounds_toArray, List.set_cons_succ, List.set_cons_zero]
  refine wpT_callN 38 M12 (l := b) (fun v => .tuple #[v, .int .i64 0]) rfl rfl rfl (by go_simp) (open_v HH.out HTG.out HT.out (T0.out _ _ M12).end_ hk hn (SV.below HVO.out (T0.out _ _ M12).end_) (K15.out _ _ M12).1 (by omega) (by omega) (by omega)) (fun v18 w19 S21 M20 T22 K23 => ?_)
  replace K15 := backT K15 T22
  replace T0 := backT T0 T22
  obtain ⟨A24, c25, rfl, -⟩ := (K23.out _ _ M20).1.shape' b.length rfl
  refine wpT_valp 33 (v := .tuple #[.slice A24 b.length c25, .int .i64 0]) rfl rfl rfl (by go_simp) ?_
  refine wpT_valp 39 (v := .slice A24 b.length c25) rfl rfl rfl (by go_simp) ?_
  refine wpT_valp 40 (v := .int .i64 0) rfl rfl rfl (by go_simp) ?_
  refine wpT_valp 10 (v := .slice A24 b.length c25) rfl rfl rfl (by go_simp) ?_
  try simp only [Act.put, List.setIfInBounds_toArray, List.set_cons_succ, List.set_cons_zero]
  refine wpT_valp 11 (v := .int .i64 0) rfl rfl rfl (by go_simp) ?_
  dsimp only [wpT]
  try simp only [Act.put, List.setIfInBounds_toArray, List.set_cons_succ, List.set_cons_zero]
  go_upto_region 8 with fail
  refine wp_region_lin (.op 0 (.op 1 (.op 2 (.op 3 (.op 4 (.op 5 (.op 6 (.op 7 (.op 8 (.op 9 (.op 10 (.op 11 (.op 12 (.op 13 (.op 14 (.op 15 (.op 16 (.op 17 (.op 18 (.op 19 (.op 20 (.op 21 .done)))))))))))))))))))))) (by rfl) ?_
  refine wpT_valp 41 (v := .int .i64 0) rfl rfl rfl (by go_simp) ?_
  refine wpT_valp 42 (v := .bool true) rfl rfl rfl (by go_simp) ?_
  refine wpT_valp 43 (v := .bool true) rfl rfl rfl (by go_simp) ?_
  refine wpT_valp 44 (v := .int .i64 0) rfl rfl (by simp [Region.wanted, yielded, Act.put]) (by go_simp) ?_
  try simp only [Act.put, List.setIfInBounds_toArray, List.set_cons_succ, List.set_cons_zero]
  refine wpT_valp 45 (v := .bool true) rfl rfl (by simp [Region.wanted, yielded, Act.put]) (by go_simp) ?_
  refine wpT_valp 46 (v := .bool true) rfl rfl rfl (by go_simp) ?_
  refine wpT_valp 47 (v := .bool true) rfl rfl rfl (by go_simp) ?_
  refine wpT_valp 48 (v := .slice A16 L16 c17) rfl rfl (by simp [Region.wanted, yielded, Act.put]) (by go_simp) ?_
  refine wpT_valp 49 (v := .int .i64 L16) rfl rfl (by simp [Region.wanted, yielded, Act.put]) (by go_simp) ?_
  try simp only [Act.put, List.setIfInBounds_toArray, List.set_cons_succ, List.set_cons_zero]
  refine wpT_valp 50 (v := .slice AB b.length cb) rfl rfl (by simp [Region.wanted, yielded, Act.put]) (by go_simp) ?_
  refine wpT_valp 51 (v := .int .i64 b.length) rfl rfl (by simp [Region.wanted, yielded, Act.put]) (by go_simp) ?_
  refine wpT_valp 52 (v := .int .i64 L16) rfl rfl (by simp [Region.wanted, yielded, Act.put]) (by have h := HL16.out; go_simp) ?_
  refine wpT_valp 53 (v := .bool true) rfl rfl (by simp [Region.wanted, yielded, Act.put]) (by go_simp) ?_
  refine wpT_valp 54 (v := .bool true) rfl rfl rfl (by go_simp) ?_
  try simp only [Act.put, List.setIfInBounds_toArray, List.set_cons_succ, List.set_cons_zero]
  refine wpT_valp 55 (v := .bool true) rfl rfl rfl (by go_simp) ?_
  refine wpT_valp 56 (v := .slice A24 b.length c25) rfl rfl (by simp [Region.wanted, yielded, Act.put]) (by go_simp) ?_
  refine wpT_valp 57 (v := .string (Bs b)) rfl rfl (by simp [Region.wanted, yielded, Act.put]) (by have s0 := bytes_str (K23.out _ _ M20).1; unfold Sv at s0; go_simp) ?_
  refine wpT_valp 58 (v := .slice AB b.length cb) rfl rfl (by simp [Region.wanted, yielded, Act.put]) (by go_simp) ?_
  refine wpT_valp 59 (v := .string (Bs b)) rfl rfl (by simp [Region.wanted, yielded, Act.put]) (by have s0 := bytes_str (SV.below HVB.out (T0.out _ _ M20).end_); unfold Sv at s0; go_simp) ?_
  try simp only [Act.put, List.setIfInBounds_toArray, List.set_cons_succ, List.set_cons_zero]
  refine wpT_valp 60 (v := .bool true) rfl rfl (by simp [Region.wanted, yielded, Act.put]) (by go_simp) ?_
  refine wpT_valp 61 (v := .bool true) rfl rfl rfl (by go_simp) ?_
  refine wpT_valp 6 (v := .bool true) rfl rfl rfl (by go_simp) ?_
  dsimp only [wpT]
  try simp only [Act.put, List.setIfInBounds_toArray, List.set_cons_succ, List.set_cons_zero]
  go_wp2_with fail
  go_ret
  exact ⟨rfl, (T0.out _ _ M20).end_⟩
set_option maxRecDepth 100000 in
set_option maxHeartbeats 8000000 in
theorem AeadJust_w (w : World) (k o b : List (BitVec 8)) (vo vb : Value) (hT : KT w ∧ 0 < w.heap.size) (hk : k.length = 32) (hvo : BS w vo o) (hvb : BS w vb b) :
    Calls Tryd.prog 12 #[.agg (cs U8 k), vo, vb] w fun e w' => e = .returned (.bool true) ∧ Below w.heap.size w w' := by
  have hmo : o.length ≤ 9223372036854775807 := hvo.len
  have hmb : b.length ≤ 9223372036854775807 := hvb.len
  have HT := hid hT
  have HVO := hid hvo
  obtain ⟨AO, co, rfl, -⟩ := hvo.shape
  have hn : True := trivial
  by_cases h1 : 1500 < o.length
  · have h1i : (1500 : Int) < (o.length : Int) := by omega
    obtain ⟨AB, cb, rfl, -⟩ := hvb.shape
    clear hT hvo hvb
    have M0 := Mm.start no w
    go_enter Tryd.func12, Tryd.ntmps12
    have M2 := (M0.alloc (cs U8 k) 23 (by decide))
    try simp only [World.size_alloc] at M2
    go_upto_region 1 with fail
    obtain ⟨w1, hw1⟩ : ∃ w1, w1 = (w.alloc (.cells (cs U8 k) 23)) := ⟨_, rfl⟩
    rw [← hw1] at M2 ⊢
    clear hw1
    refine wp_region_lin (.op 0 (.op 1 .done)) (by rfl) ?_
    refine wpT_callv 14 M2 (v := .bool true) rfl rfl rfl (by go_simp) (alive6_v HT.out M2.end_) (fun w3 M4 => ?_)
    refine wpT_valp 15 (v := .bool false) rfl rfl rfl (by go_simp) ?_
    dsimp only [wpT]
    try simp only [Act.put, List.setIfInBounds_toArray, List.set_cons_succ, List.set_cons_zero]
    go_upto_region 3 with fail
    refine wp_region_lin (.op 0 (.op 1 (.op 2 (.op 3 (.op 4 (.op 5 (.op 6 (.op 7 (.op 8 (.op 9 (.op 10 (.op 11 (.op 12 .done))))))))))))) (by rfl) ?_
    refine wpT_valp 16 (v := .slice AO o.length co) rfl rfl rfl (by go_simp) ?_
    refine wpT_valp 17 (v := .int .i64 o.length) rfl rfl rfl (by go_simp) ?_
    refine wpT_valp 18 (v := .bool true) rfl rfl rfl (by go_simp) ?_
    refine wpT_valp 19 (v := .bool true) rfl rfl rfl (by go_simp) ?_
    try simp only [Act.put, List.setIfInBounds_toArray, List.set_cons_succ, List.set_cons_zero]
    refine wpT_unw 20 rfl rfl (by simp [Region.wanted, yielded, Act.put]) ?_
    refine wpT_unw 21 rfl rfl (by simp [Region.wanted, yielded, Act.put]) ?_
    refine wpT_unw 22 rfl rfl (by simp [Region.wanted, yielded, Act.put]) ?_
    refine wpT_valp 23 (v := .bool true) rfl rfl rfl (by go_simp) ?_
    refine wpT_valp 24 (v := .bool true) rfl rfl rfl (by go_simp) ?_
    try simp only [Act.put, List.setIfInBounds_toArray, List.set_cons_succ, List.set_cons_zero]
    refine wpT_unw 25 rfl rfl (by simp [Region.wanted, yielded, Act.put]) ?_
    refine wpT_unw 26 rfl rfl (by simp [Region.wanted, yielded, Act.put]) ?_
    refine wpT_unw 27 rfl rfl (by simp [Region.wanted, yielded, Act.put]) ?_
    refine wpT_valp 28 (v := .bool true) rfl rfl rfl (by go_simp) ?_
    dsimp only [wpT]
    try simp only [Act.put, List.setIfInBounds_toArray, List.set_cons_succ, List.set_cons_zero]
    go_upto_region 4 with fail
    refine wp_region_lin (.op 0 .done) (by rfl) ?_
    refine wpT_valp 6 (v := .bool true) rfl rfl rfl (by go_simp) ?_
    dsimp only [wpT]
    try simp only [Act.put, List.setIfInBounds_toArray, List.set_cons_succ, List.set_cons_zero]
    go_wp2_with fail
    go_ret
    exact ⟨rfl, M4.end_⟩
  have h1i : ¬ (1500 : Int) < (o.length : Int) := by omega
  by_cases h2 : 1500 < b.length
  · have h2i : (1500 : Int) < (b.length : Int) := by omega
    obtain ⟨AB, cb, rfl, -⟩ := hvb.shape
    clear hT hvo hvb
    have M0 := Mm.start no w
    go_enter Tryd.func12, Tryd.ntmps12
    have M2 := (M0.alloc (cs U8 k) 23 (by decide))
    try simp only [World.size_alloc] at M2
    go_upto_region 1 with fail
    obtain ⟨w1, hw1⟩ : ∃ w1, w1 = (w.alloc (.cells (cs U8 k) 23)) := ⟨_, rfl⟩
    rw [← hw1] at M2 ⊢
    clear hw1
    refine wp_region_lin (.op 0 (.op 1 .done)) (by rfl) ?_
    refine wpT_callv 14 M2 (v := .bool true) rfl rfl rfl (by go_simp) (alive6_v HT.out M2.end_) (fun w3 M4 => ?_)
    refine wpT_valp 15 (v := .bool false) rfl rfl rfl (by go_simp) ?_
    dsimp only [wpT]
    try simp only [Act.put, List.setIfInBounds_toArray, List.set_cons_succ, List.set_cons_zero]
    go_upto_region 3 with fail
    refine wp_region_lin (.op 0 (.op 1 (.op 2 (.op 3 (.op 4 (.op 5 (.op 6 (.op 7 (.op 8 (.op 9 (.op 10 (.op 11 (.op 12 .done))))))))))))) (by rfl) ?_
    refine wpT_valp 16 (v := .slice AO o.length co) rfl rfl rfl (by go_simp) ?_
    refine wpT_valp 17 (v := .int .i64 o.length) rfl rfl rfl (by go_simp) ?_
    refine wpT_valp 18 (v := .bool false) rfl rfl rfl (by go_simp) ?_
    refine wpT_valp 19 (v := .bool false) rfl rfl rfl (by go_simp) ?_
    try simp only [Act.put, List.setIfInBounds_toArray, List.set_cons_succ, List.set_cons_zero]
    refine wpT_valp 20 (v := .slice AB b.length cb) rfl rfl (by simp [Region.wanted, yielded, Act.put]) (by go_simp) ?_
    refine wpT_valp 21 (v := .int .i64 b.length) rfl rfl (by simp [Region.wanted, yielded, Act.put]) (by go_simp) ?_
    refine wpT_valp 22 (v := .bool true) rfl rfl (by simp [Region.wanted, yielded, Act.put]) (by go_simp) ?_
    refine wpT_valp 23 (v := .bool true) rfl rfl rfl (by go_simp) ?_
    refine wpT_valp 24 (v := .bool true) rfl rfl rfl (by go_simp) ?_
    try simp only [Act.put, List.setIfInBounds_toArray, List.set_cons_succ, List.set_cons_zero]
    refine wpT_unw 25 rfl rfl (by simp [Region.wanted, yielded, Act.put]) ?_
    refine wpT_unw 26 rfl rfl (by simp [Region.wanted, yielded, Act.put]) ?_
    refine wpT_unw 27 rfl rfl (by simp [Region.wanted, yielded, Act.put]) ?_
    refine wpT_valp 28 (v := .bool true) rfl rfl rfl (by go_simp) ?_
    dsimp only [wpT]
    try simp only [Act.put, List.setIfInBounds_toArray, List.set_cons_succ, List.set_cons_zero]
    go_upto_region 4 with fail
    refine wp_region_lin (.op 0 .done) (by rfl) ?_
    refine wpT_valp 6 (v := .bool true) rfl rfl rfl (by go_simp) ?_
    dsimp only [wpT]
    try simp only [Act.put, List.setIfInBounds_toArray, List.set_cons_succ, List.set_cons_zero]
    go_wp2_with fail
    go_ret
    exact ⟨rfl, M4.end_⟩
  have h2i : ¬ (1500 : Int) < (b.length : Int) := by omega
  by_cases h3 : b.length < 16
  · have h3i : (b.length : Int) < 16 := by omega
    obtain ⟨AB, cb, rfl, -⟩ := hvb.shape
    clear hT hvo hvb
    have M0 := Mm.start no w
    go_enter Tryd.func12, Tryd.ntmps12
    have M2 := (M0.alloc (cs U8 k) 23 (by decide))
    try simp only [World.size_alloc] at M2
    go_upto_region 1 with fail
    obtain ⟨w1, hw1⟩ : ∃ w1, w1 = (w.alloc (.cells (cs U8 k) 23)) := ⟨_, rfl⟩
    rw [← hw1] at M2 ⊢
    clear hw1
    refine wp_region_lin (.op 0 (.op 1 .done)) (by rfl) ?_
    refine wpT_callv 14 M2 (v := .bool true) rfl rfl rfl (by go_simp) (alive6_v HT.out M2.end_) (fun w3 M4 => ?_)
    refine wpT_valp 15 (v := .bool false) rfl rfl rfl (by go_simp) ?_
    dsimp only [wpT]
    try simp only [Act.put, List.setIfInBounds_toArray, List.set_cons_succ, List.set_cons_zero]
    go_upto_region 3 with fail
    refine wp_region_lin (.op 0 (.op 1 (.op 2 (.op 3 (.op 4 (.op 5 (.op 6 (.op 7 (.op 8 (.op 9 (.op 10 (.op 11 (.op 12 .done))))))))))))) (by rfl) ?_
    refine wpT_valp 16 (v := .slice AO o.length co) rfl rfl rfl (by go_simp) ?_
    refine wpT_valp 17 (v := .int .i64 o.length) rfl rfl rfl (by go_simp) ?_
    refine wpT_valp 18 (v := .bool false) rfl rfl rfl (by go_simp) ?_
    refine wpT_valp 19 (v := .bool false) rfl rfl rfl (by go_simp) ?_
    try simp only [Act.put, List.setIfInBounds_toArray, List.set_cons_succ, List.set_cons_zero]
    refine wpT_valp 20 (v := .slice AB b.length cb) rfl rfl (by simp [Region.wanted, yielded, Act.put]) (by go_simp) ?_
    refine wpT_valp 21 (v := .int .i64 b.length) rfl rfl (by simp [Region.wanted, yielded, Act.put]) (by go_simp) ?_
    refine wpT_valp 22 (v := .bool false) rfl rfl (by simp [Region.wanted, yielded, Act.put]) (by go_simp) ?_
    refine wpT_valp 23 (v := .bool false) rfl rfl rfl (by go_simp) ?_
    refine wpT_valp 24 (v := .bool false) rfl rfl rfl (by go_simp) ?_
    try simp only [Act.put, List.setIfInBounds_toArray, List.set_cons_succ, List.set_cons_zero]
    refine wpT_valp 25 (v := .slice AB b.length cb) rfl rfl (by simp [Region.wanted, yielded, Act.put]) (by go_simp) ?_
    refine wpT_valp 26 (v := .int .i64 b.length) rfl rfl (by simp [Region.wanted, yielded, Act.put]) (by go_simp) ?_
    refine wpT_valp 27 (v := .bool true) rfl rfl (by simp [Region.wanted, yielded, Act.put]) (by go_simp) ?_
    refine wpT_valp 28 (v := .bool true) rfl rfl rfl (by go_simp) ?_
    dsimp only [wpT]
    try simp only [Act.put, List.setIfInBounds_toArray, List.set_cons_succ, List.set_cons_zero]
    go_upto_region 4 with fail
    refine wp_region_lin (.op 0 .done) (by rfl) ?_
    refine wpT_valp 6 (v := .bool true) rfl rfl rfl (by go_simp) ?_
    dsimp only [wpT]
    try simp only [Act.put, List.setIfInBounds_toArray, List.set_cons_succ, List.set_cons_zero]
    go_wp2_with fail
    go_ret
    exact ⟨rfl, M4.end_⟩
  clear hn
  obtain ⟨C, hC⟩ : ∃ C, b.length = C := ⟨_, rfl⟩
  obtain ⟨e, he⟩ : ∃ e, e = b.length - 16 := ⟨_, rfl⟩
  have heC : e + 16 = C := by omega
  have hC0 : C ≤ 1500 := by omega
  have h2i : ¬ (1500 : Int) < (C : Int) := by omega
  have h3i : ¬ (C : Int) < 16 := by omega
  obtain ⟨n, en⟩ : ∃ n, n = k.drop 20 := ⟨_, rfl⟩
  have hn : n.length = 12 := by rw [en]; simp; omega
  have HNK := hid (show (cs U8 k).extract 20 (20 + 12) = cs U8 n by rw [cs_extract, en]; congr 1; rw [List.take_of_length_le (by omega)])
  obtain ⟨ba, oa, cb, rfl, hcb, -⟩ := hvb.open (by intro e; rw [e] at h3; simp at h3)
  obtain ⟨c, hc⟩ : ∃ c, c = b.take e := ⟨_, rfl⟩
  have hcl : c.length = e := by rw [hc]; simp; omega
  obtain ⟨D, hD⟩ : ∃ D, D = b.drop e := ⟨_, rfl⟩
  obtain ⟨E, eE⟩ : ∃ E, E = Ad.tag k n o c := ⟨_, rfl⟩
  have hE : E.length = 16 := by rw [eE]; exact tag_len ..
  have HE := hid eE
  have HVC := hid hvb
  have HVE : Hid (BS w (.slice (some ⟨ba, oa, none⟩) e cb) c) := hid (by
    have := BS.head hvb e cb (by omega) (by omega) (by omega)
    rw [hc]; exact this)
  have HVD : Hid (BS w (.slice (some ⟨ba, oa + e, none⟩) (b.length - e) (cb - e)) D) := hid (by rw [hD]; exact hvb.tail e (by omega) _ (fun _ => rfl))
  rw [hC] at hcb HVD HVC ⊢
  have HI := hid (show IntKind.i64.wrap ((C : Int) - 16) = (e : Int) by rw [i64m _ (by omega) (by omega)]; omega)
  have hne : ¬ cb = e := by omega
  have heb : e ≤ cb := by omega
  have hec : e ≤ C := by omega
  have T0 := back0 (S := no) (w0 := w)
  by_cases htag : E = D
  · have HTG := hid (show Ad.tag k n o (b.take (b.length - 16)) = b.drop (b.length - 16) by rw [← he, ← hc, ← hD, ← eE]; exact htag)
    subst htag
    obtain ⟨x, ex⟩ : ∃ x, x = Ad.hid k n c := ⟨_, rfl⟩
    have hxl : x.length = e := by rw [ex, hid_len, hcl]
    have HX := hid (show x = Ad.hid k n (b.take (b.length - 16)) by rw [← he, ← hc, ex])
    have HS := hid (show b = Ad.sealed k n o x by rw [HX.out]; exact (sealed_iff k n o b (by omega) HTG.out).symm)
    clear hT hvo hvb he hc hD eE en ex h3
    have M0 := Mm.start no w
    go_enter Tryd.func12, Tryd.ntmps12
    have M2 := (M0.alloc (cs U8 k) 23 (by decide))
    try simp only [World.size_alloc] at M2
    go_upto_region 1 with fail
    obtain ⟨w1, hw1⟩ : ∃ w1, w1 = (w.alloc (.cells (cs U8 k) 23)) := ⟨_, rfl⟩
    rw [← hw1] at M2 ⊢
    clear hw1
    refine wp_region_lin (.op 0 (.op 1 .done)) (by rfl) ?_
    refine wpT_callv 14 M2 (v := .bool true) rfl rfl rfl (by go_simp) (alive6_v HT.out M2.end_) (fun w3 M4 => ?_)
    refine wpT_valp 15 (v := .bool false) rfl rfl rfl (by go_simp) ?_
    dsimp only [wpT]
    try simp only [Act.put, List.setIfInBounds_toArray, List.set_cons_succ, List.set_cons_zero]
    go_upto_region 3 with fail
    refine wp_region_lin (.op 0 (.op 1 (.op 2 (.op 3 (.op 4 (.op 5 (.op 6 (.op 7 (.op 8 (.op 9 (.op 10 (.op 11 (.op 12 .done))))))))))))) (by rfl) ?_
    refine wpT_valp 16 (v := .slice AO o.length co) rfl rfl rfl (by go_simp) ?_
    refine wpT_valp 17 (v := .int .i64 o.length) rfl rfl rfl (by go_simp) ?_
    refine wpT_valp 18 (v := .bool false) rfl rfl rfl (by go_simp) ?_
    refine wpT_valp 19 (v := .bool false) rfl rfl rfl (by go_simp) ?_
    try simp only [Act.put, List.setIfInBounds_toArray, List.set_cons_succ, List.set_cons_zero]
    refine wpT_valp 20 (v := .slice (some ⟨ba, oa, none⟩) C cb) rfl rfl (by simp [Region.wanted, yielded, Act.put]) (by go_simp) ?_
    refine wpT_valp 21 (v := .int .i64 C) rfl rfl (by simp [Region.wanted, yielded, Act.put]) (by go_simp) ?_
    refine wpT_valp 22 (v := .bool false) rfl rfl (by simp [Region.wanted, yielded, Act.put]) (by go_simp) ?_
    refine wpT_valp 23 (v := .bool false) rfl rfl rfl (by go_simp) ?_
    refine wpT_valp 24 (v := .bool false) rfl rfl rfl (by go_simp) ?_
    try simp only [Act.put, List.setIfInBounds_toArray, List.set_cons_succ, List.set_cons_zero]
    refine wpT_valp 25 (v := .slice (some ⟨ba, oa, none⟩) C cb) rfl rfl (by simp [Region.wanted, yielded, Act.put]) (by go_simp) ?_
    refine wpT_valp 26 (v := .int .i64 C) rfl rfl (by simp [Region.wanted, yielded, Act.put]) (by go_simp) ?_
    refine wpT_valp 27 (v := .bool false) rfl rfl (by simp [Region.wanted, yielded, Act.put]) (by go_simp) ?_
    refine wpT_valp 28 (v := .bool false) rfl rfl rfl (by go_simp) ?_
    dsimp only [wpT]
    try simp only [Act.put, List.setIfInBounds_toArray, List.set_cons_succ, List.set_cons_zero]
    go_upto_region 5 with fail
    refine wp_region_lin (.op 0 (.op 1 (.op 2 (.op 3 (.op 4 .done))))) (by rfl) ?_
    refine wpT_valp 29 (v := .slice (some ⟨w.heap.size, 20, none⟩) 12 12) rfl rfl rfl (by go_simp) ?_
    refine wpT_valp 30 (v := .pointer (some ⟨w.heap.size, 20, none⟩)) rfl rfl rfl (by go_simp) ?_
    refine wpT_ldm 31 Tryd.underlying29 rfl inf_nonce (w.heap.size) 20 (cs U8 k) (cs U8 n) rfl rfl rfl (by go_simp) (M4.row (by simp)) (by simp [hk]) HNK.out rfl ?_
    refine wpT_new (z := .agg (cs U8 (zs 12))) 7 M4 (by kernel_rfl) (by decide) rfl rfl rfl rfl (fun b5 w6 M7 => ?_)
    try dsimp only [Value.cells] at M7
    try simp only [Act.put, List.setIfInBounds_toArray, List.set_cons_succ, List.set_cons_zero]
    refine wpT_st0 M7 0 (cs U8 n) inf_nonce rfl rfl rfl rfl (by go_simp) (by go_simp) (by simp [hk, hn, hE]) (by simp [hk, hn, hE]) (by simp [go_sem]) rfl (fun w8 M9 => ?_)
    dsimp only [List.set] at M9
    dsimp only [wpT]
    try simp only [Act.put, List.setIfInBounds_toArray, List.set_cons_succ, List.set_cons_zero]
    go_upto_region 6 with fail
    refine wp_region_lin (.op 0 (.op 1 (.op 2 (.op 3 (.op 4 (.op 5 (.op 6 (.op 7 (.op 8 (.op 9 .done)))))))))) (by rfl) ?_
    refine wpT_ld0 33 Tryd.underlying23 rfl inf_key (w.heap.size) (cs U8 k) rfl rfl rfl (by go_simp) (M9.row (by simp)) (by simp [hk, hn, hE]) rfl ?_
    refine wpT_ld0 34 Tryd.underlying29 rfl inf_nonce (b5) (cs U8 n) rfl rfl rfl (by go_simp) (M9.row (by simp)) (by simp [hk, hn, hE]) rfl ?_
    refine wpT_valp 35 (v := .slice AO o.length co) rfl rfl rfl (by go_simp) ?_
    refine wpT_valp 36 (v := .slice (some ⟨ba, oa, none⟩) C cb) rfl rfl rfl (by go_simp) ?_
    try simp only [Act.put, List.setIfInBounds_toArray, List.set_cons_succ, List.set_cons_zero]
    refine wpT_callN 37 M9 (l := x) (fun v => .tuple #[v, .int .i64 0]) rfl rfl rfl (by go_simp) (open_v HX.out HTG.out HT.out (T0.out _ _ M9).end_ hk hn (SV.below HVO.out (T0.out _ _ M9).end_) (SV.below HVC.out (T0.out _ _ M9).end_) (by omega) (by omega) (by omega)) (fun v10 w11 S13 M12 T14 K15 => ?_)
    replace T0 := backT T0 T14
    obtain ⟨A16, c17, rfl, -⟩ := (K15.out _ _ M12).1.shape' e hxl
    refine wpT_valp 32 (v := .tuple #[.slice A16 e c17, .int .i64 0]) rfl rfl rfl (by go_simp) ?_
    refine wpT_valp 38 (v := .slice A16 e c17) rfl rfl rfl (by go_simp) ?_
    refine wpT_valp 39 (v := .int .i64 0) rfl rfl rfl (by go_simp) ?_
    refine wpT_valp 8 (v := .slice A16 e c17) rfl rfl rfl (by go_simp) ?_
    try simp only [Act.put, List.setIfInBounds_toArray, List.set_cons_succ, List.set_cons_zero]
    refine wpT_valp 9 (v := .int .i64 0) rfl rfl rfl (by go_simp) ?_
    dsimp only [wpT]
    try simp only [Act.put, List.setIfInBounds_toArray, List.set_cons_succ, List.set_cons_zero]
    go_upto_region 7 with fail
    refine wp_region_seq 13 [41, 42, 43, 44, 45, 46, 47, 48, 49, 40, 50, 51, 10] [] [11] [] (.op 13 (.op 14 .done)) (Mm S13 w11 _) (by kernel_rfl) (by kernel_rfl) (by kernel_rfl) (fun d _ _ _ _ h => by cases d <;> exact h) (by rfl) M12.size (fun _ _ h k => h.sf k) M12 ?_
    simp only [List.take_succ_cons, List.take_zero]
    refine SeqA.ld0 Tryd.underlying23 rfl inf_key (w.heap.size) (cs U8 k) rfl (by go_simp) (fun _ M => M.row (by simp)) (by simp [hk, hn, hE]) rfl ?_
    refine SeqA.ld0 Tryd.underlying29 rfl inf_nonce (b5) (cs U8 n) rfl (by go_simp) (fun _ M => M.row (by simp)) (by simp [hk, hn, hE]) rfl ?_
    refine SeqA.pure (.slice AO o.length co) (fun w' => by go_simp) rfl rfl ?_
    refine SeqA.pure (.slice (some ⟨ba, oa, none⟩) C cb) (fun w' => by go_simp) rfl rfl ?_
    refine SeqA.pure (.slice (some ⟨ba, oa, none⟩) C cb) (fun w' => by go_simp) rfl rfl ?_
    simp only [Act.put, List.setIfInBounds_toArray, List.set_cons_succ, List.set_cons_zero]
    refine SeqA.pure (.int .i64 C) (fun w' => by go_simp) rfl rfl ?_
    refine SeqA.pure (.int .i64 e) (fun w' => by have h := HI.out; go_simp) rfl rfl ?_
    refine SeqA.pure (.slice (some ⟨ba, oa, none⟩) e cb) (fun w' => by go_simp) rfl rfl ?_
    refine SeqA.call _ _ _ (fun w' => by go_simp) (fun w' hI _ => tagT_v HE.out HT.out (T0.out _ _ hI).end_ hk hn (SV.below HVO.out (T0.out _ _ hI).end_) (SV.below HVE.out (T0.out _ _ hI).end_) (by omega) (by omega)) M12.size rfl rfl ?_
    refine SeqA.pure (.tuple #[.agg (cs U8 E), .int .i64 0]) (fun w' => by go_simp) rfl rfl ?_
    refine SeqA.pure (.agg (cs U8 E)) (fun w' => by go_simp) rfl rfl ?_
    simp only [Act.put, List.setIfInBounds_toArray, List.set_cons_succ, List.set_cons_zero]
    refine SeqA.pure (.int .i64 0) (fun w' => by go_simp) rfl rfl ?_
    refine SeqA.var (z := .agg (cs U8 (zs 16))) (by kernel_rfl) rfl rfl (by decide) rfl ?_
    refine SeqA.nil (fun w18 M19 hz => ?_)
    refine news_one (fun b20 hb1 hb2 hb3 => ?_)
    have M21 := M12.in_ (c := cs U8 (zs 16)) M19 hb1 hb2 (by decide) hb3 rfl
    show wpT _ _ _ _ _ _
    simp only [Act.put, List.setIfInBounds_toArray, List.set_cons_succ, List.set_cons_zero]
    refine wpT_st0 M21 0 (cs U8 E) inf_tag rfl rfl rfl rfl (by go_simp) (by go_simp) (by simp [hk, hn, hE]) (by simp [hk, hn, hE]) (by simp [go_sem]) rfl (fun w22 M23 => ?_)
    dsimp only [List.set] at M23
    refine wpT_vald 11 (v := .int .i64 0) rfl rfl rfl rfl ?_
    dsimp only [wpT]
    simp only [Act.put, List.setIfInBounds_toArray, List.set_cons_succ, List.set_cons_zero]
    go_upto_region 8 with fail
    refine wp_region_lin (.op 0 (.op 1 .done)) (by rfl) ?_
    refine wpT_valp 52 (v := .int .i64 0) rfl rfl rfl (by go_simp) ?_
    refine wpT_valp 53 (v := .bool false) rfl rfl rfl (by go_simp) ?_
    dsimp only [wpT]
    try simp only [Act.put, List.setIfInBounds_toArray, List.set_cons_succ, List.set_cons_zero]
    go_upto_region 10 with fail
    refine wp_region_lin (.op 0 (.op 1 .done)) (by rfl) ?_
    refine wpT_valp 54 (v := .int .i64 0) rfl rfl rfl (by go_simp) ?_
    refine wpT_valp 55 (v := .bool false) rfl rfl rfl (by go_simp) ?_
    dsimp only [wpT]
    try simp only [Act.put, List.setIfInBounds_toArray, List.set_cons_succ, List.set_cons_zero]
    go_upto_region 12 with fail
    refine wp_region_lin (.op 0 (.op 1 (.op 2 (.op 3 (.op 4 (.op 5 (.op 6 (.op 7 (.op 8 (.op 9 .done)))))))))) (by rfl) ?_
    refine wpT_ld0 75 Tryd.underlying23 rfl inf_key (w.heap.size) (cs U8 k) rfl rfl rfl (by go_simp) (M23.row (by simp)) (by simp [hk, hn, hE]) rfl ?_
    refine wpT_ld0 76 Tryd.underlying29 rfl inf_nonce (b5) (cs U8 n) rfl rfl rfl (by go_simp) (M23.row (by simp)) (by simp [hk, hn, hE]) rfl ?_
    refine wpT_valp 77 (v := .slice AO o.length co) rfl rfl rfl (by go_simp) ?_
    refine wpT_valp 78 (v := .slice A16 e c17) rfl rfl rfl (by go_simp) ?_
    try simp only [Act.put, List.setIfInBounds_toArray, List.set_cons_succ, List.set_cons_zero]
    refine wpT_callN 79 M23 (l := b) (fun v => .tuple #[v, .int .i64 0]) rfl rfl rfl (by go_simp) (seal_v HS.out HT.out (T0.out _ _ M23).end_ hk hn (SV.below HVO.out (T0.out _ _ M23).end_) (K15.out _ _ M23).1 (by omega) (by omega)) (fun v24 w25 S27 M26 T28 K29 => ?_)
    replace K15 := backT K15 T28
    replace T0 := backT T0 T28
    obtain ⟨A30, c31, rfl, -⟩ := (K29.out _ _ M26).1.shape' C hC
    refine wpT_valp 74 (v := .tuple #[.slice A30 C c31, .int .i64 0]) rfl rfl rfl (by go_simp) ?_
    refine wpT_valp 80 (v := .slice A30 C c31) rfl rfl rfl (by go_simp) ?_
    refine wpT_valp 81 (v := .int .i64 0) rfl rfl rfl (by go_simp) ?_
    refine wpT_valp 12 (v := .slice A30 C c31) rfl rfl rfl (by go_simp) ?_
    try simp only [Act.put, List.setIfInBounds_toArray, List.set_cons_succ, List.set_cons_zero]
    refine wpT_valp 13 (v := .int .i64 0) rfl rfl rfl (by go_simp) ?_
    dsimp only [wpT]
    try simp only [Act.put, List.setIfInBounds_toArray, List.set_cons_succ, List.set_cons_zero]
    go_upto_region 13 with fail
    refine wp_region_seq 21 [82, 83, 84, 85, 86, 87, 88, 89, 90, 91, 92, 93, 94, 95, 96, 97, 98, 99, 100, 101, 6] [] [] [] (.done) (Mm S27 w25 _) (by kernel_rfl) (by kernel_rfl) (by kernel_rfl) (fun d _ _ _ _ h => by cases d <;> exact h) (by rfl) M26.size (fun _ _ h k => h.sf k) M26 ?_
    simp only [List.take_succ_cons, List.take_zero]
    refine SeqA.pure (.int .i64 0) (fun w' => by go_simp) rfl rfl ?_
    refine SeqA.pure (.bool true) (fun w' => by go_simp) rfl rfl ?_
    refine SeqA.pure (.bool true) (fun w' => by go_simp) rfl rfl ?_
    refine SeqA.pure (.slice A30 C c31) (fun w' => by go_simp) rfl (by simp [Region.wanted, yielded, Act.put]) ?_
    refine SeqA.read (.string (Bs b)) (fun w' hI => by have s0 := bytes_str ((K29.out _ _ hI).1); unfold Sv at s0; go_simp) rfl (by simp [Region.wanted, yielded, Act.put]) ?_
    simp only [Act.put, List.setIfInBounds_toArray, List.set_cons_succ, List.set_cons_zero]
    refine SeqA.pure (.slice (some ⟨ba, oa, none⟩) C cb) (fun w' => by go_simp) rfl (by simp [Region.wanted, yielded, Act.put]) ?_
    refine SeqA.read (.string (Bs b)) (fun w' hI => by have s0 := bytes_str (SV.below HVC.out (T0.out _ _ hI).end_); unfold Sv at s0; go_simp) rfl (by simp [Region.wanted, yielded, Act.put]) ?_
    refine SeqA.pure (.bool true) (fun w' => by go_simp) rfl (by simp [Region.wanted, yielded, Act.put]) ?_
    refine SeqA.pure (.bool true) (fun w' => by go_simp) rfl rfl ?_
    refine SeqA.pure (.bool true) (fun w' => by go_simp) rfl rfl ?_
    refine SeqA.pure (.slice (some ⟨b20, 0, none⟩) 16 16) (fun w' => by go_simp) rfl (by simp [Region.wanted, yielded, Act.put]) ?_
    simp only [Act.put, List.setIfInBounds_toArray, List.set_cons_succ, List.set_cons_zero]
    refine SeqA.read (.string (Bs E)) (fun w' hI => by have s0 := bytes_str (BS.row (hI.row (b := b20) (c := cs U8 E) (by simp)) hE (by unfold maxLen; decide)); unfold Sv at s0; go_simp) rfl (by simp [Region.wanted, yielded, Act.put]) ?_
    refine SeqA.pure (.slice (some ⟨ba, oa, none⟩) C cb) (fun w' => by go_simp) rfl (by simp [Region.wanted, yielded, Act.put]) ?_
    refine SeqA.pure (.slice (some ⟨ba, oa, none⟩) C cb) (fun w' => by go_simp) rfl (by simp [Region.wanted, yielded, Act.put]) ?_
    refine SeqA.pure (.int .i64 C) (fun w' => by go_simp) rfl (by simp [Region.wanted, yielded, Act.put]) ?_
    refine SeqA.pure (.int .i64 e) (fun w' => by have h := HI.out; go_simp) rfl (by simp [Region.wanted, yielded, Act.put]) ?_
    refine SeqA.pure (.slice (some ⟨ba, oa + e, none⟩) (C - e) (cb - e)) (fun w' => by go_simp) rfl (by simp [Region.wanted, yielded, Act.put]) ?_
    simp only [Act.put, List.setIfInBounds_toArray, List.set_cons_succ, List.set_cons_zero]
    refine SeqA.read (.string (Bs E)) (fun w' hI => by have s0 := bytes_str (SV.below HVD.out (T0.out _ _ hI).end_); unfold Sv at s0; go_simp) rfl (by simp [Region.wanted, yielded, Act.put]) ?_
    refine SeqA.pure (.bool true) (fun w' => by go_simp) rfl (by simp [Region.wanted, yielded, Act.put]) ?_
    refine SeqA.pure (.bool true) (fun w' => by go_simp) rfl rfl ?_
    refine SeqA.pure (.bool true) (fun w' => by go_simp) rfl rfl ?_
    refine SeqA.nil (fun w32 M33 hz => ?_)
    show wpT _ _ _ _ _ _
    simp only [Act.put, List.setIfInBounds_toArray, List.set_cons_succ, List.set_cons_zero]
    dsimp only [wpT]
    go_wp2_with fail
    go_ret
    exact ⟨rfl, (T0.out _ _ M33).end_⟩
  · have HNE := hid (show Ad.tag k n o (b.take (b.length - 16)) ≠ b.drop (b.length - 16) by rw [← he, ← hc, ← hD, ← eE]; exact htag)
    have HED := hid (show (E == D) = false by simpa using htag)
    clear hT hvo hvb he hc hD eE en htag h3
    have M0 := Mm.start no w
    go_enter Tryd.func12, Tryd.ntmps12
    have M2 := (M0.alloc (cs U8 k) 23 (by decide))
    try simp only [World.size_alloc] at M2
    go_upto_region 1 with fail
    obtain ⟨w1, hw1⟩ : ∃ w1, w1 = (w.alloc (.cells (cs U8 k) 23)) := ⟨_, rfl⟩
    rw [← hw1] at M2 ⊢
    clear hw1
    refine wp_region_lin (.op 0 (.op 1 .done)) (by rfl) ?_
    refine wpT_callv 14 M2 (v := .bool true) rfl rfl rfl (by go_simp) (alive6_v HT.out M2.end_) (fun w3 M4 => ?_)
    refine wpT_valp 15 (v := .bool false) rfl rfl rfl (by go_simp) ?_
    dsimp only [wpT]
    try simp only [Act.put, List.setIfInBounds_toArray, List.set_cons_succ, List.set_cons_zero]
    go_upto_region 3 with fail
    refine wp_region_lin (.op 0 (.op 1 (.op 2 (.op 3 (.op 4 (.op 5 (.op 6 (.op 7 (.op 8 (.op 9 (.op 10 (.op 11 (.op 12 .done))))))))))))) (by rfl) ?_
    refine wpT_valp 16 (v := .slice AO o.length co) rfl rfl rfl (by go_simp) ?_
    refine wpT_valp 17 (v := .int .i64 o.length) rfl rfl rfl (by go_simp) ?_
    refine wpT_valp 18 (v := .bool false) rfl rfl rfl (by go_simp) ?_
    refine wpT_valp 19 (v := .bool false) rfl rfl rfl (by go_simp) ?_
    try simp only [Act.put, List.setIfInBounds_toArray, List.set_cons_succ, List.set_cons_zero]
    refine wpT_valp 20 (v := .slice (some ⟨ba, oa, none⟩) C cb) rfl rfl (by simp [Region.wanted, yielded, Act.put]) (by go_simp) ?_
    refine wpT_valp 21 (v := .int .i64 C) rfl rfl (by simp [Region.wanted, yielded, Act.put]) (by go_simp) ?_
    refine wpT_valp 22 (v := .bool false) rfl rfl (by simp [Region.wanted, yielded, Act.put]) (by go_simp) ?_
    refine wpT_valp 23 (v := .bool false) rfl rfl rfl (by go_simp) ?_
    refine wpT_valp 24 (v := .bool false) rfl rfl rfl (by go_simp) ?_
    try simp only [Act.put, List.setIfInBounds_toArray, List.set_cons_succ, List.set_cons_zero]
    refine wpT_valp 25 (v := .slice (some ⟨ba, oa, none⟩) C cb) rfl rfl (by simp [Region.wanted, yielded, Act.put]) (by go_simp) ?_
    refine wpT_valp 26 (v := .int .i64 C) rfl rfl (by simp [Region.wanted, yielded, Act.put]) (by go_simp) ?_
    refine wpT_valp 27 (v := .bool false) rfl rfl (by simp [Region.wanted, yielded, Act.put]) (by go_simp) ?_
    refine wpT_valp 28 (v := .bool false) rfl rfl rfl (by go_simp) ?_
    dsimp only [wpT]
    try simp only [Act.put, List.setIfInBounds_toArray, List.set_cons_succ, List.set_cons_zero]
    go_upto_region 5 with fail
    refine wp_region_lin (.op 0 (.op 1 (.op 2 (.op 3 (.op 4 .done))))) (by rfl) ?_
    refine wpT_valp 29 (v := .slice (some ⟨w.heap.size, 20, none⟩) 12 12) rfl rfl rfl (by go_simp) ?_
    refine wpT_valp 30 (v := .pointer (some ⟨w.heap.size, 20, none⟩)) rfl rfl rfl (by go_simp) ?_
    refine wpT_ldm 31 Tryd.underlying29 rfl inf_nonce (w.heap.size) 20 (cs U8 k) (cs U8 n) rfl rfl rfl (by go_simp) (M4.row (by simp)) (by simp [hk]) HNK.out rfl ?_
    refine wpT_new (z := .agg (cs U8 (zs 12))) 7 M4 (by kernel_rfl) (by decide) rfl rfl rfl rfl (fun b5 w6 M7 => ?_)
    try dsimp only [Value.cells] at M7
    try simp only [Act.put, List.setIfInBounds_toArray, List.set_cons_succ, List.set_cons_zero]
    refine wpT_st0 M7 0 (cs U8 n) inf_nonce rfl rfl rfl rfl (by go_simp) (by go_simp) (by simp [hk, hn, hE]) (by simp [hk, hn, hE]) (by simp [go_sem]) rfl (fun w8 M9 => ?_)
    dsimp only [List.set] at M9
    dsimp only [wpT]
    try simp only [Act.put, List.setIfInBounds_toArray, List.set_cons_succ, List.set_cons_zero]
    go_upto_region 6 with fail
    refine wp_region_lin (.op 0 (.op 1 (.op 2 (.op 3 (.op 4 (.op 5 (.op 6 (.op 7 (.op 8 (.op 9 .done)))))))))) (by rfl) ?_
    refine wpT_ld0 33 Tryd.underlying23 rfl inf_key (w.heap.size) (cs U8 k) rfl rfl rfl (by go_simp) (M9.row (by simp)) (by simp [hk, hn, hE]) rfl ?_
    refine wpT_ld0 34 Tryd.underlying29 rfl inf_nonce (b5) (cs U8 n) rfl rfl rfl (by go_simp) (M9.row (by simp)) (by simp [hk, hn, hE]) rfl ?_
    refine wpT_valp 35 (v := .slice AO o.length co) rfl rfl rfl (by go_simp) ?_
    refine wpT_valp 36 (v := .slice (some ⟨ba, oa, none⟩) C cb) rfl rfl rfl (by go_simp) ?_
    try simp only [Act.put, List.setIfInBounds_toArray, List.set_cons_succ, List.set_cons_zero]
    refine wpT_callN 37 M9 (l := []) (fun v => .tuple #[v, .int .i64 6]) rfl rfl rfl (by go_simp) (open_bad HNE.out HT.out (T0.out _ _ M9).end_ hk hn (SV.below HVO.out (T0.out _ _ M9).end_) (SV.below HVC.out (T0.out _ _ M9).end_) (by omega) (by omega) (by omega)) (fun v10 w11 S13 M12 T14 K15 => ?_)
    replace T0 := backT T0 T14
    obtain ⟨A16, c17, rfl, -⟩ := (K15.out _ _ M12).1.shape' 0 rfl
    refine wpT_valp 32 (v := .tuple #[.slice A16 0 c17, .int .i64 6]) rfl rfl rfl (by go_simp) ?_
    refine wpT_valp 38 (v := .slice A16 0 c17) rfl rfl rfl (by go_simp) ?_
    refine wpT_valp 39 (v := .int .i64 6) rfl rfl rfl (by go_simp) ?_
    refine wpT_valp 8 (v := .slice A16 0 c17) rfl rfl rfl (by go_simp) ?_
    try simp only [Act.put, List.setIfInBounds_toArray, List.set_cons_succ, List.set_cons_zero]
    refine wpT_valp 9 (v := .int .i64 6) rfl rfl rfl (by go_simp) ?_
    dsimp only [wpT]
    try simp only [Act.put, List.setIfInBounds_toArray, List.set_cons_succ, List.set_cons_zero]
    go_upto_region 7 with fail
    refine wp_region_seq 13 [41, 42, 43, 44, 45, 46, 47, 48, 49, 40, 50, 51, 10] [] [11] [] (.op 13 (.op 14 .done)) (Mm S13 w11 _) (by kernel_rfl) (by kernel_rfl) (by kernel_rfl) (fun d _ _ _ _ h => by cases d <;> exact h) (by rfl) M12.size (fun _ _ h k => h.sf k) M12 ?_
    simp only [List.take_succ_cons, List.take_zero]
    refine SeqA.ld0 Tryd.underlying23 rfl inf_key (w.heap.size) (cs U8 k) rfl (by go_simp) (fun _ M => M.row (by simp)) (by simp [hk, hn, hE]) rfl ?_
    refine SeqA.ld0 Tryd.underlying29 rfl inf_nonce (b5) (cs U8 n) rfl (by go_simp) (fun _ M => M.row (by simp)) (by simp [hk, hn, hE]) rfl ?_
    refine SeqA.pure (.slice AO o.length co) (fun w' => by go_simp) rfl rfl ?_
    refine SeqA.pure (.slice (some ⟨ba, oa, none⟩) C cb) (fun w' => by go_simp) rfl rfl ?_
    refine SeqA.pure (.slice (some ⟨ba, oa, none⟩) C cb) (fun w' => by go_simp) rfl rfl ?_
    simp only [Act.put, List.setIfInBounds_toArray, List.set_cons_succ, List.set_cons_zero]
    refine SeqA.pure (.int .i64 C) (fun w' => by go_simp) rfl rfl ?_
    refine SeqA.pure (.int .i64 e) (fun w' => by have h := HI.out; go_simp) rfl rfl ?_
    refine SeqA.pure (.slice (some ⟨ba, oa, none⟩) e cb) (fun w' => by go_simp) rfl rfl ?_
    refine SeqA.call _ _ _ (fun w' => by go_simp) (fun w' hI _ => tagT_v HE.out HT.out (T0.out _ _ hI).end_ hk hn (SV.below HVO.out (T0.out _ _ hI).end_) (SV.below HVE.out (T0.out _ _ hI).end_) (by omega) (by omega)) M12.size rfl rfl ?_
    refine SeqA.pure (.tuple #[.agg (cs U8 E), .int .i64 0]) (fun w' => by go_simp) rfl rfl ?_
    refine SeqA.pure (.agg (cs U8 E)) (fun w' => by go_simp) rfl rfl ?_
    simp only [Act.put, List.setIfInBounds_toArray, List.set_cons_succ, List.set_cons_zero]
    refine SeqA.pure (.int .i64 0) (fun w' => by go_simp) rfl rfl ?_
    refine SeqA.var (z := .agg (cs U8 (zs 16))) (by kernel_rfl) rfl rfl (by decide) rfl ?_
    refine SeqA.nil (fun w18 M19 hz => ?_)
    refine news_one (fun b20 hb1 hb2 hb3 => ?_)
    have M21 := M12.in_ (c := cs U8 (zs 16)) M19 hb1 hb2 (by decide) hb3 rfl
    show wpT _ _ _ _ _ _
    simp only [Act.put, List.setIfInBounds_toArray, List.set_cons_succ, List.set_cons_zero]
    refine wpT_st0 M21 0 (cs U8 E) inf_tag rfl rfl rfl rfl (by go_simp) (by go_simp) (by simp [hk, hn, hE]) (by simp [hk, hn, hE]) (by simp [go_sem]) rfl (fun w22 M23 => ?_)
    dsimp only [List.set] at M23
    refine wpT_vald 11 (v := .int .i64 0) rfl rfl rfl rfl ?_
    dsimp only [wpT]
    simp only [Act.put, List.setIfInBounds_toArray, List.set_cons_succ, List.set_cons_zero]
    go_upto_region 8 with fail
    refine wp_region_lin (.op 0 (.op 1 .done)) (by rfl) ?_
    refine wpT_valp 52 (v := .int .i64 0) rfl rfl rfl (by go_simp) ?_
    refine wpT_valp 53 (v := .bool false) rfl rfl rfl (by go_simp) ?_
    dsimp only [wpT]
    try simp only [Act.put, List.setIfInBounds_toArray, List.set_cons_succ, List.set_cons_zero]
    go_upto_region 10 with fail
    refine wp_region_lin (.op 0 (.op 1 .done)) (by rfl) ?_
    refine wpT_valp 54 (v := .int .i64 6) rfl rfl rfl (by go_simp) ?_
    refine wpT_valp 55 (v := .bool true) rfl rfl rfl (by go_simp) ?_
    dsimp only [wpT]
    try simp only [Act.put, List.setIfInBounds_toArray, List.set_cons_succ, List.set_cons_zero]
    go_upto_region 11 with fail
    refine wp_region_seq 19 [56, 57, 58, 59, 60, 61, 62, 63, 64, 65, 66, 67, 68, 69, 70, 71, 72, 73, 6] [] [] [] (.done) (Mm S13 w11 _) (by kernel_rfl) (by kernel_rfl) (by kernel_rfl) (fun d _ _ _ _ h => by cases d <;> exact h) (by rfl) M23.size (fun _ _ h k => h.sf k) M23 ?_
    simp only [List.take_succ_cons, List.take_zero]
    refine SeqA.pure (.int .i64 6) (fun w' => by go_simp) rfl rfl ?_
    refine SeqA.pure (.bool true) (fun w' => by go_simp) rfl rfl ?_
    refine SeqA.pure (.bool true) (fun w' => by go_simp) rfl rfl ?_
    refine SeqA.pure (.slice A16 0 c17) (fun w' => by go_simp) rfl (by simp [Region.wanted, yielded, Act.put]) ?_
    refine SeqA.pure (.int .i64 0) (fun w' => by go_simp) rfl (by simp [Region.wanted, yielded, Act.put]) ?_
    simp only [Act.put, List.setIfInBounds_toArray, List.set_cons_succ, List.set_cons_zero]
    refine SeqA.pure (.bool true) (fun w' => by go_simp) rfl (by simp [Region.wanted, yielded, Act.put]) ?_
    refine SeqA.pure (.bool true) (fun w' => by go_simp) rfl rfl ?_
    refine SeqA.pure (.bool true) (fun w' => by go_simp) rfl rfl ?_
    refine SeqA.pure (.slice (some ⟨b20, 0, none⟩) 16 16) (fun w' => by go_simp) rfl (by simp [Region.wanted, yielded, Act.put]) ?_
    refine SeqA.read (.string (Bs E)) (fun w' hI => by have s0 := bytes_str (BS.row (hI.row (b := b20) (c := cs U8 E) (by simp)) hE (by unfold maxLen; decide)); unfold Sv at s0; go_simp) rfl (by simp [Region.wanted, yielded, Act.put]) ?_
    refine SeqA.pure (.slice (some ⟨ba, oa, none⟩) C cb) (fun w' => by go_simp) rfl (by simp [Region.wanted, yielded, Act.put]) ?_
    simp only [Act.put, List.setIfInBounds_toArray, List.set_cons_succ, List.set_cons_zero]
    refine SeqA.pure (.slice (some ⟨ba, oa, none⟩) C cb) (fun w' => by go_simp) rfl (by simp [Region.wanted, yielded, Act.put]) ?_
    refine SeqA.pure (.int .i64 C) (fun w' => by go_simp) rfl (by simp [Region.wanted, yielded, Act.put]) ?_
    refine SeqA.pure (.int .i64 e) (fun w' => by have h := HI.out; go_simp) rfl (by simp [Region.wanted, yielded, Act.put]) ?_
    refine SeqA.pure (.slice (some ⟨ba, oa + e, none⟩) (C - e) (cb - e)) (fun w' => by go_simp) rfl (by simp [Region.wanted, yielded, Act.put]) ?_
    refine SeqA.read (.string (Bs D)) (fun w' hI => by have s0 := bytes_str (SV.below HVD.out (T0.out _ _ hI).end_); unfold Sv at s0; go_simp) rfl (by simp [Region.wanted, yielded, Act.put]) ?_
    refine SeqA.pure (.bool true) (fun w' => by have q := str_tl6 E D; have q2 := HED.out; go_simp) rfl (by simp [Region.wanted, yielded, Act.put]) ?_
    simp only [Act.put, List.setIfInBounds_toArray, List.set_cons_succ, List.set_cons_zero]
    refine SeqA.pure (.bool true) (fun w' => by go_simp) rfl rfl ?_
    refine SeqA.pure (.bool true) (fun w' => by go_simp) rfl rfl ?_
    refine SeqA.nil (fun w24 M25 hz => ?_)
    show wpT _ _ _ _ _ _
    simp only [Act.put, List.setIfInBounds_toArray, List.set_cons_succ, List.set_cons_zero]
    dsimp only [wpT]
    go_wp2_with fail
    go_ret
    exact ⟨rfl, (T0.out _ _ M25).end_⟩
end Go.Proofs.YtbigmnhjnjeeaaaDoor
