/-
  Law 06: what is sealed and opened is the document's; own work.
-/
import Derived.Test.YtbigmnhjnjeeaaaDoorRf6
set_option linter.unusedSimpArgs false
set_option linter.unusedVariables false
namespace Go.Proofs.YtbigmnhjnjeeaaaDoor
open Go.RowKit
theorem alive6_v2 {w0 w : World} (hT : KT w0 ∧ 0 < w0.heap.size) (hw : Below w0.heap.size w0 w) : Calls Tryd.prog 20 #[] w fun e w' => e = .returned (.bool true) ∧ Below w.heap.size w w' :=
  alive6_c w ⟨hT.1.below hw hT.2, Nat.lt_of_lt_of_le hT.2 hw.size⟩
section
variable {w : World} {k n o b s : List (BitVec 8)} {vo vb : Value}
theorem rseal_v (hs : s = Ad.sealed k n o b) (hk : k.length = 32) (hn : n.length = 12) (hvo : BS w vo o) (hvb : BS w vb b) (hol : o.length ≤ 65520) (hbl : b.length ≤ 65520) :
    Calls Tryd.prog 22 #[.agg (cs U8 k), .agg (cs U8 n), vo, vb] w fun e w' => ∃ v, e = .returned (.tuple #[v, .int .i64 0]) ∧ BN w' w.heap.size v s ∧ Below w.heap.size w w' := by
  rw [hs]; exact (rSeal w k n o b vo vb hk hn hvo hvb hol hbl).mono fun e w' ⟨v, h1, h2, h3⟩ => ⟨v, h1, h2.bn, h3⟩
theorem rTag_v {h E : List (BitVec 8)} {vh : Value} (hE : E = Ad.tag k n o h) (hk : k.length = 32) (hn : n.length = 12) (hvo : BS w vo o) (hvh : BS w vh h) (hol : o.length ≤ 65520) (hhl : h.length ≤ 65520) :
    Calls Tryd.prog 24 #[.agg (cs U8 k), .agg (cs U8 n), vo, vh] w fun e w' => e = .returned (.tuple #[.agg (cs U8 E), .int .i64 0]) ∧ Below w.heap.size w w' := by
  rw [hE]; exact rTag w k n o h vo vh hk hn hvo hvh hol hhl
theorem ropen_v {c x : List (BitVec 8)} {vc : Value} (hx : x = Ad.hid k n (c.take (c.length - 16))) (hr : Ad.tag k n o (c.take (c.length - 16)) = c.drop (c.length - 16)) (hk : k.length = 32) (hn : n.length = 12) (hvo : BS w vo o) (hvc : BS w vc c) (hol : o.length ≤ 65520) (hc : 16 ≤ c.length) (hcl : c.length ≤ 65536) :
    Calls Tryd.prog 21 #[.agg (cs U8 k), .agg (cs U8 n), vo, vc] w fun e w' => ∃ v, e = .returned (.tuple #[v, .int .i64 0]) ∧ BN w' w.heap.size v x ∧ Below w.heap.size w w' := by
  rw [hx]; exact (rOpen w k n o c vo vc hk hn hvo hvc hol hc hcl hr).mono fun e w' ⟨v, h1, h2, h3⟩ => ⟨v, h1, h2.bn, h3⟩
end
attribute [local irreducible] Ad.tag Ad.sealed Ad.hid
set_option maxRecDepth 100000 in
set_option maxHeartbeats 4000000 in
theorem AeadSeals_w (w : World) (k o b : List (BitVec 8)) (vo vb : Value) (hT : KT w ∧ 0 < w.heap.size) (hk : k.length = 32) (hvo : BS w vo o) (hvb : BS w vb b) :
    Calls Tryd.prog 11 #[.agg (cs U8 k), vo, vb] w fun e w' => e = .returned (.bool true) ∧ Below w.heap.size w w' := by
  have hmo : o.length ≤ 9223372036854775807 := hvo.len
  have hmb : b.length ≤ 9223372036854775807 := hvb.len
  have HT := hid hT
  have HVO := hid hvo
  have HVB := hid hvb
  obtain ⟨AO, co, rfl, -⟩ := hvo.shape
  obtain ⟨AB, cb, rfl, -⟩ := hvb.shape
  clear hT hvo hvb
  by_cases h1 : 1500 < o.length
  · have h1i : (1500 : Int) < (o.length : Int) := by omega
    have M0 := Mm.start no w
    go_enter Tryd.func11, Tryd.ntmps11
    have M2 := (M0.alloc (cs U8 k) 23 (by decide))
    try simp only [World.size_alloc] at M2
    go_upto_region 1 with fail
    obtain ⟨w1, hw1⟩ : ∃ w1, w1 = (w.alloc (.cells (cs U8 k) 23)) := ⟨_, rfl⟩
    rw [← hw1] at M2 ⊢
    clear hw1
    refine wp_region_lin (.op 0 (.op 1 .done)) (by rfl) ?_
    refine wpT_callv 16 M2 (v := .bool true) rfl rfl rfl (by go_simp) (alive6_v2 HT.out M2.end_) (fun w3 M4 => ?_)
    refine wpT_valp 17 (v := .bool false) rfl rfl rfl (by go_simp) ?_
    dsimp only [wpT]
    try simp only [Act.put, List.setIfInBounds_toArray, List.set_cons_succ, List.set_cons_zero]
    go_upto_region 3 with fail
    refine wp_region_lin (.op 0 (.op 1 (.op 2 (.op 3 (.op 4 (.op 5 (.op 6 (.op 7 .done)))))))) (by rfl) ?_
    refine wpT_valp 18 (v := .slice AO o.length co) rfl rfl rfl (by go_simp) ?_
    refine wpT_valp 19 (v := .int .i64 o.length) rfl rfl rfl (by go_simp) ?_
    refine wpT_valp 20 (v := .bool true) rfl rfl rfl (by go_simp) ?_
    refine wpT_valp 21 (v := .bool true) rfl rfl rfl (by go_simp) ?_
    try simp only [Act.put, List.setIfInBounds_toArray, List.set_cons_succ, List.set_cons_zero]
    refine wpT_unw 22 rfl rfl (by simp [Region.wanted, yielded, Act.put]) ?_
    refine wpT_unw 23 rfl rfl (by simp [Region.wanted, yielded, Act.put]) ?_
    refine wpT_unw 24 rfl rfl (by simp [Region.wanted, yielded, Act.put]) ?_
    refine wpT_valp 25 (v := .bool true) rfl rfl rfl (by go_simp) ?_
    dsimp only [wpT]
    try simp only [Act.put, List.setIfInBounds_toArray, List.set_cons_succ, List.set_cons_zero]
    go_upto_region 4 with fail
    refine wp_region_lin (.op 0 .done) (by rfl) ?_
    refine wpT_valp 6 (v := .bool true) rfl rfl rfl (by go_simp) ?_
    dsimp only [wpT]
    try simp only [Act.put, List.setIfInBounds_toArray, List.set_cons_succ, List.set_cons_zero]
    go_wp2_with fail
    go_ret
    exact ⟨rfl, M4.end_⟩
  have h1i : ¬ (1500 : Int) < (o.length : Int) := by omega
  by_cases h2 : 1500 < b.length
  · have h2i : (1500 : Int) < (b.length : Int) := by omega
    have M0 := Mm.start no w
    go_enter Tryd.func11, Tryd.ntmps11
    have M2 := (M0.alloc (cs U8 k) 23 (by decide))
    try simp only [World.size_alloc] at M2
    go_upto_region 1 with fail
    obtain ⟨w1, hw1⟩ : ∃ w1, w1 = (w.alloc (.cells (cs U8 k) 23)) := ⟨_, rfl⟩
    rw [← hw1] at M2 ⊢
    clear hw1
    refine wp_region_lin (.op 0 (.op 1 .done)) (by rfl) ?_
    refine wpT_callv 16 M2 (v := .bool true) rfl rfl rfl (by go_simp) (alive6_v2 HT.out M2.end_) (fun w3 M4 => ?_)
    refine wpT_valp 17 (v := .bool false) rfl rfl rfl (by go_simp) ?_
    dsimp only [wpT]
    try simp only [Act.put, List.setIfInBounds_toArray, List.set_cons_succ, List.set_cons_zero]
    go_upto_region 3 with fail
    refine wp_region_lin (.op 0 (.op 1 (.op 2 (.op 3 (.op 4 (.op 5 (.op 6 (.op 7 .done)))))))) (by rfl) ?_
    refine wpT_valp 18 (v := .slice AO o.length co) rfl rfl rfl (by go_simp) ?_
    refine wpT_valp 19 (v := .int .i64 o.length) rfl rfl rfl (by go_simp) ?_
    refine wpT_valp 20 (v := .bool false) rfl rfl rfl (by go_simp) ?_
    refine wpT_valp 21 (v := .bool false) rfl rfl rfl (by go_simp) ?_
    try simp only [Act.put, List.setIfInBounds_toArray, List.set_cons_succ, List.set_cons_zero]
    refine wpT_valp 22 (v := .slice AB b.length cb) rfl rfl (by simp [Region.wanted, yielded, Act.put]) (by go_simp) ?_
    refine wpT_valp 23 (v := .int .i64 b.length) rfl rfl (by simp [Region.wanted, yielded, Act.put]) (by go_simp) ?_
    refine wpT_valp 24 (v := .bool true) rfl rfl (by simp [Region.wanted, yielded, Act.put]) (by go_simp) ?_
    refine wpT_valp 25 (v := .bool true) rfl rfl rfl (by go_simp) ?_
    dsimp only [wpT]
    try simp only [Act.put, List.setIfInBounds_toArray, List.set_cons_succ, List.set_cons_zero]
    go_upto_region 4 with fail
    refine wp_region_lin (.op 0 .done) (by rfl) ?_
    refine wpT_valp 6 (v := .bool true) rfl rfl rfl (by go_simp) ?_
    dsimp only [wpT]
    try simp only [Act.put, List.setIfInBounds_toArray, List.set_cons_succ, List.set_cons_zero]
    go_wp2_with fail
    go_ret
    exact ⟨rfl, M4.end_⟩
  have h2i : ¬ (1500 : Int) < (b.length : Int) := by omega
  obtain ⟨n, en⟩ : ∃ n, n = k.drop 20 := ⟨_, rfl⟩
  have hn : n.length = 12 := by rw [en]; simp; omega
  have HNK := hid (show (cs U8 k).extract 20 (20 + 12) = cs U8 n by rw [cs_extract, en]; congr 1; rw [List.take_of_length_le (by omega)])
  obtain ⟨s, es⟩ : ∃ s, s = Ad.sealed k n o b := ⟨_, rfl⟩
  obtain ⟨L16, hL16⟩ : ∃ L16, L16 = b.length + 16 := ⟨_, rfl⟩
  have hsL : s.length = L16 := by rw [es, sealed_len, hL16]
  obtain ⟨E, eE⟩ : ∃ E, E = Ad.tag k n o b := ⟨_, rfl⟩
  have hE : E.length = 16 := by rw [eE, tag_len]
  have HS := hid es
  have HE := hid eE
  have T0 := back0 (S := no) (w0 := w)
  clear es eE en hL16
  have M0 := Mm.start no w
  go_enter Tryd.func11, Tryd.ntmps11
  have M2 := (M0.alloc (cs U8 k) 23 (by decide))
  try simp only [World.size_alloc] at M2
  go_upto_region 1 with fail
  obtain ⟨w1, hw1⟩ : ∃ w1, w1 = (w.alloc (.cells (cs U8 k) 23)) := ⟨_, rfl⟩
  rw [← hw1] at M2 ⊢
  clear hw1
  refine wp_region_lin (.op 0 (.op 1 .done)) (by rfl) ?_
  refine wpT_callv 16 M2 (v := .bool true) rfl rfl rfl (by go_simp) (alive6_v2 HT.out M2.end_) (fun w3 M4 => ?_)
  refine wpT_valp 17 (v := .bool false) rfl rfl rfl (by go_simp) ?_
  dsimp only [wpT]
  try simp only [Act.put, List.setIfInBounds_toArray, List.set_cons_succ, List.set_cons_zero]
  go_upto_region 3 with fail
  refine wp_region_lin (.op 0 (.op 1 (.op 2 (.op 3 (.op 4 (.op 5 (.op 6 (.op 7 .done)))))))) (by rfl) ?_
  refine wpT_valp 18 (v := .slice AO o.length co) rfl rfl rfl (by go_simp) ?_
  refine wpT_valp 19 (v := .int .i64 o.length) rfl rfl rfl (by go_simp) ?_
  refine wpT_valp 20 (v := .bool false) rfl rfl rfl (by go_simp) ?_
  refine wpT_valp 21 (v := .bool false) rfl rfl rfl (by go_simp) ?_
  try simp only [Act.put, List.setIfInBounds_toArray, List.set_cons_succ, List.set_cons_zero]
  refine wpT_valp 22 (v := .slice AB b.length cb) rfl rfl (by simp [Region.wanted, yielded, Act.put]) (by go_simp) ?_
  refine wpT_valp 23 (v := .int .i64 b.length) rfl rfl (by simp [Region.wanted, yielded, Act.put]) (by go_simp) ?_
  refine wpT_valp 24 (v := .bool false) rfl rfl (by simp [Region.wanted, yielded, Act.put]) (by go_simp) ?_
  refine wpT_valp 25 (v := .bool false) rfl rfl rfl (by go_simp) ?_
  dsimp only [wpT]
  try simp only [Act.put, List.setIfInBounds_toArray, List.set_cons_succ, List.set_cons_zero]
  go_upto_region 5 with fail
  refine wp_region_lin (.op 0 (.op 1 (.op 2 (.op 3 (.op 4 .done))))) (by rfl) ?_
  refine wpT_valp 26 (v := .slice (some ⟨w.heap.size, 20, none⟩) 12 12) rfl rfl rfl (by go_simp) ?_
  refine wpT_valp 27 (v := .pointer (some ⟨w.heap.size, 20, none⟩)) rfl rfl rfl (by go_simp) ?_
  refine wpT_ldm 28 Tryd.underlying29 rfl inf_nonce (w.heap.size) 20 (cs U8 k) (cs U8 n) rfl rfl rfl (by go_simp) (M4.row (by simp)) (by simp [hk]) HNK.out rfl ?_
  refine wpT_new (z := .agg (cs U8 (zs 12))) 7 M4 (by kernel_rfl) (by decide) rfl rfl rfl rfl (fun b5 w6 M7 => ?_)
  try dsimp only [Value.cells] at M7
  try simp only [Act.put, List.setIfInBounds_toArray, List.set_cons_succ, List.set_cons_zero]
  refine wpT_st0 M7 0 (cs U8 n) inf_nonce rfl rfl rfl rfl (by go_simp) (by go_simp) (by simp [hk, hn, hE]) (by simp [hk, hn, hE]) (by simp [go_sem]) rfl (fun w8 M9 => ?_)
  dsimp only [List.set] at M9
  dsimp only [wpT]
  try simp only [Act.put, List.setIfInBounds_toArray, List.set_cons_succ, List.set_cons_zero]
  go_upto_region 6 with fail
  refine wp_region_lin (.op 0 (.op 1 (.op 2 (.op 3 (.op 4 (.op 5 (.op 6 (.op 7 (.op 8 (.op 9 .done)))))))))) (by rfl) ?_
  refine wpT_ld0 30 Tryd.underlying23 rfl inf_key (w.heap.size) (cs U8 k) rfl rfl rfl (by go_simp) (M9.row (by simp)) (by simp [hk, hn, hE]) rfl ?_
  refine wpT_ld0 31 Tryd.underlying29 rfl inf_nonce (b5) (cs U8 n) rfl rfl rfl (by go_simp) (M9.row (by simp)) (by simp [hk, hn, hE]) rfl ?_
  refine wpT_valp 32 (v := .slice AO o.length co) rfl rfl rfl (by go_simp) ?_
  refine wpT_valp 33 (v := .slice AB b.length cb) rfl rfl rfl (by go_simp) ?_
  try simp only [Act.put, List.setIfInBounds_toArray, List.set_cons_succ, List.set_cons_zero]
  refine wpT_callN 34 M9 (l := s) (fun v => .tuple #[v, .int .i64 0]) rfl rfl rfl (by go_simp) (seal_v HS.out HT.out (T0.out _ _ M9).end_ hk hn (SV.below HVO.out (T0.out _ _ M9).end_) (SV.below HVB.out (T0.out _ _ M9).end_) (by omega) (by omega)) (fun v10 w11 S13 M12 T14 K15 => ?_)
  replace T0 := backT T0 T14
  obtain ⟨A16, c17, rfl, -⟩ := (K15.out _ _ M12).1.shape' L16 hsL
  refine wpT_valp 29 (v := .tuple #[.slice A16 L16 c17, .int .i64 0]) rfl rfl rfl (by go_simp) ?_
  refine wpT_valp 35 (v := .slice A16 L16 c17) rfl rfl rfl (by go_simp) ?_
  refine wpT_valp 36 (v := .int .i64 0) rfl rfl rfl (by go_simp) ?_
  refine wpT_valp 8 (v := .slice A16 L16 c17) rfl rfl rfl (by go_simp) ?_
  try simp only [Act.put, List.setIfInBounds_toArray, List.set_cons_succ, List.set_cons_zero]
  refine wpT_valp 9 (v := .int .i64 0) rfl rfl rfl (by go_simp) ?_
  dsimp only [wpT]
  try simp only [Act.put, List.setIfInBounds_toArray, List.set_cons_succ, List.set_cons_zero]
  go_upto_region 7 with fail
  refine wp_region_lin (.op 0 (.op 1 (.op 2 (.op 3 (.op 4 (.op 5 (.op 6 (.op 7 (.op 8 (.op 9 .done)))))))))) (by rfl) ?_
  refine wpT_ld0 38 Tryd.underlying23 rfl inf_key (w.heap.size) (cs U8 k) rfl rfl rfl (by go_simp) (M12.row (by simp)) (by simp [hk, hn, hE]) rfl ?_
  refine wpT_ld0 39 Tryd.underlying29 rfl inf_nonce (b5) (cs U8 n) rfl rfl rfl (by go_simp) (M12.row (by simp)) (by simp [hk, hn, hE]) rfl ?_
  refine wpT_valp 40 (v := .slice AO o.length co) rfl rfl rfl (by go_simp) ?_
  refine wpT_valp 41 (v := .slice AB b.length cb) rfl rfl rfl (by go_simp) ?_
  try simp only [Act.put, List.setIfInBounds_toArray, List.set_cons_succ, List.set_cons_zero]
  refine wpT_callN 42 M12 (l := s) (fun v => .tuple #[v, .int .i64 0]) rfl rfl rfl (by go_simp) (rseal_v HS.out hk hn (SV.below HVO.out (T0.out _ _ M12).end_) (SV.below HVB.out (T0.out _ _ M12).end_) (by omega) (by omega)) (fun v18 w19 S21 M20 T22 K23 => ?_)
  replace K15 := backT K15 T22
  replace T0 := backT T0 T22
  obtain ⟨A24, c25, rfl, -⟩ := (K23.out _ _ M20).1.shape' L16 hsL
  refine wpT_valp 37 (v := .tuple #[.slice A24 L16 c25, .int .i64 0]) rfl rfl rfl (by go_simp) ?_
  refine wpT_valp 43 (v := .slice A24 L16 c25) rfl rfl rfl (by go_simp) ?_
  refine wpT_valp 44 (v := .int .i64 0) rfl rfl rfl (by go_simp) ?_
  refine wpT_valp 10 (v := .slice A24 L16 c25) rfl rfl rfl (by go_simp) ?_
  try simp only [Act.put, List.setIfInBounds_toArray, List.set_cons_succ, List.set_cons_zero]
  refine wpT_valp 11 (v := .int .i64 0) rfl rfl rfl (by go_simp) ?_
  dsimp only [wpT]
  try simp only [Act.put, List.setIfInBounds_toArray, List.set_cons_succ, List.set_cons_zero]
  go_upto_region 8 with fail
  refine wp_region_lin (.op 0 (.op 1 (.op 2 (.op 3 (.op 4 (.op 5 (.op 6 (.op 7 (.op 8 (.op 9 (.op 10 .done))))))))))) (by rfl) ?_
  refine wpT_ld0 46 Tryd.underlying23 rfl inf_key (w.heap.size) (cs U8 k) rfl rfl rfl (by go_simp) (M20.row (by simp)) (by simp [hk, hn, hE]) rfl ?_
  refine wpT_ld0 47 Tryd.underlying29 rfl inf_nonce (b5) (cs U8 n) rfl rfl rfl (by go_simp) (M20.row (by simp)) (by simp [hk, hn, hE]) rfl ?_
  refine wpT_valp 48 (v := .slice AO o.length co) rfl rfl rfl (by go_simp) ?_
  refine wpT_valp 49 (v := .slice AB b.length cb) rfl rfl rfl (by go_simp) ?_
  try simp only [Act.put, List.setIfInBounds_toArray, List.set_cons_succ, List.set_cons_zero]
  refine wpT_callv 50 M20 (v := .tuple #[.agg (cs U8 E), .int .i64 0]) rfl rfl rfl (by go_simp) (tagT_v HE.out HT.out (T0.out _ _ M20).end_ hk hn (SV.below HVO.out (T0.out _ _ M20).end_) (SV.below HVB.out (T0.out _ _ M20).end_) (by omega) (by omega)) (fun w26 M27 => ?_)
  refine wpT_valp 45 (v := .tuple #[.agg (cs U8 E), .int .i64 0]) rfl rfl rfl (by go_simp) ?_
  refine wpT_valp 51 (v := .agg (cs U8 E)) rfl rfl rfl (by go_simp) ?_
  refine wpT_valp 52 (v := .int .i64 0) rfl rfl rfl (by go_simp) ?_
  refine wpT_new (z := .agg (cs U8 (zs 16))) 12 M27 (by kernel_rfl) (by decide) rfl rfl rfl rfl (fun b28 w29 M30 => ?_)
  try dsimp only [Value.cells] at M30
  try simp only [Act.put, List.setIfInBounds_toArray, List.set_cons_succ, List.set_cons_zero]
  refine wpT_st0 M30 0 (cs U8 E) inf_tag rfl rfl rfl rfl (by go_simp) (by go_simp) (by simp [hk, hn, hE]) (by simp [hk, hn, hE]) (by simp [go_sem]) rfl (fun w31 M32 => ?_)
  dsimp only [List.set] at M32
  refine wpT_valp 13 (v := .int .i64 0) rfl rfl rfl (by go_simp) ?_
  dsimp only [wpT]
  try simp only [Act.put, List.setIfInBounds_toArray, List.set_cons_succ, List.set_cons_zero]
  go_upto_region 9 with fail
  refine wp_region_lin (.op 0 (.op 1 (.op 2 (.op 3 (.op 4 (.op 5 (.op 6 (.op 7 (.op 8 (.op 9 (.op 10 .done))))))))))) (by rfl) ?_
  refine wpT_ld0 54 Tryd.underlying23 rfl inf_key (w.heap.size) (cs U8 k) rfl rfl rfl (by go_simp) (M32.row (by simp)) (by simp [hk, hn, hE]) rfl ?_
  refine wpT_ld0 55 Tryd.underlying29 rfl inf_nonce (b5) (cs U8 n) rfl rfl rfl (by go_simp) (M32.row (by simp)) (by simp [hk, hn, hE]) rfl ?_
  refine wpT_valp 56 (v := .slice AO o.length co) rfl rfl rfl (by go_simp) ?_
  refine wpT_valp 57 (v := .slice AB b.length cb) rfl rfl rfl (by go_simp) ?_
  try simp only [Act.put, List.setIfInBounds_toArray, List.set_cons_succ, List.set_cons_zero]
  refine wpT_callv 58 M32 (v := .tuple #[.agg (cs U8 E), .int .i64 0]) rfl rfl rfl (by go_simp) (rTag_v HE.out hk hn (SV.below HVO.out (T0.out _ _ M32).end_) (SV.below HVB.out (T0.out _ _ M32).end_) (by omega) (by omega)) (fun w33 M34 => ?_)
  refine wpT_valp 53 (v := .tuple #[.agg (cs U8 E), .int .i64 0]) rfl rfl rfl (by go_simp) ?_
  refine wpT_valp 59 (v := .agg (cs U8 E)) rfl rfl rfl (by go_simp) ?_
  refine wpT_valp 60 (v := .int .i64 0) rfl rfl rfl (by go_simp) ?_
  refine wpT_new (z := .agg (cs U8 (zs 16))) 14 M34 (by kernel_rfl) (by decide) rfl rfl rfl rfl (fun b35 w36 M37 => ?_)
  try dsimp only [Value.cells] at M37
  try simp only [Act.put, List.setIfInBounds_toArray, List.set_cons_succ, List.set_cons_zero]
  refine wpT_st0 M37 0 (cs U8 E) inf_tag rfl rfl rfl rfl (by go_simp) (by go_simp) (by simp [hk, hn, hE]) (by simp [hk, hn, hE]) (by simp [go_sem]) rfl (fun w38 M39 => ?_)
  dsimp only [List.set] at M39
  refine wpT_valp 15 (v := .int .i64 0) rfl rfl rfl (by go_simp) ?_
  dsimp only [wpT]
  try simp only [Act.put, List.setIfInBounds_toArray, List.set_cons_succ, List.set_cons_zero]
  go_upto_region 10 with fail
  refine wp_region_lin (.op 0 (.op 1 (.op 2 (.op 3 (.op 4 (.op 5 (.op 6 (.op 7 (.op 8 (.op 9 (.op 10 (.op 11 (.op 12 (.op 13 (.op 14 (.op 15 (.op 16 (.op 17 (.op 18 (.op 19 (.op 20 .done))))))))))))))))))))) (by rfl) ?_
  refine wpT_valp 61 (v := .slice A16 L16 c17) rfl rfl rfl (by go_simp) ?_
  refine wpT_valp 62 (v := .string (Bs s)) rfl rfl rfl (by have s0 := bytes_str ((K15.out _ _ M39).1); unfold Sv at s0; go_simp) ?_
  refine wpT_valp 63 (v := .slice A24 L16 c25) rfl rfl rfl (by go_simp) ?_
  refine wpT_valp 64 (v := .string (Bs s)) rfl rfl rfl (by have s0 := bytes_str ((K23.out _ _ M39).1); unfold Sv at s0; go_simp) ?_
  try simp only [Act.put, List.setIfInBounds_toArray, List.set_cons_succ, List.set_cons_zero]
  refine wpT_valp 65 (v := .bool true) rfl rfl rfl (by go_simp) ?_
  refine wpT_valp 66 (v := .bool true) rfl rfl rfl (by go_simp) ?_
  refine wpT_valp 67 (v := .int .i64 0) rfl rfl (by simp [Region.wanted, yielded, Act.put]) (by go_simp) ?_
  refine wpT_valp 68 (v := .int .i64 0) rfl rfl (by simp [Region.wanted, yielded, Act.put]) (by go_simp) ?_
  refine wpT_valp 69 (v := .bool true) rfl rfl (by simp [Region.wanted, yielded, Act.put]) (by go_simp) ?_
  try simp only [Act.put, List.setIfInBounds_toArray, List.set_cons_succ, List.set_cons_zero]
  refine wpT_valp 70 (v := .bool true) rfl rfl rfl (by go_simp) ?_
  refine wpT_valp 71 (v := .bool true) rfl rfl rfl (by go_simp) ?_
  refine wpT_ld0 72 Tryd.underlying40 rfl inf_tag (b28) (cs U8 E) rfl rfl rfl (by go_simp) (M39.row (by simp)) (by simp [hk, hn, hE]) (by simp [Region.wanted, yielded, Act.put]) ?_
  refine wpT_ld0 73 Tryd.underlying40 rfl inf_tag (b35) (cs U8 E) rfl rfl rfl (by go_simp) (M39.row (by simp)) (by simp [hk, hn, hE]) (by simp [Region.wanted, yielded, Act.put]) ?_
  refine wpT_valp 74 (v := .bool true) rfl rfl (by simp [Region.wanted, yielded, Act.put]) (by have q := eqin_tag6 w38 E E hE hE; go_simp) ?_
  try simp only [Act.put, List.setIfInBounds_toArray, List.set_cons_succ, List.set_cons_zero]
  refine wpT_valp 75 (v := .bool true) rfl rfl rfl (by go_simp) ?_
  refine wpT_valp 76 (v := .bool true) rfl rfl rfl (by go_simp) ?_
  refine wpT_valp 77 (v := .int .i64 0) rfl rfl (by simp [Region.wanted, yielded, Act.put]) (by go_simp) ?_
  refine wpT_valp 78 (v := .int .i64 0) rfl rfl (by simp [Region.wanted, yielded, Act.put]) (by go_simp) ?_
  refine wpT_valp 79 (v := .bool true) rfl rfl (by simp [Region.wanted, yielded, Act.put]) (by go_simp) ?_
  try simp only [Act.put, List.setIfInBounds_toArray, List.set_cons_succ, List.set_cons_zero]
  refine wpT_valp 80 (v := .bool true) rfl rfl rfl (by go_simp) ?_
  refine wpT_valp 6 (v := .bool true) rfl rfl rfl (by go_simp) ?_
  dsimp only [wpT]
  try simp only [Act.put, List.setIfInBounds_toArray, List.set_cons_succ, List.set_cons_zero]
  go_wp2_with fail
  go_ret
  exact ⟨rfl, (T0.out _ _ M39).end_⟩
set_option maxRecDepth 100000 in
set_option maxHeartbeats 4000000 in
theorem AeadOpens_w (w : World) (k o b : List (BitVec 8)) (vo vb : Value) (hT : KT w ∧ 0 < w.heap.size) (hk : k.length = 32) (hvo : BS w vo o) (hvb : BS w vb b) :
    Calls Tryd.prog 8 #[.agg (cs U8 k), vo, vb] w fun e w' => e = .returned (.bool true) ∧ Below w.heap.size w w' := by
  have hmo : o.length ≤ 9223372036854775807 := hvo.len
  have hmb : b.length ≤ 9223372036854775807 := hvb.len
  have HT := hid hT
  have HVO := hid hvo
  have HVB := hid hvb
  obtain ⟨AO, co, rfl, -⟩ := hvo.shape
  obtain ⟨AB, cb, rfl, -⟩ := hvb.shape
  clear hT hvo hvb
  by_cases h1 : 1500 < o.length
  · have h1i : (1500 : Int) < (o.length : Int) := by omega
    have M0 := Mm.start no w
    go_enter Tryd.func8, Tryd.ntmps8
    have M2 := (M0.alloc (cs U8 k) 23 (by decide))
    try simp only [World.size_alloc] at M2
    go_upto_region 1 with fail
    obtain ⟨w1, hw1⟩ : ∃ w1, w1 = (w.alloc (.cells (cs U8 k) 23)) := ⟨_, rfl⟩
    rw [← hw1] at M2 ⊢
    clear hw1
    refine wp_region_lin (.op 0 (.op 1 .done)) (by rfl) ?_
    refine wpT_callv 12 M2 (v := .bool true) rfl rfl rfl (by go_simp) (alive6_v2 HT.out M2.end_) (fun w3 M4 => ?_)
    refine wpT_valp 13 (v := .bool false) rfl rfl rfl (by go_simp) ?_
    dsimp only [wpT]
    try simp only [Act.put, List.setIfInBounds_toArray, List.set_cons_succ, List.set_cons_zero]
    go_upto_region 3 with fail
    refine wp_region_lin (.op 0 (.op 1 (.op 2 (.op 3 (.op 4 (.op 5 (.op 6 (.op 7 .done)))))))) (by rfl) ?_
    refine wpT_valp 14 (v := .slice AO o.length co) rfl rfl rfl (by go_simp) ?_
    refine wpT_valp 15 (v := .int .i64 o.length) rfl rfl rfl (by go_simp) ?_
    refine wpT_valp 16 (v := .bool true) rfl rfl rfl (by go_simp) ?_
    refine wpT_valp 17 (v := .bool true) rfl rfl rfl (by go_simp) ?_
    try simp only [Act.put, List.setIfInBounds_toArray, List.set_cons_succ, List.set_cons_zero]
    refine wpT_unw 18 rfl rfl (by simp [Region.wanted, yielded, Act.put]) ?_
    refine wpT_unw 19 rfl rfl (by simp [Region.wanted, yielded, Act.put]) ?_
    refine wpT_unw 20 rfl rfl (by simp [Region.wanted, yielded, Act.put]) ?_
    refine wpT_valp 21 (v := .bool true) rfl rfl rfl (by go_simp) ?_
    dsimp only [wpT]
    try simp only [Act.put, List.setIfInBounds_toArray, List.set_cons_succ, List.set_cons_zero]
    go_upto_region 4 with fail
    refine wp_region_lin (.op 0 .done) (by rfl) ?_
    refine wpT_valp 6 (v := .bool true) rfl rfl rfl (by go_simp) ?_
    dsimp only [wpT]
    try simp only [Act.put, List.setIfInBounds_toArray, List.set_cons_succ, List.set_cons_zero]
    go_wp2_with fail
    go_ret
    exact ⟨rfl, M4.end_⟩
  have h1i : ¬ (1500 : Int) < (o.length : Int) := by omega
  by_cases h2 : 1500 < b.length
  · have h2i : (1500 : Int) < (b.length : Int) := by omega
    have M0 := Mm.start no w
    go_enter Tryd.func8, Tryd.ntmps8
    have M2 := (M0.alloc (cs U8 k) 23 (by decide))
    try simp only [World.size_alloc] at M2
    go_upto_region 1 with fail
    obtain ⟨w1, hw1⟩ : ∃ w1, w1 = (w.alloc (.cells (cs U8 k) 23)) := ⟨_, rfl⟩
    rw [← hw1] at M2 ⊢
    clear hw1
    refine wp_region_lin (.op 0 (.op 1 .done)) (by rfl) ?_
    refine wpT_callv 12 M2 (v := .bool true) rfl rfl rfl (by go_simp) (alive6_v2 HT.out M2.end_) (fun w3 M4 => ?_)
    refine wpT_valp 13 (v := .bool false) rfl rfl rfl (by go_simp) ?_
    dsimp only [wpT]
    try simp only [Act.put, List.setIfInBounds_toArray, List.set_cons_succ, List.set_cons_zero]
    go_upto_region 3 with fail
    refine wp_region_lin (.op 0 (.op 1 (.op 2 (.op 3 (.op 4 (.op 5 (.op 6 (.op 7 .done)))))))) (by rfl) ?_
    refine wpT_valp 14 (v := .slice AO o.length co) rfl rfl rfl (by go_simp) ?_
    refine wpT_valp 15 (v := .int .i64 o.length) rfl rfl rfl (by go_simp) ?_
    refine wpT_valp 16 (v := .bool false) rfl rfl rfl (by go_simp) ?_
    refine wpT_valp 17 (v := .bool false) rfl rfl rfl (by go_simp) ?_
    try simp only [Act.put, List.setIfInBounds_toArray, List.set_cons_succ, List.set_cons_zero]
    refine wpT_valp 18 (v := .slice AB b.length cb) rfl rfl (by simp [Region.wanted, yielded, Act.put]) (by go_simp) ?_
    refine wpT_valp 19 (v := .int .i64 b.length) rfl rfl (by simp [Region.wanted, yielded, Act.put]) (by go_simp) ?_
    refine wpT_valp 20 (v := .bool true) rfl rfl (by simp [Region.wanted, yielded, Act.put]) (by go_simp) ?_
    refine wpT_valp 21 (v := .bool true) rfl rfl rfl (by go_simp) ?_
    dsimp only [wpT]
    try simp only [Act.put, List.setIfInBounds_toArray, List.set_cons_succ, List.set_cons_zero]
    go_upto_region 4 with fail
    refine wp_region_lin (.op 0 .done) (by rfl) ?_
    refine wpT_valp 6 (v := .bool true) rfl rfl rfl (by go_simp) ?_
    dsimp only [wpT]
    try simp only [Act.put, List.setIfInBounds_toArray, List.set_cons_succ, List.set_cons_zero]
    go_wp2_with fail
    go_ret
    exact ⟨rfl, M4.end_⟩
  have h2i : ¬ (1500 : Int) < (b.length : Int) := by omega
  obtain ⟨n, en⟩ : ∃ n, n = k.drop 20 := ⟨_, rfl⟩
  have hn : n.length = 12 := by rw [en]; simp; omega
  have HNK := hid (show (cs U8 k).extract 20 (20 + 12) = cs U8 n by rw [cs_extract, en]; congr 1; rw [List.take_of_length_le (by omega)])
  have T0 := back0 (S := no) (w0 := w)
  clear en
  by_cases h3 : b.length < 16
  · skip
    have M0 := Mm.start no w
    go_enter Tryd.func8, Tryd.ntmps8
    have M2 := (M0.alloc (cs U8 k) 23 (by decide))
    try simp only [World.size_alloc] at M2
    go_upto_region 1 with fail
    obtain ⟨w1, hw1⟩ : ∃ w1, w1 = (w.alloc (.cells (cs U8 k) 23)) := ⟨_, rfl⟩
    rw [← hw1] at M2 ⊢
    clear hw1
    refine wp_region_lin (.op 0 (.op 1 .done)) (by rfl) ?_
    refine wpT_callv 12 M2 (v := .bool true) rfl rfl rfl (by go_simp) (alive6_v2 HT.out M2.end_) (fun w3 M4 => ?_)
    refine wpT_valp 13 (v := .bool false) rfl rfl rfl (by go_simp) ?_
    dsimp only [wpT]
    try simp only [Act.put, List.setIfInBounds_toArray, List.set_cons_succ, List.set_cons_zero]
    go_upto_region 3 with fail
    refine wp_region_lin (.op 0 (.op 1 (.op 2 (.op 3 (.op 4 (.op 5 (.op 6 (.op 7 .done)))))))) (by rfl) ?_
    refine wpT_valp 14 (v := .slice AO o.length co) rfl rfl rfl (by go_simp) ?_
    refine wpT_valp 15 (v := .int .i64 o.length) rfl rfl rfl (by go_simp) ?_
    refine wpT_valp 16 (v := .bool false) rfl rfl rfl (by go_simp) ?_
    refine wpT_valp 17 (v := .bool false) rfl rfl rfl (by go_simp) ?_
    try simp only [Act.put, List.setIfInBounds_toArray, List.set_cons_succ, List.set_cons_zero]
    refine wpT_valp 18 (v := .slice AB b.length cb) rfl rfl (by simp [Region.wanted, yielded, Act.put]) (by go_simp) ?_
    refine wpT_valp 19 (v := .int .i64 b.length) rfl rfl (by simp [Region.wanted, yielded, Act.put]) (by go_simp) ?_
    refine wpT_valp 20 (v := .bool false) rfl rfl (by simp [Region.wanted, yielded, Act.put]) (by go_simp) ?_
    refine wpT_valp 21 (v := .bool false) rfl rfl rfl (by go_simp) ?_
    dsimp only [wpT]
    try simp only [Act.put, List.setIfInBounds_toArray, List.set_cons_succ, List.set_cons_zero]
    go_upto_region 5 with fail
    refine wp_region_lin (.op 0 (.op 1 (.op 2 (.op 3 (.op 4 .done))))) (by rfl) ?_
    refine wpT_valp 22 (v := .slice (some ⟨w.heap.size, 20, none⟩) 12 12) rfl rfl rfl (by go_simp) ?_
    refine wpT_valp 23 (v := .pointer (some ⟨w.heap.size, 20, none⟩)) rfl rfl rfl (by go_simp) ?_
    refine wpT_ldm 24 Tryd.underlying29 rfl inf_nonce (w.heap.size) 20 (cs U8 k) (cs U8 n) rfl rfl rfl (by go_simp) (M4.row (by simp)) (by simp [hk]) HNK.out rfl ?_
    refine wpT_new (z := .agg (cs U8 (zs 12))) 7 M4 (by kernel_rfl) (by decide) rfl rfl rfl rfl (fun b5 w6 M7 => ?_)
    try dsimp only [Value.cells] at M7
    try simp only [Act.put, List.setIfInBounds_toArray, List.set_cons_succ, List.set_cons_zero]
    refine wpT_st0 M7 0 (cs U8 n) inf_nonce rfl rfl rfl rfl (by go_simp) (by go_simp) (by simp [hk, hn]) (by simp [hk, hn]) (by simp [go_sem]) rfl (fun w8 M9 => ?_)
    dsimp only [List.set] at M9
    dsimp only [wpT]
    try simp only [Act.put, List.setIfInBounds_toArray, List.set_cons_succ, List.set_cons_zero]
    go_upto_region 6 with fail
    refine wp_region_lin (.op 0 (.op 1 (.op 2 (.op 3 (.op 4 (.op 5 (.op 6 (.op 7 (.op 8 (.op 9 .done)))))))))) (by rfl) ?_
    refine wpT_ld0 26 Tryd.underlying23 rfl inf_key (w.heap.size) (cs U8 k) rfl rfl rfl (by go_simp) (M9.row (by simp)) (by simp [hk, hn]) rfl ?_
    refine wpT_ld0 27 Tryd.underlying29 rfl inf_nonce (b5) (cs U8 n) rfl rfl rfl (by go_simp) (M9.row (by simp)) (by simp [hk, hn]) rfl ?_
    refine wpT_valp 28 (v := .slice AO o.length co) rfl rfl rfl (by go_simp) ?_
    refine wpT_valp 29 (v := .slice AB b.length cb) rfl rfl rfl (by go_simp) ?_
    try simp only [Act.put, List.setIfInBounds_toArray, List.set_cons_succ, List.set_cons_zero]
    refine wpT_callv 30 M9 (v := .tuple #[.slice none 0 0, .int .i64 4]) rfl rfl rfl (by go_simp) (Open_short w8 k n o b (.slice AO o.length co) (.slice AB b.length cb) hk hn (SV.below HVO.out (T0.out _ _ M9).end_) (SV.below HVB.out (T0.out _ _ M9).end_) (by omega)) (fun w10 M11 => ?_)
    refine wpT_valp 25 (v := .tuple #[.slice none 0 0, .int .i64 4]) rfl rfl rfl (by go_simp) ?_
    refine wpT_valp 31 (v := .slice none 0 0) rfl rfl rfl (by go_simp) ?_
    refine wpT_valp 32 (v := .int .i64 4) rfl rfl rfl (by go_simp) ?_
    refine wpT_valp 8 (v := .slice none 0 0) rfl rfl rfl (by go_simp) ?_
    try simp only [Act.put, List.setIfInBounds_toArray, List.set_cons_succ, List.set_cons_zero]
    refine wpT_valp 9 (v := .int .i64 4) rfl rfl rfl (by go_simp) ?_
    dsimp only [wpT]
    try simp only [Act.put, List.setIfInBounds_toArray, List.set_cons_succ, List.set_cons_zero]
    go_upto_region 7 with fail
    refine wp_region_lin (.op 0 (.op 1 (.op 2 (.op 3 (.op 4 (.op 5 (.op 6 (.op 7 (.op 8 (.op 9 .done)))))))))) (by rfl) ?_
    refine wpT_ld0 34 Tryd.underlying23 rfl inf_key (w.heap.size) (cs U8 k) rfl rfl rfl (by go_simp) (M11.row (by simp)) (by simp [hk, hn]) rfl ?_
    refine wpT_ld0 35 Tryd.underlying29 rfl inf_nonce (b5) (cs U8 n) rfl rfl rfl (by go_simp) (M11.row (by simp)) (by simp [hk, hn]) rfl ?_
    refine wpT_valp 36 (v := .slice AO o.length co) rfl rfl rfl (by go_simp) ?_
    refine wpT_valp 37 (v := .slice AB b.length cb) rfl rfl rfl (by go_simp) ?_
    try simp only [Act.put, List.setIfInBounds_toArray, List.set_cons_succ, List.set_cons_zero]
    refine wpT_callv 38 M11 (v := .tuple #[.slice none 0 0, .int .i64 4]) rfl rfl rfl (by go_simp) (rOpen_short w10 k n b (.slice AO o.length co) (.slice AB b.length cb) hk hn (SV.below HVB.out (T0.out _ _ M11).end_) (by omega)) (fun w12 M13 => ?_)
    refine wpT_valp 33 (v := .tuple #[.slice none 0 0, .int .i64 4]) rfl rfl rfl (by go_simp) ?_
    refine wpT_valp 39 (v := .slice none 0 0) rfl rfl rfl (by go_simp) ?_
    refine wpT_valp 40 (v := .int .i64 4) rfl rfl rfl (by go_simp) ?_
    refine wpT_valp 10 (v := .slice none 0 0) rfl rfl rfl (by go_simp) ?_
    try simp only [Act.put, List.setIfInBounds_toArray, List.set_cons_succ, List.set_cons_zero]
    refine wpT_valp 11 (v := .int .i64 4) rfl rfl rfl (by go_simp) ?_
    dsimp only [wpT]
    try simp only [Act.put, List.setIfInBounds_toArray, List.set_cons_succ, List.set_cons_zero]
    go_upto_region 8 with fail
    refine wp_region_lin (.op 0 (.op 1 (.op 2 (.op 3 (.op 4 (.op 5 (.op 6 (.op 7 (.op 8 (.op 9 (.op 10 .done))))))))))) (by rfl) ?_
    refine wpT_valp 41 (v := .slice none 0 0) rfl rfl rfl (by go_simp) ?_
    refine wpT_valp 42 (v := .string (Bs [])) rfl rfl rfl (by have s0 := bytes_str (OB.nil w12 0).bs; unfold Sv at s0; go_simp) ?_
    refine wpT_valp 43 (v := .slice none 0 0) rfl rfl rfl (by go_simp) ?_
    refine wpT_valp 44 (v := .string (Bs [])) rfl rfl rfl (by have s0 := bytes_str (OB.nil w12 0).bs; unfold Sv at s0; go_simp) ?_
    try simp only [Act.put, List.setIfInBounds_toArray, List.set_cons_succ, List.set_cons_zero]
    refine wpT_valp 45 (v := .bool true) rfl rfl rfl (by go_simp) ?_
    refine wpT_valp 46 (v := .bool true) rfl rfl rfl (by go_simp) ?_
    refine wpT_valp 47 (v := .int .i64 4) rfl rfl (by simp [Region.wanted, yielded, Act.put]) (by go_simp) ?_
    refine wpT_valp 48 (v := .int .i64 4) rfl rfl (by simp [Region.wanted, yielded, Act.put]) (by go_simp) ?_
    refine wpT_valp 49 (v := .bool true) rfl rfl (by simp [Region.wanted, yielded, Act.put]) (by go_simp) ?_
    try simp only [Act.put, List.setIfInBounds_toArray, List.set_cons_succ, List.set_cons_zero]
    refine wpT_valp 50 (v := .bool true) rfl rfl rfl (by go_simp) ?_
    refine wpT_valp 6 (v := .bool true) rfl rfl rfl (by go_simp) ?_
    dsimp only [wpT]
    try simp only [Act.put, List.setIfInBounds_toArray, List.set_cons_succ, List.set_cons_zero]
    go_wp2_with fail
    go_ret
    exact ⟨rfl, (T0.out _ _ M13).end_⟩
  by_cases hr : Ad.tag k n o (b.take (b.length - 16)) = b.drop (b.length - 16)
  · obtain ⟨x, ex⟩ : ∃ x, x = Ad.hid k n (b.take (b.length - 16)) := ⟨_, rfl⟩
    obtain ⟨e, he⟩ : ∃ e, e = b.length - 16 := ⟨_, rfl⟩
    have hxl : x.length = e := by rw [ex, hid_len, List.length_take]; omega
    have HX := hid ex
    have HR := hid hr
    clear ex hr he
    have M0 := Mm.start no w
    go_enter Tryd.func8, Tryd.ntmps8
    have M2 := (M0.alloc (cs U8 k) 23 (by decide))
    try simp only [World.size_alloc] at M2
    go_upto_region 1 with fail
    obtain ⟨w1, hw1⟩ : ∃ w1, w1 = (w.alloc (.cells (cs U8 k) 23)) := ⟨_, rfl⟩
    rw [← hw1] at M2 ⊢
    clear hw1
    refine wp_region_lin (.op 0 (.op 1 .done)) (by rfl) ?_
    refine wpT_callv 12 M2 (v := .bool true) rfl rfl rfl (by go_simp) (alive6_v2 HT.out M2.end_) (fun w3 M4 => ?_)
    refine wpT_valp 13 (v := .bool false) rfl rfl rfl (by go_simp) ?_
    dsimp only [wpT]
    try simp only [Act.put, List.setIfInBounds_toArray, List.set_cons_succ, List.set_cons_zero]
    go_upto_region 3 with fail
    refine wp_region_lin (.op 0 (.op 1 (.op 2 (.op 3 (.op 4 (.op 5 (.op 6 (.op 7 .done)))))))) (by rfl) ?_
    refine wpT_valp 14 (v := .slice AO o.length co) rfl rfl rfl (by go_simp) ?_
    refine wpT_valp 15 (v := .int .i64 o.length) rfl rfl rfl (by go_simp) ?_
    refine wpT_valp 16 (v := .bool false) rfl rfl rfl (by go_simp) ?_
    refine wpT_valp 17 (v := .bool false) rfl rfl rfl (by go_simp) ?_
    try simp only [Act.put, List.setIfInBounds_toArray, List.set_cons_succ, List.set_cons_zero]
    refine wpT_valp 18 (v := .slice AB b.length cb) rfl rfl (by simp [Region.wanted, yielded, Act.put]) (by go_simp) ?_
    refine wpT_valp 19 (v := .int .i64 b.length) rfl rfl (by simp [Region.wanted, yielded, Act.put]) (by go_simp) ?_
    refine wpT_valp 20 (v := .bool false) rfl rfl (by simp [Region.wanted, yielded, Act.put]) (by go_simp) ?_
    refine wpT_valp 21 (v := .bool false) rfl rfl rfl (by go_simp) ?_
    dsimp only [wpT]
    try simp only [Act.put, List.setIfInBounds_toArray, List.set_cons_succ, List.set_cons_zero]
    go_upto_region 5 with fail
    refine wp_region_lin (.op 0 (.op 1 (.op 2 (.op 3 (.op 4 .done))))) (by rfl) ?_
    refine wpT_valp 22 (v := .slice (some ⟨w.heap.size, 20, none⟩) 12 12) rfl rfl rfl (by go_simp) ?_
    refine wpT_valp 23 (v := .pointer (some ⟨w.heap.size, 20, none⟩)) rfl rfl rfl (by go_simp) ?_
    refine wpT_ldm 24 Tryd.underlying29 rfl inf_nonce (w.heap.size) 20 (cs U8 k) (cs U8 n) rfl rfl rfl (by go_simp) (M4.row (by simp)) (by simp [hk]) HNK.out rfl ?_
    refine wpT_new (z := .agg (cs U8 (zs 12))) 7 M4 (by kernel_rfl) (by decide) rfl rfl rfl rfl (fun b5 w6 M7 => ?_)
    try dsimp only [Value.cells] at M7
    try simp only [Act.put, List.setIfInBounds_toArray, List.set_cons_succ, List.set_cons_zero]
    refine wpT_st0 M7 0 (cs U8 n) inf_nonce rfl rfl rfl rfl (by go_simp) (by go_simp) (by simp [hk, hn]) (by simp [hk, hn]) (by simp [go_sem]) rfl (fun w8 M9 => ?_)
    dsimp only [List.set] at M9
    dsimp only [wpT]
    try simp only [Act.put, List.setIfInBounds_toArray, List.set_cons_succ, List.set_cons_zero]
    go_upto_region 6 with fail
    refine wp_region_lin (.op 0 (.op 1 (.op 2 (.op 3 (.op 4 (.op 5 (.op 6 (.op 7 (.op 8 (.op 9 .done)))))))))) (by rfl) ?_
    refine wpT_ld0 26 Tryd.underlying23 rfl inf_key (w.heap.size) (cs U8 k) rfl rfl rfl (by go_simp) (M9.row (by simp)) (by simp [hk, hn]) rfl ?_
    refine wpT_ld0 27 Tryd.underlying29 rfl inf_nonce (b5) (cs U8 n) rfl rfl rfl (by go_simp) (M9.row (by simp)) (by simp [hk, hn]) rfl ?_
    refine wpT_valp 28 (v := .slice AO o.length co) rfl rfl rfl (by go_simp) ?_
    refine wpT_valp 29 (v := .slice AB b.length cb) rfl rfl rfl (by go_simp) ?_
    try simp only [Act.put, List.setIfInBounds_toArray, List.set_cons_succ, List.set_cons_zero]
    refine wpT_callN 30 M9 (l := x) (fun v => .tuple #[v, .int .i64 0]) rfl rfl rfl (by go_simp) (open_v HX.out HR.out HT.out (T0.out _ _ M9).end_ hk hn (SV.below HVO.out (T0.out _ _ M9).end_) (SV.below HVB.out (T0.out _ _ M9).end_) (by omega) (by omega) (by omega)) (fun v10 w11 S13 M12 T14 K15 => ?_)
    replace T0 := backT T0 T14
    obtain ⟨A16, c17, rfl, -⟩ := (K15.out _ _ M12).1.shape' e hxl
    refine wpT_valp 25 (v := .tuple #[.slice A16 e c17, .int .i64 0]) rfl rfl rfl (by go_simp) ?_
    refine wpT_valp 31 (v := .slice A16 e c17) rfl rfl rfl (by go_simp) ?_
    refine wpT_valp 32 (v := .int .i64 0) rfl rfl rfl (by go_simp) ?_
    refine wpT_valp 8 (v := .slice A16 e c17) rfl rfl rfl (by go_simp) ?_
    try simp only [Act.put, List.setIfInBounds_toArray, List.set_cons_succ, List.set_cons_zero]
    refine wpT_valp 9 (v := .int .i64 0) rfl rfl rfl (by go_simp) ?_
    dsimp only [wpT]
    try simp only [Act.put, List.setIfInBounds_toArray, List.set_cons_succ, List.set_cons_zero]
    go_upto_region 7 with fail
    refine wp_region_lin (.op 0 (.op 1 (.op 2 (.op 3 (.op 4 (.op 5 (.op 6 (.op 7 (.op 8 (.op 9 .done)))))))))) (by rfl) ?_
    refine wpT_ld0 34 Tryd.underlying23 rfl inf_key (w.heap.size) (cs U8 k) rfl rfl rfl (by go_simp) (M12.row (by simp)) (by simp [hk, hn]) rfl ?_
    refine wpT_ld0 35 Tryd.underlying29 rfl inf_nonce (b5) (cs U8 n) rfl rfl rfl (by go_simp) (M12.row (by simp)) (by simp [hk, hn]) rfl ?_
    refine wpT_valp 36 (v := .slice AO o.length co) rfl rfl rfl (by go_simp) ?_
    refine wpT_valp 37 (v := .slice AB b.length cb) rfl rfl rfl (by go_simp) ?_
    try simp only [Act.put, List.setIfInBounds_toArray, List.set_cons_succ, List.set_cons_zero]
    refine wpT_callN 38 M12 (l := x) (fun v => .tuple #[v, .int .i64 0]) rfl rfl rfl (by go_simp) (ropen_v HX.out HR.out hk hn (SV.below HVO.out (T0.out _ _ M12).end_) (SV.below HVB.out (T0.out _ _ M12).end_) (by omega) (by omega) (by omega)) (fun v18 w19 S21 M20 T22 K23 => ?_)
    replace K15 := backT K15 T22
    replace T0 := backT T0 T22
    obtain ⟨A24, c25, rfl, -⟩ := (K23.out _ _ M20).1.shape' e hxl
    refine wpT_valp 33 (v := .tuple #[.slice A24 e c25, .int .i64 0]) rfl rfl rfl (by go_simp) ?_
    refine wpT_valp 39 (v := .slice A24 e c25) rfl rfl rfl (by go_simp) ?_
    refine wpT_valp 40 (v := .int .i64 0) rfl rfl rfl (by go_simp) ?_
    refine wpT_valp 10 (v := .slice A24 e c25) rfl rfl rfl (by go_simp) ?_
    try simp only [Act.put, List.setIfInBounds_toArray, List.set_cons_succ, List.set_cons_zero]
    refine wpT_valp 11 (v := .int .i64 0) rfl rfl rfl (by go_simp) ?_
    dsimp only [wpT]
    try simp only [Act.put, List.setIfInBounds_toArray, List.set_cons_succ, List.set_cons_zero]
    go_upto_region 8 with fail
    refine wp_region_lin (.op 0 (.op 1 (.op 2 (.op 3 (.op 4 (.op 5 (.op 6 (.op 7 (.op 8 (.op 9 (.op 10 .done))))))))))) (by rfl) ?_
    refine wpT_valp 41 (v := .slice A16 e c17) rfl rfl rfl (by go_simp) ?_
    refine wpT_valp 42 (v := .string (Bs x)) rfl rfl rfl (by have s0 := bytes_str ((K15.out _ _ M20).1); unfold Sv at s0; go_simp) ?_
    refine wpT_valp 43 (v := .slice A24 e c25) rfl rfl rfl (by go_simp) ?_
    refine wpT_valp 44 (v := .string (Bs x)) rfl rfl rfl (by have s0 := bytes_str ((K23.out _ _ M20).1); unfold Sv at s0; go_simp) ?_
    try simp only [Act.put, List.setIfInBounds_toArray, List.set_cons_succ, List.set_cons_zero]
    refine wpT_valp 45 (v := .bool true) rfl rfl rfl (by go_simp) ?_
    refine wpT_valp 46 (v := .bool true) rfl rfl rfl (by go_simp) ?_
    refine wpT_valp 47 (v := .int .i64 0) rfl rfl (by simp [Region.wanted, yielded, Act.put]) (by go_simp) ?_
    refine wpT_valp 48 (v := .int .i64 0) rfl rfl (by simp [Region.wanted, yielded, Act.put]) (by go_simp) ?_
    refine wpT_valp 49 (v := .bool true) rfl rfl (by simp [Region.wanted, yielded, Act.put]) (by go_simp) ?_
    try simp only [Act.put, List.setIfInBounds_toArray, List.set_cons_succ, List.set_cons_zero]
    refine wpT_valp 50 (v := .bool true) rfl rfl rfl (by go_simp) ?_
    refine wpT_valp 6 (v := .bool true) rfl rfl rfl (by go_simp) ?_
    dsimp only [wpT]
    try simp only [Act.put, List.setIfInBounds_toArray, List.set_cons_succ, List.set_cons_zero]
    go_wp2_with fail
    go_ret
    exact ⟨rfl, (T0.out _ _ M20).end_⟩
  · have HR := hid hr
    clear hr
    have M0 := Mm.start no w
    go_enter Tryd.func8, Tryd.ntmps8
    have M2 := (M0.alloc (cs U8 k) 23 (by decide))
    try simp only [World.size_alloc] at M2
    go_upto_region 1 with fail
    obtain ⟨w1, hw1⟩ : ∃ w1, w1 = (w.alloc (.cells (cs U8 k) 23)) := ⟨_, rfl⟩
    rw [← hw1] at M2 ⊢
    clear hw1
    refine wp_region_lin (.op 0 (.op 1 .done)) (by rfl) ?_
    refine wpT_callv 12 M2 (v := .bool true) rfl rfl rfl (by go_simp) (alive6_v2 HT.out M2.end_) (fun w3 M4 => ?_)
    refine wpT_valp 13 (v := .bool false) rfl rfl rfl (by go_simp) ?_
    dsimp only [wpT]
    try simp only [Act.put, List.setIfInBounds_toArray, List.set_cons_succ, List.set_cons_zero]
    go_upto_region 3 with fail
    refine wp_region_lin (.op 0 (.op 1 (.op 2 (.op 3 (.op 4 (.op 5 (.op 6 (.op 7 .done)))))))) (by rfl) ?_
    refine wpT_valp 14 (v := .slice AO o.length co) rfl rfl rfl (by go_simp) ?_
    refine wpT_valp 15 (v := .int .i64 o.length) rfl rfl rfl (by go_simp) ?_
    refine wpT_valp 16 (v := .bool false) rfl rfl rfl (by go_simp) ?_
    refine wpT_valp 17 (v := .bool false) rfl rfl rfl (by go_simp) ?_
    try simp only [Act.put, List.setIfInBounds_toArray, List.set_cons_succ, List.set_cons_zero]
    refine wpT_valp 18 (v := .slice AB b.length cb) rfl rfl (by simp [Region.wanted, yielded, Act.put]) (by go_simp) ?_
    refine wpT_valp 19 (v := .int .i64 b.length) rfl rfl (by simp [Region.wanted, yielded, Act.put]) (by go_simp) ?_
    refine wpT_valp 20 (v := .bool false) rfl rfl (by simp [Region.wanted, yielded, Act.put]) (by go_simp) ?_
    refine wpT_valp 21 (v := .bool false) rfl rfl rfl (by go_simp) ?_
    dsimp only [wpT]
    try simp only [Act.put, List.setIfInBounds_toArray, List.set_cons_succ, List.set_cons_zero]
    go_upto_region 5 with fail
    refine wp_region_lin (.op 0 (.op 1 (.op 2 (.op 3 (.op 4 .done))))) (by rfl) ?_
    refine wpT_valp 22 (v := .slice (some ⟨w.heap.size, 20, none⟩) 12 12) rfl rfl rfl (by go_simp) ?_
    refine wpT_valp 23 (v := .pointer (some ⟨w.heap.size, 20, none⟩)) rfl rfl rfl (by go_simp) ?_
    refine wpT_ldm 24 Tryd.underlying29 rfl inf_nonce (w.heap.size) 20 (cs U8 k) (cs U8 n) rfl rfl rfl (by go_simp) (M4.row (by simp)) (by simp [hk]) HNK.out rfl ?_
    refine wpT_new (z := .agg (cs U8 (zs 12))) 7 M4 (by kernel_rfl) (by decide) rfl rfl rfl rfl (fun b5 w6 M7 => ?_)
    try dsimp only [Value.cells] at M7
    try simp only [Act.put, List.setIfInBounds_toArray, List.set_cons_succ, List.set_cons_zero]
    refine wpT_st0 M7 0 (cs U8 n) inf_nonce rfl rfl rfl rfl (by go_simp) (by go_simp) (by simp [hk, hn]) (by simp [hk, hn]) (by simp [go_sem]) rfl (fun w8 M9 => ?_)
    dsimp only [List.set] at M9
    dsimp only [wpT]
    try simp only [Act.put, List.setIfInBounds_toArray, List.set_cons_succ, List.set_cons_zero]
    go_upto_region 6 with fail
    refine wp_region_lin (.op 0 (.op 1 (.op 2 (.op 3 (.op 4 (.op 5 (.op 6 (.op 7 (.op 8 (.op 9 .done)))))))))) (by rfl) ?_
    refine wpT_ld0 26 Tryd.underlying23 rfl inf_key (w.heap.size) (cs U8 k) rfl rfl rfl (by go_simp) (M9.row (by simp)) (by simp [hk, hn]) rfl ?_
    refine wpT_ld0 27 Tryd.underlying29 rfl inf_nonce (b5) (cs U8 n) rfl rfl rfl (by go_simp) (M9.row (by simp)) (by simp [hk, hn]) rfl ?_
    refine wpT_valp 28 (v := .slice AO o.length co) rfl rfl rfl (by go_simp) ?_
    refine wpT_valp 29 (v := .slice AB b.length cb) rfl rfl rfl (by go_simp) ?_
    try simp only [Act.put, List.setIfInBounds_toArray, List.set_cons_succ, List.set_cons_zero]
    refine wpT_callN 30 M9 (l := []) (fun v => .tuple #[v, .int .i64 6]) rfl rfl rfl (by go_simp) (open_bad HR.out HT.out (T0.out _ _ M9).end_ hk hn (SV.below HVO.out (T0.out _ _ M9).end_) (SV.below HVB.out (T0.out _ _ M9).end_) (by omega) (by omega) (by omega)) (fun v10 w11 S13 M12 T14 K15 => ?_)
    replace T0 := backT T0 T14
    obtain ⟨A16, c17, rfl, -⟩ := (K15.out _ _ M12).1.shape' 0 rfl
    refine wpT_valp 25 (v := .tuple #[.slice A16 0 c17, .int .i64 6]) rfl rfl rfl (by go_simp) ?_
    refine wpT_valp 31 (v := .slice A16 0 c17) rfl rfl rfl (by go_simp) ?_
    refine wpT_valp 32 (v := .int .i64 6) rfl rfl rfl (by go_simp) ?_
    refine wpT_valp 8 (v := .slice A16 0 c17) rfl rfl rfl (by go_simp) ?_
    try simp only [Act.put, List.setIfInBounds_toArray, List.set_cons_succ, List.set_cons_zero]
    refine wpT_valp 9 (v := .int .i64 6) rfl rfl rfl (by go_simp) ?_
    dsimp only [wpT]
    try simp only [Act.put, List.setIfInBounds_toArray, List.set_cons_succ, List.set_cons_zero]
    go_upto_region 7 with fail
    refine wp_region_lin (.op 0 (.op 1 (.op 2 (.op 3 (.op 4 (.op 5 (.op 6 (.op 7 (.op 8 (.op 9 .done)))))))))) (by rfl) ?_
    refine wpT_ld0 34 Tryd.underlying23 rfl inf_key (w.heap.size) (cs U8 k) rfl rfl rfl (by go_simp) (M12.row (by simp)) (by simp [hk, hn]) rfl ?_
    refine wpT_ld0 35 Tryd.underlying29 rfl inf_nonce (b5) (cs U8 n) rfl rfl rfl (by go_simp) (M12.row (by simp)) (by simp [hk, hn]) rfl ?_
    refine wpT_valp 36 (v := .slice AO o.length co) rfl rfl rfl (by go_simp) ?_
    refine wpT_valp 37 (v := .slice AB b.length cb) rfl rfl rfl (by go_simp) ?_
    try simp only [Act.put, List.setIfInBounds_toArray, List.set_cons_succ, List.set_cons_zero]
    refine wpT_callv 38 M12 (v := .tuple #[.slice none 0 0, .int .i64 6]) rfl rfl rfl (by go_simp) (rOpen_bad w11 k n o b (.slice AO o.length co) (.slice AB b.length cb) hk hn (SV.below HVO.out (T0.out _ _ M12).end_) (SV.below HVB.out (T0.out _ _ M12).end_) (by omega) (by omega) (by omega) HR.out) (fun w18 M19 => ?_)
    refine wpT_valp 33 (v := .tuple #[.slice none 0 0, .int .i64 6]) rfl rfl rfl (by go_simp) ?_
    refine wpT_valp 39 (v := .slice none 0 0) rfl rfl rfl (by go_simp) ?_
    refine wpT_valp 40 (v := .int .i64 6) rfl rfl rfl (by go_simp) ?_
    refine wpT_valp 10 (v := .slice none 0 0) rfl rfl rfl (by go_simp) ?_
    try simp only [Act.put, List.setIfInBounds_toArray, List.set_cons_succ, List.set_cons_zero]
    refine wpT_valp 11 (v := .int .i64 6) rfl rfl rfl (by go_simp) ?_
    dsimp only [wpT]
    try simp only [Act.put, List.setIfInBounds_toArray, List.set_cons_succ, List.set_cons_zero]
    go_upto_region 8 with fail
    refine wp_region_lin (.op 0 (.op 1 (.op 2 (.op 3 (.op 4 (.op 5 (.op 6 (.op 7 (.op 8 (.op 9 (.op 10 .done))))))))))) (by rfl) ?_
    refine wpT_valp 41 (v := .slice A16 0 c17) rfl rfl rfl (by go_simp) ?_
    refine wpT_valp 42 (v := .string (Bs [])) rfl rfl rfl (by have s0 := bytes_str ((K15.out _ _ M19).1); unfold Sv at s0; go_simp) ?_
    refine wpT_valp 43 (v := .slice none 0 0) rfl rfl rfl (by go_simp) ?_
    refine wpT_valp 44 (v := .string (Bs [])) rfl rfl rfl (by have s0 := bytes_str (OB.nil w18 0).bs; unfold Sv at s0; go_simp) ?_
    try simp only [Act.put, List.setIfInBounds_toArray, List.set_cons_succ, List.set_cons_zero]
    refine wpT_valp 45 (v := .bool true) rfl rfl rfl (by go_simp) ?_
    refine wpT_valp 46 (v := .bool true) rfl rfl rfl (by go_simp) ?_
    refine wpT_valp 47 (v := .int .i64 6) rfl rfl (by simp [Region.wanted, yielded, Act.put]) (by go_simp) ?_
    refine wpT_valp 48 (v := .int .i64 6) rfl rfl (by simp [Region.wanted, yielded, Act.put]) (by go_simp) ?_
    refine wpT_valp 49 (v := .bool true) rfl rfl (by simp [Region.wanted, yielded, Act.put]) (by go_simp) ?_
    try simp only [Act.put, List.setIfInBounds_toArray, List.set_cons_succ, List.set_cons_zero]
    refine wpT_valp 50 (v := .bool true) rfl rfl rfl (by go_simp) ?_
    refine wpT_valp 6 (v := .bool true) rfl rfl rfl (by go_simp) ?_
    dsimp only [wpT]
    try simp only [Act.put, List.setIfInBounds_toArray, List.set_cons_succ, List.set_cons_zero]
    go_wp2_with fail
    go_ret
    exact ⟨rfl, (T0.out _ _ M19).end_⟩
end Go.Proofs.YtbigmnhjnjeeaaaDoor
