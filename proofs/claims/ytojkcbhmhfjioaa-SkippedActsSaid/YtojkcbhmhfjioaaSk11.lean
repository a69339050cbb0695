/-
  Law 18: SkippedActs; own work.
-/
import Derived.Test.YtojkcbhmhfjioaaSk10
set_option linter.unusedSimpArgs false
set_option linter.unusedVariables false
namespace Go.Proofs.Ytojkcbhmhfjioaa
open Go.RowKit
attribute [local irreducible] ENR RSR STR ACS wpT ky
set_option maxRecDepth 100000 in
set_option maxHeartbeats 20000000 in
theorem SkippedActs_w (w : World) (size : Int) (u : Value) (n : Nat) (A : List Sk.Ac) (hA : SV w u n (fl eC A)) (hn : A.length = n) (hok : ∀ x ∈ A, OkA w x) :
    Calls Try.prog 4 #[.int .i64 size, u] w fun e w' => e = .returned (.bool true) ∧ Below w.heap.size w w' := by
  have HA := hid hA
  have HN := hid hn
  have HOK := hid hok
  obtain ⟨ua, uc, rfl, _, hmx, _⟩ := hA
  have hncl : n ≤ 9223372036854775807 := by unfold maxLen at hmx; omega
  have hn0 : (0 : Int) ≤ (n : Int) := by omega
  clear hn hok hmx
  by_cases hb1 : size < 1
  · have HBAD := hid (show ¬ (1 ≤ size ∧ size ≤ 1000) by omega)
    have M0 := Mm.start no w
    go_enter Try.func4, Try.ntmps4
    go_upto_region 1 with fail
    refine wp_region_lin (.op 0 (.op 1 .done)) (by rfl) ?_
    refine wpT_callv 18 M0 (v := .bool true) rfl rfl rfl (by go_simp) (alive18_c w) (fun w1 M2 => ?_)
    refine wpT_valp 19 (v := .bool false) rfl rfl rfl (by go_simp) ?_
    first | dsimp only [wpT] | refine wpT_fin ?_
    try simp only [Act.put, List.setIfInBounds_toArray, List.set_cons_succ, List.set_cons_zero]
    go_upto_region 3 with fail
    refine wp_region_lin (.op 0 (.op 1 (.op 2 .done))) (by rfl) ?_
    refine wpT_valp 20 (v := .int .i64 size) rfl rfl rfl (by go_simp) ?_
    refine wpT_callv 21 M2 (v := .pointer none) rfl rfl rfl (by go_simp) (snew_bad w1 size HBAD.out) (fun w3 M4 => ?_)
    refine wpT_valp 5 (v := .pointer none) rfl rfl rfl (by go_simp) ?_
    first | dsimp only [wpT] | refine wpT_fin ?_
    try simp only [Act.put, List.setIfInBounds_toArray, List.set_cons_succ, List.set_cons_zero]
    go_upto_region 4 with fail
    refine wp_region_lin (.op 0 (.op 1 (.op 2 (.op 3 (.op 4 (.op 5 (.op 6 (.op 7 (.op 8 .done))))))))) (by rfl) ?_
    refine wpT_valp 22 (v := .pointer none) rfl rfl rfl (by go_simp) ?_
    refine wpT_valp 23 (v := .bool false) rfl rfl rfl (by go_simp) ?_
    refine wpT_valp 24 (v := .int .i64 size) rfl rfl rfl (by go_simp) ?_
    refine wpT_valp 25 (v := .bool false) rfl rfl rfl (by go_simp) ?_
    try simp only [Act.put, List.setIfInBounds_toArray, List.set_cons_succ, List.set_cons_zero]
    refine wpT_valp 26 (v := .bool false) rfl rfl rfl (by go_simp) ?_
    refine wpT_unx 27 rfl rfl (by simp [Region.wanted, yielded, Act.put]) ?_
    try simp only [Act.put, List.setIfInBounds_toArray, List.set_cons_succ, List.set_cons_zero]
    refine wpT_unx 28 rfl rfl (by simp [Region.wanted, yielded, Act.put]) ?_
    try simp only [Act.put, List.setIfInBounds_toArray, List.set_cons_succ, List.set_cons_zero]
    refine wpT_valp 29 (v := .bool false) rfl rfl rfl (by go_simp) ?_
    refine wpT_valp 30 (v := .bool false) rfl rfl rfl (by go_simp) ?_
    first | dsimp only [wpT] | refine wpT_fin ?_
    try simp only [Act.put, List.setIfInBounds_toArray, List.set_cons_succ, List.set_cons_zero]
    go_upto_region 6 with fail
    refine wp_region_lin (.op 0 (.op 1 (.op 2 (.op 3 .done)))) (by rfl) ?_
    refine wpT_valp 31 (v := .int .i64 size) rfl rfl rfl (by go_simp) ?_
    refine wpT_valL 32 (v := .agg (RSR (.slice none 0 0) size)) rfl rfl rfl (by go_simp <;> (unfold RSR; rfl)) ?_
    refine wpT_new (z := .agg (RSR (.slice none 0 0) 0)) 6 M4 (by kernel_rfl) (by decide) rfl rfl rfl rfl (fun b5 w6 M7 => ?_)
    try dsimp only [Value.cells] at M7
    refine wpT_st0 M7 0 (RSR (.slice none 0 0) size) inf_rst rfl rfl rfl rfl (by go_simp) (by go_simp) (by simp [Ky.len, ENR_size, RSR_size, STR_size, ACS_size]) (by simp [Ky.len, ENR_size, RSR_size, STR_size, ACS_size]) (by simp [go_sem]) rfl (fun w8 M9 => ?_)
    dsimp only [List.set] at M9
    first | dsimp only [wpT] | refine wpT_fin ?_
    try simp only [Act.put, List.setIfInBounds_toArray, List.set_cons_succ, List.set_cons_zero]
    go_upto_region 7 with fail
    refine wp_region_lin (.op 0 .done) (by rfl) ?_
    refine wpT_valp 7 (v := .int .i64 0) rfl rfl rfl (by go_simp) ?_
    first | dsimp only [wpT] | refine wpT_fin ?_
    try simp only [Act.put, List.setIfInBounds_toArray, List.set_cons_succ, List.set_cons_zero]
    go_wp2_with fail
    go_loopw [5, 7] (fun x5 x7 wr => x5 = .pointer none ∧ x7 = .int .i64 0 ∧ Mm no w [(b5, RSR (.slice none 0 0) size)] wr) (fun _ _ _ => 0)
    case atStart => exact ⟨rfl, rfl, M9⟩
    case round =>
      obtain ⟨rfl, rfl, M⟩ := hrel
      clear M9
      go_upto_region 8 with fail
      refine wp_region_lin (.op 0 (.op 1 (.op 2 (.op 3 (.op 4 (.op 5 (.op 6 (.op 7 (.op 8 (.op 9 (.op 10 (.op 11 .done)))))))))))) (by rfl) ?_
      refine wpT_valp 33 (v := .pointer none) rfl rfl rfl (by go_simp) ?_
      refine wpT_valp 34 (v := .bool false) rfl rfl rfl (by go_simp) ?_
      refine wpT_valp 35 (v := .bool false) rfl rfl rfl (by go_simp) ?_
      refine wpT_unx 36 rfl rfl (by simp [Region.wanted, yielded, Act.put]) ?_
      try simp only [Act.put, List.setIfInBounds_toArray, List.set_cons_succ, List.set_cons_zero]
      refine wpT_unx 37 rfl rfl (by simp [Region.wanted, yielded, Act.put]) ?_
      try simp only [Act.put, List.setIfInBounds_toArray, List.set_cons_succ, List.set_cons_zero]
      refine wpT_unx 38 rfl rfl (by simp [Region.wanted, yielded, Act.put]) ?_
      try simp only [Act.put, List.setIfInBounds_toArray, List.set_cons_succ, List.set_cons_zero]
      refine wpT_unx 39 rfl rfl (by simp [Region.wanted, yielded, Act.put]) ?_
      try simp only [Act.put, List.setIfInBounds_toArray, List.set_cons_succ, List.set_cons_zero]
      refine wpT_valp 40 (v := .bool false) rfl rfl rfl (by go_simp) ?_
      refine wpT_valp 41 (v := .bool false) rfl rfl rfl (by go_simp) ?_
      refine wpT_unx 42 rfl rfl (by simp [Region.wanted, yielded, Act.put]) ?_
      try simp only [Act.put, List.setIfInBounds_toArray, List.set_cons_succ, List.set_cons_zero]
      refine wpT_unx 43 rfl rfl (by simp [Region.wanted, yielded, Act.put]) ?_
      try simp only [Act.put, List.setIfInBounds_toArray, List.set_cons_succ, List.set_cons_zero]
      refine wpT_valp 44 (v := .bool false) rfl rfl rfl (by go_simp) ?_
      first | dsimp only [wpT] | refine wpT_fin ?_
      try simp only [Act.put, List.setIfInBounds_toArray, List.set_cons_succ, List.set_cons_zero]
      go_upto_region 27 with fail
      refine wp_region_lin (.op 0 .done) (by rfl) ?_
      refine wpT_valp 4 (v := .bool true) rfl rfl rfl (by go_simp) ?_
      first | dsimp only [wpT] | refine wpT_fin ?_
      try simp only [Act.put, List.setIfInBounds_toArray, List.set_cons_succ, List.set_cons_zero]
      go_wp2_with fail
      go_ret
      exact ⟨rfl, M.end_⟩
  by_cases hb2 : 1000 < size
  · have hb0 : 1 ≤ size := by omega
    have HBAD := hid (show ¬ (1 ≤ size ∧ size ≤ 1000) by omega)
    have M0 := Mm.start no w
    go_enter Try.func4, Try.ntmps4
    go_upto_region 1 with fail
    refine wp_region_lin (.op 0 (.op 1 .done)) (by rfl) ?_
    refine wpT_callv 18 M0 (v := .bool true) rfl rfl rfl (by go_simp) (alive18_c w) (fun w1 M2 => ?_)
    refine wpT_valp 19 (v := .bool false) rfl rfl rfl (by go_simp) ?_
    first | dsimp only [wpT] | refine wpT_fin ?_
    try simp only [Act.put, List.setIfInBounds_toArray, List.set_cons_succ, List.set_cons_zero]
    go_upto_region 3 with fail
    refine wp_region_lin (.op 0 (.op 1 (.op 2 .done))) (by rfl) ?_
    refine wpT_valp 20 (v := .int .i64 size) rfl rfl rfl (by go_simp) ?_
    refine wpT_callv 21 M2 (v := .pointer none) rfl rfl rfl (by go_simp) (snew_bad w1 size HBAD.out) (fun w3 M4 => ?_)
    refine wpT_valp 5 (v := .pointer none) rfl rfl rfl (by go_simp) ?_
    first | dsimp only [wpT] | refine wpT_fin ?_
    try simp only [Act.put, List.setIfInBounds_toArray, List.set_cons_succ, List.set_cons_zero]
    go_upto_region 4 with fail
    refine wp_region_lin (.op 0 (.op 1 (.op 2 (.op 3 (.op 4 (.op 5 (.op 6 (.op 7 (.op 8 .done))))))))) (by rfl) ?_
    refine wpT_valp 22 (v := .pointer none) rfl rfl rfl (by go_simp) ?_
    refine wpT_valp 23 (v := .bool false) rfl rfl rfl (by go_simp) ?_
    refine wpT_valp 24 (v := .int .i64 size) rfl rfl rfl (by go_simp) ?_
    refine wpT_valp 25 (v := .bool true) rfl rfl rfl (by go_simp) ?_
    try simp only [Act.put, List.setIfInBounds_toArray, List.set_cons_succ, List.set_cons_zero]
    refine wpT_valp 26 (v := .bool true) rfl rfl rfl (by go_simp) ?_
    refine wpT_valp 27 (v := .int .i64 size) rfl rfl (by simp [Region.wanted, yielded, Act.put]) (by go_simp) ?_
    refine wpT_valp 28 (v := .bool false) rfl rfl (by simp [Region.wanted, yielded, Act.put]) (by go_simp) ?_
    refine wpT_valp 29 (v := .bool false) rfl rfl rfl (by go_simp) ?_
    refine wpT_valp 30 (v := .bool false) rfl rfl rfl (by go_simp) ?_
    first | dsimp only [wpT] | refine wpT_fin ?_
    try simp only [Act.put, List.setIfInBounds_toArray, List.set_cons_succ, List.set_cons_zero]
    go_upto_region 6 with fail
    refine wp_region_lin (.op 0 (.op 1 (.op 2 (.op 3 .done)))) (by rfl) ?_
    refine wpT_valp 31 (v := .int .i64 size) rfl rfl rfl (by go_simp) ?_
    refine wpT_valL 32 (v := .agg (RSR (.slice none 0 0) size)) rfl rfl rfl (by go_simp <;> (unfold RSR; rfl)) ?_
    refine wpT_new (z := .agg (RSR (.slice none 0 0) 0)) 6 M4 (by kernel_rfl) (by decide) rfl rfl rfl rfl (fun b5 w6 M7 => ?_)
    try dsimp only [Value.cells] at M7
    refine wpT_st0 M7 0 (RSR (.slice none 0 0) size) inf_rst rfl rfl rfl rfl (by go_simp) (by go_simp) (by simp [Ky.len, ENR_size, RSR_size, STR_size, ACS_size]) (by simp [Ky.len, ENR_size, RSR_size, STR_size, ACS_size]) (by simp [go_sem]) rfl (fun w8 M9 => ?_)
    dsimp only [List.set] at M9
    first | dsimp only [wpT] | refine wpT_fin ?_
    try simp only [Act.put, List.setIfInBounds_toArray, List.set_cons_succ, List.set_cons_zero]
    go_upto_region 7 with fail
    refine wp_region_lin (.op 0 .done) (by rfl) ?_
    refine wpT_valp 7 (v := .int .i64 0) rfl rfl rfl (by go_simp) ?_
    first | dsimp only [wpT] | refine wpT_fin ?_
    try simp only [Act.put, List.setIfInBounds_toArray, List.set_cons_succ, List.set_cons_zero]
    go_wp2_with fail
    go_loopw [5, 7] (fun x5 x7 wr => x5 = .pointer none ∧ x7 = .int .i64 0 ∧ Mm no w [(b5, RSR (.slice none 0 0) size)] wr) (fun _ _ _ => 0)
    case atStart => exact ⟨rfl, rfl, M9⟩
    case round =>
      obtain ⟨rfl, rfl, M⟩ := hrel
      clear M9
      go_upto_region 8 with fail
      refine wp_region_lin (.op 0 (.op 1 (.op 2 (.op 3 (.op 4 (.op 5 (.op 6 (.op 7 (.op 8 (.op 9 (.op 10 (.op 11 .done)))))))))))) (by rfl) ?_
      refine wpT_valp 33 (v := .pointer none) rfl rfl rfl (by go_simp) ?_
      refine wpT_valp 34 (v := .bool false) rfl rfl rfl (by go_simp) ?_
      refine wpT_valp 35 (v := .bool false) rfl rfl rfl (by go_simp) ?_
      refine wpT_unx 36 rfl rfl (by simp [Region.wanted, yielded, Act.put]) ?_
      try simp only [Act.put, List.setIfInBounds_toArray, List.set_cons_succ, List.set_cons_zero]
      refine wpT_unx 37 rfl rfl (by simp [Region.wanted, yielded, Act.put]) ?_
      try simp only [Act.put, List.setIfInBounds_toArray, List.set_cons_succ, List.set_cons_zero]
      refine wpT_unx 38 rfl rfl (by simp [Region.wanted, yielded, Act.put]) ?_
      try simp only [Act.put, List.setIfInBounds_toArray, List.set_cons_succ, List.set_cons_zero]
      refine wpT_unx 39 rfl rfl (by simp [Region.wanted, yielded, Act.put]) ?_
      try simp only [Act.put, List.setIfInBounds_toArray, List.set_cons_succ, List.set_cons_zero]
      refine wpT_valp 40 (v := .bool false) rfl rfl rfl (by go_simp) ?_
      refine wpT_valp 41 (v := .bool false) rfl rfl rfl (by go_simp) ?_
      refine wpT_unx 42 rfl rfl (by simp [Region.wanted, yielded, Act.put]) ?_
      try simp only [Act.put, List.setIfInBounds_toArray, List.set_cons_succ, List.set_cons_zero]
      refine wpT_unx 43 rfl rfl (by simp [Region.wanted, yielded, Act.put]) ?_
      try simp only [Act.put, List.setIfInBounds_toArray, List.set_cons_succ, List.set_cons_zero]
      refine wpT_valp 44 (v := .bool false) rfl rfl rfl (by go_simp) ?_
      first | dsimp only [wpT] | refine wpT_fin ?_
      try simp only [Act.put, List.setIfInBounds_toArray, List.set_cons_succ, List.set_cons_zero]
      go_upto_region 27 with fail
      refine wp_region_lin (.op 0 .done) (by rfl) ?_
      refine wpT_valp 4 (v := .bool true) rfl rfl rfl (by go_simp) ?_
      first | dsimp only [wpT] | refine wpT_fin ?_
      try simp only [Act.put, List.setIfInBounds_toArray, List.set_cons_succ, List.set_cons_zero]
      go_wp2_with fail
      go_ret
      exact ⟨rfl, M.end_⟩
  have hs1 : 1 ≤ size := by omega
  have hs2 : size ≤ 1000 := by omega
  have hrm : 0 < size := by omega
  have hsz0 : 0 ≤ size := by omega
  obtain ⟨B, hB⟩ : ∃ B, B = w.heap.size := ⟨_, rfl⟩
  have HB := hid hB
  clear hB
  have M0 := Mm.start no w
  go_enter Try.func4, Try.ntmps4
  go_upto_region 1 with fail
  refine wp_region_lin (.op 0 (.op 1 .done)) (by rfl) ?_
  refine wpT_callv 18 M0 (v := .bool true) rfl rfl rfl (by go_simp) (alive18_c w) (fun w1 M2 => ?_)
  refine wpT_valp 19 (v := .bool false) rfl rfl rfl (by go_simp) ?_
  first | dsimp only [wpT] | refine wpT_fin ?_
  try simp only [Act.put, List.setIfInBounds_toArray, List.set_cons_succ, List.set_cons_zero]
  go_upto_region 3 with fail
  refine wp_region_lin (.op 0 (.op 1 (.op 2 .done))) (by rfl) ?_
  refine wpT_valp 20 (v := .int .i64 size) rfl rfl rfl (by go_simp) ?_
  refine wpT_objS (U := Nat) (fun b => .pointer (some ⟨b, 0, none⟩)) (fun b => SF b (.slice none 0 0)) (fun b w => SO w B b size [] (.slice none 0 0)) (some 21) M2 rfl rfl rfl (by go_simp) (snew_e _ _ size (by rw [HB.out]; exact M2.size) hs1 hs2) (fun b => SO.stb _ _ _ _ _) (fun b wn Sn Mn Kn Fn => ?_)
  refine wpT_valp 5 (v := .pointer (some ⟨b, 0, none⟩)) rfl rfl rfl (by go_simp) ?_
  first | dsimp only [wpT] | refine wpT_fin ?_
  try simp only [Act.put, List.setIfInBounds_toArray, List.set_cons_succ, List.set_cons_zero]
  go_upto_region 4 with fail
  refine wp_region_lin (.op 0 (.op 1 (.op 2 (.op 3 (.op 4 (.op 5 (.op 6 (.op 7 (.op 8 .done))))))))) (by rfl) ?_
  refine wpT_valp 22 (v := .pointer (some ⟨b, 0, none⟩)) rfl rfl rfl (by go_simp) ?_
  refine wpT_valp 23 (v := .bool true) rfl rfl rfl (by go_simp) ?_
  refine wpT_valp 24 (v := .int .i64 size) rfl rfl rfl (by go_simp) ?_
  refine wpT_valp 25 (v := .bool true) rfl rfl rfl (by go_simp) ?_
  try simp only [Act.put, List.setIfInBounds_toArray, List.set_cons_succ, List.set_cons_zero]
  refine wpT_valp 26 (v := .bool true) rfl rfl rfl (by go_simp) ?_
  refine wpT_valp 27 (v := .int .i64 size) rfl rfl (by simp [Region.wanted, yielded, Act.put]) (by go_simp) ?_
  refine wpT_valp 28 (v := .bool true) rfl rfl (by simp [Region.wanted, yielded, Act.put]) (by go_simp) ?_
  refine wpT_valp 29 (v := .bool true) rfl rfl rfl (by go_simp) ?_
  refine wpT_valp 30 (v := .bool false) rfl rfl rfl (by go_simp) ?_
  first | dsimp only [wpT] | refine wpT_fin ?_
  try simp only [Act.put, List.setIfInBounds_toArray, List.set_cons_succ, List.set_cons_zero]
  go_upto_region 6 with fail
  refine wp_region_lin (.op 0 (.op 1 (.op 2 (.op 3 .done)))) (by rfl) ?_
  refine wpT_valp 31 (v := .int .i64 size) rfl rfl rfl (by go_simp) ?_
  refine wpT_valL 32 (v := .agg (RSR (.slice none 0 0) size)) rfl rfl rfl (by go_simp <;> (unfold RSR; rfl)) ?_
  refine wpT_new (z := .agg (RSR (.slice none 0 0) 0)) 6 Mn (by kernel_rfl) (by decide) rfl rfl rfl rfl (fun gm w4 M5 => ?_)
  try dsimp only [Value.cells] at M5
  refine wpT_st0 M5 0 (RSR (.slice none 0 0) size) inf_rst rfl rfl rfl rfl (by go_simp) (by go_simp) (by simp [Ky.len, ENR_size, RSR_size, STR_size, ACS_size]) (by simp [Ky.len, ENR_size, RSR_size, STR_size, ACS_size]) (by simp [go_sem]) rfl (fun w6 M7 => ?_)
  dsimp only [List.set] at M7
  first | dsimp only [wpT] | refine wpT_fin ?_
  try simp only [Act.put, List.setIfInBounds_toArray, List.set_cons_succ, List.set_cons_zero]
  go_upto_region 7 with fail
  refine wp_region_lin (.op 0 .done) (by rfl) ?_
  refine wpT_valp 7 (v := .int .i64 0) rfl rfl rfl (by go_simp) ?_
  first | dsimp only [wpT] | refine wpT_fin ?_
  try simp only [Act.put, List.setIfInBounds_toArray, List.set_cons_succ, List.set_cons_zero]
  go_wp2_with fail
  go_loopw [5, 7] (fun x5 x7 wr => ∃ (i b : Nat) (L : List Sk.En) (v : Value) (ra : Option Addr) (rc m : Nat), i ≤ n ∧ x5 = .pointer (some ⟨b, 0, none⟩) ∧ x7 = .int .i64 i ∧ Mm no w [(gm, RSR (.slice ra m rc) size)] wr ∧ XA wr B b size L v (.slice ra m rc) m L ∧ ¬ XF b v (.slice ra m rc) gm ∧ L.length ≤ size.toNat) (fun _ x _ => n - (intOf x).toNat)
  case atStart =>
    obtain ⟨hX, hM, hd⟩ := Kn _ _ M7
    exact ⟨0, b, [], .slice none 0 0, none, 0, 0, by omega, rfl, rfl, hM, ⟨hX, Ow.nil _ _ _ _, rfl, fun g _ h => by simp [obk] at h⟩, fun h => h.elim (fun h => hd (gm, RSR (.slice none 0 0) size) (by simp) h) (fun h => by simp [obk] at h), by simp⟩
  case round =>
    clear M7 Kn Fn
    obtain ⟨i, b, L, v, ra, rc, m, hi, rfl, rfl, MO, X, hdm, hle⟩ := hrel
    have HLM := hid X.ln
    have HLE := hid hle
    have hL9 : L.length ≤ 1000 := by omega
    have hm9 : m ≤ 1000 := by have := X.ln; omega
    have F0 : ∀ g, XF b v (.slice ra m rc) g → no g ∨ w.heap.size ≤ g := fun g hg => .inr (by have := X.b_ g hg; rw [HB.out] at this; exact this)
    obtain ⟨S0, M, K0⟩ := MO.keep (XA.stb _ _ _ _ _ _ _ _) X (fun q hq => by
      simp only [List.mem_cons, List.not_mem_nil, or_false] at hq
      subst hq; exact hdm)
    clear MO X hdm hle
    by_cases hin : i < n
    · have hlt : (i : Int) < (n : Int) := by omega
      have hi00 : (0 : Int) ≤ (i : Int) := by omega
      by_cases h60 : i < 60
      · have hlt60 : (i : Int) < 60 := by omega
        obtain ⟨x, hx⟩ : ∃ x, A[i]? = some x := ⟨_, List.getElem?_eq_getElem (by have := HN.out; omega)⟩
        have okx := HOK.out x (List.mem_of_getElem? hx)
        obtain ⟨gu, uo, uc', e⟩ := sv_some eC_len (by decide) HA.out (by have := HN.out; omega)
        injection e with e1 e2 e3
        subst e1
        clear e2 e3
        obtain ⟨q, p, e, kv, ks⟩ := x
        obtain ⟨hq0, hq1, he0, he1, hks0⟩ := okx
        have hks : SV w kv ks.length (fl eK ks) := hks0
        clear hks0
        have HKS0 := hid hks
        obtain ⟨ka, kc, rfl, hkc, hkm, _⟩ := hks
        obtain ⟨kn, hkn⟩ : ∃ n, ks.length = n := ⟨_, rfl⟩
        have HKL := hid hkn
        dsimp only at hq0 hq1 he0 he1
        rw [hkn] at HKS0 hkc hx
        have HKS := HKS0
        have HEL : Hid (∀ w', Below w.heap.size w w' → exLoad Try.prog 31 (.pointer (some ⟨gu, uo + i * 35, none⟩)) w' = .ok (.value (.agg (ACS q p e (.slice ka kn kc)))) w') := hid fun w' h =>
          sv_load eC_len Try.underlying31 rfl inf_acs (by decide) (SV.below HA.out h) hx (ACS q p e (.slice ka kn kc)) rfl
        obtain ⟨i1, hi1⟩ : ∃ j, j = i + 1 := ⟨_, rfl⟩
        have HI1 := hid (show IntKind.i64.wrap ((i : Int) + 1) = (i1 : Int) by rw [i64w (by omega) (by omega), hi1]; rfl)
        have HII := hid hi1
        have hkncl : kn ≤ 9223372036854775807 := by unfold maxLen at hkm; omega
        clear hx hi1 hkn HKS0 hkc hkm
        by_cases hbig : 100 < kn
        · have hbz : (100 : Int) < (kn : Int) := by omega
          clear hbig
          go_upto_region 8 with fail
          refine wp_region_lin (.op 0 (.op 1 (.op 2 (.op 3 (.op 4 (.op 5 (.op 6 (.op 7 (.op 8 (.op 9 (.op 10 (.op 11 .done)))))))))))) (by rfl) ?_
          refine wpT_valp 33 (v := .pointer (some ⟨b, 0, none⟩)) rfl rfl rfl (by go_simp) ?_
          refine wpT_valp 34 (v := .bool true) rfl rfl rfl (by go_simp) ?_
          refine wpT_valp 35 (v := .bool true) rfl rfl rfl (by go_simp) ?_
          refine wpT_valp 36 (v := .int .i64 i) rfl rfl (by simp [Region.wanted, yielded, Act.put]) (by go_simp) ?_
          try simp only [Act.put, List.setIfInBounds_toArray, List.set_cons_succ, List.set_cons_zero]
          refine wpT_valp 37 (v := .slice (some ⟨gu, uo, none⟩) n uc) rfl rfl (by simp [Region.wanted, yielded, Act.put]) (by go_simp) ?_
          refine wpT_valp 38 (v := .int .i64 n) rfl rfl (by simp [Region.wanted, yielded, Act.put]) (by go_simp) ?_
          refine wpT_valp 39 (v := .bool true) rfl rfl (by simp [Region.wanted, yielded, Act.put]) (by go_simp) ?_
          refine wpT_valp 40 (v := .bool true) rfl rfl rfl (by go_simp) ?_
          refine wpT_valp 41 (v := .bool true) rfl rfl rfl (by go_simp) ?_
          try simp only [Act.put, List.setIfInBounds_toArray, List.set_cons_succ, List.set_cons_zero]
          refine wpT_valp 42 (v := .int .i64 i) rfl rfl (by simp [Region.wanted, yielded, Act.put]) (by go_simp) ?_
          refine wpT_valp 43 (v := .bool true) rfl rfl (by simp [Region.wanted, yielded, Act.put]) (by go_simp) ?_
          refine wpT_valp 44 (v := .bool true) rfl rfl rfl (by go_simp) ?_
          first | dsimp only [wpT] | refine wpT_fin ?_
          try simp only [Act.put, List.setIfInBounds_toArray, List.set_cons_succ, List.set_cons_zero]
          go_upto_region 10 with fail
          refine wp_region_lin (.op 0 (.op 1 (.op 2 (.op 3 (.op 4 (.op 5 .done)))))) (by rfl) ?_
          refine wpT_valp 47 (v := .slice (some ⟨gu, uo, none⟩) n uc) rfl rfl rfl (by go_simp) ?_
          refine wpT_valp 48 (v := .int .i64 i) rfl rfl rfl (by go_simp) ?_
          refine wpT_valp 49 (v := .pointer (some ⟨gu, uo + i * 35, none⟩)) rfl rfl rfl (by go_simp) ?_
          refine wpT_ldy 50 (.pointer (some ⟨gu, uo + i * 35, none⟩)) (.agg (ACS q p e (.slice ka kn kc))) rfl rfl rfl (by go_simp) (HEL.out _ (K0 _ _ M).2.1.end_) rfl ?_
          try simp only [Act.put, List.setIfInBounds_toArray, List.set_cons_succ, List.set_cons_zero]
          refine wpT_new (z := .agg (ACS 0 Ky.zero 0 (.slice none 0 0))) 8 M (by kernel_rfl) (by decide) rfl rfl rfl rfl (fun b1 w2 M3 => ?_)
          try dsimp only [Value.cells] at M3
          refine wpT_st0 M3 0 (ACS q p e (.slice ka kn kc)) inf_acs rfl rfl rfl rfl (by go_simp) (by go_simp) (by simp [Ky.len, ENR_size, RSR_size, STR_size, ACS_size]) (by simp [Ky.len, ENR_size, RSR_size, STR_size, ACS_size]) (by simp [go_sem]) rfl (fun w4 M5 => ?_)
          dsimp only [List.set] at M5
          first | dsimp only [wpT] | refine wpT_fin ?_
          try simp only [Act.put, List.setIfInBounds_toArray, List.set_cons_succ, List.set_cons_zero]
          go_upto_region 11 with fail
          refine wp_region_lin (.op 0 (.op 1 (.op 2 (.op 3 .done)))) (by rfl) ?_
          refine wpT_valp 51 (v := .pointer (some ⟨b1, 34, none⟩)) rfl rfl rfl (by go_simp) ?_
          refine wpT_valp 52 (v := .slice ka kn kc) rfl rfl rfl (by have c0 := as_c34 (M5.row (b := b1) (c := ACS q p e (.slice ka kn kc)) (by simp)); go_simp) ?_
          refine wpT_valp 53 (v := .int .i64 kn) rfl rfl rfl (by go_simp) ?_
          refine wpT_valp 54 (v := .bool true) rfl rfl rfl (by go_simp) ?_
          first | dsimp only [wpT] | refine wpT_fin ?_
          try simp only [Act.put, List.setIfInBounds_toArray, List.set_cons_succ, List.set_cons_zero]
          go_upto_region 9 with fail
          refine wp_region_lin (.op 0 (.op 1 (.op 2 .done))) (by rfl) ?_
          refine wpT_valp 45 (v := .int .i64 i) rfl rfl rfl (by go_simp) ?_
          refine wpT_valp 46 (v := .int .i64 i1) rfl rfl rfl (by have h := HI1.out; go_simp) ?_
          refine wpT_valp 7 (v := .int .i64 i1) rfl rfl rfl (by go_simp) ?_
          first | dsimp only [wpT] | refine wpT_fin ?_
          try simp only [Act.put, List.setIfInBounds_toArray, List.set_cons_succ, List.set_cons_zero]
          go_wp2_with fail
          go_roundw
          case rel =>
            obtain ⟨hX, hM, hd⟩ := K0 _ _ M5
            exact ⟨i1, b, L, v, ra, rc, _, by have := HII.out; omega, rfl, rfl, hM.sub (.cons _ (.cons_cons _ .slnil)), hX, fun h => hd (gm, RSR (.slice ra m rc) size) (by simp) h, HLE.out⟩
          case measure => have := HII.out; simp only [intOf]; omega
        · have hbz : ¬ (100 : Int) < (kn : Int) := by omega
          clear hbig
          obtain ⟨r3, hr3⟩ : ∃ r, q.tmod 3 = r := ⟨_, rfl⟩
          have hr3b : r3 = q % 3 := by rw [← hr3, Int.tmod_eq_emod_of_nonneg hq0]
          have hcase : r3 = 0 ∨ r3 = 1 ∨ r3 = 2 := by omega
          rcases hcase with hc | hc | hc
          · have HQ := hid (show q.tmod 3 = 0 by rw [hr3, hc])
            clear hr3 hr3b hc
            obtain ⟨⟨L2, q2⟩, hres⟩ : ∃ z, Sk.put size.toNat L p e ks = z := ⟨_, rfl⟩
            obtain ⟨⟨kk, q3⟩, hg⟩ : ∃ z, Sk.get L2 p e = z := ⟨_, rfl⟩
            obtain ⟨m2, hm2⟩ : ∃ n, L2.length = n := ⟨_, rfl⟩
            have HRES := hid hres
            have HG := hid hg
            have HM2 := hid hm2
            have HLM2 := HM2
            have hle2 := Sk.put_le hres HLE.out
            have HLE2 := hid hle2
            have hL29 : L2.length ≤ 1000 := by omega
            have hm29 : m2 ≤ 1000 := by omega
            clear hres hg hm2 hle2
            go_upto_region 8 with fail
            refine wp_region_lin (.op 0 (.op 1 (.op 2 (.op 3 (.op 4 (.op 5 (.op 6 (.op 7 (.op 8 (.op 9 (.op 10 (.op 11 .done)))))))))))) (by rfl) ?_
            refine wpT_valp 33 (v := .pointer (some ⟨b, 0, none⟩)) rfl rfl rfl (by go_simp) ?_
            refine wpT_valp 34 (v := .bool true) rfl rfl rfl (by go_simp) ?_
            refine wpT_valp 35 (v := .bool true) rfl rfl rfl (by go_simp) ?_
            refine wpT_valp 36 (v := .int .i64 i) rfl rfl (by simp [Region.wanted, yielded, Act.put]) (by go_simp) ?_
            try simp only [Act.put, List.setIfInBounds_toArray, List.set_cons_succ, List.set_cons_zero]
            refine wpT_valp 37 (v := .slice (some ⟨gu, uo, none⟩) n uc) rfl rfl (by simp [Region.wanted, yielded, Act.put]) (by go_simp) ?_
            refine wpT_valp 38 (v := .int .i64 n) rfl rfl (by simp [Region.wanted, yielded, Act.put]) (by go_simp) ?_
            refine wpT_valp 39 (v := .bool true) rfl rfl (by simp [Region.wanted, yielded, Act.put]) (by go_simp) ?_
            refine wpT_valp 40 (v := .bool true) rfl rfl rfl (by go_simp) ?_
            refine wpT_valp 41 (v := .bool true) rfl rfl rfl (by go_simp) ?_
            try simp only [Act.put, List.setIfInBounds_toArray, List.set_cons_succ, List.set_cons_zero]
            refine wpT_valp 42 (v := .int .i64 i) rfl rfl (by simp [Region.wanted, yielded, Act.put]) (by go_simp) ?_
            refine wpT_valp 43 (v := .bool true) rfl rfl (by simp [Region.wanted, yielded, Act.put]) (by go_simp) ?_
            refine wpT_valp 44 (v := .bool true) rfl rfl rfl (by go_simp) ?_
            first | dsimp only [wpT] | refine wpT_fin ?_
            try simp only [Act.put, List.setIfInBounds_toArray, List.set_cons_succ, List.set_cons_zero]
            go_upto_region 10 with fail
            refine wp_region_lin (.op 0 (.op 1 (.op 2 (.op 3 (.op 4 (.op 5 .done)))))) (by rfl) ?_
            refine wpT_valp 47 (v := .slice (some ⟨gu, uo, none⟩) n uc) rfl rfl rfl (by go_simp) ?_
            refine wpT_valp 48 (v := .int .i64 i) rfl rfl rfl (by go_simp) ?_
            refine wpT_valp 49 (v := .pointer (some ⟨gu, uo + i * 35, none⟩)) rfl rfl rfl (by go_simp) ?_
            refine wpT_ldy 50 (.pointer (some ⟨gu, uo + i * 35, none⟩)) (.agg (ACS q p e (.slice ka kn kc))) rfl rfl rfl (by go_simp) (HEL.out _ (K0 _ _ M).2.1.end_) rfl ?_
            try simp only [Act.put, List.setIfInBounds_toArray, List.set_cons_succ, List.set_cons_zero]
            refine wpT_new (z := .agg (ACS 0 Ky.zero 0 (.slice none 0 0))) 8 M (by kernel_rfl) (by decide) rfl rfl rfl rfl (fun b1 w2 M3 => ?_)
            try dsimp only [Value.cells] at M3
            refine wpT_st0 M3 0 (ACS q p e (.slice ka kn kc)) inf_acs rfl rfl rfl rfl (by go_simp) (by go_simp) (by simp [Ky.len, ENR_size, RSR_size, STR_size, ACS_size]) (by simp [Ky.len, ENR_size, RSR_size, STR_size, ACS_size]) (by simp [go_sem]) rfl (fun w4 M5 => ?_)
            dsimp only [List.set] at M5
            first | dsimp only [wpT] | refine wpT_fin ?_
            try simp only [Act.put, List.setIfInBounds_toArray, List.set_cons_succ, List.set_cons_zero]
            go_upto_region 11 with fail
            refine wp_region_lin (.op 0 (.op 1 (.op 2 (.op 3 .done)))) (by rfl) ?_
            refine wpT_valp 51 (v := .pointer (some ⟨b1, 34, none⟩)) rfl rfl rfl (by go_simp) ?_
            refine wpT_valp 52 (v := .slice ka kn kc) rfl rfl rfl (by have c0 := as_c34 (M5.row (b := b1) (c := ACS q p e (.slice ka kn kc)) (by simp)); go_simp) ?_
            refine wpT_valp 53 (v := .int .i64 kn) rfl rfl rfl (by go_simp) ?_
            refine wpT_valp 54 (v := .bool false) rfl rfl rfl (by go_simp) ?_
            first | dsimp only [wpT] | refine wpT_fin ?_
            try simp only [Act.put, List.setIfInBounds_toArray, List.set_cons_succ, List.set_cons_zero]
            go_upto_region 12 with fail
            refine wp_region_lin (.op 0 .done) (by rfl) ?_
            refine wpT_valp 9 (v := .bool true) rfl rfl rfl (by go_simp) ?_
            first | dsimp only [wpT] | refine wpT_fin ?_
            try simp only [Act.put, List.setIfInBounds_toArray, List.set_cons_succ, List.set_cons_zero]
            go_upto_region 13 with fail
            refine wp_region_lin (.op 0 (.op 1 (.op 2 .done))) (by rfl) ?_
            refine wpT_valp 55 (v := .pointer (some ⟨b1, 0, none⟩)) rfl rfl rfl (by go_simp) ?_
            refine wpT_valp 56 (v := .int .u8 q) rfl rfl rfl (by have c0 := as_c0 (M5.row (b := b1) (c := ACS q p e (.slice ka kn kc)) (by simp)); go_simp) ?_
            refine wpT_valp 57 (v := .int .u8 0) rfl rfl rfl (by have h := HQ.out; go_simp) ?_
            first | dsimp only [wpT] | refine wpT_fin ?_
            try simp only [Act.put, List.setIfInBounds_toArray, List.set_cons_succ, List.set_cons_zero]
            go_upto_region 15 with fail
            refine wp_region_lin (.op 0 (.op 1 .done)) (by rfl) ?_
            refine wpT_valp 61 (v := .bool true) rfl rfl rfl (by go_simp) ?_
            refine wpT_valp 60 (v := .bool true) rfl rfl rfl (by go_simp) ?_
            first | dsimp only [wpT] | refine wpT_fin ?_
            try simp only [Act.put, List.setIfInBounds_toArray, List.set_cons_succ, List.set_cons_zero]
            go_upto_region 16 with fail
            refine wp_region_lin (.op 0 (.op 1 (.op 2 (.op 3 (.op 4 (.op 5 (.op 6 (.op 7 (.op 8 (.op 9 (.op 10 (.op 11 (.op 12 (.op 13 .done)))))))))))))) (by rfl) ?_
            refine wpT_ld0 63 Try.underlying45 rfl inf_rst (gm) (RSR (.slice ra m rc) size) rfl rfl rfl (by go_simp) (M5.row (b := gm) (c := RSR (.slice ra m rc) size) (by simp)) (by simp [Ky.len, ENR_size, RSR_size, STR_size, ACS_size]) rfl ?_
            refine wpT_valp 64 (v := .pointer (some ⟨b1, 1, none⟩)) rfl rfl rfl (by go_simp) ?_
            refine wpT_ldm 65 Try.underlying28 rfl inf_key (b1) 1 (ACS q p e (.slice ka kn kc)) (cs U8 p.l) rfl rfl rfl (by go_simp) (M5.row (b := b1) (c := ACS q p e (.slice ka kn kc)) (by simp)) (by simp [Ky.len, ENR_size, RSR_size, STR_size, ACS_size]) (as_p1) rfl ?_
            refine wpT_valp 66 (v := .pointer (some ⟨b1, 33, none⟩)) rfl rfl rfl (by go_simp) ?_
            try simp only [Act.put, List.setIfInBounds_toArray, List.set_cons_succ, List.set_cons_zero]
            refine wpT_valp 67 (v := .int .i64 e) rfl rfl rfl (by have c0 := as_c33 (M5.row (b := b1) (c := ACS q p e (.slice ka kn kc)) (by simp)); go_simp) ?_
            refine wpT_valp 68 (v := .pointer (some ⟨b1, 34, none⟩)) rfl rfl rfl (by go_simp) ?_
            refine wpT_valp 69 (v := .slice ka kn kc) rfl rfl rfl (by have c0 := as_c34 (M5.row (b := b1) (c := ACS q p e (.slice ka kn kc)) (by simp)); go_simp) ?_
            refine wpT_obj (U := (Option Addr × Nat)) (fun ur => .tuple #[.agg (RSR (.slice ur.1 m2 ur.2) size), .int .i64 q2]) (fun ur => XF b v (.slice ur.1 m2 ur.2)) (fun ur => fun w => XA w B b size L v (.slice ur.1 m2 ur.2) m2 L2) (some 70) M5 K0 F0 rfl rfl rfl (by go_simp) (fun hX => rput_x w4 hX hsz0 p e (SV.below HKS.out (K0 _ _ M5).2.1.end_) HKL.out (by omega) HRES.out HM2.out) (fun ur => XA.stb _ _ _ _ _ _ _ _) (fun ur w1 Sw1 Mw1 K1 F1 => ?_)
            refine wpT_valp 62 (v := .tuple #[.agg (RSR (.slice ur.1 m2 ur.2) size), .int .i64 q2]) rfl rfl rfl (by go_simp) ?_
            try simp only [Act.put, List.setIfInBounds_toArray, List.set_cons_succ, List.set_cons_zero]
            refine wpT_valp 71 (v := .agg (RSR (.slice ur.1 m2 ur.2) size)) rfl rfl rfl (by go_simp) ?_
            refine wpT_valp 72 (v := .int .i64 q2) rfl rfl rfl (by go_simp) ?_
            refine wpT_new (z := .agg (RSR (.slice none 0 0) 0)) 10 Mw1 (by kernel_rfl) (by decide) rfl rfl rfl rfl (fun b6 w7 M8 => ?_)
            try dsimp only [Value.cells] at M8
            refine wpT_st0 M8 0 (RSR (.slice ur.1 m2 ur.2) size) inf_rst rfl rfl rfl rfl (by go_simp) (by go_simp) (by simp [Ky.len, ENR_size, RSR_size, STR_size, ACS_size]) (by simp [Ky.len, ENR_size, RSR_size, STR_size, ACS_size]) (by simp [go_sem]) rfl (fun w9 M10 => ?_)
            dsimp only [List.set] at M10
            refine wpT_valp 11 (v := .int .i64 q2) rfl rfl rfl (by go_simp) ?_
            first | dsimp only [wpT] | refine wpT_fin ?_
            try simp only [Act.put, List.setIfInBounds_toArray, List.set_cons_succ, List.set_cons_zero]
            go_upto_region 17 with fail
            refine wp_region_lin (.op 0 (.op 1 .done)) (by rfl) ?_
            refine wpT_ld0 73 Try.underlying45 rfl inf_rst (b6) (RSR (.slice ur.1 m2 ur.2) size) rfl rfl rfl (by go_simp) (M10.row (b := b6) (c := RSR (.slice ur.1 m2 ur.2) size) (by simp)) (by simp [Ky.len, ENR_size, RSR_size, STR_size, ACS_size]) rfl ?_
            refine wpT_st0 M10 2 (RSR (.slice ur.1 m2 ur.2) size) inf_rst rfl rfl rfl rfl (by go_simp) (by go_simp) (by simp [Ky.len, ENR_size, RSR_size, STR_size, ACS_size]) (by simp [Ky.len, ENR_size, RSR_size, STR_size, ACS_size]) (by simp [go_sem]) rfl (fun w11 M12 => ?_)
            dsimp only [List.set] at M12
            first | dsimp only [wpT] | refine wpT_fin ?_
            try simp only [Act.put, List.setIfInBounds_toArray, List.set_cons_succ, List.set_cons_zero]
            go_upto_region 18 with fail
            refine wp_region_lin (.op 0 (.op 1 (.op 2 (.op 3 (.op 4 (.op 5 (.op 6 (.op 7 (.op 8 (.op 9 (.op 10 .done))))))))))) (by rfl) ?_
            refine wpT_valp 74 (v := .pointer (some ⟨b, 0, none⟩)) rfl rfl rfl (by go_simp) ?_
            refine wpT_valp 75 (v := .pointer (some ⟨b1, 1, none⟩)) rfl rfl rfl (by go_simp) ?_
            refine wpT_ldm 76 Try.underlying28 rfl inf_key (b1) 1 (ACS q p e (.slice ka kn kc)) (cs U8 p.l) rfl rfl rfl (by go_simp) (M12.row (b := b1) (c := ACS q p e (.slice ka kn kc)) (by simp)) (by simp [Ky.len, ENR_size, RSR_size, STR_size, ACS_size]) (as_p1) rfl ?_
            refine wpT_valp 77 (v := .pointer (some ⟨b1, 33, none⟩)) rfl rfl rfl (by go_simp) ?_
            try simp only [Act.put, List.setIfInBounds_toArray, List.set_cons_succ, List.set_cons_zero]
            refine wpT_valp 78 (v := .int .i64 e) rfl rfl rfl (by have c0 := as_c33 (M12.row (b := b1) (c := ACS q p e (.slice ka kn kc)) (by simp)); go_simp) ?_
            refine wpT_valp 79 (v := .pointer (some ⟨b1, 34, none⟩)) rfl rfl rfl (by go_simp) ?_
            refine wpT_valp 80 (v := .slice ka kn kc) rfl rfl rfl (by have c0 := as_c34 (M12.row (b := b1) (c := ACS q p e (.slice ka kn kc)) (by simp)); go_simp) ?_
            refine wpT_obj (U := Value) (fun v2 => .int .i64 q2) (fun v2 => XF b v2 (.slice ur.1 m2 ur.2)) (fun v2 => fun w => XA w B b size L2 v2 (.slice ur.1 m2 ur.2) m2 L2) (some 81) M12 K1 F1 rfl rfl rfl (by go_simp) (fun hX => sput_x w11 hX hrm p e (SV.below HKS.out (K1 _ _ M12).2.1.end_) HKL.out (by omega) HRES.out) (fun v2 => XA.stb _ _ _ _ _ _ _ _) (fun v2 w2 Sw2 Mw2 K2 F2 => ?_)
            refine wpT_valp 82 (v := .int .i64 q2) rfl rfl rfl (by go_simp) ?_
            try simp only [Act.put, List.setIfInBounds_toArray, List.set_cons_succ, List.set_cons_zero]
            refine wpT_valp 83 (v := .bool true) rfl rfl rfl (by go_simp) ?_
            refine wpT_valp 9 (v := .bool true) rfl rfl rfl (by go_simp) ?_
            first | dsimp only [wpT] | refine wpT_fin ?_
            try simp only [Act.put, List.setIfInBounds_toArray, List.set_cons_succ, List.set_cons_zero]
            go_upto_region 23 with fail
            refine wp_region_lin (.op 0 (.op 1 (.op 2 (.op 3 (.op 4 (.op 5 (.op 6 (.op 7 (.op 8 (.op 9 (.op 10 (.op 11 .done)))))))))))) (by rfl) ?_
            refine wpT_valp 105 (v := .pointer (some ⟨b, 0, none⟩)) rfl rfl rfl (by go_simp) ?_
            refine wpT_valp 106 (v := .pointer (some ⟨b1, 1, none⟩)) rfl rfl rfl (by go_simp) ?_
            refine wpT_ldm 107 Try.underlying28 rfl inf_key (b1) 1 (ACS q p e (.slice ka kn kc)) (cs U8 p.l) rfl rfl rfl (by go_simp) (Mw2.row (b := b1) (c := ACS q p e (.slice ka kn kc)) (by simp)) (by simp [Ky.len, ENR_size, RSR_size, STR_size, ACS_size]) (as_p1) rfl ?_
            refine wpT_valp 108 (v := .pointer (some ⟨b1, 33, none⟩)) rfl rfl rfl (by go_simp) ?_
            try simp only [Act.put, List.setIfInBounds_toArray, List.set_cons_succ, List.set_cons_zero]
            refine wpT_valp 109 (v := .int .i64 e) rfl rfl rfl (by have c0 := as_c33 (Mw2.row (b := b1) (c := ACS q p e (.slice ka kn kc)) (by simp)); go_simp) ?_
            refine wpT_callv 110 Mw2 (v := .tuple #[.agg (cs U8 kk.l), .int .i64 q3]) rfl rfl rfl (by go_simp) (sget_x w2 (K2 _ _ Mw2).1 hrm p e HG.out) (fun w13 M14 => ?_)
            refine wpT_valp 104 (v := .tuple #[.agg (cs U8 kk.l), .int .i64 q3]) rfl rfl rfl (by go_simp) ?_
            refine wpT_valp 111 (v := .agg (cs U8 kk.l)) rfl rfl rfl (by go_simp) ?_
            refine wpT_valp 112 (v := .int .i64 q3) rfl rfl rfl (by go_simp) ?_
            try simp only [Act.put, List.setIfInBounds_toArray, List.set_cons_succ, List.set_cons_zero]
            refine wpT_new (z := .agg (cs U8 (zs 32))) 14 M14 (by kernel_rfl) (by decide) rfl rfl rfl rfl (fun b15 w16 M17 => ?_)
            try dsimp only [Value.cells] at M17
            refine wpT_st0 M17 0 (cs U8 kk.l) inf_key rfl rfl rfl rfl (by go_simp) (by go_simp) (by simp [Ky.len, ENR_size, RSR_size, STR_size, ACS_size]) (by simp [Ky.len, ENR_size, RSR_size, STR_size, ACS_size]) (by simp [go_sem]) rfl (fun w18 M19 => ?_)
            dsimp only [List.set] at M19
            refine wpT_valp 15 (v := .int .i64 q3) rfl rfl rfl (by go_simp) ?_
            first | dsimp only [wpT] | refine wpT_fin ?_
            try simp only [Act.put, List.setIfInBounds_toArray, List.set_cons_succ, List.set_cons_zero]
            go_upto_region 24 with fail
            refine wp_region_lin (.op 0 (.op 1 (.op 2 (.op 3 (.op 4 (.op 5 (.op 6 (.op 7 (.op 8 (.op 9 (.op 10 (.op 11 .done)))))))))))) (by rfl) ?_
            refine wpT_ld0 114 Try.underlying45 rfl inf_rst (gm) (RSR (.slice ur.1 m2 ur.2) size) rfl rfl rfl (by go_simp) (M19.row (b := gm) (c := RSR (.slice ur.1 m2 ur.2) size) (by simp)) (by simp [Ky.len, ENR_size, RSR_size, STR_size, ACS_size]) rfl ?_
            refine wpT_valp 115 (v := .pointer (some ⟨b1, 1, none⟩)) rfl rfl rfl (by go_simp) ?_
            refine wpT_ldm 116 Try.underlying28 rfl inf_key (b1) 1 (ACS q p e (.slice ka kn kc)) (cs U8 p.l) rfl rfl rfl (by go_simp) (M19.row (b := b1) (c := ACS q p e (.slice ka kn kc)) (by simp)) (by simp [Ky.len, ENR_size, RSR_size, STR_size, ACS_size]) (as_p1) rfl ?_
            refine wpT_valp 117 (v := .pointer (some ⟨b1, 33, none⟩)) rfl rfl rfl (by go_simp) ?_
            try simp only [Act.put, List.setIfInBounds_toArray, List.set_cons_succ, List.set_cons_zero]
            refine wpT_valp 118 (v := .int .i64 e) rfl rfl rfl (by have c0 := as_c33 (M19.row (b := b1) (c := ACS q p e (.slice ka kn kc)) (by simp)); go_simp) ?_
            refine wpT_callv 119 M19 (v := .tuple #[.agg (cs U8 kk.l), .int .i64 q3]) rfl rfl rfl (by go_simp) (rget_x w18 (K2 _ _ M19).1 p e HG.out) (fun w20 M21 => ?_)
            refine wpT_valp 113 (v := .tuple #[.agg (cs U8 kk.l), .int .i64 q3]) rfl rfl rfl (by go_simp) ?_
            refine wpT_valp 120 (v := .agg (cs U8 kk.l)) rfl rfl rfl (by go_simp) ?_
            refine wpT_valp 121 (v := .int .i64 q3) rfl rfl rfl (by go_simp) ?_
            try simp only [Act.put, List.setIfInBounds_toArray, List.set_cons_succ, List.set_cons_zero]
            refine wpT_new (z := .agg (cs U8 (zs 32))) 16 M21 (by kernel_rfl) (by decide) rfl rfl rfl rfl (fun b22 w23 M24 => ?_)
            try dsimp only [Value.cells] at M24
            refine wpT_st0 M24 0 (cs U8 kk.l) inf_key rfl rfl rfl rfl (by go_simp) (by go_simp) (by simp [Ky.len, ENR_size, RSR_size, STR_size, ACS_size]) (by simp [Ky.len, ENR_size, RSR_size, STR_size, ACS_size]) (by simp [go_sem]) rfl (fun w25 M26 => ?_)
            dsimp only [List.set] at M26
            refine wpT_valp 17 (v := .int .i64 q3) rfl rfl rfl (by go_simp) ?_
            first | dsimp only [wpT] | refine wpT_fin ?_
            try simp only [Act.put, List.setIfInBounds_toArray, List.set_cons_succ, List.set_cons_zero]
            go_upto_region 25 with fail
            refine wp_region_X (fun v => v.rowOf (b15) = cs U8 kk.l ∧ v.rowOf (b22) = cs U8 kk.l ∧ v.rowOf (gm) = RSR (.slice ur.1 m2 ur.2) size) (.op 0 (.op 1 (.op 2 (.yld [3, 4, 5, 6, 7, 8, 9, 10, 11, 12, 13, 16, 17] (.op 14 (.op 15 (.op 18 (.op 19 (.op 20 .done))))))))) (by kernel_rfl) (by kernel_rfl) (by kernel_rfl) (fun d _ _ _ _ h => by cases d <;> exact h) ?_
            have M27 := M26.drewN 1
            change wpX _ _ _ _ _ _ (w25.drewN 1)
            obtain ⟨w28, hw28⟩ : ∃ w28, w28 = w25.drewN 1 := ⟨_, rfl⟩
            rw [← hw28] at M27 ⊢
            clear hw28
            refine wpX_of (⟨M27.row (b := b15) (c := cs U8 kk.l) (by simp), M27.row (b := b22) (c := cs U8 kk.l) (by simp), M27.row (b := gm) (c := RSR (.slice ur.1 m2 ur.2) size) (by simp)⟩) ?_
            refine wpT_valp 122 (v := .bool true) rfl rfl rfl (by go_simp) ?_
            refine wpX_to ?_
            try simp only [Act.put, List.setIfInBounds_toArray, List.set_cons_succ, List.set_cons_zero]
            refine wpX_of (⟨M27.row (b := b15) (c := cs U8 kk.l) (by simp), M27.row (b := b22) (c := cs U8 kk.l) (by simp), M27.row (b := gm) (c := RSR (.slice ur.1 m2 ur.2) size) (by simp)⟩) ?_
            refine wpT_valp 123 (v := .bool false) rfl rfl rfl (by go_simp) ?_
            refine wpX_to ?_
            try simp only [Act.put, List.setIfInBounds_toArray, List.set_cons_succ, List.set_cons_zero]
            refine wpX_of (⟨M27.row (b := b15) (c := cs U8 kk.l) (by simp), M27.row (b := b22) (c := cs U8 kk.l) (by simp), M27.row (b := gm) (c := RSR (.slice ur.1 m2 ur.2) size) (by simp)⟩) ?_
            refine wpT_valp 124 (v := .bool false) rfl rfl rfl (by go_simp) ?_
            refine wpX_to ?_
            try simp only [Act.put, List.setIfInBounds_toArray, List.set_cons_succ, List.set_cons_zero]
            refine wpX_yld ?_
            refine wpYJd_ld 125 Try.underlying28 rfl inf_key (b15) (cs U8 kk.l) rfl rfl rfl (by go_simp) (fun _ h => h.1) (by simp [Ky.len, ENR_size, RSR_size, STR_size, ACS_size]) (by simp [Region.wanted, yielded, Act.put]) ?_
            refine wpYJd_ld 126 Try.underlying28 rfl inf_key (b22) (cs U8 kk.l) rfl rfl rfl (by go_simp) (fun _ h => h.2.1) (by simp [Ky.len, ENR_size, RSR_size, STR_size, ACS_size]) (by simp [Region.wanted, yielded, Act.put]) ?_
            refine wpYJd_op 127 (.bool false) rfl rfl (by simp [Region.wanted, yielded, Act.put]) (fun w1 h => by have q := eqin_key w1 kk.l kk.l (by simp) (by simp); go_simp) ?_
            refine wpYJd_op 128 (.bool false) rfl rfl rfl (fun w1 h => by go_simp) ?_
            refine wpYJd_op 129 (.bool false) rfl rfl rfl (fun w1 h => by go_simp) ?_
            try simp only [Act.put, List.setIfInBounds_toArray, List.set_cons_succ, List.set_cons_zero]
            refine wpYJd_op 130 (.int .i64 q3) rfl rfl (by simp [Region.wanted, yielded, Act.put]) (fun w1 h => by go_simp) ?_
            refine wpYJd_op 131 (.int .i64 q3) rfl rfl (by simp [Region.wanted, yielded, Act.put]) (fun w1 h => by go_simp) ?_
            refine wpYJd_op 132 (.bool false) rfl rfl (by simp [Region.wanted, yielded, Act.put]) (fun w1 h => by go_simp) ?_
            refine wpYJd_op 133 (.bool false) rfl rfl rfl (fun w1 h => by go_simp) ?_
            refine wpYJd_op 134 (.bool false) rfl rfl rfl (fun w1 h => by go_simp) ?_
            refine wpYJd_op 135 (.pointer (some ⟨b, 0, none⟩)) rfl rfl (by simp [Region.wanted, yielded, Act.put]) (fun w1 h => by go_simp) ?_
            try simp only [Act.put, List.setIfInBounds_toArray, List.set_cons_succ, List.set_cons_zero]
            refine wpYJd_op 138 (.pointer (some ⟨gm, 0, none⟩)) rfl rfl (by simp [Region.wanted, yielded, Act.put]) (fun w1 h => by go_simp) ?_
            refine wpYJd_op 139 (.slice ur.1 m2 ur.2) rfl rfl (by simp [Region.wanted, yielded, Act.put]) (fun w1 h => by have c0 := rs_c0 h.2.2; clear h; go_simp) ?_
            show wpX _ _ _ _ _ _ _
            try simp only [Act.put, List.setIfInBounds_toArray, List.set_cons_succ, List.set_cons_zero]
            refine wpX_of (⟨M27.row (b := b15) (c := cs U8 kk.l) (by simp), M27.row (b := b22) (c := cs U8 kk.l) (by simp), M27.row (b := gm) (c := RSR (.slice ur.1 m2 ur.2) size) (by simp)⟩) ?_
            refine wpT_objN (U := Value) (fun u => u) (fun u g => obk u = some g) (fun u w => Ow w B 65 u m2 (fl eE L2)) (some 136) M27 K2 F2 (XA.stb _ _ _ _ _ _ _ _) rfl rfl (by simp [Region.wanted, yielded, Act.put]) (by go_simp) (fun hX => sall_x _ hX hrm (by omega) HLM2.out) (fun u => Stb.ow _ _ _ _ _) (fun u3 w3 S3 M3 K3 F3 => ?_)
            refine wpX_to ?_
            try simp only [Act.put, List.setIfInBounds_toArray, List.set_cons_succ, List.set_cons_zero]
            refine wpX_of (⟨M3.row (b := b15) (c := cs U8 kk.l) (by simp), M3.row (b := b22) (c := cs U8 kk.l) (by simp), M3.row (b := gm) (c := RSR (.slice ur.1 m2 ur.2) size) (by simp)⟩) ?_
            refine wpT_objN (U := Value) (fun u => u) (fun u g => obk u = some g) (fun u w => Ow w B 65 u m2 (fl eE L2)) (some 137) M3 K3 F3 ((XA.stb _ _ _ _ _ _ _ _).and (Stb.ow _ _ _ _ _)) rfl rfl (by simp [Region.wanted, yielded, Act.put]) (by go_simp) (fun hX => ours_x _ hX.2 HLM2.out (by omega) hX.1.Bw) (fun u => Stb.ow _ _ _ _ _) (fun u4 w4 S4 M4 K4 F4 => ?_)
            refine wpX_to ?_
            try simp only [Act.put, List.setIfInBounds_toArray, List.set_cons_succ, List.set_cons_zero]
            refine wpX_of (⟨M4.row (b := b15) (c := cs U8 kk.l) (by simp), M4.row (b := b22) (c := cs U8 kk.l) (by simp), M4.row (b := gm) (c := RSR (.slice ur.1 m2 ur.2) size) (by simp)⟩) ?_
            refine wpT_callv 140 M4 (v := .bool true) rfl rfl (by simp [Region.wanted, yielded, Act.put]) (by go_simp) (rsame_c w4 _ _ m2 L2 (K4 _ _ M4).1.2.sv (K4 _ _ M4).1.1.1.ow.sv HLM2.out) (fun w29 M30 => ?_)
            refine wpX_to ?_
            try simp only [Act.put, List.setIfInBounds_toArray, List.set_cons_succ, List.set_cons_zero]
            refine wpX_of (⟨M30.row (b := b15) (c := cs U8 kk.l) (by simp), M30.row (b := b22) (c := cs U8 kk.l) (by simp), M30.row (b := gm) (c := RSR (.slice ur.1 m2 ur.2) size) (by simp)⟩) ?_
            refine wpT_valp 141 (v := .bool false) rfl rfl (by simp [Region.wanted, yielded, Act.put]) (by go_simp) ?_
            refine wpX_to ?_
            try simp only [Act.put, List.setIfInBounds_toArray, List.set_cons_succ, List.set_cons_zero]
            refine wpX_of (⟨M30.row (b := b15) (c := cs U8 kk.l) (by simp), M30.row (b := b22) (c := cs U8 kk.l) (by simp), M30.row (b := gm) (c := RSR (.slice ur.1 m2 ur.2) size) (by simp)⟩) ?_
            refine wpT_valp 142 (v := .bool false) rfl rfl rfl (by go_simp) ?_
            refine wpX_to ?_
            try simp only [Act.put, List.setIfInBounds_toArray, List.set_cons_succ, List.set_cons_zero]
            refine ⟨(⟨M30.row (b := b15) (c := cs U8 kk.l) (by simp), M30.row (b := b22) (c := cs U8 kk.l) (by simp), M30.row (b := gm) (c := RSR (.slice ur.1 m2 ur.2) size) (by simp)⟩), ?_⟩
            try simp only [Act.put, List.setIfInBounds_toArray, List.set_cons_succ, List.set_cons_zero]
            go_upto_region 9 with fail
            refine wp_region_lin (.op 0 (.op 1 (.op 2 .done))) (by rfl) ?_
            refine wpT_valp 45 (v := .int .i64 i) rfl rfl rfl (by go_simp) ?_
            refine wpT_valp 46 (v := .int .i64 i1) rfl rfl rfl (by have h := HI1.out; go_simp) ?_
            refine wpT_valp 7 (v := .int .i64 i1) rfl rfl rfl (by go_simp) ?_
            first | dsimp only [wpT] | refine wpT_fin ?_
            try simp only [Act.put, List.setIfInBounds_toArray, List.set_cons_succ, List.set_cons_zero]
            go_wp2_with fail
            go_roundw
            case rel =>
              obtain ⟨hX, hM, hd⟩ := K4 _ _ M30
              exact ⟨i1, b, L2, v2, ur.1, ur.2, _, by have := HII.out; omega, rfl, rfl, hM.sub (.cons _ (.cons _ (.cons _ (.cons _ (.cons_cons _ .slnil))))), hX.1.1, fun h => hd (gm, RSR (.slice ur.1 m2 ur.2) size) (by simp) (.inl (.inl h)), HLE2.out⟩
            case measure => have := HII.out; simp only [intOf]; omega
          · have HQ := hid (show q.tmod 3 = 1 by rw [hr3, hc])
            clear hr3 hr3b hc
            obtain ⟨⟨L2, q2⟩, hres⟩ : ∃ z, Sk.drop L p e = z := ⟨_, rfl⟩
            obtain ⟨⟨kk, q3⟩, hg⟩ : ∃ z, Sk.get L2 p e = z := ⟨_, rfl⟩
            obtain ⟨m2, hm2⟩ : ∃ n, L2.length = n := ⟨_, rfl⟩
            have HRES := hid hres
            have HG := hid hg
            have HM2 := hid hm2
            have HLM2 := HM2
            have hle2 := Nat.le_trans (Sk.drop_le hres) HLE.out
            have HLE2 := hid hle2
            have hL29 : L2.length ≤ 1000 := by omega
            have hm29 : m2 ≤ 1000 := by omega
            clear hres hg hm2 hle2
            go_upto_region 8 with fail
            refine wp_region_lin (.op 0 (.op 1 (.op 2 (.op 3 (.op 4 (.op 5 (.op 6 (.op 7 (.op 8 (.op 9 (.op 10 (.op 11 .done)))))))))))) (by rfl) ?_
            refine wpT_valp 33 (v := .pointer (some ⟨b, 0, none⟩)) rfl rfl rfl (by go_simp) ?_
            refine wpT_valp 34 (v := .bool true) rfl rfl rfl (by go_simp) ?_
            refine wpT_valp 35 (v := .bool true) rfl rfl rfl (by go_simp) ?_
            refine wpT_valp 36 (v := .int .i64 i) rfl rfl (by simp [Region.wanted, yielded, Act.put]) (by go_simp) ?_
            try simp only [Act.put, List.setIfInBounds_toArray, List.set_cons_succ, List.set_cons_zero]
            refine wpT_valp 37 (v := .slice (some ⟨gu, uo, none⟩) n uc) rfl rfl (by simp [Region.wanted, yielded, Act.put]) (by go_simp) ?_
            refine wpT_valp 38 (v := .int .i64 n) rfl rfl (by simp [Region.wanted, yielded, Act.put]) (by go_simp) ?_
            refine wpT_valp 39 (v := .bool true) rfl rfl (by simp [Region.wanted, yielded, Act.put]) (by go_simp) ?_
            refine wpT_valp 40 (v := .bool true) rfl rfl rfl (by go_simp) ?_
            refine wpT_valp 41 (v := .bool true) rfl rfl rfl (by go_simp) ?_
            try simp only [Act.put, List.setIfInBounds_toArray, List.set_cons_succ, List.set_cons_zero]
            refine wpT_valp 42 (v := .int .i64 i) rfl rfl (by simp [Region.wanted, yielded, Act.put]) (by go_simp) ?_
            refine wpT_valp 43 (v := .bool true) rfl rfl (by simp [Region.wanted, yielded, Act.put]) (by go_simp) ?_
            refine wpT_valp 44 (v := .bool true) rfl rfl rfl (by go_simp) ?_
            first | dsimp only [wpT] | refine wpT_fin ?_
            try simp only [Act.put, List.setIfInBounds_toArray, List.set_cons_succ, List.set_cons_zero]
            go_upto_region 10 with fail
            refine wp_region_lin (.op 0 (.op 1 (.op 2 (.op 3 (.op 4 (.op 5 .done)))))) (by rfl) ?_
            refine wpT_valp 47 (v := .slice (some ⟨gu, uo, none⟩) n uc) rfl rfl rfl (by go_simp) ?_
            refine wpT_valp 48 (v := .int .i64 i) rfl rfl rfl (by go_simp) ?_
            refine wpT_valp 49 (v := .pointer (some ⟨gu, uo + i * 35, none⟩)) rfl rfl rfl (by go_simp) ?_
            refine wpT_ldy 50 (.pointer (some ⟨gu, uo + i * 35, none⟩)) (.agg (ACS q p e (.slice ka kn kc))) rfl rfl rfl (by go_simp) (HEL.out _ (K0 _ _ M).2.1.end_) rfl ?_
            try simp only [Act.put, List.setIfInBounds_toArray, List.set_cons_succ, List.set_cons_zero]
            refine wpT_new (z := .agg (ACS 0 Ky.zero 0 (.slice none 0 0))) 8 M (by kernel_rfl) (by decide) rfl rfl rfl rfl (fun b1 w2 M3 => ?_)
            try dsimp only [Value.cells] at M3
            refine wpT_st0 M3 0 (ACS q p e (.slice ka kn kc)) inf_acs rfl rfl rfl rfl (by go_simp) (by go_simp) (by simp [Ky.len, ENR_size, RSR_size, STR_size, ACS_size]) (by simp [Ky.len, ENR_size, RSR_size, STR_size, ACS_size]) (by simp [go_sem]) rfl (fun w4 M5 => ?_)
            dsimp only [List.set] at M5
            first | dsimp only [wpT] | refine wpT_fin ?_
            try simp only [Act.put, List.setIfInBounds_toArray, List.set_cons_succ, List.set_cons_zero]
            go_upto_region 11 with fail
            refine wp_region_lin (.op 0 (.op 1 (.op 2 (.op 3 .done)))) (by rfl) ?_
            refine wpT_valp 51 (v := .pointer (some ⟨b1, 34, none⟩)) rfl rfl rfl (by go_simp) ?_
            refine wpT_valp 52 (v := .slice ka kn kc) rfl rfl rfl (by have c0 := as_c34 (M5.row (b := b1) (c := ACS q p e (.slice ka kn kc)) (by simp)); go_simp) ?_
            refine wpT_valp 53 (v := .int .i64 kn) rfl rfl rfl (by go_simp) ?_
            refine wpT_valp 54 (v := .bool false) rfl rfl rfl (by go_simp) ?_
            first | dsimp only [wpT] | refine wpT_fin ?_
            try simp only [Act.put, List.setIfInBounds_toArray, List.set_cons_succ, List.set_cons_zero]
            go_upto_region 12 with fail
            refine wp_region_lin (.op 0 .done) (by rfl) ?_
            refine wpT_valp 9 (v := .bool true) rfl rfl rfl (by go_simp) ?_
            first | dsimp only [wpT] | refine wpT_fin ?_
            try simp only [Act.put, List.setIfInBounds_toArray, List.set_cons_succ, List.set_cons_zero]
            go_upto_region 13 with fail
            refine wp_region_lin (.op 0 (.op 1 (.op 2 .done))) (by rfl) ?_
            refine wpT_valp 55 (v := .pointer (some ⟨b1, 0, none⟩)) rfl rfl rfl (by go_simp) ?_
            refine wpT_valp 56 (v := .int .u8 q) rfl rfl rfl (by have c0 := as_c0 (M5.row (b := b1) (c := ACS q p e (.slice ka kn kc)) (by simp)); go_simp) ?_
            refine wpT_valp 57 (v := .int .u8 1) rfl rfl rfl (by have h := HQ.out; go_simp) ?_
            first | dsimp only [wpT] | refine wpT_fin ?_
            try simp only [Act.put, List.setIfInBounds_toArray, List.set_cons_succ, List.set_cons_zero]
            go_upto_region 15 with fail
            refine wp_region_lin (.op 0 (.op 1 .done)) (by rfl) ?_
            refine wpT_valp 61 (v := .bool false) rfl rfl rfl (by go_simp) ?_
            refine wpT_valp 60 (v := .bool false) rfl rfl rfl (by go_simp) ?_
            first | dsimp only [wpT] | refine wpT_fin ?_
            try simp only [Act.put, List.setIfInBounds_toArray, List.set_cons_succ, List.set_cons_zero]
            go_upto_region 19 with fail
            refine wp_region_lin (.op 0 (.op 1 .done)) (by rfl) ?_
            refine wpT_valp 85 (v := .bool true) rfl rfl rfl (by go_simp) ?_
            refine wpT_valp 84 (v := .bool true) rfl rfl rfl (by go_simp) ?_
            first | dsimp only [wpT] | refine wpT_fin ?_
            try simp only [Act.put, List.setIfInBounds_toArray, List.set_cons_succ, List.set_cons_zero]
            go_upto_region 20 with fail
            refine wp_region_lin (.op 0 (.op 1 (.op 2 (.op 3 (.op 4 (.op 5 (.op 6 (.op 7 (.op 8 (.op 9 (.op 10 (.op 11 .done)))))))))))) (by rfl) ?_
            refine wpT_ld0 87 Try.underlying45 rfl inf_rst (gm) (RSR (.slice ra m rc) size) rfl rfl rfl (by go_simp) (M5.row (b := gm) (c := RSR (.slice ra m rc) size) (by simp)) (by simp [Ky.len, ENR_size, RSR_size, STR_size, ACS_size]) rfl ?_
            refine wpT_valp 88 (v := .pointer (some ⟨b1, 1, none⟩)) rfl rfl rfl (by go_simp) ?_
            refine wpT_ldm 89 Try.underlying28 rfl inf_key (b1) 1 (ACS q p e (.slice ka kn kc)) (cs U8 p.l) rfl rfl rfl (by go_simp) (M5.row (b := b1) (c := ACS q p e (.slice ka kn kc)) (by simp)) (by simp [Ky.len, ENR_size, RSR_size, STR_size, ACS_size]) (as_p1) rfl ?_
            refine wpT_valp 90 (v := .pointer (some ⟨b1, 33, none⟩)) rfl rfl rfl (by go_simp) ?_
            try simp only [Act.put, List.setIfInBounds_toArray, List.set_cons_succ, List.set_cons_zero]
            refine wpT_valp 91 (v := .int .i64 e) rfl rfl rfl (by have c0 := as_c33 (M5.row (b := b1) (c := ACS q p e (.slice ka kn kc)) (by simp)); go_simp) ?_
            refine wpT_obj (U := (Option Addr × Nat)) (fun ur => .tuple #[.agg (RSR (.slice ur.1 m2 ur.2) size), .int .i64 q2]) (fun ur => XF b v (.slice ur.1 m2 ur.2)) (fun ur => fun w => XA w B b size L v (.slice ur.1 m2 ur.2) m2 L2) (some 92) M5 K0 F0 rfl rfl rfl (by go_simp) (fun hX => rdrop_x w4 hX p e (by omega) HRES.out HM2.out) (fun ur => XA.stb _ _ _ _ _ _ _ _) (fun ur w1 Sw1 Mw1 K1 F1 => ?_)
            refine wpT_valp 86 (v := .tuple #[.agg (RSR (.slice ur.1 m2 ur.2) size), .int .i64 q2]) rfl rfl rfl (by go_simp) ?_
            refine wpT_valp 93 (v := .agg (RSR (.slice ur.1 m2 ur.2) size)) rfl rfl rfl (by go_simp) ?_
            refine wpT_valp 94 (v := .int .i64 q2) rfl rfl rfl (by go_simp) ?_
            try simp only [Act.put, List.setIfInBounds_toArray, List.set_cons_succ, List.set_cons_zero]
            refine wpT_new (z := .agg (RSR (.slice none 0 0) 0)) 12 Mw1 (by kernel_rfl) (by decide) rfl rfl rfl rfl (fun b6 w7 M8 => ?_)
            try dsimp only [Value.cells] at M8
            refine wpT_st0 M8 0 (RSR (.slice ur.1 m2 ur.2) size) inf_rst rfl rfl rfl rfl (by go_simp) (by go_simp) (by simp [Ky.len, ENR_size, RSR_size, STR_size, ACS_size]) (by simp [Ky.len, ENR_size, RSR_size, STR_size, ACS_size]) (by simp [go_sem]) rfl (fun w9 M10 => ?_)
            dsimp only [List.set] at M10
            refine wpT_valp 13 (v := .int .i64 q2) rfl rfl rfl (by go_simp) ?_
            first | dsimp only [wpT] | refine wpT_fin ?_
            try simp only [Act.put, List.setIfInBounds_toArray, List.set_cons_succ, List.set_cons_zero]
            go_upto_region 21 with fail
            refine wp_region_lin (.op 0 (.op 1 .done)) (by rfl) ?_
            refine wpT_ld0 95 Try.underlying45 rfl inf_rst (b6) (RSR (.slice ur.1 m2 ur.2) size) rfl rfl rfl (by go_simp) (M10.row (b := b6) (c := RSR (.slice ur.1 m2 ur.2) size) (by simp)) (by simp [Ky.len, ENR_size, RSR_size, STR_size, ACS_size]) rfl ?_
            refine wpT_st0 M10 2 (RSR (.slice ur.1 m2 ur.2) size) inf_rst rfl rfl rfl rfl (by go_simp) (by go_simp) (by simp [Ky.len, ENR_size, RSR_size, STR_size, ACS_size]) (by simp [Ky.len, ENR_size, RSR_size, STR_size, ACS_size]) (by simp [go_sem]) rfl (fun w11 M12 => ?_)
            dsimp only [List.set] at M12
            first | dsimp only [wpT] | refine wpT_fin ?_
            try simp only [Act.put, List.setIfInBounds_toArray, List.set_cons_succ, List.set_cons_zero]
            go_upto_region 22 with fail
            refine wp_region_lin (.op 0 (.op 1 (.op 2 (.op 3 (.op 4 (.op 5 (.op 6 (.op 7 (.op 8 .done))))))))) (by rfl) ?_
            refine wpT_valp 96 (v := .pointer (some ⟨b, 0, none⟩)) rfl rfl rfl (by go_simp) ?_
            refine wpT_valp 97 (v := .pointer (some ⟨b1, 1, none⟩)) rfl rfl rfl (by go_simp) ?_
            refine wpT_ldm 98 Try.underlying28 rfl inf_key (b1) 1 (ACS q p e (.slice ka kn kc)) (cs U8 p.l) rfl rfl rfl (by go_simp) (M12.row (b := b1) (c := ACS q p e (.slice ka kn kc)) (by simp)) (by simp [Ky.len, ENR_size, RSR_size, STR_size, ACS_size]) (as_p1) rfl ?_
            refine wpT_valp 99 (v := .pointer (some ⟨b1, 33, none⟩)) rfl rfl rfl (by go_simp) ?_
            try simp only [Act.put, List.setIfInBounds_toArray, List.set_cons_succ, List.set_cons_zero]
            refine wpT_valp 100 (v := .int .i64 e) rfl rfl rfl (by have c0 := as_c33 (M12.row (b := b1) (c := ACS q p e (.slice ka kn kc)) (by simp)); go_simp) ?_
            refine wpT_obj (U := Value) (fun v2 => .int .i64 q2) (fun v2 => XF b v2 (.slice ur.1 m2 ur.2)) (fun v2 => fun w => XA w B b size L2 v2 (.slice ur.1 m2 ur.2) m2 L2) (some 101) M12 K1 F1 rfl rfl rfl (by go_simp) (fun hX => sdrop_x w11 hX hrm p e (by omega) HRES.out) (fun v2 => XA.stb _ _ _ _ _ _ _ _) (fun v2 w2 Sw2 Mw2 K2 F2 => ?_)
            refine wpT_valp 102 (v := .int .i64 q2) rfl rfl rfl (by go_simp) ?_
            refine wpT_valp 103 (v := .bool true) rfl rfl rfl (by go_simp) ?_
            refine wpT_valp 9 (v := .bool true) rfl rfl rfl (by go_simp) ?_
            first | dsimp only [wpT] | refine wpT_fin ?_
            try simp only [Act.put, List.setIfInBounds_toArray, List.set_cons_succ, List.set_cons_zero]
            go_upto_region 23 with fail
            refine wp_region_lin (.op 0 (.op 1 (.op 2 (.op 3 (.op 4 (.op 5 (.op 6 (.op 7 (.op 8 (.op 9 (.op 10 (.op 11 .done)))))))))))) (by rfl) ?_
            refine wpT_valp 105 (v := .pointer (some ⟨b, 0, none⟩)) rfl rfl rfl (by go_simp) ?_
            refine wpT_valp 106 (v := .pointer (some ⟨b1, 1, none⟩)) rfl rfl rfl (by go_simp) ?_
            refine wpT_ldm 107 Try.underlying28 rfl inf_key (b1) 1 (ACS q p e (.slice ka kn kc)) (cs U8 p.l) rfl rfl rfl (by go_simp) (Mw2.row (b := b1) (c := ACS q p e (.slice ka kn kc)) (by simp)) (by simp [Ky.len, ENR_size, RSR_size, STR_size, ACS_size]) (as_p1) rfl ?_
            refine wpT_valp 108 (v := .pointer (some ⟨b1, 33, none⟩)) rfl rfl rfl (by go_simp) ?_
            try simp only [Act.put, List.setIfInBounds_toArray, List.set_cons_succ, List.set_cons_zero]
            refine wpT_valp 109 (v := .int .i64 e) rfl rfl rfl (by have c0 := as_c33 (Mw2.row (b := b1) (c := ACS q p e (.slice ka kn kc)) (by simp)); go_simp) ?_
            refine wpT_callv 110 Mw2 (v := .tuple #[.agg (cs U8 kk.l), .int .i64 q3]) rfl rfl rfl (by go_simp) (sget_x w2 (K2 _ _ Mw2).1 hrm p e HG.out) (fun w13 M14 => ?_)
            refine wpT_valp 104 (v := .tuple #[.agg (cs U8 kk.l), .int .i64 q3]) rfl rfl rfl (by go_simp) ?_
            refine wpT_valp 111 (v := .agg (cs U8 kk.l)) rfl rfl rfl (by go_simp) ?_
            refine wpT_valp 112 (v := .int .i64 q3) rfl rfl rfl (by go_simp) ?_
            try simp only [Act.put, List.setIfInBounds_toArray, List.set_cons_succ, List.set_cons_zero]
            refine wpT_new (z := .agg (cs U8 (zs 32))) 14 M14 (by kernel_rfl) (by decide) rfl rfl rfl rfl (fun b15 w16 M17 => ?_)
            try dsimp only [Value.cells] at M17
            refine wpT_st0 M17 0 (cs U8 kk.l) inf_key rfl rfl rfl rfl (by go_simp) (by go_simp) (by simp [Ky.len, ENR_size, RSR_size, STR_size, ACS_size]) (by simp [Ky.len, ENR_size, RSR_size, STR_size, ACS_size]) (by simp [go_sem]) rfl (fun w18 M19 => ?_)
            dsimp only [List.set] at M19
            refine wpT_valp 15 (v := .int .i64 q3) rfl rfl rfl (by go_simp) ?_
            first | dsimp only [wpT] | refine wpT_fin ?_
            try simp only [Act.put, List.setIfInBounds_toArray, List.set_cons_succ, List.set_cons_zero]
            go_upto_region 24 with fail
            refine wp_region_lin (.op 0 (.op 1 (.op 2 (.op 3 (.op 4 (.op 5 (.op 6 (.op 7 (.op 8 (.op 9 (.op 10 (.op 11 .done)))))))))))) (by rfl) ?_
            refine wpT_ld0 114 Try.underlying45 rfl inf_rst (gm) (RSR (.slice ur.1 m2 ur.2) size) rfl rfl rfl (by go_simp) (M19.row (b := gm) (c := RSR (.slice ur.1 m2 ur.2) size) (by simp)) (by simp [Ky.len, ENR_size, RSR_size, STR_size, ACS_size]) rfl ?_
            refine wpT_valp 115 (v := .pointer (some ⟨b1, 1, none⟩)) rfl rfl rfl (by go_simp) ?_
            refine wpT_ldm 116 Try.underlying28 rfl inf_key (b1) 1 (ACS q p e (.slice ka kn kc)) (cs U8 p.l) rfl rfl rfl (by go_simp) (M19.row (b := b1) (c := ACS q p e (.slice ka kn kc)) (by simp)) (by simp [Ky.len, ENR_size, RSR_size, STR_size, ACS_size]) (as_p1) rfl ?_
            refine wpT_valp 117 (v := .pointer (some ⟨b1, 33, none⟩)) rfl rfl rfl (by go_simp) ?_
            try simp only [Act.put, List.setIfInBounds_toArray, List.set_cons_succ, List.set_cons_zero]
            refine wpT_valp 118 (v := .int .i64 e) rfl rfl rfl (by have c0 := as_c33 (M19.row (b := b1) (c := ACS q p e (.slice ka kn kc)) (by simp)); go_simp) ?_
            refine wpT_callv 119 M19 (v := .tuple #[.agg (cs U8 kk.l), .int .i64 q3]) rfl rfl rfl (by go_simp) (rget_x w18 (K2 _ _ M19).1 p e HG.out) (fun w20 M21 => ?_)
            refine wpT_valp 113 (v := .tuple #[.agg (cs U8 kk.l), .int .i64 q3]) rfl rfl rfl (by go_simp) ?_
            refine wpT_valp 120 (v := .agg (cs U8 kk.l)) rfl rfl rfl (by go_simp) ?_
            refine wpT_valp 121 (v := .int .i64 q3) rfl rfl rfl (by go_simp) ?_
            try simp only [Act.put, List.setIfInBounds_toArray, List.set_cons_succ, List.set_cons_zero]
            refine wpT_new (z := .agg (cs U8 (zs 32))) 16 M21 (by kernel_rfl) (by decide) rfl rfl rfl rfl (fun b22 w23 M24 => ?_)
            try dsimp only [Value.cells] at M24
            refine wpT_st0 M24 0 (cs U8 kk.l) inf_key rfl rfl rfl rfl (by go_simp) (by go_simp) (by simp [Ky.len, ENR_size, RSR_size, STR_size, ACS_size]) (by simp [Ky.len, ENR_size, RSR_size, STR_size, ACS_size]) (by simp [go_sem]) rfl (fun w25 M26 => ?_)
            dsimp only [List.set] at M26
            refine wpT_valp 17 (v := .int .i64 q3) rfl rfl rfl (by go_simp) ?_
            first | dsimp only [wpT] | refine wpT_fin ?_
            try simp only [Act.put, List.setIfInBounds_toArray, List.set_cons_succ, List.set_cons_zero]
            go_upto_region 25 with fail
            refine wp_region_X (fun v => v.rowOf (b15) = cs U8 kk.l ∧ v.rowOf (b22) = cs U8 kk.l ∧ v.rowOf (gm) = RSR (.slice ur.1 m2 ur.2) size) (.op 0 (.op 1 (.op 2 (.yld [3, 4, 5, 6, 7, 8, 9, 10, 11, 12, 13, 16, 17] (.op 14 (.op 15 (.op 18 (.op 19 (.op 20 .done))))))))) (by kernel_rfl) (by kernel_rfl) (by kernel_rfl) (fun d _ _ _ _ h => by cases d <;> exact h) ?_
            have M27 := M26.drewN 1
            change wpX _ _ _ _ _ _ (w25.drewN 1)
            obtain ⟨w28, hw28⟩ : ∃ w28, w28 = w25.drewN 1 := ⟨_, rfl⟩
            rw [← hw28] at M27 ⊢
            clear hw28
            refine wpX_of (⟨M27.row (b := b15) (c := cs U8 kk.l) (by simp), M27.row (b := b22) (c := cs U8 kk.l) (by simp), M27.row (b := gm) (c := RSR (.slice ur.1 m2 ur.2) size) (by simp)⟩) ?_
            refine wpT_valp 122 (v := .bool true) rfl rfl rfl (by go_simp) ?_
            refine wpX_to ?_
            try simp only [Act.put, List.setIfInBounds_toArray, List.set_cons_succ, List.set_cons_zero]
            refine wpX_of (⟨M27.row (b := b15) (c := cs U8 kk.l) (by simp), M27.row (b := b22) (c := cs U8 kk.l) (by simp), M27.row (b := gm) (c := RSR (.slice ur.1 m2 ur.2) size) (by simp)⟩) ?_
            refine wpT_valp 123 (v := .bool false) rfl rfl rfl (by go_simp) ?_
            refine wpX_to ?_
            try simp only [Act.put, List.setIfInBounds_toArray, List.set_cons_succ, List.set_cons_zero]
            refine wpX_of (⟨M27.row (b := b15) (c := cs U8 kk.l) (by simp), M27.row (b := b22) (c := cs U8 kk.l) (by simp), M27.row (b := gm) (c := RSR (.slice ur.1 m2 ur.2) size) (by simp)⟩) ?_
            refine wpT_valp 124 (v := .bool false) rfl rfl rfl (by go_simp) ?_
            refine wpX_to ?_
            try simp only [Act.put, List.setIfInBounds_toArray, List.set_cons_succ, List.set_cons_zero]
            refine wpX_yld ?_
            refine wpYJd_ld 125 Try.underlying28 rfl inf_key (b15) (cs U8 kk.l) rfl rfl rfl (by go_simp) (fun _ h => h.1) (by simp [Ky.len, ENR_size, RSR_size, STR_size, ACS_size]) (by simp [Region.wanted, yielded, Act.put]) ?_
            refine wpYJd_ld 126 Try.underlying28 rfl inf_key (b22) (cs U8 kk.l) rfl rfl rfl (by go_simp) (fun _ h => h.2.1) (by simp [Ky.len, ENR_size, RSR_size, STR_size, ACS_size]) (by simp [Region.wanted, yielded, Act.put]) ?_
            refine wpYJd_op 127 (.bool false) rfl rfl (by simp [Region.wanted, yielded, Act.put]) (fun w1 h => by have q := eqin_key w1 kk.l kk.l (by simp) (by simp); go_simp) ?_
            refine wpYJd_op 128 (.bool false) rfl rfl rfl (fun w1 h => by go_simp) ?_
            refine wpYJd_op 129 (.bool false) rfl rfl rfl (fun w1 h => by go_simp) ?_
            try simp only [Act.put, List.setIfInBounds_toArray, List.set_cons_succ, List.set_cons_zero]
            refine wpYJd_op 130 (.int .i64 q3) rfl rfl (by simp [Region.wanted, yielded, Act.put]) (fun w1 h => by go_simp) ?_
            refine wpYJd_op 131 (.int .i64 q3) rfl rfl (by simp [Region.wanted, yielded, Act.put]) (fun w1 h => by go_simp) ?_
            refine wpYJd_op 132 (.bool false) rfl rfl (by simp [Region.wanted, yielded, Act.put]) (fun w1 h => by go_simp) ?_
            refine wpYJd_op 133 (.bool false) rfl rfl rfl (fun w1 h => by go_simp) ?_
            refine wpYJd_op 134 (.bool false) rfl rfl rfl (fun w1 h => by go_simp) ?_
            refine wpYJd_op 135 (.pointer (some ⟨b, 0, none⟩)) rfl rfl (by simp [Region.wanted, yielded, Act.put]) (fun w1 h => by go_simp) ?_
            try simp only [Act.put, List.setIfInBounds_toArray, List.set_cons_succ, List.set_cons_zero]
            refine wpYJd_op 138 (.pointer (some ⟨gm, 0, none⟩)) rfl rfl (by simp [Region.wanted, yielded, Act.put]) (fun w1 h => by go_simp) ?_
            refine wpYJd_op 139 (.slice ur.1 m2 ur.2) rfl rfl (by simp [Region.wanted, yielded, Act.put]) (fun w1 h => by have c0 := rs_c0 h.2.2; clear h; go_simp) ?_
            show wpX _ _ _ _ _ _ _
            try simp only [Act.put, List.setIfInBounds_toArray, List.set_cons_succ, List.set_cons_zero]
            refine wpX_of (⟨M27.row (b := b15) (c := cs U8 kk.l) (by simp), M27.row (b := b22) (c := cs U8 kk.l) (by simp), M27.row (b := gm) (c := RSR (.slice ur.1 m2 ur.2) size) (by simp)⟩) ?_
            refine wpT_objN (U := Value) (fun u => u) (fun u g => obk u = some g) (fun u w => Ow w B 65 u m2 (fl eE L2)) (some 136) M27 K2 F2 (XA.stb _ _ _ _ _ _ _ _) rfl rfl (by simp [Region.wanted, yielded, Act.put]) (by go_simp) (fun hX => sall_x _ hX hrm (by omega) HLM2.out) (fun u => Stb.ow _ _ _ _ _) (fun u3 w3 S3 M3 K3 F3 => ?_)
            refine wpX_to ?_
            try simp only [Act.put, List.setIfInBounds_toArray, List.set_cons_succ, List.set_cons_zero]
            refine wpX_of (⟨M3.row (b := b15) (c := cs U8 kk.l) (by simp), M3.row (b := b22) (c := cs U8 kk.l) (by simp), M3.row (b := gm) (c := RSR (.slice ur.1 m2 ur.2) size) (by simp)⟩) ?_
            refine wpT_objN (U := Value) (fun u => u) (fun u g => obk u = some g) (fun u w => Ow w B 65 u m2 (fl eE L2)) (some 137) M3 K3 F3 ((XA.stb _ _ _ _ _ _ _ _).and (Stb.ow _ _ _ _ _)) rfl rfl (by simp [Region.wanted, yielded, Act.put]) (by go_simp) (fun hX => ours_x _ hX.2 HLM2.out (by omega) hX.1.Bw) (fun u => Stb.ow _ _ _ _ _) (fun u4 w4 S4 M4 K4 F4 => ?_)
            refine wpX_to ?_
            try simp only [Act.put, List.setIfInBounds_toArray, List.set_cons_succ, List.set_cons_zero]
            refine wpX_of (⟨M4.row (b := b15) (c := cs U8 kk.l) (by simp), M4.row (b := b22) (c := cs U8 kk.l) (by simp), M4.row (b := gm) (c := RSR (.slice ur.1 m2 ur.2) size) (by simp)⟩) ?_
            refine wpT_callv 140 M4 (v := .bool true) rfl rfl (by simp [Region.wanted, yielded, Act.put]) (by go_simp) (rsame_c w4 _ _ m2 L2 (K4 _ _ M4).1.2.sv (K4 _ _ M4).1.1.1.ow.sv HLM2.out) (fun w29 M30 => ?_)
            refine wpX_to ?_
            try simp only [Act.put, List.setIfInBounds_toArray, List.set_cons_succ, List.set_cons_zero]
            refine wpX_of (⟨M30.row (b := b15) (c := cs U8 kk.l) (by simp), M30.row (b := b22) (c := cs U8 kk.l) (by simp), M30.row (b := gm) (c := RSR (.slice ur.1 m2 ur.2) size) (by simp)⟩) ?_
            refine wpT_valp 141 (v := .bool false) rfl rfl (by simp [Region.wanted, yielded, Act.put]) (by go_simp) ?_
            refine wpX_to ?_
            try simp only [Act.put, List.setIfInBounds_toArray, List.set_cons_succ, List.set_cons_zero]
            refine wpX_of (⟨M30.row (b := b15) (c := cs U8 kk.l) (by simp), M30.row (b := b22) (c := cs U8 kk.l) (by simp), M30.row (b := gm) (c := RSR (.slice ur.1 m2 ur.2) size) (by simp)⟩) ?_
            refine wpT_valp 142 (v := .bool false) rfl rfl rfl (by go_simp) ?_
            refine wpX_to ?_
            try simp only [Act.put, List.setIfInBounds_toArray, List.set_cons_succ, List.set_cons_zero]
            refine ⟨(⟨M30.row (b := b15) (c := cs U8 kk.l) (by simp), M30.row (b := b22) (c := cs U8 kk.l) (by simp), M30.row (b := gm) (c := RSR (.slice ur.1 m2 ur.2) size) (by simp)⟩), ?_⟩
            try simp only [Act.put, List.setIfInBounds_toArray, List.set_cons_succ, List.set_cons_zero]
            go_upto_region 9 with fail
            refine wp_region_lin (.op 0 (.op 1 (.op 2 .done))) (by rfl) ?_
            refine wpT_valp 45 (v := .int .i64 i) rfl rfl rfl (by go_simp) ?_
            refine wpT_valp 46 (v := .int .i64 i1) rfl rfl rfl (by have h := HI1.out; go_simp) ?_
            refine wpT_valp 7 (v := .int .i64 i1) rfl rfl rfl (by go_simp) ?_
            first | dsimp only [wpT] | refine wpT_fin ?_
            try simp only [Act.put, List.setIfInBounds_toArray, List.set_cons_succ, List.set_cons_zero]
            go_wp2_with fail
            go_roundw
            case rel =>
              obtain ⟨hX, hM, hd⟩ := K4 _ _ M30
              exact ⟨i1, b, L2, v2, ur.1, ur.2, _, by have := HII.out; omega, rfl, rfl, hM.sub (.cons _ (.cons _ (.cons _ (.cons _ (.cons_cons _ .slnil))))), hX.1.1, fun h => hd (gm, RSR (.slice ur.1 m2 ur.2) size) (by simp) (.inl (.inl h)), HLE2.out⟩
            case measure => have := HII.out; simp only [intOf]; omega
          · have HQ := hid (show q.tmod 3 = 2 by rw [hr3, hc])
            clear hr3 hr3b hc
            obtain ⟨⟨kk, q3⟩, hg⟩ : ∃ z, Sk.get L p e = z := ⟨_, rfl⟩
            have HG := hid hg
            have HLM2 := HLM
            have HLE2 := HLE
            clear hg
            go_upto_region 8 with fail
            refine wp_region_lin (.op 0 (.op 1 (.op 2 (.op 3 (.op 4 (.op 5 (.op 6 (.op 7 (.op 8 (.op 9 (.op 10 (.op 11 .done)))))))))))) (by rfl) ?_
            refine wpT_valp 33 (v := .pointer (some ⟨b, 0, none⟩)) rfl rfl rfl (by go_simp) ?_
            refine wpT_valp 34 (v := .bool true) rfl rfl rfl (by go_simp) ?_
            refine wpT_valp 35 (v := .bool true) rfl rfl rfl (by go_simp) ?_
            refine wpT_valp 36 (v := .int .i64 i) rfl rfl (by simp [Region.wanted, yielded, Act.put]) (by go_simp) ?_
            try simp only [Act.put, List.setIfInBounds_toArray, List.set_cons_succ, List.set_cons_zero]
            refine wpT_valp 37 (v := .slice (some ⟨gu, uo, none⟩) n uc) rfl rfl (by simp [Region.wanted, yielded, Act.put]) (by go_simp) ?_
            refine wpT_valp 38 (v := .int .i64 n) rfl rfl (by simp [Region.wanted, yielded, Act.put]) (by go_simp) ?_
            refine wpT_valp 39 (v := .bool true) rfl rfl (by simp [Region.wanted, yielded, Act.put]) (by go_simp) ?_
            refine wpT_valp 40 (v := .bool true) rfl rfl rfl (by go_simp) ?_
            refine wpT_valp 41 (v := .bool true) rfl rfl rfl (by go_simp) ?_
            try simp only [Act.put, List.setIfInBounds_toArray, List.set_cons_succ, List.set_cons_zero]
            refine wpT_valp 42 (v := .int .i64 i) rfl rfl (by simp [Region.wanted, yielded, Act.put]) (by go_simp) ?_
            refine wpT_valp 43 (v := .bool true) rfl rfl (by simp [Region.wanted, yielded, Act.put]) (by go_simp) ?_
            refine wpT_valp 44 (v := .bool true) rfl rfl rfl (by go_simp) ?_
            first | dsimp only [wpT] | refine wpT_fin ?_
            try simp only [Act.put, List.setIfInBounds_toArray, List.set_cons_succ, List.set_cons_zero]
            go_upto_region 10 with fail
            refine wp_region_lin (.op 0 (.op 1 (.op 2 (.op 3 (.op 4 (.op 5 .done)))))) (by rfl) ?_
            refine wpT_valp 47 (v := .slice (some ⟨gu, uo, none⟩) n uc) rfl rfl rfl (by go_simp) ?_
            refine wpT_valp 48 (v := .int .i64 i) rfl rfl rfl (by go_simp) ?_
            refine wpT_valp 49 (v := .pointer (some ⟨gu, uo + i * 35, none⟩)) rfl rfl rfl (by go_simp) ?_
            refine wpT_ldy 50 (.pointer (some ⟨gu, uo + i * 35, none⟩)) (.agg (ACS q p e (.slice ka kn kc))) rfl rfl rfl (by go_simp) (HEL.out _ (K0 _ _ M).2.1.end_) rfl ?_
            try simp only [Act.put, List.setIfInBounds_toArray, List.set_cons_succ, List.set_cons_zero]
            refine wpT_new (z := .agg (ACS 0 Ky.zero 0 (.slice none 0 0))) 8 M (by kernel_rfl) (by decide) rfl rfl rfl rfl (fun b1 w2 M3 => ?_)
            try dsimp only [Value.cells] at M3
            refine wpT_st0 M3 0 (ACS q p e (.slice ka kn kc)) inf_acs rfl rfl rfl rfl (by go_simp) (by go_simp) (by simp [Ky.len, ENR_size, RSR_size, STR_size, ACS_size]) (by simp [Ky.len, ENR_size, RSR_size, STR_size, ACS_size]) (by simp [go_sem]) rfl (fun w4 M5 => ?_)
            dsimp only [List.set] at M5
            first | dsimp only [wpT] | refine wpT_fin ?_
            try simp only [Act.put, List.setIfInBounds_toArray, List.set_cons_succ, List.set_cons_zero]
            go_upto_region 11 with fail
            refine wp_region_lin (.op 0 (.op 1 (.op 2 (.op 3 .done)))) (by rfl) ?_
            refine wpT_valp 51 (v := .pointer (some ⟨b1, 34, none⟩)) rfl rfl rfl (by go_simp) ?_
            refine wpT_valp 52 (v := .slice ka kn kc) rfl rfl rfl (by have c0 := as_c34 (M5.row (b := b1) (c := ACS q p e (.slice ka kn kc)) (by simp)); go_simp) ?_
            refine wpT_valp 53 (v := .int .i64 kn) rfl rfl rfl (by go_simp) ?_
            refine wpT_valp 54 (v := .bool false) rfl rfl rfl (by go_simp) ?_
            first | dsimp only [wpT] | refine wpT_fin ?_
            try simp only [Act.put, List.setIfInBounds_toArray, List.set_cons_succ, List.set_cons_zero]
            go_upto_region 12 with fail
            refine wp_region_lin (.op 0 .done) (by rfl) ?_
            refine wpT_valp 9 (v := .bool true) rfl rfl rfl (by go_simp) ?_
            first | dsimp only [wpT] | refine wpT_fin ?_
            try simp only [Act.put, List.setIfInBounds_toArray, List.set_cons_succ, List.set_cons_zero]
            go_upto_region 13 with fail
            refine wp_region_lin (.op 0 (.op 1 (.op 2 .done))) (by rfl) ?_
            refine wpT_valp 55 (v := .pointer (some ⟨b1, 0, none⟩)) rfl rfl rfl (by go_simp) ?_
            refine wpT_valp 56 (v := .int .u8 q) rfl rfl rfl (by have c0 := as_c0 (M5.row (b := b1) (c := ACS q p e (.slice ka kn kc)) (by simp)); go_simp) ?_
            refine wpT_valp 57 (v := .int .u8 2) rfl rfl rfl (by have h := HQ.out; go_simp) ?_
            first | dsimp only [wpT] | refine wpT_fin ?_
            try simp only [Act.put, List.setIfInBounds_toArray, List.set_cons_succ, List.set_cons_zero]
            go_upto_region 15 with fail
            refine wp_region_lin (.op 0 (.op 1 .done)) (by rfl) ?_
            refine wpT_valp 61 (v := .bool false) rfl rfl rfl (by go_simp) ?_
            refine wpT_valp 60 (v := .bool false) rfl rfl rfl (by go_simp) ?_
            first | dsimp only [wpT] | refine wpT_fin ?_
            try simp only [Act.put, List.setIfInBounds_toArray, List.set_cons_succ, List.set_cons_zero]
            go_upto_region 19 with fail
            refine wp_region_lin (.op 0 (.op 1 .done)) (by rfl) ?_
            refine wpT_valp 85 (v := .bool false) rfl rfl rfl (by go_simp) ?_
            refine wpT_valp 84 (v := .bool false) rfl rfl rfl (by go_simp) ?_
            first | dsimp only [wpT] | refine wpT_fin ?_
            try simp only [Act.put, List.setIfInBounds_toArray, List.set_cons_succ, List.set_cons_zero]
            go_upto_region 14 with fail
            refine wp_region_lin (.op 0 (.op 1 (.op 2 .done))) (by rfl) ?_
            refine wpT_valp 58 (v := .pointer (some ⟨b, 0, none⟩)) rfl rfl rfl (by go_simp) ?_
            refine wpT_obj (U := (Nat × Value)) (fun v2 => .pointer (some ⟨v2.1, 0, none⟩)) (fun v2 => XF v2.1 v2.2 (.slice ra m rc)) (fun v2 => fun w => XA w B v2.1 size L v2.2 (.slice ra m rc) m L) (some 59) M5 K0 F0 rfl rfl rfl (by go_simp) (fun hX => sclo_x w4 hX hrm (by omega)) (fun v2 => XA.stb _ _ _ _ _ _ _ _) (fun v2 w2 Sw2 Mw2 K2 F2 => ?_)
            refine wpT_valp 5 (v := .pointer (some ⟨v2.1, 0, none⟩)) rfl rfl rfl (by go_simp) ?_
            first | dsimp only [wpT] | refine wpT_fin ?_
            try simp only [Act.put, List.setIfInBounds_toArray, List.set_cons_succ, List.set_cons_zero]
            go_upto_region 23 with fail
            refine wp_region_lin (.op 0 (.op 1 (.op 2 (.op 3 (.op 4 (.op 5 (.op 6 (.op 7 (.op 8 (.op 9 (.op 10 (.op 11 .done)))))))))))) (by rfl) ?_
            refine wpT_valp 105 (v := .pointer (some ⟨v2.1, 0, none⟩)) rfl rfl rfl (by go_simp) ?_
            refine wpT_valp 106 (v := .pointer (some ⟨b1, 1, none⟩)) rfl rfl rfl (by go_simp) ?_
            refine wpT_ldm 107 Try.underlying28 rfl inf_key (b1) 1 (ACS q p e (.slice ka kn kc)) (cs U8 p.l) rfl rfl rfl (by go_simp) (Mw2.row (b := b1) (c := ACS q p e (.slice ka kn kc)) (by simp)) (by simp [Ky.len, ENR_size, RSR_size, STR_size, ACS_size]) (as_p1) rfl ?_
            refine wpT_valp 108 (v := .pointer (some ⟨b1, 33, none⟩)) rfl rfl rfl (by go_simp) ?_
            try simp only [Act.put, List.setIfInBounds_toArray, List.set_cons_succ, List.set_cons_zero]
            refine wpT_valp 109 (v := .int .i64 e) rfl rfl rfl (by have c0 := as_c33 (Mw2.row (b := b1) (c := ACS q p e (.slice ka kn kc)) (by simp)); go_simp) ?_
            refine wpT_callv 110 Mw2 (v := .tuple #[.agg (cs U8 kk.l), .int .i64 q3]) rfl rfl rfl (by go_simp) (sget_x w2 (K2 _ _ Mw2).1 hrm p e HG.out) (fun w6 M7 => ?_)
            refine wpT_valp 104 (v := .tuple #[.agg (cs U8 kk.l), .int .i64 q3]) rfl rfl rfl (by go_simp) ?_
            refine wpT_valp 111 (v := .agg (cs U8 kk.l)) rfl rfl rfl (by go_simp) ?_
            refine wpT_valp 112 (v := .int .i64 q3) rfl rfl rfl (by go_simp) ?_
            try simp only [Act.put, List.setIfInBounds_toArray, List.set_cons_succ, List.set_cons_zero]
            refine wpT_new (z := .agg (cs U8 (zs 32))) 14 M7 (by kernel_rfl) (by decide) rfl rfl rfl rfl (fun b8 w9 M10 => ?_)
            try dsimp only [Value.cells] at M10
            refine wpT_st0 M10 0 (cs U8 kk.l) inf_key rfl rfl rfl rfl (by go_simp) (by go_simp) (by simp [Ky.len, ENR_size, RSR_size, STR_size, ACS_size]) (by simp [Ky.len, ENR_size, RSR_size, STR_size, ACS_size]) (by simp [go_sem]) rfl (fun w11 M12 => ?_)
            dsimp only [List.set] at M12
            refine wpT_valp 15 (v := .int .i64 q3) rfl rfl rfl (by go_simp) ?_
            first | dsimp only [wpT] | refine wpT_fin ?_
            try simp only [Act.put, List.setIfInBounds_toArray, List.set_cons_succ, List.set_cons_zero]
            go_upto_region 24 with fail
            refine wp_region_lin (.op 0 (.op 1 (.op 2 (.op 3 (.op 4 (.op 5 (.op 6 (.op 7 (.op 8 (.op 9 (.op 10 (.op 11 .done)))))))))))) (by rfl) ?_
            refine wpT_ld0 114 Try.underlying45 rfl inf_rst (gm) (RSR (.slice ra m rc) size) rfl rfl rfl (by go_simp) (M12.row (b := gm) (c := RSR (.slice ra m rc) size) (by simp)) (by simp [Ky.len, ENR_size, RSR_size, STR_size, ACS_size]) rfl ?_
            refine wpT_valp 115 (v := .pointer (some ⟨b1, 1, none⟩)) rfl rfl rfl (by go_simp) ?_
            refine wpT_ldm 116 Try.underlying28 rfl inf_key (b1) 1 (ACS q p e (.slice ka kn kc)) (cs U8 p.l) rfl rfl rfl (by go_simp) (M12.row (b := b1) (c := ACS q p e (.slice ka kn kc)) (by simp)) (by simp [Ky.len, ENR_size, RSR_size, STR_size, ACS_size]) (as_p1) rfl ?_
            refine wpT_valp 117 (v := .pointer (some ⟨b1, 33, none⟩)) rfl rfl rfl (by go_simp) ?_
            try simp only [Act.put, List.setIfInBounds_toArray, List.set_cons_succ, List.set_cons_zero]
            refine wpT_valp 118 (v := .int .i64 e) rfl rfl rfl (by have c0 := as_c33 (M12.row (b := b1) (c := ACS q p e (.slice ka kn kc)) (by simp)); go_simp) ?_
            refine wpT_callv 119 M12 (v := .tuple #[.agg (cs U8 kk.l), .int .i64 q3]) rfl rfl rfl (by go_simp) (rget_x w11 (K2 _ _ M12).1 p e HG.out) (fun w13 M14 => ?_)
            refine wpT_valp 113 (v := .tuple #[.agg (cs U8 kk.l), .int .i64 q3]) rfl rfl rfl (by go_simp) ?_
            refine wpT_valp 120 (v := .agg (cs U8 kk.l)) rfl rfl rfl (by go_simp) ?_
            refine wpT_valp 121 (v := .int .i64 q3) rfl rfl rfl (by go_simp) ?_
            try simp only [Act.put, List.setIfInBounds_toArray, List.set_cons_succ, List.set_cons_zero]
            refine wpT_new (z := .agg (cs U8 (zs 32))) 16 M14 (by kernel_rfl) (by decide) rfl rfl rfl rfl (fun b15 w16 M17 => ?_)
            try dsimp only [Value.cells] at M17
            refine wpT_st0 M17 0 (cs U8 kk.l) inf_key rfl rfl rfl rfl (by go_simp) (by go_simp) (by simp [Ky.len, ENR_size, RSR_size, STR_size, ACS_size]) (by simp [Ky.len, ENR_size, RSR_size, STR_size, ACS_size]) (by simp [go_sem]) rfl (fun w18 M19 => ?_)
            dsimp only [List.set] at M19
            refine wpT_valp 17 (v := .int .i64 q3) rfl rfl rfl (by go_simp) ?_
            first | dsimp only [wpT] | refine wpT_fin ?_
            try simp only [Act.put, List.setIfInBounds_toArray, List.set_cons_succ, List.set_cons_zero]
            go_upto_region 25 with fail
            refine wp_region_X (fun v => v.rowOf (b8) = cs U8 kk.l ∧ v.rowOf (b15) = cs U8 kk.l ∧ v.rowOf (gm) = RSR (.slice ra m rc) size) (.op 0 (.op 1 (.op 2 (.yld [3, 4, 5, 6, 7, 8, 9, 10, 11, 12, 13, 16, 17] (.op 14 (.op 15 (.op 18 (.op 19 (.op 20 .done))))))))) (by kernel_rfl) (by kernel_rfl) (by kernel_rfl) (fun d _ _ _ _ h => by cases d <;> exact h) ?_
            have M20 := M19.drewN 1
            change wpX _ _ _ _ _ _ (w18.drewN 1)
            obtain ⟨w21, hw21⟩ : ∃ w21, w21 = w18.drewN 1 := ⟨_, rfl⟩
            rw [← hw21] at M20 ⊢
            clear hw21
            refine wpX_of (⟨M20.row (b := b8) (c := cs U8 kk.l) (by simp), M20.row (b := b15) (c := cs U8 kk.l) (by simp), M20.row (b := gm) (c := RSR (.slice ra m rc) size) (by simp)⟩) ?_
            refine wpT_valp 122 (v := .bool true) rfl rfl rfl (by go_simp) ?_
            refine wpX_to ?_
            try simp only [Act.put, List.setIfInBounds_toArray, List.set_cons_succ, List.set_cons_zero]
            refine wpX_of (⟨M20.row (b := b8) (c := cs U8 kk.l) (by simp), M20.row (b := b15) (c := cs U8 kk.l) (by simp), M20.row (b := gm) (c := RSR (.slice ra m rc) size) (by simp)⟩) ?_
            refine wpT_valp 123 (v := .bool false) rfl rfl rfl (by go_simp) ?_
            refine wpX_to ?_
            try simp only [Act.put, List.setIfInBounds_toArray, List.set_cons_succ, List.set_cons_zero]
            refine wpX_of (⟨M20.row (b := b8) (c := cs U8 kk.l) (by simp), M20.row (b := b15) (c := cs U8 kk.l) (by simp), M20.row (b := gm) (c := RSR (.slice ra m rc) size) (by simp)⟩) ?_
            refine wpT_valp 124 (v := .bool false) rfl rfl rfl (by go_simp) ?_
            refine wpX_to ?_
            try simp only [Act.put, List.setIfInBounds_toArray, List.set_cons_succ, List.set_cons_zero]
            refine wpX_yld ?_
            refine wpYJd_ld 125 Try.underlying28 rfl inf_key (b8) (cs U8 kk.l) rfl rfl rfl (by go_simp) (fun _ h => h.1) (by simp [Ky.len, ENR_size, RSR_size, STR_size, ACS_size]) (by simp [Region.wanted, yielded, Act.put]) ?_
            refine wpYJd_ld 126 Try.underlying28 rfl inf_key (b15) (cs U8 kk.l) rfl rfl rfl (by go_simp) (fun _ h => h.2.1) (by simp [Ky.len, ENR_size, RSR_size, STR_size, ACS_size]) (by simp [Region.wanted, yielded, Act.put]) ?_
            refine wpYJd_op 127 (.bool false) rfl rfl (by simp [Region.wanted, yielded, Act.put]) (fun w1 h => by have q := eqin_key w1 kk.l kk.l (by simp) (by simp); go_simp) ?_
            refine wpYJd_op 128 (.bool false) rfl rfl rfl (fun w1 h => by go_simp) ?_
            refine wpYJd_op 129 (.bool false) rfl rfl rfl (fun w1 h => by go_simp) ?_
            try simp only [Act.put, List.setIfInBounds_toArray, List.set_cons_succ, List.set_cons_zero]
            refine wpYJd_op 130 (.int .i64 q3) rfl rfl (by simp [Region.wanted, yielded, Act.put]) (fun w1 h => by go_simp) ?_
            refine wpYJd_op 131 (.int .i64 q3) rfl rfl (by simp [Region.wanted, yielded, Act.put]) (fun w1 h => by go_simp) ?_
            refine wpYJd_op 132 (.bool false) rfl rfl (by simp [Region.wanted, yielded, Act.put]) (fun w1 h => by go_simp) ?_
            refine wpYJd_op 133 (.bool false) rfl rfl rfl (fun w1 h => by go_simp) ?_
            refine wpYJd_op 134 (.bool false) rfl rfl rfl (fun w1 h => by go_simp) ?_
            refine wpYJd_op 135 (.pointer (some ⟨v2.1, 0, none⟩)) rfl rfl (by simp [Region.wanted, yielded, Act.put]) (fun w1 h => by go_simp) ?_
            try simp only [Act.put, List.setIfInBounds_toArray, List.set_cons_succ, List.set_cons_zero]
            refine wpYJd_op 138 (.pointer (some ⟨gm, 0, none⟩)) rfl rfl (by simp [Region.wanted, yielded, Act.put]) (fun w1 h => by go_simp) ?_
            refine wpYJd_op 139 (.slice ra m rc) rfl rfl (by simp [Region.wanted, yielded, Act.put]) (fun w1 h => by have c0 := rs_c0 h.2.2; clear h; go_simp) ?_
            show wpX _ _ _ _ _ _ _
            try simp only [Act.put, List.setIfInBounds_toArray, List.set_cons_succ, List.set_cons_zero]
            refine wpX_of (⟨M20.row (b := b8) (c := cs U8 kk.l) (by simp), M20.row (b := b15) (c := cs U8 kk.l) (by simp), M20.row (b := gm) (c := RSR (.slice ra m rc) size) (by simp)⟩) ?_
            refine wpT_objN (U := Value) (fun u => u) (fun u g => obk u = some g) (fun u w => Ow w B 65 u m (fl eE L)) (some 136) M20 K2 F2 (XA.stb _ _ _ _ _ _ _ _) rfl rfl (by simp [Region.wanted, yielded, Act.put]) (by go_simp) (fun hX => sall_x _ hX hrm (by omega) HLM2.out) (fun u => Stb.ow _ _ _ _ _) (fun u3 w3 S3 M3 K3 F3 => ?_)
            refine wpX_to ?_
            try simp only [Act.put, List.setIfInBounds_toArray, List.set_cons_succ, List.set_cons_zero]
            refine wpX_of (⟨M3.row (b := b8) (c := cs U8 kk.l) (by simp), M3.row (b := b15) (c := cs U8 kk.l) (by simp), M3.row (b := gm) (c := RSR (.slice ra m rc) size) (by simp)⟩) ?_
            refine wpT_objN (U := Value) (fun u => u) (fun u g => obk u = some g) (fun u w => Ow w B 65 u m (fl eE L)) (some 137) M3 K3 F3 ((XA.stb _ _ _ _ _ _ _ _).and (Stb.ow _ _ _ _ _)) rfl rfl (by simp [Region.wanted, yielded, Act.put]) (by go_simp) (fun hX => ours_x _ hX.2 HLM2.out (by omega) hX.1.Bw) (fun u => Stb.ow _ _ _ _ _) (fun u4 w4 S4 M4 K4 F4 => ?_)
            refine wpX_to ?_
            try simp only [Act.put, List.setIfInBounds_toArray, List.set_cons_succ, List.set_cons_zero]
            refine wpX_of (⟨M4.row (b := b8) (c := cs U8 kk.l) (by simp), M4.row (b := b15) (c := cs U8 kk.l) (by simp), M4.row (b := gm) (c := RSR (.slice ra m rc) size) (by simp)⟩) ?_
            refine wpT_callv 140 M4 (v := .bool true) rfl rfl (by simp [Region.wanted, yielded, Act.put]) (by go_simp) (rsame_c w4 _ _ m L (K4 _ _ M4).1.2.sv (K4 _ _ M4).1.1.1.ow.sv HLM2.out) (fun w22 M23 => ?_)
            refine wpX_to ?_
            try simp only [Act.put, List.setIfInBounds_toArray, List.set_cons_succ, List.set_cons_zero]
            refine wpX_of (⟨M23.row (b := b8) (c := cs U8 kk.l) (by simp), M23.row (b := b15) (c := cs U8 kk.l) (by simp), M23.row (b := gm) (c := RSR (.slice ra m rc) size) (by simp)⟩) ?_
            refine wpT_valp 141 (v := .bool false) rfl rfl (by simp [Region.wanted, yielded, Act.put]) (by go_simp) ?_
            refine wpX_to ?_
            try simp only [Act.put, List.setIfInBounds_toArray, List.set_cons_succ, List.set_cons_zero]
            refine wpX_of (⟨M23.row (b := b8) (c := cs U8 kk.l) (by simp), M23.row (b := b15) (c := cs U8 kk.l) (by simp), M23.row (b := gm) (c := RSR (.slice ra m rc) size) (by simp)⟩) ?_
            refine wpT_valp 142 (v := .bool false) rfl rfl rfl (by go_simp) ?_
            refine wpX_to ?_
            try simp only [Act.put, List.setIfInBounds_toArray, List.set_cons_succ, List.set_cons_zero]
            refine ⟨(⟨M23.row (b := b8) (c := cs U8 kk.l) (by simp), M23.row (b := b15) (c := cs U8 kk.l) (by simp), M23.row (b := gm) (c := RSR (.slice ra m rc) size) (by simp)⟩), ?_⟩
            try simp only [Act.put, List.setIfInBounds_toArray, List.set_cons_succ, List.set_cons_zero]
            go_upto_region 9 with fail
            refine wp_region_lin (.op 0 (.op 1 (.op 2 .done))) (by rfl) ?_
            refine wpT_valp 45 (v := .int .i64 i) rfl rfl rfl (by go_simp) ?_
            refine wpT_valp 46 (v := .int .i64 i1) rfl rfl rfl (by have h := HI1.out; go_simp) ?_
            refine wpT_valp 7 (v := .int .i64 i1) rfl rfl rfl (by go_simp) ?_
            first | dsimp only [wpT] | refine wpT_fin ?_
            try simp only [Act.put, List.setIfInBounds_toArray, List.set_cons_succ, List.set_cons_zero]
            go_wp2_with fail
            go_roundw
            case rel =>
              obtain ⟨hX, hM, hd⟩ := K4 _ _ M23
              exact ⟨i1, v2.1, L, v2.2, ra, rc, _, by have := HII.out; omega, rfl, rfl, hM.sub (.cons _ (.cons _ (.cons _ (.cons_cons _ .slnil)))), hX.1.1, fun h => hd (gm, RSR (.slice ra m rc) size) (by simp) (.inl (.inl h)), HLE2.out⟩
            case measure => have := HII.out; simp only [intOf]; omega
      · have hlt60 : ¬ (i : Int) < 60 := by omega
        go_upto_region 8 with fail
        refine wp_region_lin (.op 0 (.op 1 (.op 2 (.op 3 (.op 4 (.op 5 (.op 6 (.op 7 (.op 8 (.op 9 (.op 10 (.op 11 .done)))))))))))) (by rfl) ?_
        refine wpT_valp 33 (v := .pointer (some ⟨b, 0, none⟩)) rfl rfl rfl (by go_simp) ?_
        refine wpT_valp 34 (v := .bool true) rfl rfl rfl (by go_simp) ?_
        refine wpT_valp 35 (v := .bool true) rfl rfl rfl (by go_simp) ?_
        refine wpT_valp 36 (v := .int .i64 i) rfl rfl (by simp [Region.wanted, yielded, Act.put]) (by go_simp) ?_
        try simp only [Act.put, List.setIfInBounds_toArray, List.set_cons_succ, List.set_cons_zero]
        refine wpT_valp 37 (v := .slice ua n uc) rfl rfl (by simp [Region.wanted, yielded, Act.put]) (by go_simp) ?_
        refine wpT_valp 38 (v := .int .i64 n) rfl rfl (by simp [Region.wanted, yielded, Act.put]) (by go_simp) ?_
        refine wpT_valp 39 (v := .bool true) rfl rfl (by simp [Region.wanted, yielded, Act.put]) (by go_simp) ?_
        refine wpT_valp 40 (v := .bool true) rfl rfl rfl (by go_simp) ?_
        refine wpT_valp 41 (v := .bool true) rfl rfl rfl (by go_simp) ?_
        try simp only [Act.put, List.setIfInBounds_toArray, List.set_cons_succ, List.set_cons_zero]
        refine wpT_valp 42 (v := .int .i64 i) rfl rfl (by simp [Region.wanted, yielded, Act.put]) (by go_simp) ?_
        refine wpT_valp 43 (v := .bool false) rfl rfl (by simp [Region.wanted, yielded, Act.put]) (by go_simp) ?_
        refine wpT_valp 44 (v := .bool false) rfl rfl rfl (by go_simp) ?_
        first | dsimp only [wpT] | refine wpT_fin ?_
        try simp only [Act.put, List.setIfInBounds_toArray, List.set_cons_succ, List.set_cons_zero]
        go_upto_region 27 with fail
        refine wp_region_lin (.op 0 .done) (by rfl) ?_
        refine wpT_valp 4 (v := .bool true) rfl rfl rfl (by go_simp) ?_
        first | dsimp only [wpT] | refine wpT_fin ?_
        try simp only [Act.put, List.setIfInBounds_toArray, List.set_cons_succ, List.set_cons_zero]
        go_wp2_with fail
        go_ret
        exact ⟨rfl, (K0 _ _ M).2.1.end_⟩
    · have hlt : ¬ (i : Int) < (n : Int) := by omega
      go_upto_region 8 with fail
      refine wp_region_lin (.op 0 (.op 1 (.op 2 (.op 3 (.op 4 (.op 5 (.op 6 (.op 7 (.op 8 (.op 9 (.op 10 (.op 11 .done)))))))))))) (by rfl) ?_
      refine wpT_valp 33 (v := .pointer (some ⟨b, 0, none⟩)) rfl rfl rfl (by go_simp) ?_
      refine wpT_valp 34 (v := .bool true) rfl rfl rfl (by go_simp) ?_
      refine wpT_valp 35 (v := .bool true) rfl rfl rfl (by go_simp) ?_
      refine wpT_valp 36 (v := .int .i64 i) rfl rfl (by simp [Region.wanted, yielded, Act.put]) (by go_simp) ?_
      try simp only [Act.put, List.setIfInBounds_toArray, List.set_cons_succ, List.set_cons_zero]
      refine wpT_valp 37 (v := .slice ua n uc) rfl rfl (by simp [Region.wanted, yielded, Act.put]) (by go_simp) ?_
      refine wpT_valp 38 (v := .int .i64 n) rfl rfl (by simp [Region.wanted, yielded, Act.put]) (by go_simp) ?_
      refine wpT_valp 39 (v := .bool false) rfl rfl (by simp [Region.wanted, yielded, Act.put]) (by go_simp) ?_
      refine wpT_valp 40 (v := .bool false) rfl rfl rfl (by go_simp) ?_
      refine wpT_valp 41 (v := .bool false) rfl rfl rfl (by go_simp) ?_
      try simp only [Act.put, List.setIfInBounds_toArray, List.set_cons_succ, List.set_cons_zero]
      refine wpT_unx 42 rfl rfl (by simp [Region.wanted, yielded, Act.put]) ?_
      try simp only [Act.put, List.setIfInBounds_toArray, List.set_cons_succ, List.set_cons_zero]
      refine wpT_unx 43 rfl rfl (by simp [Region.wanted, yielded, Act.put]) ?_
      try simp only [Act.put, List.setIfInBounds_toArray, List.set_cons_succ, List.set_cons_zero]
      refine wpT_valp 44 (v := .bool false) rfl rfl rfl (by go_simp) ?_
      first | dsimp only [wpT] | refine wpT_fin ?_
      try simp only [Act.put, List.setIfInBounds_toArray, List.set_cons_succ, List.set_cons_zero]
      go_upto_region 27 with fail
      refine wp_region_lin (.op 0 .done) (by rfl) ?_
      refine wpT_valp 4 (v := .bool true) rfl rfl rfl (by go_simp) ?_
      first | dsimp only [wpT] | refine wpT_fin ?_
      try simp only [Act.put, List.setIfInBounds_toArray, List.set_cons_succ, List.set_cons_zero]
      go_wp2_with fail
      go_ret
      exact ⟨rfl, (K0 _ _ M).2.1.end_⟩
end Go.Proofs.Ytojkcbhmhfjioaa
