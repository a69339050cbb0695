/-
  Law 18: SkippedOwn, the walk; own work.
-/
import Derived.Test.YtojkcbhmhfjioaaSk13
set_option linter.unusedSimpArgs false
set_option linter.unusedVariables false
namespace Go.Proofs.Ytojkcbhmhfjioaa
open Go.RowKit
attribute [local irreducible] ENR RSR STR ACS wpT ky Ky.zero
set_option maxRecDepth 100000 in
set_option maxHeartbeats 40000000 in
theorem SkippedOwn_w (w : World) (u : Value) (n : Nat) (A : List Sk.Ac) (hA : SV w u n (fl eC A)) (hn : A.length = n) (hok : ∀ x ∈ A, OkA w x) (q : Int) (p : Ky) (e : Int) (kv : Value) (ks : List Ky) (hks : SV w kv ks.length (fl eK ks)) :
    Calls Try.prog 5 #[u, .agg (ACS q p e kv)] w fun e w' => e = .returned (.bool true) ∧ Below w.heap.size w w' := by
  have HA := hid hA
  have HN := hid hn
  have HOK := hid hok
  obtain ⟨ua, uc, rfl, _, hmx, _⟩ := hA
  have hncl : n ≤ 9223372036854775807 := by unfold maxLen at hmx; omega
  have hn0 : (0 : Int) ≤ (n : Int) := by omega
  have HKS0 := hid hks
  obtain ⟨ka, kc, rfl, hkc, hkm, _⟩ := hks
  obtain ⟨kn, hkn⟩ : ∃ n, ks.length = n := ⟨_, rfl⟩
  have HKL := hid hkn
  rw [hkn] at HKS0 hkc ⊢
  have HKS := HKS0
  have hkncl : kn ≤ 9223372036854775807 := by unfold maxLen at hkm; omega
  clear hn hok hmx HKS0 hkc hkm hkn
  obtain ⟨B, hB⟩ : ∃ B, B = w.heap.size := ⟨_, rfl⟩
  have HB := hid hB
  clear hB
  have HTA : Hid (∀ (ta : Option Addr) (tc m : Nat) (w' : World) (L : List Sk.En), Ow w' B 65 (.slice ta m tc) m (fl eE L) → 0 < m → ∃ g c, Value.slice ta m tc = .slice (some ⟨g, 0, none⟩) m c) := hid fun ta tc m w' L h hm => by
    rcases h.2 with ⟨a, h1, h2⟩ | ⟨g, cap, cur, T, h1, _⟩
    · omega
    · exact ⟨g, cap + 1, h1⟩
  have M0 := Mm.start no w
  go_enter Try.func5, Try.ntmps5
  have M2 := (M0.alloc (ACS q p e (.slice ka kn kc)) 31 (by decide))
  try simp only [World.size_alloc] at M2
  go_upto_region 1 with fail
  obtain ⟨w1, hw1⟩ : ∃ w1, w1 = (w.alloc (.cells (ACS q p e (.slice ka kn kc)) 31)) := ⟨_, rfl⟩
  rw [← hw1] at M2 ⊢
  clear hw1
  refine wp_region_lin (.op 0 (.op 1 .done)) (by rfl) ?_
  refine wpT_callv 15 M2 (v := .bool true) rfl rfl rfl (by go_simp) (alive18_c w1) (fun w3 M4 => ?_)
  refine wpT_valp 16 (v := .bool false) rfl rfl rfl (by go_simp) ?_
  first | dsimp only [wpT] | refine wpT_fin ?_
  try simp only [Act.put, List.setIfInBounds_toArray, List.set_cons_succ, List.set_cons_zero]
  go_upto_region 3 with fail
  refine wp_region_lin (.op 0 (.op 1 (.op 2 (.op 3 (.op 4 .done))))) (by rfl) ?_
  refine wpT_valL 17 (v := .agg (STR 0 (.slice none 0 0))) rfl rfl rfl (by have q := xb_sto0 w3; go_simp) ?_
  refine wpT_sbx (c := STR 0 (.slice none 0 0)) (T := 58) 18 M4 (by decide) rfl rfl rfl (by go_simp) (fun zb wz hzb Mz => ?_)
  refine wpT_sptr2 19 _ Mz zb rfl rfl rfl (by go_simp) rfl (fun pb wp Mp => ?_)
  refine wpT_valp 20 (v := .int .i64 2) rfl rfl rfl (by go_simp) ?_
  try simp only [Act.put, List.setIfInBounds_toArray, List.set_cons_succ, List.set_cons_zero]
  refine wpT_valp 21 (v := .int .i64 0) rfl rfl rfl (by go_simp) ?_
  first | dsimp only [wpT] | refine wpT_fin ?_
  try simp only [Act.put, List.setIfInBounds_toArray, List.set_cons_succ, List.set_cons_zero]
  go_wp2_with fail
  go_loopw [21] (fun x wr => (x = .int .i64 0 ∧ Mm no w [(pb, #[.pointer none, .pointer (some ⟨zb, 0, none⟩)]), (zb, STR 0 (.slice none 0 0)), (w.heap.size, ACS q p e (.slice ka kn kc))] wr) ∨ (x = .int .i64 1 ∧ Mm no w [(pb, #[.pointer none, .pointer (some ⟨zb, 0, none⟩)]), (zb, STR 0 (.slice none 0 0)), (w.heap.size, ACS q p e (.slice ka kn kc))] wr) ∨ (x = .int .i64 2 ∧ Mm no w [(pb, #[.pointer none, .pointer (some ⟨zb, 0, none⟩)]), (zb, STR 0 (.slice none 0 0)), (w.heap.size, ACS q p e (.slice ka kn kc))] wr)) (fun x _ => 2 - (intOf x).toNat)
  case atStart => exact .inl ⟨rfl, Mp⟩
  case round =>
    clear Mp
    rcases hrel with ⟨rfl, M⟩ | ⟨rfl, M⟩ | ⟨rfl, M⟩
    ·
      go_upto_region 4 with fail
      refine wp_region_lin (.op 0 .done) (by rfl) ?_
      refine wpT_valp 22 (v := .bool true) rfl rfl rfl (by go_simp) ?_
      first | dsimp only [wpT] | refine wpT_fin ?_
      try simp only [Act.put, List.setIfInBounds_toArray, List.set_cons_succ, List.set_cons_zero]
      go_upto_region 5 with fail
      refine wp_region_lin (.op 0 (.op 1 (.op 2 .done))) (by rfl) ?_
      refine wpT_valp 23 (v := .pointer (some ⟨pb, 0, none⟩)) rfl rfl rfl (by go_simp) ?_
      refine wpT_valp 24 (v := .pointer none) rfl rfl rfl (by have c0 := spcell0 (M.row (b := pb) (c := #[.pointer none, .pointer (some ⟨zb, 0, none⟩)]) (by simp)); go_simp) ?_
      refine wpT_valp 6 (v := .pointer none) rfl rfl rfl (by go_simp) ?_
      first | dsimp only [wpT] | refine wpT_fin ?_
      try simp only [Act.put, List.setIfInBounds_toArray, List.set_cons_succ, List.set_cons_zero]
      go_upto_region 6 with fail
      refine wp_region_lin (.op 0 (.op 1 (.op 2 (.op 3 (.op 4 (.op 5 (.op 6 (.op 7 (.op 8 (.op 9 (.op 10 (.op 11 .done)))))))))))) (by rfl) ?_
      refine wpT_valp 26 (v := .pointer none) rfl rfl rfl (by go_simp) ?_
      refine wpT_valp 27 (v := .pointer (some ⟨w.heap.size, 1, none⟩)) rfl rfl rfl (by go_simp) ?_
      refine wpT_ldm 28 Try.underlying28 rfl inf_key (w.heap.size) 1 (ACS q p e (.slice ka kn kc)) (cs U8 p.l) rfl rfl rfl (by go_simp) (M.row (b := w.heap.size) (c := ACS q p e (.slice ka kn kc)) (by simp)) (by simp [Ky.len, ENR_size, RSR_size, STR_size, ACS_size]) (as_p1) rfl ?_
      refine wpT_valp 29 (v := .pointer (some ⟨w.heap.size, 33, none⟩)) rfl rfl rfl (by go_simp) ?_
      try simp only [Act.put, List.setIfInBounds_toArray, List.set_cons_succ, List.set_cons_zero]
      refine wpT_valp 30 (v := .int .i64 e) rfl rfl rfl (by have c0 := as_c33 (M.row (b := w.heap.size) (c := ACS q p e (.slice ka kn kc)) (by simp)); go_simp) ?_
      refine wpT_callv 31 M (v := .tuple #[.agg (cs U8 Ky.zero.l), .int .i64 1]) rfl rfl rfl (by go_simp) (sget_b wr _ (.inl rfl) p e) (fun w1 M2 => ?_)
      refine wpT_valp 25 (v := .tuple #[.agg (cs U8 Ky.zero.l), .int .i64 1]) rfl rfl rfl (by go_simp) ?_
      refine wpT_valp 32 (v := .agg (cs U8 Ky.zero.l)) rfl rfl rfl (by go_simp) ?_
      refine wpT_valp 33 (v := .int .i64 1) rfl rfl rfl (by go_simp) ?_
      try simp only [Act.put, List.setIfInBounds_toArray, List.set_cons_succ, List.set_cons_zero]
      refine wpT_new (z := .agg (cs U8 (zs 32))) 7 M2 (by kernel_rfl) (by decide) rfl rfl rfl rfl (fun b3 w4 M5 => ?_)
      try dsimp only [Value.cells] at M5
      refine wpT_st0 M5 0 (cs U8 Ky.zero.l) inf_key rfl rfl rfl rfl (by go_simp) (by go_simp) (by simp [Ky.len, ENR_size, RSR_size, STR_size, ACS_size]) (by simp [Ky.len, ENR_size, RSR_size, STR_size, ACS_size]) (by simp [go_sem]) rfl (fun w6 M7 => ?_)
      dsimp only [List.set] at M7
      refine wpT_valp 8 (v := .int .i64 1) rfl rfl rfl (by go_simp) ?_
      first | dsimp only [wpT] | refine wpT_fin ?_
      try simp only [Act.put, List.setIfInBounds_toArray, List.set_cons_succ, List.set_cons_zero]
      go_upto_region 7 with fail
      refine wp_region_lin (.op 0 (.op 1 (.op 2 (.op 3 (.op 4 (.op 5 (.op 6 (.op 7 (.op 8 (.op 9 (.op 10 (.op 11 (.op 12 (.op 13 (.op 14 (.op 15 (.op 16 (.op 17 (.op 18 (.op 19 (.op 20 (.op 21 (.op 22 (.op 23 (.op 24 (.op 25 (.op 26 (.op 27 (.op 28 (.op 29 (.op 30 (.op 31 (.op 32 (.op 33 .done)))))))))))))))))))))))))))))))))) (by rfl) ?_
      refine wpT_valp 34 (v := .pointer none) rfl rfl rfl (by go_simp) ?_
      refine wpT_valp 35 (v := .pointer (some ⟨w.heap.size, 1, none⟩)) rfl rfl rfl (by go_simp) ?_
      refine wpT_ldm 36 Try.underlying28 rfl inf_key (w.heap.size) 1 (ACS q p e (.slice ka kn kc)) (cs U8 p.l) rfl rfl rfl (by go_simp) (M7.row (b := w.heap.size) (c := ACS q p e (.slice ka kn kc)) (by simp)) (by simp [Ky.len, ENR_size, RSR_size, STR_size, ACS_size]) (as_p1) rfl ?_
      refine wpT_callv 37 M7 (v := .int .i64 1) rfl rfl rfl (by go_simp) (sput_b w6 _ (.inl rfl) p 0 (.slice none 0 0)) (fun w8 M9 => ?_)
      try simp only [Act.put, List.setIfInBounds_toArray, List.set_cons_succ, List.set_cons_zero]
      refine wpT_valp 38 (v := .bool false) rfl rfl rfl (by go_simp) ?_
      refine wpT_valp 39 (v := .bool false) rfl rfl rfl (by go_simp) ?_
      refine wpT_ld0 40 Try.underlying28 rfl inf_key (b3) (cs U8 Ky.zero.l) rfl rfl rfl (by go_simp) (M9.row (b := b3) (c := cs U8 Ky.zero.l) (by simp)) (by simp [Ky.len, ENR_size, RSR_size, STR_size, ACS_size]) (by simp [Region.wanted, yielded, Act.put]) ?_
      refine wpT_valL 41 (v := .agg (cs U8 Ky.zero.l)) rfl rfl (by simp [Region.wanted, yielded, Act.put]) (by have q := xb_k0z w8; go_simp) ?_
      refine wpT_valp 42 (v := .bool false) rfl rfl (by simp [Region.wanted, yielded, Act.put]) (by have q := eqin_key w8 Ky.zero.l Ky.zero.l (by simp) (by simp); go_simp) ?_
      try simp only [Act.put, List.setIfInBounds_toArray, List.set_cons_succ, List.set_cons_zero]
      refine wpT_valp 43 (v := .bool false) rfl rfl rfl (by go_simp) ?_
      refine wpT_valp 44 (v := .bool false) rfl rfl rfl (by go_simp) ?_
      refine wpT_valp 45 (v := .int .i64 1) rfl rfl (by simp [Region.wanted, yielded, Act.put]) (by go_simp) ?_
      refine wpT_valp 46 (v := .bool false) rfl rfl (by simp [Region.wanted, yielded, Act.put]) (by go_simp) ?_
      refine wpT_valp 47 (v := .bool false) rfl rfl rfl (by go_simp) ?_
      try simp only [Act.put, List.setIfInBounds_toArray, List.set_cons_succ, List.set_cons_zero]
      refine wpT_valp 48 (v := .bool false) rfl rfl rfl (by go_simp) ?_
      refine wpT_valp 49 (v := .pointer none) rfl rfl (by simp [Region.wanted, yielded, Act.put]) (by go_simp) ?_
      refine wpT_valp 50 (v := .pointer (some ⟨w.heap.size, 1, none⟩)) rfl rfl (by simp [Region.wanted, yielded, Act.put]) (by go_simp) ?_
      refine wpT_ldm 51 Try.underlying28 rfl inf_key (w.heap.size) 1 (ACS q p e (.slice ka kn kc)) (cs U8 p.l) rfl rfl rfl (by go_simp) (M9.row (b := w.heap.size) (c := ACS q p e (.slice ka kn kc)) (by simp)) (by simp [Ky.len, ENR_size, RSR_size, STR_size, ACS_size]) (as_p1) (by simp [Region.wanted, yielded, Act.put]) ?_
      refine wpT_valp 52 (v := .pointer (some ⟨w.heap.size, 33, none⟩)) rfl rfl (by simp [Region.wanted, yielded, Act.put]) (by go_simp) ?_
      try simp only [Act.put, List.setIfInBounds_toArray, List.set_cons_succ, List.set_cons_zero]
      refine wpT_valp 53 (v := .int .i64 e) rfl rfl (by simp [Region.wanted, yielded, Act.put]) (by have c0 := as_c33 (M9.row (b := w.heap.size) (c := ACS q p e (.slice ka kn kc)) (by simp)); go_simp) ?_
      refine wpT_callv 54 M9 (v := .int .i64 1) rfl rfl (by simp [Region.wanted, yielded, Act.put]) (by go_simp) (sdrop_b w8 _ (.inl rfl) p e) (fun w10 M11 => ?_)
      refine wpT_valp 55 (v := .bool false) rfl rfl (by simp [Region.wanted, yielded, Act.put]) (by go_simp) ?_
      refine wpT_valp 56 (v := .bool false) rfl rfl rfl (by go_simp) ?_
      refine wpT_valp 57 (v := .bool false) rfl rfl rfl (by go_simp) ?_
      try simp only [Act.put, List.setIfInBounds_toArray, List.set_cons_succ, List.set_cons_zero]
      refine wpT_valp 58 (v := .pointer none) rfl rfl (by simp [Region.wanted, yielded, Act.put]) (by go_simp) ?_
      refine wpT_callv 59 M11 (v := .slice none 0 0) rfl rfl (by simp [Region.wanted, yielded, Act.put]) (by go_simp) (sall_b w10 _ (.inl rfl)) (fun w12 M13 => ?_)
      refine wpT_valp 60 (v := .int .i64 0) rfl rfl (by simp [Region.wanted, yielded, Act.put]) (by go_simp) ?_
      refine wpT_valp 61 (v := .bool false) rfl rfl (by simp [Region.wanted, yielded, Act.put]) (by go_simp) ?_
      refine wpT_valp 62 (v := .bool false) rfl rfl rfl (by go_simp) ?_
      try simp only [Act.put, List.setIfInBounds_toArray, List.set_cons_succ, List.set_cons_zero]
      refine wpT_valp 63 (v := .bool false) rfl rfl rfl (by go_simp) ?_
      refine wpT_valp 64 (v := .pointer none) rfl rfl (by simp [Region.wanted, yielded, Act.put]) (by go_simp) ?_
      refine wpT_callv 65 M13 (v := .pointer none) rfl rfl (by simp [Region.wanted, yielded, Act.put]) (by go_simp) (sclo_b w12 _ (.inl rfl)) (fun w14 M15 => ?_)
      refine wpT_valp 66 (v := .bool false) rfl rfl (by simp [Region.wanted, yielded, Act.put]) (by go_simp) ?_
      refine wpT_valp 67 (v := .bool false) rfl rfl rfl (by go_simp) ?_
      first | dsimp only [wpT] | refine wpT_fin ?_
      try simp only [Act.put, List.setIfInBounds_toArray, List.set_cons_succ, List.set_cons_zero]
      go_upto_region 9 with fail
      refine wp_region_lin (.op 0 (.op 1 .done)) (by rfl) ?_
      refine wpT_valp 68 (v := .int .i64 1) rfl rfl rfl (by have h : IntKind.i64.wrap 1 = 1 := i64w (by decide) (by decide); go_simp) ?_
      refine wpT_valp 21 (v := .int .i64 1) rfl rfl rfl (by go_simp) ?_
      first | dsimp only [wpT] | refine wpT_fin ?_
      try simp only [Act.put, List.setIfInBounds_toArray, List.set_cons_succ, List.set_cons_zero]
      go_wp2_with fail
      go_roundw
      case rel => exact .inr (.inl ⟨rfl, M15.sub (.cons _ (.cons_cons _ (.cons_cons _ (.cons_cons _ .slnil))))⟩)
      case measure => simp only [intOf]; omega
    ·
      go_upto_region 4 with fail
      refine wp_region_lin (.op 0 .done) (by rfl) ?_
      refine wpT_valp 22 (v := .bool true) rfl rfl rfl (by go_simp) ?_
      first | dsimp only [wpT] | refine wpT_fin ?_
      try simp only [Act.put, List.setIfInBounds_toArray, List.set_cons_succ, List.set_cons_zero]
      go_upto_region 5 with fail
      refine wp_region_lin (.op 0 (.op 1 (.op 2 .done))) (by rfl) ?_
      refine wpT_valp 23 (v := .pointer (some ⟨pb, 1, none⟩)) rfl rfl rfl (by go_simp) ?_
      refine wpT_valp 24 (v := .pointer (some ⟨zb, 0, none⟩)) rfl rfl rfl (by have c0 := spcell1 (M.row (b := pb) (c := #[.pointer none, .pointer (some ⟨zb, 0, none⟩)]) (by simp)); go_simp) ?_
      refine wpT_valp 6 (v := .pointer (some ⟨zb, 0, none⟩)) rfl rfl rfl (by go_simp) ?_
      first | dsimp only [wpT] | refine wpT_fin ?_
      try simp only [Act.put, List.setIfInBounds_toArray, List.set_cons_succ, List.set_cons_zero]
      go_upto_region 6 with fail
      refine wp_region_lin (.op 0 (.op 1 (.op 2 (.op 3 (.op 4 (.op 5 (.op 6 (.op 7 (.op 8 (.op 9 (.op 10 (.op 11 .done)))))))))))) (by rfl) ?_
      refine wpT_valp 26 (v := .pointer (some ⟨zb, 0, none⟩)) rfl rfl rfl (by go_simp) ?_
      refine wpT_valp 27 (v := .pointer (some ⟨w.heap.size, 1, none⟩)) rfl rfl rfl (by go_simp) ?_
      refine wpT_ldm 28 Try.underlying28 rfl inf_key (w.heap.size) 1 (ACS q p e (.slice ka kn kc)) (cs U8 p.l) rfl rfl rfl (by go_simp) (M.row (b := w.heap.size) (c := ACS q p e (.slice ka kn kc)) (by simp)) (by simp [Ky.len, ENR_size, RSR_size, STR_size, ACS_size]) (as_p1) rfl ?_
      refine wpT_valp 29 (v := .pointer (some ⟨w.heap.size, 33, none⟩)) rfl rfl rfl (by go_simp) ?_
      try simp only [Act.put, List.setIfInBounds_toArray, List.set_cons_succ, List.set_cons_zero]
      refine wpT_valp 30 (v := .int .i64 e) rfl rfl rfl (by have c0 := as_c33 (M.row (b := w.heap.size) (c := ACS q p e (.slice ka kn kc)) (by simp)); go_simp) ?_
      refine wpT_callv 31 M (v := .tuple #[.agg (cs U8 Ky.zero.l), .int .i64 1]) rfl rfl rfl (by go_simp) (sget_b wr _ (.inr ⟨zb, rfl, M.row (b := zb) (c := STR 0 (.slice none 0 0)) (by simp), M.lt (b := zb) (c := STR 0 (.slice none 0 0)) (by simp)⟩) p e) (fun w1 M2 => ?_)
      refine wpT_valp 25 (v := .tuple #[.agg (cs U8 Ky.zero.l), .int .i64 1]) rfl rfl rfl (by go_simp) ?_
      refine wpT_valp 32 (v := .agg (cs U8 Ky.zero.l)) rfl rfl rfl (by go_simp) ?_
      refine wpT_valp 33 (v := .int .i64 1) rfl rfl rfl (by go_simp) ?_
      try simp only [Act.put, List.setIfInBounds_toArray, List.set_cons_succ, List.set_cons_zero]
      refine wpT_new (z := .agg (cs U8 (zs 32))) 7 M2 (by kernel_rfl) (by decide) rfl rfl rfl rfl (fun b3 w4 M5 => ?_)
      try dsimp only [Value.cells] at M5
      refine wpT_st0 M5 0 (cs U8 Ky.zero.l) inf_key rfl rfl rfl rfl (by go_simp) (by go_simp) (by simp [Ky.len, ENR_size, RSR_size, STR_size, ACS_size]) (by simp [Ky.len, ENR_size, RSR_size, STR_size, ACS_size]) (by simp [go_sem]) rfl (fun w6 M7 => ?_)
      dsimp only [List.set] at M7
      refine wpT_valp 8 (v := .int .i64 1) rfl rfl rfl (by go_simp) ?_
      first | dsimp only [wpT] | refine wpT_fin ?_
      try simp only [Act.put, List.setIfInBounds_toArray, List.set_cons_succ, List.set_cons_zero]
      go_upto_region 7 with fail
      refine wp_region_lin (.op 0 (.op 1 (.op 2 (.op 3 (.op 4 (.op 5 (.op 6 (.op 7 (.op 8 (.op 9 (.op 10 (.op 11 (.op 12 (.op 13 (.op 14 (.op 15 (.op 16 (.op 17 (.op 18 (.op 19 (.op 20 (.op 21 (.op 22 (.op 23 (.op 24 (.op 25 (.op 26 (.op 27 (.op 28 (.op 29 (.op 30 (.op 31 (.op 32 (.op 33 .done)))))))))))))))))))))))))))))))))) (by rfl) ?_
      refine wpT_valp 34 (v := .pointer (some ⟨zb, 0, none⟩)) rfl rfl rfl (by go_simp) ?_
      refine wpT_valp 35 (v := .pointer (some ⟨w.heap.size, 1, none⟩)) rfl rfl rfl (by go_simp) ?_
      refine wpT_ldm 36 Try.underlying28 rfl inf_key (w.heap.size) 1 (ACS q p e (.slice ka kn kc)) (cs U8 p.l) rfl rfl rfl (by go_simp) (M7.row (b := w.heap.size) (c := ACS q p e (.slice ka kn kc)) (by simp)) (by simp [Ky.len, ENR_size, RSR_size, STR_size, ACS_size]) (as_p1) rfl ?_
      refine wpT_callv 37 M7 (v := .int .i64 1) rfl rfl rfl (by go_simp) (sput_b w6 _ (.inr ⟨zb, rfl, M7.row (b := zb) (c := STR 0 (.slice none 0 0)) (by simp), M7.lt (b := zb) (c := STR 0 (.slice none 0 0)) (by simp)⟩) p 0 (.slice none 0 0)) (fun w8 M9 => ?_)
      try simp only [Act.put, List.setIfInBounds_toArray, List.set_cons_succ, List.set_cons_zero]
      refine wpT_valp 38 (v := .bool false) rfl rfl rfl (by go_simp) ?_
      refine wpT_valp 39 (v := .bool false) rfl rfl rfl (by go_simp) ?_
      refine wpT_ld0 40 Try.underlying28 rfl inf_key (b3) (cs U8 Ky.zero.l) rfl rfl rfl (by go_simp) (M9.row (b := b3) (c := cs U8 Ky.zero.l) (by simp)) (by simp [Ky.len, ENR_size, RSR_size, STR_size, ACS_size]) (by simp [Region.wanted, yielded, Act.put]) ?_
      refine wpT_valL 41 (v := .agg (cs U8 Ky.zero.l)) rfl rfl (by simp [Region.wanted, yielded, Act.put]) (by have q := xb_k0z w8; go_simp) ?_
      refine wpT_valp 42 (v := .bool false) rfl rfl (by simp [Region.wanted, yielded, Act.put]) (by have q := eqin_key w8 Ky.zero.l Ky.zero.l (by simp) (by simp); go_simp) ?_
      try simp only [Act.put, List.setIfInBounds_toArray, List.set_cons_succ, List.set_cons_zero]
      refine wpT_valp 43 (v := .bool false) rfl rfl rfl (by go_simp) ?_
      refine wpT_valp 44 (v := .bool false) rfl rfl rfl (by go_simp) ?_
      refine wpT_valp 45 (v := .int .i64 1) rfl rfl (by simp [Region.wanted, yielded, Act.put]) (by go_simp) ?_
      refine wpT_valp 46 (v := .bool false) rfl rfl (by simp [Region.wanted, yielded, Act.put]) (by go_simp) ?_
      refine wpT_valp 47 (v := .bool false) rfl rfl rfl (by go_simp) ?_
      try simp only [Act.put, List.setIfInBounds_toArray, List.set_cons_succ, List.set_cons_zero]
      refine wpT_valp 48 (v := .bool false) rfl rfl rfl (by go_simp) ?_
      refine wpT_valp 49 (v := .pointer (some ⟨zb, 0, none⟩)) rfl rfl (by simp [Region.wanted, yielded, Act.put]) (by go_simp) ?_
      refine wpT_valp 50 (v := .pointer (some ⟨w.heap.size, 1, none⟩)) rfl rfl (by simp [Region.wanted, yielded, Act.put]) (by go_simp) ?_
      refine wpT_ldm 51 Try.underlying28 rfl inf_key (w.heap.size) 1 (ACS q p e (.slice ka kn kc)) (cs U8 p.l) rfl rfl rfl (by go_simp) (M9.row (b := w.heap.size) (c := ACS q p e (.slice ka kn kc)) (by simp)) (by simp [Ky.len, ENR_size, RSR_size, STR_size, ACS_size]) (as_p1) (by simp [Region.wanted, yielded, Act.put]) ?_
      refine wpT_valp 52 (v := .pointer (some ⟨w.heap.size, 33, none⟩)) rfl rfl (by simp [Region.wanted, yielded, Act.put]) (by go_simp) ?_
      try simp only [Act.put, List.setIfInBounds_toArray, List.set_cons_succ, List.set_cons_zero]
      refine wpT_valp 53 (v := .int .i64 e) rfl rfl (by simp [Region.wanted, yielded, Act.put]) (by have c0 := as_c33 (M9.row (b := w.heap.size) (c := ACS q p e (.slice ka kn kc)) (by simp)); go_simp) ?_
      refine wpT_callv 54 M9 (v := .int .i64 1) rfl rfl (by simp [Region.wanted, yielded, Act.put]) (by go_simp) (sdrop_b w8 _ (.inr ⟨zb, rfl, M9.row (b := zb) (c := STR 0 (.slice none 0 0)) (by simp), M9.lt (b := zb) (c := STR 0 (.slice none 0 0)) (by simp)⟩) p e) (fun w10 M11 => ?_)
      refine wpT_valp 55 (v := .bool false) rfl rfl (by simp [Region.wanted, yielded, Act.put]) (by go_simp) ?_
      refine wpT_valp 56 (v := .bool false) rfl rfl rfl (by go_simp) ?_
      refine wpT_valp 57 (v := .bool false) rfl rfl rfl (by go_simp) ?_
      try simp only [Act.put, List.setIfInBounds_toArray, List.set_cons_succ, List.set_cons_zero]
      refine wpT_valp 58 (v := .pointer (some ⟨zb, 0, none⟩)) rfl rfl (by simp [Region.wanted, yielded, Act.put]) (by go_simp) ?_
      refine wpT_callv 59 M11 (v := .slice none 0 0) rfl rfl (by simp [Region.wanted, yielded, Act.put]) (by go_simp) (sall_b w10 _ (.inr ⟨zb, rfl, M11.row (b := zb) (c := STR 0 (.slice none 0 0)) (by simp), M11.lt (b := zb) (c := STR 0 (.slice none 0 0)) (by simp)⟩)) (fun w12 M13 => ?_)
      refine wpT_valp 60 (v := .int .i64 0) rfl rfl (by simp [Region.wanted, yielded, Act.put]) (by go_simp) ?_
      refine wpT_valp 61 (v := .bool false) rfl rfl (by simp [Region.wanted, yielded, Act.put]) (by go_simp) ?_
      refine wpT_valp 62 (v := .bool false) rfl rfl rfl (by go_simp) ?_
      try simp only [Act.put, List.setIfInBounds_toArray, List.set_cons_succ, List.set_cons_zero]
      refine wpT_valp 63 (v := .bool false) rfl rfl rfl (by go_simp) ?_
      refine wpT_valp 64 (v := .pointer (some ⟨zb, 0, none⟩)) rfl rfl (by simp [Region.wanted, yielded, Act.put]) (by go_simp) ?_
      refine wpT_callv 65 M13 (v := .pointer none) rfl rfl (by simp [Region.wanted, yielded, Act.put]) (by go_simp) (sclo_b w12 _ (.inr ⟨zb, rfl, M13.row (b := zb) (c := STR 0 (.slice none 0 0)) (by simp), M13.lt (b := zb) (c := STR 0 (.slice none 0 0)) (by simp)⟩)) (fun w14 M15 => ?_)
      refine wpT_valp 66 (v := .bool false) rfl rfl (by simp [Region.wanted, yielded, Act.put]) (by go_simp) ?_
      refine wpT_valp 67 (v := .bool false) rfl rfl rfl (by go_simp) ?_
      first | dsimp only [wpT] | refine wpT_fin ?_
      try simp only [Act.put, List.setIfInBounds_toArray, List.set_cons_succ, List.set_cons_zero]
      go_upto_region 9 with fail
      refine wp_region_lin (.op 0 (.op 1 .done)) (by rfl) ?_
      refine wpT_valp 68 (v := .int .i64 2) rfl rfl rfl (by have h : IntKind.i64.wrap 2 = 2 := i64w (by decide) (by decide); go_simp) ?_
      refine wpT_valp 21 (v := .int .i64 2) rfl rfl rfl (by go_simp) ?_
      first | dsimp only [wpT] | refine wpT_fin ?_
      try simp only [Act.put, List.setIfInBounds_toArray, List.set_cons_succ, List.set_cons_zero]
      go_wp2_with fail
      go_roundw
      case rel => exact .inr (.inr ⟨rfl, M15.sub (.cons _ (.cons_cons _ (.cons_cons _ (.cons_cons _ .slnil))))⟩)
      case measure => simp only [intOf]; omega
    ·
      go_upto_region 4 with fail
      refine wp_region_lin (.op 0 .done) (by rfl) ?_
      refine wpT_valp 22 (v := .bool false) rfl rfl rfl (by go_simp) ?_
      first | dsimp only [wpT] | refine wpT_fin ?_
      try simp only [Act.put, List.setIfInBounds_toArray, List.set_cons_succ, List.set_cons_zero]
      go_upto_region 10 with fail
      refine wp_region_lin (.op 0 (.op 1 .done)) (by rfl) ?_
      refine wpT_objS (U := Nat) (fun b => .pointer (some ⟨b, 0, none⟩)) (fun b => SF b (.slice none 0 0)) (fun b w => SO w B b 1000 [] (.slice none 0 0)) (some 69) M rfl rfl rfl (by go_simp) (snew_e _ _ 1000 (by rw [HB.out]; exact M.size) (by decide) (by decide)) (fun b => SO.stb _ _ _ _ _) (fun b wn Sn Mn Kn Fn => ?_)
      refine wpT_valp 9 (v := .pointer (some ⟨b, 0, none⟩)) rfl rfl rfl (by go_simp) ?_
      first | dsimp only [wpT] | refine wpT_fin ?_
      try simp only [Act.put, List.setIfInBounds_toArray, List.set_cons_succ, List.set_cons_zero]
      go_upto_region 11 with fail
      by_cases hbig : 100 < kn
      · have hbz : (100 : Int) < (kn : Int) := by omega
        clear hbig
        refine wp_region_lin (.op 0 (.op 1 (.op 2 (.op 3 (.op 4 (.op 5 (.op 6 (.op 7 .done)))))))) (by rfl) ?_
        refine wpT_valp 70 (v := .pointer (some ⟨b, 0, none⟩)) rfl rfl rfl (by go_simp) ?_
        refine wpT_valp 71 (v := .bool false) rfl rfl rfl (by go_simp) ?_
        refine wpT_valp 72 (v := .bool false) rfl rfl rfl (by go_simp) ?_
        refine wpT_valp 73 (v := .pointer (some ⟨w.heap.size, 34, none⟩)) rfl rfl (by simp [Region.wanted, yielded, Act.put]) (by go_simp) ?_
        try simp only [Act.put, List.setIfInBounds_toArray, List.set_cons_succ, List.set_cons_zero]
        refine wpT_valp 74 (v := .slice ka kn kc) rfl rfl (by simp [Region.wanted, yielded, Act.put]) (by have c0 := as_c34 (Mn.row (b := w.heap.size) (c := ACS q p e (.slice ka kn kc)) (by simp)); go_simp) ?_
        refine wpT_valp 75 (v := .int .i64 kn) rfl rfl (by simp [Region.wanted, yielded, Act.put]) (by go_simp) ?_
        refine wpT_valp 76 (v := .bool true) rfl rfl (by simp [Region.wanted, yielded, Act.put]) (by go_simp) ?_
        refine wpT_valp 77 (v := .bool true) rfl rfl rfl (by go_simp) ?_
        first | dsimp only [wpT] | refine wpT_fin ?_
        try simp only [Act.put, List.setIfInBounds_toArray, List.set_cons_succ, List.set_cons_zero]
        go_upto_region 12 with fail
        refine wp_region_lin (.op 0 (.op 1 (.op 2 .done))) (by rfl) ?_
        refine wpT_valp 78 (v := .pointer (some ⟨b, 0, none⟩)) rfl rfl rfl (by go_simp) ?_
        refine wpT_valp 79 (v := .bool true) rfl rfl rfl (by go_simp) ?_
        refine wpT_valp 4 (v := .bool true) rfl rfl rfl (by go_simp) ?_
        first | dsimp only [wpT] | refine wpT_fin ?_
        try simp only [Act.put, List.setIfInBounds_toArray, List.set_cons_succ, List.set_cons_zero]
        go_wp2_with fail
        go_ret
        exact ⟨rfl, (Kn _ _ Mn).2.1.end_⟩
      have hbz : ¬ (100 : Int) < (kn : Int) := by omega
      clear hbig
      refine wp_region_lin (.op 0 (.op 1 (.op 2 (.op 3 (.op 4 (.op 5 (.op 6 (.op 7 .done)))))))) (by rfl) ?_
      refine wpT_valp 70 (v := .pointer (some ⟨b, 0, none⟩)) rfl rfl rfl (by go_simp) ?_
      refine wpT_valp 71 (v := .bool false) rfl rfl rfl (by go_simp) ?_
      refine wpT_valp 72 (v := .bool false) rfl rfl rfl (by go_simp) ?_
      refine wpT_valp 73 (v := .pointer (some ⟨w.heap.size, 34, none⟩)) rfl rfl (by simp [Region.wanted, yielded, Act.put]) (by go_simp) ?_
      try simp only [Act.put, List.setIfInBounds_toArray, List.set_cons_succ, List.set_cons_zero]
      refine wpT_valp 74 (v := .slice ka kn kc) rfl rfl (by simp [Region.wanted, yielded, Act.put]) (by have c0 := as_c34 (Mn.row (b := w.heap.size) (c := ACS q p e (.slice ka kn kc)) (by simp)); go_simp) ?_
      refine wpT_valp 75 (v := .int .i64 kn) rfl rfl (by simp [Region.wanted, yielded, Act.put]) (by go_simp) ?_
      refine wpT_valp 76 (v := .bool false) rfl rfl (by simp [Region.wanted, yielded, Act.put]) (by go_simp) ?_
      refine wpT_valp 77 (v := .bool false) rfl rfl rfl (by go_simp) ?_
      first | dsimp only [wpT] | refine wpT_fin ?_
      try simp only [Act.put, List.setIfInBounds_toArray, List.set_cons_succ, List.set_cons_zero]
      go_upto_region 13 with fail
      refine wp_region_lin (.op 0 .done) (by rfl) ?_
      refine wpT_valp 10 (v := .int .i64 0) rfl rfl rfl (by go_simp) ?_
      first | dsimp only [wpT] | refine wpT_fin ?_
      try simp only [Act.put, List.setIfInBounds_toArray, List.set_cons_succ, List.set_cons_zero]
      go_wp2_with fail
      go_loopw [10] (fun x wr => ∃ (i : Nat) (L : List Sk.En) (v : Value), i ≤ n ∧ x = .int .i64 i ∧ Mm no w [(w.heap.size, ACS q p e (.slice ka kn kc))] wr ∧ SO wr B b 1000 L v ∧ ¬ SF b v w.heap.size ∧ L.length ≤ 1000) (fun x _ => n - (intOf x).toNat)
      case atStart =>
        obtain ⟨hX, hM, hd⟩ := Kn _ _ Mn
        exact ⟨0, [], _, by omega, rfl, hM.sub (.cons _ (.cons _ (.cons_cons _ .slnil))), hX, hd (w.heap.size, ACS q p e (.slice ka kn kc)) (by simp), by simp⟩
      case round =>
        clear Mn Kn Fn
        obtain ⟨i, L, v, hi, rfl, MO, X, hdm, hL9⟩ := hrel
        have HLE := hid hL9
        have F0 : ∀ g, SF b v g → no g ∨ w.heap.size ≤ g := fun g hg => .inr (by rw [← HB.out]; exact (X.lt g hg).1)
        obtain ⟨S0, M, K0⟩ := MO.keep (SO.stb _ _ _ _ _) X (fun q hq => by
          simp only [List.mem_cons, List.not_mem_nil, or_false] at hq
          subst hq; exact hdm)
        obtain ⟨m, hm⟩ : ∃ n, L.length = n := ⟨_, rfl⟩
        have HLM := hid hm
        have hm9 : m ≤ 1000 := by omega
        clear MO X hdm hm
        by_cases hin : i < n
        · have hlt : (i : Int) < (n : Int) := by omega
          have hi00 : (0 : Int) ≤ (i : Int) := by omega
          by_cases h60 : i < 60
          · have hlt60 : (i : Int) < 60 := by omega
            obtain ⟨x, hx⟩ : ∃ x, A[i]? = some x := ⟨_, List.getElem?_eq_getElem (by have := HN.out; omega)⟩
            have okx := HOK.out x (List.mem_of_getElem? hx)
            obtain ⟨gu, uo, uc', e'⟩ := sv_some eC_len (by decide) HA.out (by have := HN.out; omega)
            injection e' with e1 e2 e3
            subst e1
            clear e2 e3
            obtain ⟨xq, xp, xe, xv, xks⟩ := x
            obtain ⟨_, _, _, _, hxs0⟩ := okx
            have hxs : SV w xv xks.length (fl eK xks) := hxs0
            clear hxs0
            have HKX := hid hxs
            obtain ⟨xa, xc, rfl, _, hxm, _⟩ := hxs
            obtain ⟨xn, hxn⟩ : ∃ n, xks.length = n := ⟨_, rfl⟩
            have HXL := hid hxn
            have HC1 : Hid (∀ w', Below w.heap.size w w' → exLoad Try.prog 28 (.pointer (some ⟨gu, uo + i * 35 + 1, none⟩)) w' = .ok (.value (.agg (cs U8 xp.l))) w') := hid fun w' h => (ac_c (SV.below HA.out h) hx).1
            have HC33 : Hid (∀ w', Below w.heap.size w w' → w'.cell? ⟨gu, uo + i * 35 + 33, none⟩ = some (.int .i64 xe)) := hid fun w' h => (ac_c (SV.below HA.out h) hx).2.1
            have HC34 : Hid (∀ w', Below w.heap.size w w' → w'.cell? ⟨gu, uo + i * 35 + 34, none⟩ = some (.slice xa xks.length xc)) := hid fun w' h => (ac_c (SV.below HA.out h) hx).2.2
            rw [hxn] at HC34
            obtain ⟨i1, hi1⟩ : ∃ j, j = i + 1 := ⟨_, rfl⟩
            have HI1 := hid (show IntKind.i64.wrap ((i : Int) + 1) = (i1 : Int) by rw [i64w (by omega) (by omega), hi1]; rfl)
            have HII := hid hi1
            have hxncl : xn ≤ 9223372036854775807 := by unfold maxLen at hxm; omega
            rw [hxn] at HKX
            clear hx hi1 hxn hxm
            by_cases hxb : xn ≤ 100
            · have hxz : (xn : Int) ≤ 100 := by omega
              obtain ⟨⟨L2, q2⟩, hres⟩ : ∃ z, Sk.put (1000 : Int).toNat L xp xe xks = z := ⟨_, rfl⟩
              have HRES := hid hres
              have hle2 := Sk.put_le hres (by omega)
              have HLE2 := hid (show L2.length ≤ 1000 from hle2)
              clear hres hle2 hxb
              go_upto_region 14 with fail
              refine wp_region_lin (.op 0 (.op 1 (.op 2 (.op 3 (.op 4 (.op 5 (.op 6 (.op 7 .done)))))))) (by rfl) ?_
              refine wpT_valp 80 (v := .int .i64 i) rfl rfl rfl (by go_simp) ?_
              refine wpT_valp 81 (v := .slice (some ⟨gu, uo, none⟩) n uc) rfl rfl rfl (by go_simp) ?_
              refine wpT_valp 82 (v := .int .i64 n) rfl rfl rfl (by go_simp) ?_
              refine wpT_valp 83 (v := .bool true) rfl rfl rfl (by go_simp) ?_
              try simp only [Act.put, List.setIfInBounds_toArray, List.set_cons_succ, List.set_cons_zero]
              refine wpT_valp 84 (v := .bool true) rfl rfl rfl (by go_simp) ?_
              refine wpT_valp 85 (v := .int .i64 i) rfl rfl (by simp [Region.wanted, yielded, Act.put]) (by go_simp) ?_
              refine wpT_valp 86 (v := .bool true) rfl rfl (by simp [Region.wanted, yielded, Act.put]) (by go_simp) ?_
              refine wpT_valp 87 (v := .bool true) rfl rfl rfl (by go_simp) ?_
              first | dsimp only [wpT] | refine wpT_fin ?_
              try simp only [Act.put, List.setIfInBounds_toArray, List.set_cons_succ, List.set_cons_zero]
              go_upto_region 16 with fail
              refine wp_region_lin (.op 0 (.op 1 (.op 2 (.op 3 (.op 4 (.op 5 (.op 6 .done))))))) (by rfl) ?_
              refine wpT_valp 90 (v := .slice (some ⟨gu, uo, none⟩) n uc) rfl rfl rfl (by go_simp) ?_
              refine wpT_valp 91 (v := .int .i64 i) rfl rfl rfl (by go_simp) ?_
              refine wpT_valp 92 (v := .pointer (some ⟨gu, uo + i * 35, none⟩)) rfl rfl rfl (by go_simp) ?_
              refine wpT_valp 93 (v := .pointer (some ⟨gu, uo + i * 35 + 34, none⟩)) rfl rfl rfl (by go_simp) ?_
              try simp only [Act.put, List.setIfInBounds_toArray, List.set_cons_succ, List.set_cons_zero]
              refine wpT_valp 94 (v := .slice xa xn xc) rfl rfl rfl (by have c0 := HC34.out _ (K0 _ _ M).2.1.end_; go_simp) ?_
              refine wpT_valp 95 (v := .int .i64 xn) rfl rfl rfl (by go_simp) ?_
              refine wpT_valp 96 (v := .bool true) rfl rfl rfl (by go_simp) ?_
              first | dsimp only [wpT] | refine wpT_fin ?_
              try simp only [Act.put, List.setIfInBounds_toArray, List.set_cons_succ, List.set_cons_zero]
              go_upto_region 17 with fail
              refine wp_region_X (fun v => exLoad Try.prog 28 (.pointer (some ⟨gu, uo + i * 35 + 1, none⟩)) v = .ok (.value (.agg (cs U8 xp.l))) v ∧ v.cell? ⟨gu, uo + i * 35 + 33, none⟩ = some (.int .i64 xe) ∧ v.cell? ⟨gu, uo + i * 35 + 34, none⟩ = some (.slice xa xn xc)) (.yld [0, 1, 2, 3, 4, 5, 6, 7, 8, 9, 10, 11, 12, 13, 14, 15] (.op 16 .done)) (by kernel_rfl) (by kernel_rfl) (by kernel_rfl) (fun d _ _ _ _ h => by cases d <;> exact h) ?_
              have M1 := M.drewN 1
              change wpX _ _ _ _ _ _ (wr.drewN 1)
              obtain ⟨w2, hw2⟩ : ∃ w2, w2 = wr.drewN 1 := ⟨_, rfl⟩
              rw [← hw2] at M1 ⊢
              clear hw2
              refine wpX_yld ?_
              refine wpYJd_op 97 (.pointer (some ⟨b, 0, none⟩)) rfl rfl rfl (fun w1 h => by go_simp) ?_
              refine wpYJd_op 98 (.slice (some ⟨gu, uo, none⟩) n uc) rfl rfl rfl (fun w1 h => by go_simp) ?_
              refine wpYJd_op 99 (.int .i64 i) rfl rfl rfl (fun w1 h => by go_simp) ?_
              refine wpYJd_op 100 (.pointer (some ⟨gu, uo + i * 35, none⟩)) rfl rfl rfl (fun w1 h => by go_simp) ?_
              refine wpYJd_op 101 (.pointer (some ⟨gu, uo + i * 35 + 1, none⟩)) rfl rfl rfl (fun w1 h => by go_simp) ?_
              try simp only [Act.put, List.setIfInBounds_toArray, List.set_cons_succ, List.set_cons_zero]
              refine wpYJd_ldy 102 (.pointer (some ⟨gu, uo + i * 35 + 1, none⟩)) (.agg (cs U8 xp.l)) rfl rfl rfl (by go_simp) (fun w1 h => h.1) rfl ?_
              refine wpYJd_op 103 (.slice (some ⟨gu, uo, none⟩) n uc) rfl rfl rfl (fun w1 h => by go_simp) ?_
              refine wpYJd_op 104 (.int .i64 i) rfl rfl rfl (fun w1 h => by go_simp) ?_
              refine wpYJd_op 105 (.pointer (some ⟨gu, uo + i * 35, none⟩)) rfl rfl rfl (fun w1 h => by go_simp) ?_
              refine wpYJd_op 106 (.pointer (some ⟨gu, uo + i * 35 + 33, none⟩)) rfl rfl rfl (fun w1 h => by go_simp) ?_
              refine wpYJd_op 107 (.int .i64 xe) rfl rfl rfl (fun w1 h => by have c0 := h.2.1; go_simp) ?_
              try simp only [Act.put, List.setIfInBounds_toArray, List.set_cons_succ, List.set_cons_zero]
              refine wpYJd_op 108 (.slice (some ⟨gu, uo, none⟩) n uc) rfl rfl rfl (fun w1 h => by go_simp) ?_
              refine wpYJd_op 109 (.int .i64 i) rfl rfl rfl (fun w1 h => by go_simp) ?_
              refine wpYJd_op 110 (.pointer (some ⟨gu, uo + i * 35, none⟩)) rfl rfl rfl (fun w1 h => by go_simp) ?_
              refine wpYJd_op 111 (.pointer (some ⟨gu, uo + i * 35 + 34, none⟩)) rfl rfl rfl (fun w1 h => by go_simp) ?_
              refine wpYJd_op 112 (.slice xa xn xc) rfl rfl rfl (fun w1 h => by have c0 := h.2.2; go_simp) ?_
              show wpX _ _ _ _ _ _ _
              try simp only [Act.put, List.setIfInBounds_toArray, List.set_cons_succ, List.set_cons_zero]
              refine wpX_of (⟨(HC1.out _ (by first | exact (K0 _ _ M1).2.1.end_ | exact (K1 _ _ M1).2.1.end_)), (HC33.out _ (by first | exact (K0 _ _ M1).2.1.end_ | exact (K1 _ _ M1).2.1.end_)), (HC34.out _ (by first | exact (K0 _ _ M1).2.1.end_ | exact (K1 _ _ M1).2.1.end_))⟩) ?_
              refine wpT_obj (U := Value) (fun v2 => .int .i64 q2) (fun v2 => SF b v2) (fun v2 => fun w => SO w B b 1000 L2 v2) (some 113) M1 K0 F0 rfl rfl rfl (by go_simp) (fun hX => sput_e (u := .slice xa xn xc) w2 hX (by decide) xp xe (by rw [HXL.out]; exact SV.below HKX.out (K0 _ _ M1).2.1.end_) (by omega) HRES.out) (fun v2 => SO.stb _ _ _ _ _) (fun v2 w1 Sw1 Mw1 K1 F1 => ?_)
              refine wpX_to ?_
              try simp only [Act.put, List.setIfInBounds_toArray, List.set_cons_succ, List.set_cons_zero]
              refine ⟨(⟨(HC1.out _ (by first | exact (K0 _ _ Mw1).2.1.end_ | exact (K1 _ _ Mw1).2.1.end_)), (HC33.out _ (by first | exact (K0 _ _ Mw1).2.1.end_ | exact (K1 _ _ Mw1).2.1.end_)), (HC34.out _ (by first | exact (K0 _ _ Mw1).2.1.end_ | exact (K1 _ _ Mw1).2.1.end_))⟩), ?_⟩
              try simp only [Act.put, List.setIfInBounds_toArray, List.set_cons_succ, List.set_cons_zero]
              go_upto_region 15 with fail
              refine wp_region_lin (.op 0 (.op 1 (.op 2 .done))) (by rfl) ?_
              refine wpT_valp 88 (v := .int .i64 i) rfl rfl rfl (by go_simp) ?_
              refine wpT_valp 89 (v := .int .i64 i1) rfl rfl rfl (by have h := HI1.out; go_simp) ?_
              refine wpT_valp 10 (v := .int .i64 i1) rfl rfl rfl (by go_simp) ?_
              first | dsimp only [wpT] | refine wpT_fin ?_
              try simp only [Act.put, List.setIfInBounds_toArray, List.set_cons_succ, List.set_cons_zero]
              go_wp2_with fail
              go_roundw
              case rel =>
                obtain ⟨hX, hM, hd⟩ := K1 _ _ Mw1
                exact ⟨i1, L2, v2, by have := HII.out; omega, rfl, hM.sub (.cons_cons _ .slnil), hX, hd (w.heap.size, ACS q p e (.slice ka kn kc)) (by simp), HLE2.out⟩
              case measure => have := HII.out; simp only [intOf]; omega
            · have hxz : ¬ (xn : Int) ≤ 100 := by omega
              clear hxb
              go_upto_region 14 with fail
              refine wp_region_lin (.op 0 (.op 1 (.op 2 (.op 3 (.op 4 (.op 5 (.op 6 (.op 7 .done)))))))) (by rfl) ?_
              refine wpT_valp 80 (v := .int .i64 i) rfl rfl rfl (by go_simp) ?_
              refine wpT_valp 81 (v := .slice (some ⟨gu, uo, none⟩) n uc) rfl rfl rfl (by go_simp) ?_
              refine wpT_valp 82 (v := .int .i64 n) rfl rfl rfl (by go_simp) ?_
              refine wpT_valp 83 (v := .bool true) rfl rfl rfl (by go_simp) ?_
              try simp only [Act.put, List.setIfInBounds_toArray, List.set_cons_succ, List.set_cons_zero]
              refine wpT_valp 84 (v := .bool true) rfl rfl rfl (by go_simp) ?_
              refine wpT_valp 85 (v := .int .i64 i) rfl rfl (by simp [Region.wanted, yielded, Act.put]) (by go_simp) ?_
              refine wpT_valp 86 (v := .bool true) rfl rfl (by simp [Region.wanted, yielded, Act.put]) (by go_simp) ?_
              refine wpT_valp 87 (v := .bool true) rfl rfl rfl (by go_simp) ?_
              first | dsimp only [wpT] | refine wpT_fin ?_
              try simp only [Act.put, List.setIfInBounds_toArray, List.set_cons_succ, List.set_cons_zero]
              go_upto_region 16 with fail
              refine wp_region_lin (.op 0 (.op 1 (.op 2 (.op 3 (.op 4 (.op 5 (.op 6 .done))))))) (by rfl) ?_
              refine wpT_valp 90 (v := .slice (some ⟨gu, uo, none⟩) n uc) rfl rfl rfl (by go_simp) ?_
              refine wpT_valp 91 (v := .int .i64 i) rfl rfl rfl (by go_simp) ?_
              refine wpT_valp 92 (v := .pointer (some ⟨gu, uo + i * 35, none⟩)) rfl rfl rfl (by go_simp) ?_
              refine wpT_valp 93 (v := .pointer (some ⟨gu, uo + i * 35 + 34, none⟩)) rfl rfl rfl (by go_simp) ?_
              try simp only [Act.put, List.setIfInBounds_toArray, List.set_cons_succ, List.set_cons_zero]
              refine wpT_valp 94 (v := .slice xa xn xc) rfl rfl rfl (by have c0 := HC34.out _ (K0 _ _ M).2.1.end_; go_simp) ?_
              refine wpT_valp 95 (v := .int .i64 xn) rfl rfl rfl (by go_simp) ?_
              refine wpT_valp 96 (v := .bool false) rfl rfl rfl (by go_simp) ?_
              first | dsimp only [wpT] | refine wpT_fin ?_
              try simp only [Act.put, List.setIfInBounds_toArray, List.set_cons_succ, List.set_cons_zero]
              go_upto_region 15 with fail
              refine wp_region_lin (.op 0 (.op 1 (.op 2 .done))) (by rfl) ?_
              refine wpT_valp 88 (v := .int .i64 i) rfl rfl rfl (by go_simp) ?_
              refine wpT_valp 89 (v := .int .i64 i1) rfl rfl rfl (by have h := HI1.out; go_simp) ?_
              refine wpT_valp 10 (v := .int .i64 i1) rfl rfl rfl (by go_simp) ?_
              first | dsimp only [wpT] | refine wpT_fin ?_
              try simp only [Act.put, List.setIfInBounds_toArray, List.set_cons_succ, List.set_cons_zero]
              go_wp2_with fail
              go_roundw
              case rel =>
                obtain ⟨hX, hM, hd⟩ := K0 _ _ M
                exact ⟨i1, L, v, by have := HII.out; omega, rfl, hM.sub (.cons_cons _ .slnil), hX, hd (w.heap.size, ACS q p e (.slice ka kn kc)) (by simp), HLE.out⟩
              case measure => have := HII.out; simp only [intOf]; omega
          · have hlt60 : ¬ (i : Int) < 60 := by omega
            by_cases hm0 : 0 < m
            · have hmz : (0 : Int) < (m : Int) := by omega
              obtain ⟨x0, hx0⟩ : ∃ x, L[0]? = some x := ⟨_, List.getElem?_eq_getElem (by have := HLM.out; omega)⟩
              have HX0 := hid hx0
              obtain ⟨⟨L6, q5⟩, hdr⟩ : ∃ z, Sk.drop L x0.pub x0.n = z := ⟨_, rfl⟩
              have HDR := hid hdr
              have hL69 : L6.length ≤ 1000 := Nat.le_trans (Sk.drop_le hdr) (by have := HLM.out; omega)
              obtain ⟨⟨L7, q7⟩, hpu⟩ : ∃ z, Sk.put (1000 : Int).toNat L6 p e ks = z := ⟨_, rfl⟩
              have HPU := hid hpu
              clear hx0 hdr hpu
              go_upto_region 14 with fail
              refine wp_region_lin (.op 0 (.op 1 (.op 2 (.op 3 (.op 4 (.op 5 (.op 6 (.op 7 .done)))))))) (by rfl) ?_
              refine wpT_valp 80 (v := .int .i64 i) rfl rfl rfl (by go_simp) ?_
              refine wpT_valp 81 (v := .slice ua n uc) rfl rfl rfl (by go_simp) ?_
              refine wpT_valp 82 (v := .int .i64 n) rfl rfl rfl (by go_simp) ?_
              refine wpT_valp 83 (v := .bool true) rfl rfl rfl (by go_simp) ?_
              try simp only [Act.put, List.setIfInBounds_toArray, List.set_cons_succ, List.set_cons_zero]
              refine wpT_valp 84 (v := .bool true) rfl rfl rfl (by go_simp) ?_
              refine wpT_valp 85 (v := .int .i64 i) rfl rfl (by simp [Region.wanted, yielded, Act.put]) (by go_simp) ?_
              refine wpT_valp 86 (v := .bool false) rfl rfl (by simp [Region.wanted, yielded, Act.put]) (by go_simp) ?_
              refine wpT_valp 87 (v := .bool false) rfl rfl rfl (by go_simp) ?_
              first | dsimp only [wpT] | refine wpT_fin ?_
              try simp only [Act.put, List.setIfInBounds_toArray, List.set_cons_succ, List.set_cons_zero]
              go_upto_region 18 with fail
              refine wp_region_lin (.op 0 (.op 1 (.op 2 .done))) (by rfl) ?_
              refine wpT_valp 114 (v := .pointer (some ⟨b, 0, none⟩)) rfl rfl rfl (by go_simp) ?_
              refine wpT_obj (U := Nat × Value) (fun c => .pointer (some ⟨c.1, 0, none⟩)) (fun c g => SF b v g ∨ SF c.1 c.2 g) (fun c w => YA w B b L v c.1 L c.2) (some 115) M K0 F0 rfl rfl rfl (by go_simp) (fun hX => sclo_y _ hX (by decide) (by omega)) (fun c => YA.stb _ _ _ _ _ _ _) (fun c w2 S2 M2 K2 F2 => ?_)
              refine wpT_valp 11 (v := .pointer (some ⟨c.1, 0, none⟩)) rfl rfl rfl (by go_simp) ?_
              first | dsimp only [wpT] | refine wpT_fin ?_
              try simp only [Act.put, List.setIfInBounds_toArray, List.set_cons_succ, List.set_cons_zero]
              go_upto_region 19 with fail
              refine wp_region_lin (.op 0 (.op 1 .done)) (by rfl) ?_
              refine wpT_valp 116 (v := .pointer (some ⟨c.1, 0, none⟩)) rfl rfl rfl (by go_simp) ?_
              refine wpT_valp 117 (v := .bool false) rfl rfl rfl (by go_simp) ?_
              first | dsimp only [wpT] | refine wpT_fin ?_
              try simp only [Act.put, List.setIfInBounds_toArray, List.set_cons_succ, List.set_cons_zero]
              go_upto_region 21 with fail
              refine wp_region_lin (.op 0 (.op 1 (.op 2 (.op 3 .done)))) (by rfl) ?_
              refine wpT_valp 118 (v := .pointer (some ⟨b, 0, none⟩)) rfl rfl rfl (by go_simp) ?_
              refine wpT_objN (U := Value) (fun u => u) (fun u g => obk u = some g) (fun u w => Ow w B 65 u m (fl eE L)) (some 119) M2 K2 F2 (YA.stb _ _ _ _ _ _ _) rfl rfl rfl (by go_simp) (fun hX => sall_e2 _ hX.so (by decide) (by omega) HLM.out) (fun u => Stb.ow _ _ _ _ _) (fun u3 w3 S3 M3 K3 F3 => ?_)
              refine wpT_objN (U := Value) (fun u => u) (fun u g => obk u = some g) (fun u w => WF (SF c.1 c.2) w B u m L) (some 120) M3 K3 F3 ((YA.stb _ _ _ _ _ _ _).and (Stb.ow _ _ _ _ _)) rfl rfl rfl (by go_simp) (fun hX => ours_w _ hX.2 HLM.out (by omega) hX.1) (fun u => WF.stb _ _ _ _ _) (fun u4 w4 S4 M4 K4 F4 => ?_)
              refine wpT_valp 12 (v := u4) rfl rfl rfl (by go_simp) ?_
              first | dsimp only [wpT] | refine wpT_fin ?_
              try simp only [Act.put, List.setIfInBounds_toArray, List.set_cons_succ, List.set_cons_zero]
              go_upto_region 22 with fail
              obtain ⟨hX4, MO4, hd4⟩ := K4 _ _ M4
              obtain ⟨S5, M5, K5⟩ := MO4.keep ((YA.stb B b L v c.1 L c.2).and (WF.stb (SF c.1 c.2) B u4 m L)) ⟨hX4.1.1, hX4.2⟩ (fun q hq h => hd4 q hq (h.elim (fun h => .inl (.inl h)) .inr))
              have F5 : ∀ g, ((SF b v g ∨ SF c.1 c.2 g) ∨ obk u4 = some g) → no g ∨ w.heap.size ≤ g := fun g h => F4 g (h.elim (fun h => .inl (.inl h)) .inr)
              obtain ⟨ta, tc, hta, _⟩ := hX4.2.ow.shape
              subst hta
              clear hX4 MO4 hd4 K4 F4 K3 F3 K2 F2
              obtain ⟨tg, tc2, hta⟩ : ∃ g c, Value.slice ta m tc = .slice (some ⟨g, 0, none⟩) m c := HTA.out _ _ _ _ _ (K5 _ _ M5).1.2.ow hm0
              injection hta with hta1 _ hta2
              subst hta1
              clear hta2
              refine wp_region_lin (.op 0 (.op 1 (.op 2 .done))) (by rfl) ?_
              refine wpT_valp 121 (v := .slice (some ⟨tg, 0, none⟩) m tc) rfl rfl rfl (by go_simp) ?_
              refine wpT_valp 122 (v := .int .i64 m) rfl rfl rfl (by go_simp) ?_
              refine wpT_valp 123 (v := .bool true) rfl rfl rfl (by go_simp) ?_
              first | dsimp only [wpT] | refine wpT_fin ?_
              try simp only [Act.put, List.setIfInBounds_toArray, List.set_cons_succ, List.set_cons_zero]
              go_upto_region 23 with fail
              refine wp_region_X (fun v => exLoad Try.prog 28 (.pointer (some ⟨tg, 0, none⟩)) v = .ok (.value (.agg (cs U8 x0.pub.l))) v ∧ v.cell? ⟨tg, 64, none⟩ = some (.int .i64 x0.n)) (.yld [0, 1, 2, 3, 4, 5, 6, 7, 8] (.op 9 .done)) (by kernel_rfl) (by kernel_rfl) (by kernel_rfl) (fun d _ _ _ _ h => by cases d <;> exact h) ?_
              have M1 := M5.drewN 1
              change wpX _ _ _ _ _ _ (w4.drewN 1)
              obtain ⟨w2, hw2⟩ : ∃ w2, w2 = w4.drewN 1 := ⟨_, rfl⟩
              rw [← hw2] at M1 ⊢
              clear hw2
              refine wpX_yld ?_
              refine wpYJd_op 124 (.pointer (some ⟨c.1, 0, none⟩)) rfl rfl rfl (fun w1 h => by go_simp) ?_
              refine wpYJd_op 125 (.slice (some ⟨tg, 0, none⟩) m tc) rfl rfl rfl (fun w1 h => by go_simp) ?_
              refine wpYJd_op 126 (.pointer (some ⟨tg, 0, none⟩)) rfl rfl rfl (fun w1 h => by go_simp) ?_
              refine wpYJd_op 127 (.pointer (some ⟨tg, 0, none⟩)) rfl rfl rfl (fun w1 h => by go_simp) ?_
              refine wpYJd_ldy 128 (.pointer (some ⟨tg, 0, none⟩)) (.agg (cs U8 x0.pub.l)) rfl rfl rfl (by go_simp) (fun w1 h => h.1) rfl ?_
              try simp only [Act.put, List.setIfInBounds_toArray, List.set_cons_succ, List.set_cons_zero]
              refine wpYJd_op 129 (.slice (some ⟨tg, 0, none⟩) m tc) rfl rfl rfl (fun w1 h => by go_simp) ?_
              refine wpYJd_op 130 (.pointer (some ⟨tg, 0, none⟩)) rfl rfl rfl (fun w1 h => by go_simp) ?_
              refine wpYJd_op 131 (.pointer (some ⟨tg, 64, none⟩)) rfl rfl rfl (fun w1 h => by go_simp) ?_
              refine wpYJd_op 132 (.int .i64 x0.n) rfl rfl rfl (fun w1 h => by have c0 := h.2; go_simp) ?_
              show wpX _ _ _ _ _ _ _
              try simp only [Act.put, List.setIfInBounds_toArray, List.set_cons_succ, List.set_cons_zero]
              refine wpX_of (⟨(sv_pub0 (by first | exact (K5 _ _ M1).1.2.ow.sv | exact (K6 _ _ M1).1.2.ow.sv) HX0.out), (sv_n0 (by first | exact (K5 _ _ M1).1.2.ow.sv | exact (K6 _ _ M1).1.2.ow.sv) HX0.out)⟩) ?_
              refine wpT_obj (U := Value) (fun v6 => .int .i64 q5) (fun v6 g => (SF b v g ∨ SF c.1 v6 g) ∨ obk (.slice (some ⟨tg, 0, none⟩) m tc) = some g) (fun v6 => fun w => YA w B b L v c.1 L6 v6 ∧ WF (SF c.1 v6) w B (.slice (some ⟨tg, 0, none⟩) m tc) m L) (some 133) M1 K5 F5 rfl rfl rfl (by go_simp) (fun hX => sdrop_y w2 hX (by omega) x0.pub x0.n HDR.out) (fun v6 => (YA.stb _ _ _ _ _ _ _).and (WF.stb _ _ _ _ _)) (fun v6 w6 Sw6 Mw6 K6 F6 => ?_)
              refine wpX_to ?_
              try simp only [Act.put, List.setIfInBounds_toArray, List.set_cons_succ, List.set_cons_zero]
              refine ⟨(⟨(sv_pub0 (by first | exact (K5 _ _ Mw6).1.2.ow.sv | exact (K6 _ _ Mw6).1.2.ow.sv) HX0.out), (sv_n0 (by first | exact (K5 _ _ Mw6).1.2.ow.sv | exact (K6 _ _ Mw6).1.2.ow.sv) HX0.out)⟩), ?_⟩
              try simp only [Act.put, List.setIfInBounds_toArray, List.set_cons_succ, List.set_cons_zero]
              go_upto_region 24 with fail
              refine wp_region_lin (.op 0 (.op 1 (.op 2 (.op 3 (.op 4 (.op 5 (.op 6 (.op 7 .done)))))))) (by rfl) ?_
              refine wpT_valp 134 (v := .pointer (some ⟨c.1, 0, none⟩)) rfl rfl rfl (by go_simp) ?_
              refine wpT_valp 135 (v := .pointer (some ⟨w.heap.size, 1, none⟩)) rfl rfl rfl (by go_simp) ?_
              refine wpT_ldm 136 Try.underlying28 rfl inf_key (w.heap.size) 1 (ACS q p e (.slice ka kn kc)) (cs U8 p.l) rfl rfl rfl (by go_simp) (Mw6.row (b := w.heap.size) (c := ACS q p e (.slice ka kn kc)) (by simp)) (by simp [Ky.len, ENR_size, RSR_size, STR_size, ACS_size]) (as_p1) rfl ?_
              refine wpT_valp 137 (v := .pointer (some ⟨w.heap.size, 33, none⟩)) rfl rfl rfl (by go_simp) ?_
              try simp only [Act.put, List.setIfInBounds_toArray, List.set_cons_succ, List.set_cons_zero]
              refine wpT_valp 138 (v := .int .i64 e) rfl rfl rfl (by have c0 := as_c33 (Mw6.row (b := w.heap.size) (c := ACS q p e (.slice ka kn kc)) (by simp)); go_simp) ?_
              refine wpT_valp 139 (v := .pointer (some ⟨w.heap.size, 34, none⟩)) rfl rfl rfl (by go_simp) ?_
              refine wpT_valp 140 (v := .slice ka kn kc) rfl rfl rfl (by have c0 := as_c34 (Mw6.row (b := w.heap.size) (c := ACS q p e (.slice ka kn kc)) (by simp)); go_simp) ?_
              refine wpT_obj (U := Value) (fun v7 => .int .i64 q7) (fun v7 g => (SF b v g ∨ SF c.1 v7 g) ∨ obk (.slice (some ⟨tg, 0, none⟩) m tc) = some g) (fun v7 => fun w => YA w B b L v c.1 L7 v7 ∧ WF (SF c.1 v7) w B (.slice (some ⟨tg, 0, none⟩) m tc) m L) (some 141) Mw6 K6 F6 rfl rfl rfl (by go_simp) (fun hX => sput_y w6 hX (by omega) p e (SV.below HKS.out (K6 _ _ Mw6).2.1.end_) HKL.out HPU.out) (fun v7 => (YA.stb _ _ _ _ _ _ _).and (WF.stb _ _ _ _ _)) (fun v7 w7 Sw7 Mw7 K7 F7 => ?_)
              first | dsimp only [wpT] | refine wpT_fin ?_
              try simp only [Act.put, List.setIfInBounds_toArray, List.set_cons_succ, List.set_cons_zero]
              go_upto_region 25 with fail
              refine wp_region_lin (.op 0 (.op 1 (.op 2 .done))) (by rfl) ?_
              refine wpT_valp 142 (v := .pointer (some ⟨b, 0, none⟩)) rfl rfl rfl (by go_simp) ?_
              refine wpT_objN (U := Value) (fun u => u) (fun u g => obk u = some g) (fun u w => WF (fun g => SF b v g ∨ obk (.slice (some ⟨tg, 0, none⟩) m tc) = some g) w B u m L) (some 143) Mw7 K7 F7 ((YA.stb _ _ _ _ _ _ _).and (WF.stb _ _ _ _ _)) rfl rfl rfl (by go_simp) (fun hX => sall_w _ hX.1.so hX.2.ow (by decide) (by omega) HLM.out) (fun u => WF.stb _ _ _ _ _) (fun u8 w8 S8 M8 K8 F8 => ?_)
              refine wpT_valp 13 (v := u8) rfl rfl rfl (by go_simp) ?_
              first | dsimp only [wpT] | refine wpT_fin ?_
              try simp only [Act.put, List.setIfInBounds_toArray, List.set_cons_succ, List.set_cons_zero]
              go_upto_region 26 with fail
              obtain ⟨xa8, xc8, rfl, _⟩ := (K8 _ _ M8).1.2.ow.shape
              refine wp_region_lin (.op 0 (.op 1 (.op 2 .done))) (by rfl) ?_
              refine wpT_valp 144 (v := .slice xa8 m xc8) rfl rfl rfl (by go_simp) ?_
              refine wpT_valp 145 (v := .int .i64 m) rfl rfl rfl (by go_simp) ?_
              refine wpT_valp 146 (v := .int .i64 0) rfl rfl rfl (by go_simp) ?_
              first | dsimp only [wpT] | refine wpT_fin ?_
              try simp only [Act.put, List.setIfInBounds_toArray, List.set_cons_succ, List.set_cons_zero]
              go_wp2_with fail
              obtain ⟨hX8, MO8, hd8⟩ := K8 _ _ M8
              obtain ⟨xg, c8, cur, R8, MR8⟩ := MO8.reown hX8.2.ow hm0 (fun g hg => ⟨F8 g (.inr hg), fun q hq e => hd8 q hq (by rw [e]; exact .inr hg)⟩)
              have hR8v := R8.v
              injection hR8v with e1 e2 e3
              subst e1
              subst e3
              have HNX := hid (show ∀ g, (SF b v g ∨ obk (.slice (some ⟨tg, 0, none⟩) m tc) = some g) → g ≠ xg from fun g h1 e => hX8.2.dj g h1 (by rw [R8.ob, e]))
              have HS8 := hX8.1.1.so
              have HT8 := hX8.1.2.ow
              have hsz8 := R8.sz
              have HNC := hid R8.nc
              have MR9 := MR8.sub (H' := [(xg, cur)]) (by simp)
              clear hX8 MO8 hd8 K8 F8 R8 MR8 M8 K7 F7 K6 F6 K5 F5
              go_loopw [146] (fun x wr => ∃ (i : Nat) (cur : Array Value), i ≤ m ∧ x = .int .i64 i ∧ cur.size = xc8 * 65 ∧ Mm no w [(xg, cur)] wr ∧ SO wr B b 1000 L v ∧ Ow wr B 65 (.slice (some ⟨tg, 0, none⟩) m tc) m (fl eE L)) (fun x _ => m - (intOf x).toNat)
              case atStart => exact ⟨0, cur, by omega, rfl, hsz8, MR9, HS8, HT8⟩
              case round =>
                clear MR9 HS8 HT8 hsz8
                obtain ⟨i, cur, hi, rfl, hsz, MO, RS, RT⟩ := hrel
                by_cases him : i < m
                · have hlt : (i : Int) < (m : Int) := by omega
                  have hi00 : (0 : Int) ≤ (i : Int) := by omega
                  have HSZ := hid (show i * 65 + 64 < cur.size by have := HNC.out; omega)
                  have hsz2 := hid hsz
                  obtain ⟨i1, hi1⟩ : ∃ j, j = i + 1 := ⟨_, rfl⟩
                  have HI1 := hid (show IntKind.i64.wrap ((i : Int) + 1) = (i1 : Int) by rw [i64w (by omega) (by omega), hi1]; rfl)
                  have HII := hid hi1
                  obtain ⟨S1, M, hS1, hT1⟩ := MO.rebase
                  clear hi1 hsz MO
                  go_upto_region 27 with fail
                  refine wp_region_lin (.op 0 .done) (by rfl) ?_
                  refine wpT_valp 147 (v := .bool true) rfl rfl rfl (by go_simp) ?_
                  first | dsimp only [wpT] | refine wpT_fin ?_
                  try simp only [Act.put, List.setIfInBounds_toArray, List.set_cons_succ, List.set_cons_zero]
                  go_upto_region 28 with fail
                  refine wp_region_lin (.op 0 (.op 1 .done)) (by rfl) ?_
                  refine wpT_valp 148 (v := .int .i64 i) rfl rfl rfl (by go_simp) ?_
                  refine wpT_valp 14 (v := .int .i64 i) rfl rfl rfl (by go_simp) ?_
                  first | dsimp only [wpT] | refine wpT_fin ?_
                  try simp only [Act.put, List.setIfInBounds_toArray, List.set_cons_succ, List.set_cons_zero]
                  go_upto_region 29 with fail
                  refine wp_region_lin (.op 0 (.op 1 (.op 2 (.op 3 (.op 4 .done))))) (by rfl) ?_
                  refine wpT_valp 149 (v := .slice (some ⟨xg, 0, none⟩) m xc8) rfl rfl rfl (by go_simp) ?_
                  refine wpT_valp 150 (v := .int .i64 i) rfl rfl rfl (by go_simp) ?_
                  refine wpT_valp 151 (v := .pointer (some ⟨xg, i * 65, none⟩)) rfl rfl rfl (by go_simp) ?_
                  refine wpT_valp 152 (v := .pointer (some ⟨xg, i * 65 + 64, none⟩)) rfl rfl rfl (by go_simp) ?_
                  try simp only [Act.put, List.setIfInBounds_toArray, List.set_cons_succ, List.set_cons_zero]
                  refine wpT_stc M 0 (.int .i64 (-5)) (cur.setIfInBounds (i * 65 + 64) (.int .i64 (-5))) inf_int rfl rfl rfl rfl (by go_simp) (by go_simp) (by have := HSZ.out; omega) (by simp [go_sem]) rfl rfl (fun ws MS => ?_)
                  dsimp only [List.set] at MS
                  first | dsimp only [wpT] | refine wpT_fin ?_
                  try simp only [Act.put, List.setIfInBounds_toArray, List.set_cons_succ, List.set_cons_zero]
                  go_upto_region 30 with fail
                  refine wp_region_lin (.op 0 (.op 1 .done)) (by rfl) ?_
                  refine wpT_valp 153 (v := .int .i64 i1) rfl rfl rfl (by have h := HI1.out; go_simp) ?_
                  refine wpT_valp 146 (v := .int .i64 i1) rfl rfl rfl (by go_simp) ?_
                  first | dsimp only [wpT] | refine wpT_fin ?_
                  try simp only [Act.put, List.setIfInBounds_toArray, List.set_cons_succ, List.set_cons_zero]
                  go_wp2_with fail
                  go_roundw
                  case rel =>
                    have hno : ∀ g, (SF b v g ∨ obk (.slice (some ⟨tg, 0, none⟩) m tc) = some g) → ¬ S1 g := fun g h1 h2 => HNX.out g h1 (by have := hS1 g h2; simpa using this)
                    exact ⟨i1, _, by have := HII.out; omega, rfl, by simp [hsz2.out], hT1 _ _ MS, RS.fr MS.fr (fun g h => hno g (.inl h)), RT.fr MS.fr (fun g h => hno g (.inr h))⟩
                  case measure => have := HII.out; simp only [intOf]; omega
                · obtain rfl : m = i := by omega
                  obtain ⟨S9, M, K9⟩ := (MO.sub (H' := []) (by simp)).keep ((SO.stb B b 1000 L v).and (Stb.ow B 65 (.slice (some ⟨tg, 0, none⟩) m tc) m (fl eE L))) ⟨RS, RT⟩ (fun q hq => by cases hq)
                  have F9 : ∀ g, (SF b v g ∨ obk (.slice (some ⟨tg, 0, none⟩) m tc) = some g) → no g ∨ w.heap.size ≤ g := fun g h => .inr (by rw [← HB.out]; exact h.elim (fun h => (RS.lt g h).1) (fun h => (RT.at_ g h).1))
                  clear MO RS RT hsz
                  go_upto_region 27 with fail
                  refine wp_region_lin (.op 0 .done) (by rfl) ?_
                  refine wpT_valp 147 (v := .bool false) rfl rfl rfl (by go_simp) ?_
                  first | dsimp only [wpT] | refine wpT_fin ?_
                  try simp only [Act.put, List.setIfInBounds_toArray, List.set_cons_succ, List.set_cons_zero]
                  go_upto_region 31 with fail
                  refine wp_region_lin (.op 0 (.op 1 (.op 2 (.op 3 (.op 4 (.op 5 .done)))))) (by rfl) ?_
                  refine wpT_valp 154 (v := .pointer (some ⟨b, 0, none⟩)) rfl rfl rfl (by go_simp) ?_
                  refine wpT_objN (U := Value) (fun u => u) (fun u g => obk u = some g) (fun u w => Ow w B 65 u m (fl eE L)) (some 155) M K9 F9 ((SO.stb _ _ _ _ _).and (Stb.ow _ _ _ _ _)) rfl rfl rfl (by go_simp) (fun hX => sall_e2 _ hX.1 (by decide) (by omega) HLM.out) (fun u => Stb.ow _ _ _ _ _) (fun u10 w10 S10 M10 K10 F10 => ?_)
                  refine wpT_objN (U := Value) (fun u => u) (fun u g => obk u = some g) (fun u w => Ow w B 65 u m (fl eE L)) (some 156) M10 K10 F10 (((SO.stb _ _ _ _ _).and (Stb.ow _ _ _ _ _)).and (Stb.ow _ _ _ _ _)) rfl rfl rfl (by go_simp) (fun hX => ours_x _ hX.2 HLM.out (by omega) hX.1.1.Bw) (fun u => Stb.ow _ _ _ _ _) (fun u11 w11 S11 M11 K11 F11 => ?_)
                  refine wpT_valp 157 (v := .slice (some ⟨tg, 0, none⟩) m tc) rfl rfl rfl (by go_simp) ?_
                  try simp only [Act.put, List.setIfInBounds_toArray, List.set_cons_succ, List.set_cons_zero]
                  refine wpT_callv 158 M11 (v := .bool true) rfl rfl rfl (by go_simp) (rsame_c w11 _ _ m L (K11 _ _ M11).1.2.sv (K11 _ _ M11).1.1.1.2.sv HLM.out) (fun w1 M2 => ?_)
                  refine wpT_valp 4 (v := .bool true) rfl rfl rfl (by go_simp) ?_
                  first | dsimp only [wpT] | refine wpT_fin ?_
                  try simp only [Act.put, List.setIfInBounds_toArray, List.set_cons_succ, List.set_cons_zero]
                  go_wp2_with fail
                  go_ret
                  exact ⟨rfl, (K11 _ _ M2).2.1.end_⟩
            · have hmz : ¬ (0 : Int) < (m : Int) := by omega
              obtain ⟨⟨L7, q7⟩, hpu⟩ : ∃ z, Sk.put (1000 : Int).toNat L p e ks = z := ⟨_, rfl⟩
              have HPU := hid hpu
              clear hpu
              go_upto_region 14 with fail
              refine wp_region_lin (.op 0 (.op 1 (.op 2 (.op 3 (.op 4 (.op 5 (.op 6 (.op 7 .done)))))))) (by rfl) ?_
              refine wpT_valp 80 (v := .int .i64 i) rfl rfl rfl (by go_simp) ?_
              refine wpT_valp 81 (v := .slice ua n uc) rfl rfl rfl (by go_simp) ?_
              refine wpT_valp 82 (v := .int .i64 n) rfl rfl rfl (by go_simp) ?_
              refine wpT_valp 83 (v := .bool true) rfl rfl rfl (by go_simp) ?_
              try simp only [Act.put, List.setIfInBounds_toArray, List.set_cons_succ, List.set_cons_zero]
              refine wpT_valp 84 (v := .bool true) rfl rfl rfl (by go_simp) ?_
              refine wpT_valp 85 (v := .int .i64 i) rfl rfl (by simp [Region.wanted, yielded, Act.put]) (by go_simp) ?_
              refine wpT_valp 86 (v := .bool false) rfl rfl (by simp [Region.wanted, yielded, Act.put]) (by go_simp) ?_
              refine wpT_valp 87 (v := .bool false) rfl rfl rfl (by go_simp) ?_
              first | dsimp only [wpT] | refine wpT_fin ?_
              try simp only [Act.put, List.setIfInBounds_toArray, List.set_cons_succ, List.set_cons_zero]
              go_upto_region 18 with fail
              refine wp_region_lin (.op 0 (.op 1 (.op 2 .done))) (by rfl) ?_
              refine wpT_valp 114 (v := .pointer (some ⟨b, 0, none⟩)) rfl rfl rfl (by go_simp) ?_
              refine wpT_obj (U := Nat × Value) (fun c => .pointer (some ⟨c.1, 0, none⟩)) (fun c g => SF b v g ∨ SF c.1 c.2 g) (fun c w => YA w B b L v c.1 L c.2) (some 115) M K0 F0 rfl rfl rfl (by go_simp) (fun hX => sclo_y _ hX (by decide) (by omega)) (fun c => YA.stb _ _ _ _ _ _ _) (fun c w2 S2 M2 K2 F2 => ?_)
              refine wpT_valp 11 (v := .pointer (some ⟨c.1, 0, none⟩)) rfl rfl rfl (by go_simp) ?_
              first | dsimp only [wpT] | refine wpT_fin ?_
              try simp only [Act.put, List.setIfInBounds_toArray, List.set_cons_succ, List.set_cons_zero]
              go_upto_region 19 with fail
              refine wp_region_lin (.op 0 (.op 1 .done)) (by rfl) ?_
              refine wpT_valp 116 (v := .pointer (some ⟨c.1, 0, none⟩)) rfl rfl rfl (by go_simp) ?_
              refine wpT_valp 117 (v := .bool false) rfl rfl rfl (by go_simp) ?_
              first | dsimp only [wpT] | refine wpT_fin ?_
              try simp only [Act.put, List.setIfInBounds_toArray, List.set_cons_succ, List.set_cons_zero]
              go_upto_region 21 with fail
              refine wp_region_lin (.op 0 (.op 1 (.op 2 (.op 3 .done)))) (by rfl) ?_
              refine wpT_valp 118 (v := .pointer (some ⟨b, 0, none⟩)) rfl rfl rfl (by go_simp) ?_
              refine wpT_objN (U := Value) (fun u => u) (fun u g => obk u = some g) (fun u w => Ow w B 65 u m (fl eE L)) (some 119) M2 K2 F2 (YA.stb _ _ _ _ _ _ _) rfl rfl rfl (by go_simp) (fun hX => sall_e2 _ hX.so (by decide) (by omega) HLM.out) (fun u => Stb.ow _ _ _ _ _) (fun u3 w3 S3 M3 K3 F3 => ?_)
              refine wpT_objN (U := Value) (fun u => u) (fun u g => obk u = some g) (fun u w => WF (SF c.1 c.2) w B u m L) (some 120) M3 K3 F3 ((YA.stb _ _ _ _ _ _ _).and (Stb.ow _ _ _ _ _)) rfl rfl rfl (by go_simp) (fun hX => ours_w _ hX.2 HLM.out (by omega) hX.1) (fun u => WF.stb _ _ _ _ _) (fun u4 w4 S4 M4 K4 F4 => ?_)
              refine wpT_valp 12 (v := u4) rfl rfl rfl (by go_simp) ?_
              first | dsimp only [wpT] | refine wpT_fin ?_
              try simp only [Act.put, List.setIfInBounds_toArray, List.set_cons_succ, List.set_cons_zero]
              go_upto_region 22 with fail
              obtain ⟨hX4, MO4, hd4⟩ := K4 _ _ M4
              obtain ⟨S5, M5, K5⟩ := MO4.keep ((YA.stb B b L v c.1 L c.2).and (WF.stb (SF c.1 c.2) B u4 m L)) ⟨hX4.1.1, hX4.2⟩ (fun q hq h => hd4 q hq (h.elim (fun h => .inl (.inl h)) .inr))
              have F5 : ∀ g, ((SF b v g ∨ SF c.1 c.2 g) ∨ obk u4 = some g) → no g ∨ w.heap.size ≤ g := fun g h => F4 g (h.elim (fun h => .inl (.inl h)) .inr)
              obtain ⟨ta, tc, hta, _⟩ := hX4.2.ow.shape
              subst hta
              clear hX4 MO4 hd4 K4 F4 K3 F3 K2 F2
              refine wp_region_lin (.op 0 (.op 1 (.op 2 .done))) (by rfl) ?_
              refine wpT_valp 121 (v := .slice ta m tc) rfl rfl rfl (by go_simp) ?_
              refine wpT_valp 122 (v := .int .i64 m) rfl rfl rfl (by go_simp) ?_
              refine wpT_valp 123 (v := .bool false) rfl rfl rfl (by go_simp) ?_
              first | dsimp only [wpT] | refine wpT_fin ?_
              try simp only [Act.put, List.setIfInBounds_toArray, List.set_cons_succ, List.set_cons_zero]
              go_upto_region 24 with fail
              refine wp_region_lin (.op 0 (.op 1 (.op 2 (.op 3 (.op 4 (.op 5 (.op 6 (.op 7 .done)))))))) (by rfl) ?_
              refine wpT_valp 134 (v := .pointer (some ⟨c.1, 0, none⟩)) rfl rfl rfl (by go_simp) ?_
              refine wpT_valp 135 (v := .pointer (some ⟨w.heap.size, 1, none⟩)) rfl rfl rfl (by go_simp) ?_
              refine wpT_ldm 136 Try.underlying28 rfl inf_key (w.heap.size) 1 (ACS q p e (.slice ka kn kc)) (cs U8 p.l) rfl rfl rfl (by go_simp) (M5.row (b := w.heap.size) (c := ACS q p e (.slice ka kn kc)) (by simp)) (by simp [Ky.len, ENR_size, RSR_size, STR_size, ACS_size]) (as_p1) rfl ?_
              refine wpT_valp 137 (v := .pointer (some ⟨w.heap.size, 33, none⟩)) rfl rfl rfl (by go_simp) ?_
              try simp only [Act.put, List.setIfInBounds_toArray, List.set_cons_succ, List.set_cons_zero]
              refine wpT_valp 138 (v := .int .i64 e) rfl rfl rfl (by have c0 := as_c33 (M5.row (b := w.heap.size) (c := ACS q p e (.slice ka kn kc)) (by simp)); go_simp) ?_
              refine wpT_valp 139 (v := .pointer (some ⟨w.heap.size, 34, none⟩)) rfl rfl rfl (by go_simp) ?_
              refine wpT_valp 140 (v := .slice ka kn kc) rfl rfl rfl (by have c0 := as_c34 (M5.row (b := w.heap.size) (c := ACS q p e (.slice ka kn kc)) (by simp)); go_simp) ?_
              refine wpT_obj (U := Value) (fun v7 => .int .i64 q7) (fun v7 g => (SF b v g ∨ SF c.1 v7 g) ∨ obk (.slice ta m tc) = some g) (fun v7 => fun w => YA w B b L v c.1 L7 v7 ∧ WF (SF c.1 v7) w B (.slice ta m tc) m L) (some 141) M5 K5 F5 rfl rfl rfl (by go_simp) (fun hX => sput_y w4 hX (by omega) p e (SV.below HKS.out (K5 _ _ M5).2.1.end_) HKL.out HPU.out) (fun v7 => (YA.stb _ _ _ _ _ _ _).and (WF.stb _ _ _ _ _)) (fun v7 w7 Sw7 Mw7 K7 F7 => ?_)
              first | dsimp only [wpT] | refine wpT_fin ?_
              try simp only [Act.put, List.setIfInBounds_toArray, List.set_cons_succ, List.set_cons_zero]
              go_upto_region 25 with fail
              refine wp_region_lin (.op 0 (.op 1 (.op 2 .done))) (by rfl) ?_
              refine wpT_valp 142 (v := .pointer (some ⟨b, 0, none⟩)) rfl rfl rfl (by go_simp) ?_
              refine wpT_objN (U := Value) (fun u => u) (fun u g => obk u = some g) (fun u w => WF (fun g => SF b v g ∨ obk (.slice ta m tc) = some g) w B u m L) (some 143) Mw7 K7 F7 ((YA.stb _ _ _ _ _ _ _).and (WF.stb _ _ _ _ _)) rfl rfl rfl (by go_simp) (fun hX => sall_w _ hX.1.so hX.2.ow (by decide) (by omega) HLM.out) (fun u => WF.stb _ _ _ _ _) (fun u8 w8 S8 M8 K8 F8 => ?_)
              refine wpT_valp 13 (v := u8) rfl rfl rfl (by go_simp) ?_
              first | dsimp only [wpT] | refine wpT_fin ?_
              try simp only [Act.put, List.setIfInBounds_toArray, List.set_cons_succ, List.set_cons_zero]
              go_upto_region 26 with fail
              obtain ⟨xa8, xc8, rfl, _⟩ := (K8 _ _ M8).1.2.ow.shape
              refine wp_region_lin (.op 0 (.op 1 (.op 2 .done))) (by rfl) ?_
              refine wpT_valp 144 (v := .slice xa8 m xc8) rfl rfl rfl (by go_simp) ?_
              refine wpT_valp 145 (v := .int .i64 m) rfl rfl rfl (by go_simp) ?_
              refine wpT_valp 146 (v := .int .i64 0) rfl rfl rfl (by go_simp) ?_
              first | dsimp only [wpT] | refine wpT_fin ?_
              try simp only [Act.put, List.setIfInBounds_toArray, List.set_cons_succ, List.set_cons_zero]
              go_wp2_with fail
              obtain ⟨hX8, MO8, hd8⟩ := K8 _ _ M8
              have HS8 := hX8.1.1.so
              have HT8 := hX8.1.2.ow
              have MR9 := MO8.sub (H' := []) (by simp)
              clear hX8 MO8 hd8 K8 F8 M8 K7 F7 K5 F5
              go_loopw [146] (fun x wr => x = .int .i64 m ∧ Mm no w [] wr ∧ SO wr B b 1000 L v ∧ Ow wr B 65 (.slice ta m tc) m (fl eE L)) (fun x _ => 0)
              case atStart => exact ⟨by rw [show m = 0 by omega]; rfl, MR9, HS8, HT8⟩
              case round =>
                clear MR9 HS8 HT8
                obtain ⟨rfl, MO, RS, RT⟩ := hrel
                obtain ⟨S9, M, K9⟩ := MO.keep ((SO.stb B b 1000 L v).and (Stb.ow B 65 (.slice ta m tc) m (fl eE L))) ⟨RS, RT⟩ (fun q hq => by cases hq)
                have F9 : ∀ g, (SF b v g ∨ obk (.slice ta m tc) = some g) → no g ∨ w.heap.size ≤ g := fun g h => .inr (by rw [← HB.out]; exact h.elim (fun h => (RS.lt g h).1) (fun h => (RT.at_ g h).1))
                clear MO RS RT
                go_upto_region 27 with fail
                refine wp_region_lin (.op 0 .done) (by rfl) ?_
                refine wpT_valp 147 (v := .bool false) rfl rfl rfl (by go_simp) ?_
                first | dsimp only [wpT] | refine wpT_fin ?_
                try simp only [Act.put, List.setIfInBounds_toArray, List.set_cons_succ, List.set_cons_zero]
                go_upto_region 31 with fail
                refine wp_region_lin (.op 0 (.op 1 (.op 2 (.op 3 (.op 4 (.op 5 .done)))))) (by rfl) ?_
                refine wpT_valp 154 (v := .pointer (some ⟨b, 0, none⟩)) rfl rfl rfl (by go_simp) ?_
                refine wpT_objN (U := Value) (fun u => u) (fun u g => obk u = some g) (fun u w => Ow w B 65 u m (fl eE L)) (some 155) M K9 F9 ((SO.stb _ _ _ _ _).and (Stb.ow _ _ _ _ _)) rfl rfl rfl (by go_simp) (fun hX => sall_e2 _ hX.1 (by decide) (by omega) HLM.out) (fun u => Stb.ow _ _ _ _ _) (fun u10 w10 S10 M10 K10 F10 => ?_)
                refine wpT_objN (U := Value) (fun u => u) (fun u g => obk u = some g) (fun u w => Ow w B 65 u m (fl eE L)) (some 156) M10 K10 F10 (((SO.stb _ _ _ _ _).and (Stb.ow _ _ _ _ _)).and (Stb.ow _ _ _ _ _)) rfl rfl rfl (by go_simp) (fun hX => ours_x _ hX.2 HLM.out (by omega) hX.1.1.Bw) (fun u => Stb.ow _ _ _ _ _) (fun u11 w11 S11 M11 K11 F11 => ?_)
                refine wpT_valp 157 (v := .slice ta m tc) rfl rfl rfl (by go_simp) ?_
                try simp only [Act.put, List.setIfInBounds_toArray, List.set_cons_succ, List.set_cons_zero]
                refine wpT_callv 158 M11 (v := .bool true) rfl rfl rfl (by go_simp) (rsame_c w11 _ _ m L (K11 _ _ M11).1.2.sv (K11 _ _ M11).1.1.1.2.sv HLM.out) (fun w1 M2 => ?_)
                refine wpT_valp 4 (v := .bool true) rfl rfl rfl (by go_simp) ?_
                first | dsimp only [wpT] | refine wpT_fin ?_
                try simp only [Act.put, List.setIfInBounds_toArray, List.set_cons_succ, List.set_cons_zero]
                go_wp2_with fail
                go_ret
                exact ⟨rfl, (K11 _ _ M2).2.1.end_⟩
        · have hlt : ¬ (i : Int) < (n : Int) := by omega
          by_cases hm0 : 0 < m
          · have hmz : (0 : Int) < (m : Int) := by omega
            obtain ⟨x0, hx0⟩ : ∃ x, L[0]? = some x := ⟨_, List.getElem?_eq_getElem (by have := HLM.out; omega)⟩
            have HX0 := hid hx0
            obtain ⟨⟨L6, q5⟩, hdr⟩ : ∃ z, Sk.drop L x0.pub x0.n = z := ⟨_, rfl⟩
            have HDR := hid hdr
            have hL69 : L6.length ≤ 1000 := Nat.le_trans (Sk.drop_le hdr) (by have := HLM.out; omega)
            obtain ⟨⟨L7, q7⟩, hpu⟩ : ∃ z, Sk.put (1000 : Int).toNat L6 p e ks = z := ⟨_, rfl⟩
            have HPU := hid hpu
            clear hx0 hdr hpu
            go_upto_region 14 with fail
            refine wp_region_lin (.op 0 (.op 1 (.op 2 (.op 3 (.op 4 (.op 5 (.op 6 (.op 7 .done)))))))) (by rfl) ?_
            refine wpT_valp 80 (v := .int .i64 i) rfl rfl rfl (by go_simp) ?_
            refine wpT_valp 81 (v := .slice ua n uc) rfl rfl rfl (by go_simp) ?_
            refine wpT_valp 82 (v := .int .i64 n) rfl rfl rfl (by go_simp) ?_
            refine wpT_valp 83 (v := .bool false) rfl rfl rfl (by go_simp) ?_
            try simp only [Act.put, List.setIfInBounds_toArray, List.set_cons_succ, List.set_cons_zero]
            refine wpT_valp 84 (v := .bool false) rfl rfl rfl (by go_simp) ?_
            refine wpT_unx 85 rfl rfl (by simp [Region.wanted, yielded, Act.put]) ?_
            try simp only [Act.put, List.setIfInBounds_toArray, List.set_cons_succ, List.set_cons_zero]
            refine wpT_unx 86 rfl rfl (by simp [Region.wanted, yielded, Act.put]) ?_
            try simp only [Act.put, List.setIfInBounds_toArray, List.set_cons_succ, List.set_cons_zero]
            refine wpT_valp 87 (v := .bool false) rfl rfl rfl (by go_simp) ?_
            first | dsimp only [wpT] | refine wpT_fin ?_
            try simp only [Act.put, List.setIfInBounds_toArray, List.set_cons_succ, List.set_cons_zero]
            go_upto_region 18 with fail
            refine wp_region_lin (.op 0 (.op 1 (.op 2 .done))) (by rfl) ?_
            refine wpT_valp 114 (v := .pointer (some ⟨b, 0, none⟩)) rfl rfl rfl (by go_simp) ?_
            refine wpT_obj (U := Nat × Value) (fun c => .pointer (some ⟨c.1, 0, none⟩)) (fun c g => SF b v g ∨ SF c.1 c.2 g) (fun c w => YA w B b L v c.1 L c.2) (some 115) M K0 F0 rfl rfl rfl (by go_simp) (fun hX => sclo_y _ hX (by decide) (by omega)) (fun c => YA.stb _ _ _ _ _ _ _) (fun c w2 S2 M2 K2 F2 => ?_)
            refine wpT_valp 11 (v := .pointer (some ⟨c.1, 0, none⟩)) rfl rfl rfl (by go_simp) ?_
            first | dsimp only [wpT] | refine wpT_fin ?_
            try simp only [Act.put, List.setIfInBounds_toArray, List.set_cons_succ, List.set_cons_zero]
            go_upto_region 19 with fail
            refine wp_region_lin (.op 0 (.op 1 .done)) (by rfl) ?_
            refine wpT_valp 116 (v := .pointer (some ⟨c.1, 0, none⟩)) rfl rfl rfl (by go_simp) ?_
            refine wpT_valp 117 (v := .bool false) rfl rfl rfl (by go_simp) ?_
            first | dsimp only [wpT] | refine wpT_fin ?_
            try simp only [Act.put, List.setIfInBounds_toArray, List.set_cons_succ, List.set_cons_zero]
            go_upto_region 21 with fail
            refine wp_region_lin (.op 0 (.op 1 (.op 2 (.op 3 .done)))) (by rfl) ?_
            refine wpT_valp 118 (v := .pointer (some ⟨b, 0, none⟩)) rfl rfl rfl (by go_simp) ?_
            refine wpT_objN (U := Value) (fun u => u) (fun u g => obk u = some g) (fun u w => Ow w B 65 u m (fl eE L)) (some 119) M2 K2 F2 (YA.stb _ _ _ _ _ _ _) rfl rfl rfl (by go_simp) (fun hX => sall_e2 _ hX.so (by decide) (by omega) HLM.out) (fun u => Stb.ow _ _ _ _ _) (fun u3 w3 S3 M3 K3 F3 => ?_)
            refine wpT_objN (U := Value) (fun u => u) (fun u g => obk u = some g) (fun u w => WF (SF c.1 c.2) w B u m L) (some 120) M3 K3 F3 ((YA.stb _ _ _ _ _ _ _).and (Stb.ow _ _ _ _ _)) rfl rfl rfl (by go_simp) (fun hX => ours_w _ hX.2 HLM.out (by omega) hX.1) (fun u => WF.stb _ _ _ _ _) (fun u4 w4 S4 M4 K4 F4 => ?_)
            refine wpT_valp 12 (v := u4) rfl rfl rfl (by go_simp) ?_
            first | dsimp only [wpT] | refine wpT_fin ?_
            try simp only [Act.put, List.setIfInBounds_toArray, List.set_cons_succ, List.set_cons_zero]
            go_upto_region 22 with fail
            obtain ⟨hX4, MO4, hd4⟩ := K4 _ _ M4
            obtain ⟨S5, M5, K5⟩ := MO4.keep ((YA.stb B b L v c.1 L c.2).and (WF.stb (SF c.1 c.2) B u4 m L)) ⟨hX4.1.1, hX4.2⟩ (fun q hq h => hd4 q hq (h.elim (fun h => .inl (.inl h)) .inr))
            have F5 : ∀ g, ((SF b v g ∨ SF c.1 c.2 g) ∨ obk u4 = some g) → no g ∨ w.heap.size ≤ g := fun g h => F4 g (h.elim (fun h => .inl (.inl h)) .inr)
            obtain ⟨ta, tc, hta, _⟩ := hX4.2.ow.shape
            subst hta
            clear hX4 MO4 hd4 K4 F4 K3 F3 K2 F2
            obtain ⟨tg, tc2, hta⟩ : ∃ g c, Value.slice ta m tc = .slice (some ⟨g, 0, none⟩) m c := HTA.out _ _ _ _ _ (K5 _ _ M5).1.2.ow hm0
            injection hta with hta1 _ hta2
            subst hta1
            clear hta2
            refine wp_region_lin (.op 0 (.op 1 (.op 2 .done))) (by rfl) ?_
            refine wpT_valp 121 (v := .slice (some ⟨tg, 0, none⟩) m tc) rfl rfl rfl (by go_simp) ?_
            refine wpT_valp 122 (v := .int .i64 m) rfl rfl rfl (by go_simp) ?_
            refine wpT_valp 123 (v := .bool true) rfl rfl rfl (by go_simp) ?_
            first | dsimp only [wpT] | refine wpT_fin ?_
            try simp only [Act.put, List.setIfInBounds_toArray, List.set_cons_succ, List.set_cons_zero]
            go_upto_region 23 with fail
            refine wp_region_X (fun v => exLoad Try.prog 28 (.pointer (some ⟨tg, 0, none⟩)) v = .ok (.value (.agg (cs U8 x0.pub.l))) v ∧ v.cell? ⟨tg, 64, none⟩ = some (.int .i64 x0.n)) (.yld [0, 1, 2, 3, 4, 5, 6, 7, 8] (.op 9 .done)) (by kernel_rfl) (by kernel_rfl) (by kernel_rfl) (fun d _ _ _ _ h => by cases d <;> exact h) ?_
            have M1 := M5.drewN 1
            change wpX _ _ _ _ _ _ (w4.drewN 1)
            obtain ⟨w2, hw2⟩ : ∃ w2, w2 = w4.drewN 1 := ⟨_, rfl⟩
            rw [← hw2] at M1 ⊢
            clear hw2
            refine wpX_yld ?_
            refine wpYJd_op 124 (.pointer (some ⟨c.1, 0, none⟩)) rfl rfl rfl (fun w1 h => by go_simp) ?_
            refine wpYJd_op 125 (.slice (some ⟨tg, 0, none⟩) m tc) rfl rfl rfl (fun w1 h => by go_simp) ?_
            refine wpYJd_op 126 (.pointer (some ⟨tg, 0, none⟩)) rfl rfl rfl (fun w1 h => by go_simp) ?_
            refine wpYJd_op 127 (.pointer (some ⟨tg, 0, none⟩)) rfl rfl rfl (fun w1 h => by go_simp) ?_
            refine wpYJd_ldy 128 (.pointer (some ⟨tg, 0, none⟩)) (.agg (cs U8 x0.pub.l)) rfl rfl rfl (by go_simp) (fun w1 h => h.1) rfl ?_
            try simp only [Act.put, List.setIfInBounds_toArray, List.set_cons_succ, List.set_cons_zero]
            refine wpYJd_op 129 (.slice (some ⟨tg, 0, none⟩) m tc) rfl rfl rfl (fun w1 h => by go_simp) ?_
            refine wpYJd_op 130 (.pointer (some ⟨tg, 0, none⟩)) rfl rfl rfl (fun w1 h => by go_simp) ?_
            refine wpYJd_op 131 (.pointer (some ⟨tg, 64, none⟩)) rfl rfl rfl (fun w1 h => by go_simp) ?_
            refine wpYJd_op 132 (.int .i64 x0.n) rfl rfl rfl (fun w1 h => by have c0 := h.2; go_simp) ?_
            show wpX _ _ _ _ _ _ _
            try simp only [Act.put, List.setIfInBounds_toArray, List.set_cons_succ, List.set_cons_zero]
            refine wpX_of (⟨(sv_pub0 (by first | exact (K5 _ _ M1).1.2.ow.sv | exact (K6 _ _ M1).1.2.ow.sv) HX0.out), (sv_n0 (by first | exact (K5 _ _ M1).1.2.ow.sv | exact (K6 _ _ M1).1.2.ow.sv) HX0.out)⟩) ?_
            refine wpT_obj (U := Value) (fun v6 => .int .i64 q5) (fun v6 g => (SF b v g ∨ SF c.1 v6 g) ∨ obk (.slice (some ⟨tg, 0, none⟩) m tc) = some g) (fun v6 => fun w => YA w B b L v c.1 L6 v6 ∧ WF (SF c.1 v6) w B (.slice (some ⟨tg, 0, none⟩) m tc) m L) (some 133) M1 K5 F5 rfl rfl rfl (by go_simp) (fun hX => sdrop_y w2 hX (by omega) x0.pub x0.n HDR.out) (fun v6 => (YA.stb _ _ _ _ _ _ _).and (WF.stb _ _ _ _ _)) (fun v6 w6 Sw6 Mw6 K6 F6 => ?_)
            refine wpX_to ?_
            try simp only [Act.put, List.setIfInBounds_toArray, List.set_cons_succ, List.set_cons_zero]
            refine ⟨(⟨(sv_pub0 (by first | exact (K5 _ _ Mw6).1.2.ow.sv | exact (K6 _ _ Mw6).1.2.ow.sv) HX0.out), (sv_n0 (by first | exact (K5 _ _ Mw6).1.2.ow.sv | exact (K6 _ _ Mw6).1.2.ow.sv) HX0.out)⟩), ?_⟩
            try simp only [Act.put, List.setIfInBounds_toArray, List.set_cons_succ, List.set_cons_zero]
            go_upto_region 24 with fail
            refine wp_region_lin (.op 0 (.op 1 (.op 2 (.op 3 (.op 4 (.op 5 (.op 6 (.op 7 .done)))))))) (by rfl) ?_
            refine wpT_valp 134 (v := .pointer (some ⟨c.1, 0, none⟩)) rfl rfl rfl (by go_simp) ?_
            refine wpT_valp 135 (v := .pointer (some ⟨w.heap.size, 1, none⟩)) rfl rfl rfl (by go_simp) ?_
            refine wpT_ldm 136 Try.underlying28 rfl inf_key (w.heap.size) 1 (ACS q p e (.slice ka kn kc)) (cs U8 p.l) rfl rfl rfl (by go_simp) (Mw6.row (b := w.heap.size) (c := ACS q p e (.slice ka kn kc)) (by simp)) (by simp [Ky.len, ENR_size, RSR_size, STR_size, ACS_size]) (as_p1) rfl ?_
            refine wpT_valp 137 (v := .pointer (some ⟨w.heap.size, 33, none⟩)) rfl rfl rfl (by go_simp) ?_
            try simp only [Act.put, List.setIfInBounds_toArray, List.set_cons_succ, List.set_cons_zero]
            refine wpT_valp 138 (v := .int .i64 e) rfl rfl rfl (by have c0 := as_c33 (Mw6.row (b := w.heap.size) (c := ACS q p e (.slice ka kn kc)) (by simp)); go_simp) ?_
            refine wpT_valp 139 (v := .pointer (some ⟨w.heap.size, 34, none⟩)) rfl rfl rfl (by go_simp) ?_
            refine wpT_valp 140 (v := .slice ka kn kc) rfl rfl rfl (by have c0 := as_c34 (Mw6.row (b := w.heap.size) (c := ACS q p e (.slice ka kn kc)) (by simp)); go_simp) ?_
            refine wpT_obj (U := Value) (fun v7 => .int .i64 q7) (fun v7 g => (SF b v g ∨ SF c.1 v7 g) ∨ obk (.slice (some ⟨tg, 0, none⟩) m tc) = some g) (fun v7 => fun w => YA w B b L v c.1 L7 v7 ∧ WF (SF c.1 v7) w B (.slice (some ⟨tg, 0, none⟩) m tc) m L) (some 141) Mw6 K6 F6 rfl rfl rfl (by go_simp) (fun hX => sput_y w6 hX (by omega) p e (SV.below HKS.out (K6 _ _ Mw6).2.1.end_) HKL.out HPU.out) (fun v7 => (YA.stb _ _ _ _ _ _ _).and (WF.stb _ _ _ _ _)) (fun v7 w7 Sw7 Mw7 K7 F7 => ?_)
            first | dsimp only [wpT] | refine wpT_fin ?_
            try simp only [Act.put, List.setIfInBounds_toArray, List.set_cons_succ, List.set_cons_zero]
            go_upto_region 25 with fail
            refine wp_region_lin (.op 0 (.op 1 (.op 2 .done))) (by rfl) ?_
            refine wpT_valp 142 (v := .pointer (some ⟨b, 0, none⟩)) rfl rfl rfl (by go_simp) ?_
            refine wpT_objN (U := Value) (fun u => u) (fun u g => obk u = some g) (fun u w => WF (fun g => SF b v g ∨ obk (.slice (some ⟨tg, 0, none⟩) m tc) = some g) w B u m L) (some 143) Mw7 K7 F7 ((YA.stb _ _ _ _ _ _ _).and (WF.stb _ _ _ _ _)) rfl rfl rfl (by go_simp) (fun hX => sall_w _ hX.1.so hX.2.ow (by decide) (by omega) HLM.out) (fun u => WF.stb _ _ _ _ _) (fun u8 w8 S8 M8 K8 F8 => ?_)
            refine wpT_valp 13 (v := u8) rfl rfl rfl (by go_simp) ?_
            first | dsimp only [wpT] | refine wpT_fin ?_
            try simp only [Act.put, List.setIfInBounds_toArray, List.set_cons_succ, List.set_cons_zero]
            go_upto_region 26 with fail
            obtain ⟨xa8, xc8, rfl, _⟩ := (K8 _ _ M8).1.2.ow.shape
            refine wp_region_lin (.op 0 (.op 1 (.op 2 .done))) (by rfl) ?_
            refine wpT_valp 144 (v := .slice xa8 m xc8) rfl rfl rfl (by go_simp) ?_
            refine wpT_valp 145 (v := .int .i64 m) rfl rfl rfl (by go_simp) ?_
            refine wpT_valp 146 (v := .int .i64 0) rfl rfl rfl (by go_simp) ?_
            first | dsimp only [wpT] | refine wpT_fin ?_
            try simp only [Act.put, List.setIfInBounds_toArray, List.set_cons_succ, List.set_cons_zero]
            go_wp2_with fail
            obtain ⟨hX8, MO8, hd8⟩ := K8 _ _ M8
            obtain ⟨xg, c8, cur, R8, MR8⟩ := MO8.reown hX8.2.ow hm0 (fun g hg => ⟨F8 g (.inr hg), fun q hq e => hd8 q hq (by rw [e]; exact .inr hg)⟩)
            have hR8v := R8.v
            injection hR8v with e1 e2 e3
            subst e1
            subst e3
            have HNX := hid (show ∀ g, (SF b v g ∨ obk (.slice (some ⟨tg, 0, none⟩) m tc) = some g) → g ≠ xg from fun g h1 e => hX8.2.dj g h1 (by rw [R8.ob, e]))
            have HS8 := hX8.1.1.so
            have HT8 := hX8.1.2.ow
            have hsz8 := R8.sz
            have HNC := hid R8.nc
            have MR9 := MR8.sub (H' := [(xg, cur)]) (by simp)
            clear hX8 MO8 hd8 K8 F8 R8 MR8 M8 K7 F7 K6 F6 K5 F5
            go_loopw [146] (fun x wr => ∃ (i : Nat) (cur : Array Value), i ≤ m ∧ x = .int .i64 i ∧ cur.size = xc8 * 65 ∧ Mm no w [(xg, cur)] wr ∧ SO wr B b 1000 L v ∧ Ow wr B 65 (.slice (some ⟨tg, 0, none⟩) m tc) m (fl eE L)) (fun x _ => m - (intOf x).toNat)
            case atStart => exact ⟨0, cur, by omega, rfl, hsz8, MR9, HS8, HT8⟩
            case round =>
              clear MR9 HS8 HT8 hsz8
              obtain ⟨i, cur, hi, rfl, hsz, MO, RS, RT⟩ := hrel
              by_cases him : i < m
              · have hlt : (i : Int) < (m : Int) := by omega
                have hi00 : (0 : Int) ≤ (i : Int) := by omega
                have HSZ := hid (show i * 65 + 64 < cur.size by have := HNC.out; omega)
                have hsz2 := hid hsz
                obtain ⟨i1, hi1⟩ : ∃ j, j = i + 1 := ⟨_, rfl⟩
                have HI1 := hid (show IntKind.i64.wrap ((i : Int) + 1) = (i1 : Int) by rw [i64w (by omega) (by omega), hi1]; rfl)
                have HII := hid hi1
                obtain ⟨S1, M, hS1, hT1⟩ := MO.rebase
                clear hi1 hsz MO
                go_upto_region 27 with fail
                refine wp_region_lin (.op 0 .done) (by rfl) ?_
                refine wpT_valp 147 (v := .bool true) rfl rfl rfl (by go_simp) ?_
                first | dsimp only [wpT] | refine wpT_fin ?_
                try simp only [Act.put, List.setIfInBounds_toArray, List.set_cons_succ, List.set_cons_zero]
                go_upto_region 28 with fail
                refine wp_region_lin (.op 0 (.op 1 .done)) (by rfl) ?_
                refine wpT_valp 148 (v := .int .i64 i) rfl rfl rfl (by go_simp) ?_
                refine wpT_valp 14 (v := .int .i64 i) rfl rfl rfl (by go_simp) ?_
                first | dsimp only [wpT] | refine wpT_fin ?_
                try simp only [Act.put, List.setIfInBounds_toArray, List.set_cons_succ, List.set_cons_zero]
                go_upto_region 29 with fail
                refine wp_region_lin (.op 0 (.op 1 (.op 2 (.op 3 (.op 4 .done))))) (by rfl) ?_
                refine wpT_valp 149 (v := .slice (some ⟨xg, 0, none⟩) m xc8) rfl rfl rfl (by go_simp) ?_
                refine wpT_valp 150 (v := .int .i64 i) rfl rfl rfl (by go_simp) ?_
                refine wpT_valp 151 (v := .pointer (some ⟨xg, i * 65, none⟩)) rfl rfl rfl (by go_simp) ?_
                refine wpT_valp 152 (v := .pointer (some ⟨xg, i * 65 + 64, none⟩)) rfl rfl rfl (by go_simp) ?_
                try simp only [Act.put, List.setIfInBounds_toArray, List.set_cons_succ, List.set_cons_zero]
                refine wpT_stc M 0 (.int .i64 (-5)) (cur.setIfInBounds (i * 65 + 64) (.int .i64 (-5))) inf_int rfl rfl rfl rfl (by go_simp) (by go_simp) (by have := HSZ.out; omega) (by simp [go_sem]) rfl rfl (fun ws MS => ?_)
                dsimp only [List.set] at MS
                first | dsimp only [wpT] | refine wpT_fin ?_
                try simp only [Act.put, List.setIfInBounds_toArray, List.set_cons_succ, List.set_cons_zero]
                go_upto_region 30 with fail
                refine wp_region_lin (.op 0 (.op 1 .done)) (by rfl) ?_
                refine wpT_valp 153 (v := .int .i64 i1) rfl rfl rfl (by have h := HI1.out; go_simp) ?_
                refine wpT_valp 146 (v := .int .i64 i1) rfl rfl rfl (by go_simp) ?_
                first | dsimp only [wpT] | refine wpT_fin ?_
                try simp only [Act.put, List.setIfInBounds_toArray, List.set_cons_succ, List.set_cons_zero]
                go_wp2_with fail
                go_roundw
                case rel =>
                  have hno : ∀ g, (SF b v g ∨ obk (.slice (some ⟨tg, 0, none⟩) m tc) = some g) → ¬ S1 g := fun g h1 h2 => HNX.out g h1 (by have := hS1 g h2; simpa using this)
                  exact ⟨i1, _, by have := HII.out; omega, rfl, by simp [hsz2.out], hT1 _ _ MS, RS.fr MS.fr (fun g h => hno g (.inl h)), RT.fr MS.fr (fun g h => hno g (.inr h))⟩
                case measure => have := HII.out; simp only [intOf]; omega
              · obtain rfl : m = i := by omega
                obtain ⟨S9, M, K9⟩ := (MO.sub (H' := []) (by simp)).keep ((SO.stb B b 1000 L v).and (Stb.ow B 65 (.slice (some ⟨tg, 0, none⟩) m tc) m (fl eE L))) ⟨RS, RT⟩ (fun q hq => by cases hq)
                have F9 : ∀ g, (SF b v g ∨ obk (.slice (some ⟨tg, 0, none⟩) m tc) = some g) → no g ∨ w.heap.size ≤ g := fun g h => .inr (by rw [← HB.out]; exact h.elim (fun h => (RS.lt g h).1) (fun h => (RT.at_ g h).1))
                clear MO RS RT hsz
                go_upto_region 27 with fail
                refine wp_region_lin (.op 0 .done) (by rfl) ?_
                refine wpT_valp 147 (v := .bool false) rfl rfl rfl (by go_simp) ?_
                first | dsimp only [wpT] | refine wpT_fin ?_
                try simp only [Act.put, List.setIfInBounds_toArray, List.set_cons_succ, List.set_cons_zero]
                go_upto_region 31 with fail
                refine wp_region_lin (.op 0 (.op 1 (.op 2 (.op 3 (.op 4 (.op 5 .done)))))) (by rfl) ?_
                refine wpT_valp 154 (v := .pointer (some ⟨b, 0, none⟩)) rfl rfl rfl (by go_simp) ?_
                refine wpT_objN (U := Value) (fun u => u) (fun u g => obk u = some g) (fun u w => Ow w B 65 u m (fl eE L)) (some 155) M K9 F9 ((SO.stb _ _ _ _ _).and (Stb.ow _ _ _ _ _)) rfl rfl rfl (by go_simp) (fun hX => sall_e2 _ hX.1 (by decide) (by omega) HLM.out) (fun u => Stb.ow _ _ _ _ _) (fun u10 w10 S10 M10 K10 F10 => ?_)
                refine wpT_objN (U := Value) (fun u => u) (fun u g => obk u = some g) (fun u w => Ow w B 65 u m (fl eE L)) (some 156) M10 K10 F10 (((SO.stb _ _ _ _ _).and (Stb.ow _ _ _ _ _)).and (Stb.ow _ _ _ _ _)) rfl rfl rfl (by go_simp) (fun hX => ours_x _ hX.2 HLM.out (by omega) hX.1.1.Bw) (fun u => Stb.ow _ _ _ _ _) (fun u11 w11 S11 M11 K11 F11 => ?_)
                refine wpT_valp 157 (v := .slice (some ⟨tg, 0, none⟩) m tc) rfl rfl rfl (by go_simp) ?_
                try simp only [Act.put, List.setIfInBounds_toArray, List.set_cons_succ, List.set_cons_zero]
                refine wpT_callv 158 M11 (v := .bool true) rfl rfl rfl (by go_simp) (rsame_c w11 _ _ m L (K11 _ _ M11).1.2.sv (K11 _ _ M11).1.1.1.2.sv HLM.out) (fun w1 M2 => ?_)
                refine wpT_valp 4 (v := .bool true) rfl rfl rfl (by go_simp) ?_
                first | dsimp only [wpT] | refine wpT_fin ?_
                try simp only [Act.put, List.setIfInBounds_toArray, List.set_cons_succ, List.set_cons_zero]
                go_wp2_with fail
                go_ret
                exact ⟨rfl, (K11 _ _ M2).2.1.end_⟩
          · have hmz : ¬ (0 : Int) < (m : Int) := by omega
            obtain ⟨⟨L7, q7⟩, hpu⟩ : ∃ z, Sk.put (1000 : Int).toNat L p e ks = z := ⟨_, rfl⟩
            have HPU := hid hpu
            clear hpu
            go_upto_region 14 with fail
            refine wp_region_lin (.op 0 (.op 1 (.op 2 (.op 3 (.op 4 (.op 5 (.op 6 (.op 7 .done)))))))) (by rfl) ?_
            refine wpT_valp 80 (v := .int .i64 i) rfl rfl rfl (by go_simp) ?_
            refine wpT_valp 81 (v := .slice ua n uc) rfl rfl rfl (by go_simp) ?_
            refine wpT_valp 82 (v := .int .i64 n) rfl rfl rfl (by go_simp) ?_
            refine wpT_valp 83 (v := .bool false) rfl rfl rfl (by go_simp) ?_
            try simp only [Act.put, List.setIfInBounds_toArray, List.set_cons_succ, List.set_cons_zero]
            refine wpT_valp 84 (v := .bool false) rfl rfl rfl (by go_simp) ?_
            refine wpT_unx 85 rfl rfl (by simp [Region.wanted, yielded, Act.put]) ?_
            try simp only [Act.put, List.setIfInBounds_toArray, List.set_cons_succ, List.set_cons_zero]
            refine wpT_unx 86 rfl rfl (by simp [Region.wanted, yielded, Act.put]) ?_
            try simp only [Act.put, List.setIfInBounds_toArray, List.set_cons_succ, List.set_cons_zero]
            refine wpT_valp 87 (v := .bool false) rfl rfl rfl (by go_simp) ?_
            first | dsimp only [wpT] | refine wpT_fin ?_
            try simp only [Act.put, List.setIfInBounds_toArray, List.set_cons_succ, List.set_cons_zero]
            go_upto_region 18 with fail
            refine wp_region_lin (.op 0 (.op 1 (.op 2 .done))) (by rfl) ?_
            refine wpT_valp 114 (v := .pointer (some ⟨b, 0, none⟩)) rfl rfl rfl (by go_simp) ?_
            refine wpT_obj (U := Nat × Value) (fun c => .pointer (some ⟨c.1, 0, none⟩)) (fun c g => SF b v g ∨ SF c.1 c.2 g) (fun c w => YA w B b L v c.1 L c.2) (some 115) M K0 F0 rfl rfl rfl (by go_simp) (fun hX => sclo_y _ hX (by decide) (by omega)) (fun c => YA.stb _ _ _ _ _ _ _) (fun c w2 S2 M2 K2 F2 => ?_)
            refine wpT_valp 11 (v := .pointer (some ⟨c.1, 0, none⟩)) rfl rfl rfl (by go_simp) ?_
            first | dsimp only [wpT] | refine wpT_fin ?_
            try simp only [Act.put, List.setIfInBounds_toArray, List.set_cons_succ, List.set_cons_zero]
            go_upto_region 19 with fail
            refine wp_region_lin (.op 0 (.op 1 .done)) (by rfl) ?_
            refine wpT_valp 116 (v := .pointer (some ⟨c.1, 0, none⟩)) rfl rfl rfl (by go_simp) ?_
            refine wpT_valp 117 (v := .bool false) rfl rfl rfl (by go_simp) ?_
            first | dsimp only [wpT] | refine wpT_fin ?_
            try simp only [Act.put, List.setIfInBounds_toArray, List.set_cons_succ, List.set_cons_zero]
            go_upto_region 21 with fail
            refine wp_region_lin (.op 0 (.op 1 (.op 2 (.op 3 .done)))) (by rfl) ?_
            refine wpT_valp 118 (v := .pointer (some ⟨b, 0, none⟩)) rfl rfl rfl (by go_simp) ?_
            refine wpT_objN (U := Value) (fun u => u) (fun u g => obk u = some g) (fun u w => Ow w B 65 u m (fl eE L)) (some 119) M2 K2 F2 (YA.stb _ _ _ _ _ _ _) rfl rfl rfl (by go_simp) (fun hX => sall_e2 _ hX.so (by decide) (by omega) HLM.out) (fun u => Stb.ow _ _ _ _ _) (fun u3 w3 S3 M3 K3 F3 => ?_)
            refine wpT_objN (U := Value) (fun u => u) (fun u g => obk u = some g) (fun u w => WF (SF c.1 c.2) w B u m L) (some 120) M3 K3 F3 ((YA.stb _ _ _ _ _ _ _).and (Stb.ow _ _ _ _ _)) rfl rfl rfl (by go_simp) (fun hX => ours_w _ hX.2 HLM.out (by omega) hX.1) (fun u => WF.stb _ _ _ _ _) (fun u4 w4 S4 M4 K4 F4 => ?_)
            refine wpT_valp 12 (v := u4) rfl rfl rfl (by go_simp) ?_
            first | dsimp only [wpT] | refine wpT_fin ?_
            try simp only [Act.put, List.setIfInBounds_toArray, List.set_cons_succ, List.set_cons_zero]
            go_upto_region 22 with fail
            obtain ⟨hX4, MO4, hd4⟩ := K4 _ _ M4
            obtain ⟨S5, M5, K5⟩ := MO4.keep ((YA.stb B b L v c.1 L c.2).and (WF.stb (SF c.1 c.2) B u4 m L)) ⟨hX4.1.1, hX4.2⟩ (fun q hq h => hd4 q hq (h.elim (fun h => .inl (.inl h)) .inr))
            have F5 : ∀ g, ((SF b v g ∨ SF c.1 c.2 g) ∨ obk u4 = some g) → no g ∨ w.heap.size ≤ g := fun g h => F4 g (h.elim (fun h => .inl (.inl h)) .inr)
            obtain ⟨ta, tc, hta, _⟩ := hX4.2.ow.shape
            subst hta
            clear hX4 MO4 hd4 K4 F4 K3 F3 K2 F2
            refine wp_region_lin (.op 0 (.op 1 (.op 2 .done))) (by rfl) ?_
            refine wpT_valp 121 (v := .slice ta m tc) rfl rfl rfl (by go_simp) ?_
            refine wpT_valp 122 (v := .int .i64 m) rfl rfl rfl (by go_simp) ?_
            refine wpT_valp 123 (v := .bool false) rfl rfl rfl (by go_simp) ?_
            first | dsimp only [wpT] | refine wpT_fin ?_
            try simp only [Act.put, List.setIfInBounds_toArray, List.set_cons_succ, List.set_cons_zero]
            go_upto_region 24 with fail
            refine wp_region_lin (.op 0 (.op 1 (.op 2 (.op 3 (.op 4 (.op 5 (.op 6 (.op 7 .done)))))))) (by rfl) ?_
            refine wpT_valp 134 (v := .pointer (some ⟨c.1, 0, none⟩)) rfl rfl rfl (by go_simp) ?_
            refine wpT_valp 135 (v := .pointer (some ⟨w.heap.size, 1, none⟩)) rfl rfl rfl (by go_simp) ?_
            refine wpT_ldm 136 Try.underlying28 rfl inf_key (w.heap.size) 1 (ACS q p e (.slice ka kn kc)) (cs U8 p.l) rfl rfl rfl (by go_simp) (M5.row (b := w.heap.size) (c := ACS q p e (.slice ka kn kc)) (by simp)) (by simp [Ky.len, ENR_size, RSR_size, STR_size, ACS_size]) (as_p1) rfl ?_
            refine wpT_valp 137 (v := .pointer (some ⟨w.heap.size, 33, none⟩)) rfl rfl rfl (by go_simp) ?_
            try simp only [Act.put, List.setIfInBounds_toArray, List.set_cons_succ, List.set_cons_zero]
            refine wpT_valp 138 (v := .int .i64 e) rfl rfl rfl (by have c0 := as_c33 (M5.row (b := w.heap.size) (c := ACS q p e (.slice ka kn kc)) (by simp)); go_simp) ?_
            refine wpT_valp 139 (v := .pointer (some ⟨w.heap.size, 34, none⟩)) rfl rfl rfl (by go_simp) ?_
            refine wpT_valp 140 (v := .slice ka kn kc) rfl rfl rfl (by have c0 := as_c34 (M5.row (b := w.heap.size) (c := ACS q p e (.slice ka kn kc)) (by simp)); go_simp) ?_
            refine wpT_obj (U := Value) (fun v7 => .int .i64 q7) (fun v7 g => (SF b v g ∨ SF c.1 v7 g) ∨ obk (.slice ta m tc) = some g) (fun v7 => fun w => YA w B b L v c.1 L7 v7 ∧ WF (SF c.1 v7) w B (.slice ta m tc) m L) (some 141) M5 K5 F5 rfl rfl rfl (by go_simp) (fun hX => sput_y w4 hX (by omega) p e (SV.below HKS.out (K5 _ _ M5).2.1.end_) HKL.out HPU.out) (fun v7 => (YA.stb _ _ _ _ _ _ _).and (WF.stb _ _ _ _ _)) (fun v7 w7 Sw7 Mw7 K7 F7 => ?_)
            first | dsimp only [wpT] | refine wpT_fin ?_
            try simp only [Act.put, List.setIfInBounds_toArray, List.set_cons_succ, List.set_cons_zero]
            go_upto_region 25 with fail
            refine wp_region_lin (.op 0 (.op 1 (.op 2 .done))) (by rfl) ?_
            refine wpT_valp 142 (v := .pointer (some ⟨b, 0, none⟩)) rfl rfl rfl (by go_simp) ?_
            refine wpT_objN (U := Value) (fun u => u) (fun u g => obk u = some g) (fun u w => WF (fun g => SF b v g ∨ obk (.slice ta m tc) = some g) w B u m L) (some 143) Mw7 K7 F7 ((YA.stb _ _ _ _ _ _ _).and (WF.stb _ _ _ _ _)) rfl rfl rfl (by go_simp) (fun hX => sall_w _ hX.1.so hX.2.ow (by decide) (by omega) HLM.out) (fun u => WF.stb _ _ _ _ _) (fun u8 w8 S8 M8 K8 F8 => ?_)
            refine wpT_valp 13 (v := u8) rfl rfl rfl (by go_simp) ?_
            first | dsimp only [wpT] | refine wpT_fin ?_
            try simp only [Act.put, List.setIfInBounds_toArray, List.set_cons_succ, List.set_cons_zero]
            go_upto_region 26 with fail
            obtain ⟨xa8, xc8, rfl, _⟩ := (K8 _ _ M8).1.2.ow.shape
            refine wp_region_lin (.op 0 (.op 1 (.op 2 .done))) (by rfl) ?_
            refine wpT_valp 144 (v := .slice xa8 m xc8) rfl rfl rfl (by go_simp) ?_
            refine wpT_valp 145 (v := .int .i64 m) rfl rfl rfl (by go_simp) ?_
            refine wpT_valp 146 (v := .int .i64 0) rfl rfl rfl (by go_simp) ?_
            first | dsimp only [wpT] | refine wpT_fin ?_
            try simp only [Act.put, List.setIfInBounds_toArray, List.set_cons_succ, List.set_cons_zero]
            go_wp2_with fail
            obtain ⟨hX8, MO8, hd8⟩ := K8 _ _ M8
            have HS8 := hX8.1.1.so
            have HT8 := hX8.1.2.ow
            have MR9 := MO8.sub (H' := []) (by simp)
            clear hX8 MO8 hd8 K8 F8 M8 K7 F7 K5 F5
            go_loopw [146] (fun x wr => x = .int .i64 m ∧ Mm no w [] wr ∧ SO wr B b 1000 L v ∧ Ow wr B 65 (.slice ta m tc) m (fl eE L)) (fun x _ => 0)
            case atStart => exact ⟨by rw [show m = 0 by omega]; rfl, MR9, HS8, HT8⟩
            case round =>
              clear MR9 HS8 HT8
              obtain ⟨rfl, MO, RS, RT⟩ := hrel
              obtain ⟨S9, M, K9⟩ := MO.keep ((SO.stb B b 1000 L v).and (Stb.ow B 65 (.slice ta m tc) m (fl eE L))) ⟨RS, RT⟩ (fun q hq => by cases hq)
              have F9 : ∀ g, (SF b v g ∨ obk (.slice ta m tc) = some g) → no g ∨ w.heap.size ≤ g := fun g h => .inr (by rw [← HB.out]; exact h.elim (fun h => (RS.lt g h).1) (fun h => (RT.at_ g h).1))
              clear MO RS RT
              go_upto_region 27 with fail
              refine wp_region_lin (.op 0 .done) (by rfl) ?_
              refine wpT_valp 147 (v := .bool false) rfl rfl rfl (by go_simp) ?_
              first | dsimp only [wpT] | refine wpT_fin ?_
              try simp only [Act.put, List.setIfInBounds_toArray, List.set_cons_succ, List.set_cons_zero]
              go_upto_region 31 with fail
              refine wp_region_lin (.op 0 (.op 1 (.op 2 (.op 3 (.op 4 (.op 5 .done)))))) (by rfl) ?_
              refine wpT_valp 154 (v := .pointer (some ⟨b, 0, none⟩)) rfl rfl rfl (by go_simp) ?_
              refine wpT_objN (U := Value) (fun u => u) (fun u g => obk u = some g) (fun u w => Ow w B 65 u m (fl eE L)) (some 155) M K9 F9 ((SO.stb _ _ _ _ _).and (Stb.ow _ _ _ _ _)) rfl rfl rfl (by go_simp) (fun hX => sall_e2 _ hX.1 (by decide) (by omega) HLM.out) (fun u => Stb.ow _ _ _ _ _) (fun u10 w10 S10 M10 K10 F10 => ?_)
              refine wpT_objN (U := Value) (fun u => u) (fun u g => obk u = some g) (fun u w => Ow w B 65 u m (fl eE L)) (some 156) M10 K10 F10 (((SO.stb _ _ _ _ _).and (Stb.ow _ _ _ _ _)).and (Stb.ow _ _ _ _ _)) rfl rfl rfl (by go_simp) (fun hX => ours_x _ hX.2 HLM.out (by omega) hX.1.1.Bw) (fun u => Stb.ow _ _ _ _ _) (fun u11 w11 S11 M11 K11 F11 => ?_)
              refine wpT_valp 157 (v := .slice ta m tc) rfl rfl rfl (by go_simp) ?_
              try simp only [Act.put, List.setIfInBounds_toArray, List.set_cons_succ, List.set_cons_zero]
              refine wpT_callv 158 M11 (v := .bool true) rfl rfl rfl (by go_simp) (rsame_c w11 _ _ m L (K11 _ _ M11).1.2.sv (K11 _ _ M11).1.1.1.2.sv HLM.out) (fun w1 M2 => ?_)
              refine wpT_valp 4 (v := .bool true) rfl rfl rfl (by go_simp) ?_
              first | dsimp only [wpT] | refine wpT_fin ?_
              try simp only [Act.put, List.setIfInBounds_toArray, List.set_cons_succ, List.set_cons_zero]
              go_wp2_with fail
              go_ret
              exact ⟨rfl, (K11 _ _ M2).2.1.end_⟩
end Go.Proofs.Ytojkcbhmhfjioaa
