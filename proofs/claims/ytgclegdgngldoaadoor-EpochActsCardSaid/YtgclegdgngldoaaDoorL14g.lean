/-
  Law 14: equal; own work.
-/
import Derived.Test.YtgclegdgngldoaaDoorR14b
import Derived.Test.YtgclegdgngldoaaDoorR14c
import Derived.Test.YtgclegdgngldoaaDoorXtra
set_option linter.unusedSimpArgs false
set_option linter.unusedVariables false
namespace Go.Proofs.YtgclegdgngldoaaDoor
open Go.RowKit Fp
attribute [local irreducible] ESL EPS ROR RSL
set_option maxRecDepth 100000 in
set_option maxHeartbeats 8000000 in
theorem equal_c (w : World) (B b : Nat) (k : L8) (L : List Ep.Sl) (t0 t : Nat) (v : Value) (g n c1 : Nat) (R : RO w B b k L t0 v) (hV : SV w (.slice (some ⟨g, 0, none⟩) n c1) n (fl e2 L)) (hn : L.length = n) (h9 : n ≤ 800) (hmd : ∀ s ∈ L, s.made ≤ 1099511627776) (hT : KT w ∧ 0 < w.heap.size) :
    Calls Tryd.prog 29 #[.pointer (some ⟨b, 0, none⟩), .agg (ROR k (.slice (some ⟨g, 0, none⟩) n c1) t)] w fun e w' => e = .returned (.bool true) ∧ Below w.heap.size w w' := by
  have hk := R.kl
  have h0 := R.l0
  rw [hn] at h0
  obtain ⟨a1, hLa⟩ : ∃ a, L[0]? = some a := ⟨_, List.getElem?_eq_getElem (by omega)⟩
  have HR := hid R
  have HN := hid hn
  have HV := hid hV
  have HMD := hid hmd
  have HA1 := hid hLa
  have HC0 : Hid (∀ w', Below w.heap.size w w' → w'.cell? ⟨g, 0, none⟩ = some (.int .i64 a1.gen)) := hid fun w' h => by
    have := sv_cell e2_len (SV.below hV h) hLa (j := 0) (by decide)
    simp only [Nat.zero_mul, Nat.add_zero, Nat.zero_add] at this
    rw [this]; exact e2_0 a1
  have hn1 : (0 : Int) < (n : Int) := by omega
  have hn2 : ¬ n = 0 := by omega
  clear R hV hn hmd hT hLa
  have M0 := Mm.start no w
  go_enter Tryd.func29, Tryd.ntmps29
  have M2 := (M0.alloc (ROR k (.slice (some ⟨g, 0, none⟩) n c1) t) 49 (by decide))
  try simp only [World.size_alloc] at M2
  go_upto_region 1 with fail
  obtain ⟨w1, hw1⟩ : ∃ w1, w1 = (w.alloc (.cells (ROR k (.slice (some ⟨g, 0, none⟩) n c1) t) 49)) := ⟨_, rfl⟩
  rw [← hw1] at M2 ⊢
  clear hw1
  refine wp_region_lin (.op 0 (.op 1 (.op 2 .done))) (by rfl) ?_
  refine wpT_valp 10 (v := .pointer (some ⟨b, 0, none⟩)) rfl rfl rfl (by go_simp) ?_
  refine wpT_ownr 11 M2 rfl rfl rfl (by go_simp) (open_ep (n := n) (HR.out.below M2.end_) (by omega) HN.out) (by omega) (fun gl cl curl wgl Rl Mgl => ?_)
  refine wpT_valp 5 (v := .slice (some ⟨gl, 0, none⟩) n cl) rfl rfl rfl (by go_simp) ?_
  dsimp only [wpT]
  try simp only [Act.put, List.setIfInBounds_toArray, List.set_cons_succ, List.set_cons_zero]
  go_upto_region 2 with fail
  refine wp_region_lin (.op 0 (.op 1 (.op 2 (.op 3 (.op 4 (.op 5 .done)))))) (by rfl) ?_
  refine wpT_valp 12 (v := .slice (some ⟨gl, 0, none⟩) n cl) rfl rfl rfl (by go_simp) ?_
  refine wpT_valp 13 (v := .int .i64 n) rfl rfl rfl (by go_simp) ?_
  refine wpT_valp 14 (v := .pointer (some ⟨w.heap.size, 32, none⟩)) rfl rfl rfl (by go_simp) ?_
  refine wpT_valp 15 (v := .slice (some ⟨g, 0, none⟩) n c1) rfl rfl rfl (by have c0 := (ror_c32 hk) (Mgl.row (b := w.heap.size) (c := ROR k (.slice (some ⟨g, 0, none⟩) n c1) t) (by simp)); go_simp) ?_
  try simp only [Act.put, List.setIfInBounds_toArray, List.set_cons_succ, List.set_cons_zero]
  refine wpT_valp 16 (v := .int .i64 n) rfl rfl rfl (by go_simp) ?_
  refine wpT_valp 17 (v := .bool false) rfl rfl rfl (by go_simp) ?_
  dsimp only [wpT]
  try simp only [Act.put, List.setIfInBounds_toArray, List.set_cons_succ, List.set_cons_zero]
  go_upto_region 4 with fail
  refine wp_region_lin (.op 0 (.op 1 (.op 2 .done))) (by rfl) ?_
  refine wpT_valp 18 (v := .slice (some ⟨gl, 0, none⟩) n cl) rfl rfl rfl (by go_simp) ?_
  refine wpT_valp 19 (v := .int .i64 n) rfl rfl rfl (by go_simp) ?_
  refine wpT_valp 20 (v := .int .i64 0) rfl rfl rfl (by go_simp) ?_
  dsimp only [wpT]
  try simp only [Act.put, List.setIfInBounds_toArray, List.set_cons_succ, List.set_cons_zero]
  go_wp2_with fail
  have HPP : Hid (∀ H w', Mm no w H w' → (gl, curl) ∈ H → exLoad Tryd.prog 23 (.pointer (some ⟨gl, 34, none⟩)) w' = .ok (.value (.agg (cs U8 (Ep.pub k a1.gen)))) w') := hid fun H w' M hm => by
    have := p66 Tryd.underlying23 rfl inf_key Rl M hm HN.out 0 HA1.out 34 (by decide) (cs U8 (Ep.pub k a1.gen)) (e66_pub k _)
    simpa using this
  go_loopw [20] (fun x wr => ∃ i : Nat, i ≤ n ∧ x = .int .i64 i ∧ Mm no w [(gl, curl), (w.heap.size, ROR k (.slice (some ⟨g, 0, none⟩) n c1) t)] wr) (fun x _ => n - (intOf x).toNat)
  case atStart => exact ⟨0, by omega, rfl, Mgl⟩
  case round =>
    clear Mgl
    obtain ⟨i, hi, rfl, M⟩ := hrel
    by_cases hin : i < n
    · have hlt : (i : Int) < (n : Int) := by omega
      have hi0 : (0 : Int) ≤ (i : Int) := by omega
      obtain ⟨s, hs⟩ : ∃ s, L[i]? = some s := ⟨_, List.getElem?_eq_getElem (by have := HN.out; omega)⟩
      have HEL := el66 (S := no) (w0 := w) Rl HN.out hs
      have HCG : Hid (∀ w', Below w.heap.size w w' → w'.cell? ⟨g, i * 2, none⟩ = some (.int .i64 s.gen)) := hid fun w' h => by
        have := sv_cell e2_len (SV.below HV.out h) hs (j := 0) (by decide)
        rw [Nat.zero_add, Nat.add_zero] at this
        rw [this]; exact e2_0 s
      have HCM : Hid (∀ w', Below w.heap.size w w' → w'.cell? ⟨g, i * 2 + 1, none⟩ = some (.int .i64 s.made)) := hid fun w' h => by
        have := sv_cell e2_len (SV.below HV.out h) hs (j := 1) (by decide)
        rw [Nat.zero_add] at this
        rw [this]; exact e2_1 s
      have HSM := hid (HMD.out s (List.mem_of_getElem? hs))
      clear hs
      go_upto_region 6 with fail
      refine wp_region_lin (.op 0 (.op 1 (.op 2 (.op 3 (.op 4 (.op 5 .done)))))) (by rfl) ?_
      refine wpT_valp 22 (v := .int .i64 i) rfl rfl rfl (by go_simp) ?_
      refine wpT_valp 23 (v := .pointer (some ⟨gl, i * 66, none⟩)) rfl rfl rfl (by go_simp) ?_
      refine wpT_ldy 24 (.pointer (some ⟨gl, i * 66, none⟩)) (.agg (EPS k s)) rfl rfl rfl (by go_simp) (HEL.out _ _ M (by simp)) rfl ?_
      refine wpT_new (z := .agg (ZPS)) 7 M (by kernel_rfl) (by decide) rfl rfl rfl rfl (fun b1 w2 M3 => ?_)
      try dsimp only [Value.cells] at M3
      try simp only [Act.put, List.setIfInBounds_toArray, List.set_cons_succ, List.set_cons_zero]
      refine wpT_valp 6 (v := .int .i64 i) rfl rfl rfl (by go_simp) ?_
      refine wpT_st0 M3 0 (EPS k s) inf_eps rfl rfl rfl rfl (by go_simp) (by go_simp) (by simp [hk, ROR_size, RSL_size, EPS_size, zs_len, Ep.pub_len, Ep.own_len]) (by simp [hk, ROR_size, RSL_size, EPS_size, zs_len, Ep.pub_len, Ep.own_len]) (by simp [go_sem]) rfl (fun w4 M5 => ?_)
      dsimp only [List.set] at M5
      dsimp only [wpT]
      try simp only [Act.put, List.setIfInBounds_toArray, List.set_cons_succ, List.set_cons_zero]
      go_upto_region 7 with fail
      refine wp_region_seq 39 [25, 26, 27, 28, 29, 30, 31, 32, 33, 34, 35, 36, 37, 38, 39, 40, 41, 42, 43, 44, 45, 46, 47, 48, 49, 50, 51, 52, 53, 54, 55, 56, 57, 58, 59, 60, 61, 62, 63] [] [] [] (.done) (Mm no w _) (by kernel_rfl) (by kernel_rfl) (by kernel_rfl) (fun d _ _ _ _ h => by cases d <;> exact h) (by rfl) M5.size (fun _ _ h k => h.sf k) M5 ?_
      simp only [List.take_succ_cons, List.take_zero]
      refine SeqA.pure (.pointer (some ⟨b1, 0, none⟩)) (fun w' => by go_simp) rfl rfl ?_
      refine SeqA.read (.int .i64 s.gen) (fun w' M => by have c0 := eps_c0 (M.row (b := b1) (c := EPS k s) (by simp)); go_simp) rfl rfl ?_
      refine SeqA.pure (.pointer (some ⟨w.heap.size, 32, none⟩)) (fun w' => by go_simp) rfl rfl ?_
      refine SeqA.read (.slice (some ⟨g, 0, none⟩) n c1) (fun w' M => by have c0 := (ror_c32 hk) (M.row (b := w.heap.size) (c := ROR k (.slice (some ⟨g, 0, none⟩) n c1) t) (by simp)); go_simp) rfl rfl ?_
      refine SeqA.pure (.int .i64 i) (fun w' => by go_simp) rfl rfl ?_
      simp only [Act.put, List.setIfInBounds_toArray, List.set_cons_succ, List.set_cons_zero]
      refine SeqA.pure (.pointer (some ⟨g, i * 2, none⟩)) (fun w' => by go_simp) rfl rfl ?_
      refine SeqA.pure (.pointer (some ⟨g, i * 2 + 0, none⟩)) (fun w' => by go_simp) rfl rfl ?_
      refine SeqA.read (.int .i64 s.gen) (fun w' M => by have c0 := HCG.out _ M.end_; go_simp) rfl rfl ?_
      refine SeqA.pure (.bool false) (fun w' => by go_simp) rfl rfl ?_
      refine SeqA.pure (.bool false) (fun w' => by go_simp) rfl rfl ?_
      refine SeqA.pure (.pointer (some ⟨b1, 1, none⟩)) (fun w' => by go_simp) rfl (by simp [Region.wanted, yielded, Act.put]) ?_
      simp only [Act.put, List.setIfInBounds_toArray, List.set_cons_succ, List.set_cons_zero]
      refine SeqA.read (.int .i64 (Ep.fin s.made)) (fun w' M => by have c0 := eps_c1 (M.row (b := b1) (c := EPS k s) (by simp)); go_simp) rfl (by simp [Region.wanted, yielded, Act.put]) ?_
      refine SeqA.pure (.pointer (some ⟨w.heap.size, 32, none⟩)) (fun w' => by go_simp) rfl (by simp [Region.wanted, yielded, Act.put]) ?_
      refine SeqA.read (.slice (some ⟨g, 0, none⟩) n c1) (fun w' M => by have c0 := (ror_c32 hk) (M.row (b := w.heap.size) (c := ROR k (.slice (some ⟨g, 0, none⟩) n c1) t) (by simp)); go_simp) rfl (by simp [Region.wanted, yielded, Act.put]) ?_
      refine SeqA.pure (.int .i64 i) (fun w' => by go_simp) rfl (by simp [Region.wanted, yielded, Act.put]) ?_
      refine SeqA.pure (.pointer (some ⟨g, i * 2, none⟩)) (fun w' => by go_simp) rfl (by simp [Region.wanted, yielded, Act.put]) ?_
      refine SeqA.pure (.pointer (some ⟨g, i * 2 + 1, none⟩)) (fun w' => by go_simp) rfl (by simp [Region.wanted, yielded, Act.put]) ?_
      simp only [Act.put, List.setIfInBounds_toArray, List.set_cons_succ, List.set_cons_zero]
      refine SeqA.read (.int .i64 s.made) (fun w' M => by have c0 := HCM.out _ M.end_; go_simp) rfl (by simp [Region.wanted, yielded, Act.put]) ?_
      refine SeqA.call _ _ _ (fun w' => by go_simp) (fun w' hI _ => end_y w' HSM.out rfl) M5.size rfl (by simp [Region.wanted, yielded, Act.put]) ?_
      refine SeqA.pure (.bool false) (fun w' => by go_simp) rfl (by simp [Region.wanted, yielded, Act.put]) ?_
      refine SeqA.pure (.bool false) (fun w' => by go_simp) rfl rfl ?_
      refine SeqA.pure (.bool false) (fun w' => by go_simp) rfl rfl ?_
      refine SeqA.pure (.pointer (some ⟨b1, 2, none⟩)) (fun w' => by go_simp) rfl (by simp [Region.wanted, yielded, Act.put]) ?_
      simp only [Act.put, List.setIfInBounds_toArray, List.set_cons_succ, List.set_cons_zero]
      refine SeqA.ldm Tryd.underlying23 rfl inf_key (b1) 2 (EPS k s) (cs U8 (Ep.own k s.gen)) rfl (by go_simp) (fun _ M => M.row (b := b1) (c := EPS k s) (by simp)) (by simp [hk, ROR_size, RSL_size, EPS_size, zs_len, Ep.pub_len, Ep.own_len]) (eps_p2) (by simp [Region.wanted, yielded, Act.put]) ?_
      refine SeqA.pure (.pointer (some ⟨w.heap.size, 0, none⟩)) (fun w' => by go_simp) rfl (by simp [Region.wanted, yielded, Act.put]) ?_
      refine SeqA.ldm Tryd.underlying23 rfl inf_key (w.heap.size) 0 (ROR k (.slice (some ⟨g, 0, none⟩) n c1) t) (cs U8 k) rfl (by go_simp) (fun _ M => M.row (b := w.heap.size) (c := ROR k (.slice (some ⟨g, 0, none⟩) n c1) t) (by simp)) (by simp [hk, ROR_size, RSL_size, EPS_size, zs_len, Ep.pub_len, Ep.own_len]) (ror_p0 hk) (by simp [Region.wanted, yielded, Act.put]) ?_
      refine SeqA.pure (.pointer (some ⟨b1, 0, none⟩)) (fun w' => by go_simp) rfl (by simp [Region.wanted, yielded, Act.put]) ?_
      refine SeqA.read (.int .i64 s.gen) (fun w' M => by have c0 := eps_c0 (M.row (b := b1) (c := EPS k s) (by simp)); go_simp) rfl (by simp [Region.wanted, yielded, Act.put]) ?_
      refine SeqA.call _ _ _ (fun w' => by go_simp) (fun w' hI _ => rsecret_c w' k s.gen hk) M5.size rfl (by simp [Region.wanted, yielded, Act.put]) ?_
      simp only [Act.put, List.setIfInBounds_toArray, List.set_cons_succ, List.set_cons_zero]
      refine SeqA.pure (.bool false) (fun w' => by have q := eqKk w' (Ep.own k s.gen) (Ep.own_len _ _); go_simp) rfl (by simp [Region.wanted, yielded, Act.put]) ?_
      refine SeqA.pure (.bool false) (fun w' => by go_simp) rfl rfl ?_
      refine SeqA.pure (.bool false) (fun w' => by go_simp) rfl rfl ?_
      refine SeqA.pure (.pointer (some ⟨b1, 34, none⟩)) (fun w' => by go_simp) rfl (by simp [Region.wanted, yielded, Act.put]) ?_
      refine SeqA.ldm Tryd.underlying23 rfl inf_key (b1) 34 (EPS k s) (cs U8 (Ep.pub k s.gen)) rfl (by go_simp) (fun _ M => M.row (b := b1) (c := EPS k s) (by simp)) (by simp [hk, ROR_size, RSL_size, EPS_size, zs_len, Ep.pub_len, Ep.own_len]) (eps_p34) (by simp [Region.wanted, yielded, Act.put]) ?_
      refine SeqA.pure (.pointer (some ⟨b1, 2, none⟩)) (fun w' => by go_simp) rfl (by simp [Region.wanted, yielded, Act.put]) ?_
      simp only [Act.put, List.setIfInBounds_toArray, List.set_cons_succ, List.set_cons_zero]
      refine SeqA.ldm Tryd.underlying23 rfl inf_key (b1) 2 (EPS k s) (cs U8 (Ep.own k s.gen)) rfl (by go_simp) (fun _ M => M.row (b := b1) (c := EPS k s) (by simp)) (by simp [hk, ROR_size, RSL_size, EPS_size, zs_len, Ep.pub_len, Ep.own_len]) (eps_p2) (by simp [Region.wanted, yielded, Act.put]) ?_
      refine SeqA.call _ _ _ (fun w' => by go_simp) (fun w' hI _ => pub_v w' (Ep.own k s.gen) (Ep.pub k s.gen) (Ep.own_len _ _) (Ep.pub_eq _ _)) M5.size rfl (by simp [Region.wanted, yielded, Act.put]) ?_
      refine SeqA.pure (.bool false) (fun w' => by have q := eqKk w' (Ep.pub k s.gen) (Ep.pub_len _ _); go_simp) rfl (by simp [Region.wanted, yielded, Act.put]) ?_
      refine SeqA.pure (.bool false) (fun w' => by go_simp) rfl rfl ?_
      refine SeqA.nil (fun w6 M7 hz => ?_)
      show wpT _ _ _ _ _ _
      simp only [Act.put, List.setIfInBounds_toArray, List.set_cons_succ, List.set_cons_zero]
      dsimp only [wpT]
      go_wp2_with fail
      go_roundw
      case rel => exact ⟨i + 1, by omega, by simp, M7.sub (by simp)⟩
      case measure => simp only [intOf]; omega
    · obtain rfl : n = i := by omega
      go_upto_region 10 with fail
      refine wp_region_lin (.op 0 (.op 1 (.op 2 (.op 3 (.op 4 (.op 5 (.op 6 (.op 7 .done)))))))) (by rfl) ?_
      refine wpT_valp 66 (v := .pointer (some ⟨b, 0, none⟩)) rfl rfl rfl (by go_simp) ?_
      refine wpT_callv 67 M (v := .tuple #[.agg (cs U8 (Ep.pub k a1.gen)), .int .i64 a1.gen]) rfl rfl rfl (by go_simp) (public_x (HR.out.below M.end_) (a := a1) HA1.out rfl rfl) (fun w1 M2 => ?_)
      refine wpT_valp 65 (v := .tuple #[.agg (cs U8 (Ep.pub k a1.gen)), .int .i64 a1.gen]) rfl rfl rfl (by go_simp) ?_
      refine wpT_valp 68 (v := .agg (cs U8 (Ep.pub k a1.gen))) rfl rfl rfl (by go_simp) ?_
      try simp only [Act.put, List.setIfInBounds_toArray, List.set_cons_succ, List.set_cons_zero]
      refine wpT_valp 69 (v := .int .i64 a1.gen) rfl rfl rfl (by go_simp) ?_
      refine wpT_new (z := .agg (cs U8 (zs 32))) 8 M2 (by kernel_rfl) (by decide) rfl rfl rfl rfl (fun b3 w4 M5 => ?_)
      try dsimp only [Value.cells] at M5
      refine wpT_st0 M5 0 (cs U8 (Ep.pub k a1.gen)) inf_key rfl rfl rfl rfl (by go_simp) (by go_simp) (by simp [hk, ROR_size, RSL_size, EPS_size, zs_len, Ep.pub_len, Ep.own_len]) (by simp [hk, ROR_size, RSL_size, EPS_size, zs_len, Ep.pub_len, Ep.own_len]) (by simp [go_sem]) rfl (fun w6 M7 => ?_)
      dsimp only [List.set] at M7
      refine wpT_valp 9 (v := .int .i64 a1.gen) rfl rfl rfl (by go_simp) ?_
      dsimp only [wpT]
      try simp only [Act.put, List.setIfInBounds_toArray, List.set_cons_succ, List.set_cons_zero]
      go_upto_region 11 with fail
      refine wp_region_seq 16 [70, 71, 72, 73, 74, 75, 76, 77, 78, 79, 80, 81, 82, 83, 84, 4] [] [] [] (.done) (Mm no w _) (by kernel_rfl) (by kernel_rfl) (by kernel_rfl) (fun d _ _ _ _ h => by cases d <;> exact h) (by rfl) M7.size (fun _ _ h k => h.sf k) M7 ?_
      simp only [List.take_succ_cons, List.take_zero]
      refine SeqA.pure (.int .i64 a1.gen) (fun w' => by go_simp) rfl rfl ?_
      refine SeqA.pure (.pointer (some ⟨w.heap.size, 32, none⟩)) (fun w' => by go_simp) rfl rfl ?_
      refine SeqA.read (.slice (some ⟨g, 0, none⟩) n c1) (fun w' M => by have c0 := (ror_c32 hk) (M.row (b := w.heap.size) (c := ROR k (.slice (some ⟨g, 0, none⟩) n c1) t) (by simp)); go_simp) rfl rfl ?_
      refine SeqA.pure (.pointer (some ⟨g, 0, none⟩)) (fun w' => by go_simp) rfl rfl ?_
      refine SeqA.pure (.pointer (some ⟨g, 0, none⟩)) (fun w' => by go_simp) rfl rfl ?_
      simp only [Act.put, List.setIfInBounds_toArray, List.set_cons_succ, List.set_cons_zero]
      refine SeqA.read (.int .i64 a1.gen) (fun w' M => by have c0 := HC0.out _ M.end_; go_simp) rfl rfl ?_
      refine SeqA.pure (.bool true) (fun w' => by go_simp) rfl rfl ?_
      refine SeqA.pure (.bool true) (fun w' => by go_simp) rfl rfl ?_
      refine SeqA.ld0 Tryd.underlying23 rfl inf_key (b3) (cs U8 (Ep.pub k a1.gen)) rfl (by go_simp) (fun _ M => M.row (b := b3) (c := cs U8 (Ep.pub k a1.gen)) (by simp)) (by simp [hk, ROR_size, RSL_size, EPS_size, zs_len, Ep.pub_len, Ep.own_len]) (by simp [Region.wanted, yielded, Act.put]) ?_
      refine SeqA.pure (.slice (some ⟨gl, 0, none⟩) n cl) (fun w' => by go_simp) rfl (by simp [Region.wanted, yielded, Act.put]) ?_
      refine SeqA.pure (.pointer (some ⟨gl, 0, none⟩)) (fun w' => by go_simp) rfl (by simp [Region.wanted, yielded, Act.put]) ?_
      simp only [Act.put, List.setIfInBounds_toArray, List.set_cons_succ, List.set_cons_zero]
      refine SeqA.pure (.pointer (some ⟨gl, 34, none⟩)) (fun w' => by go_simp) rfl (by simp [Region.wanted, yielded, Act.put]) ?_
      refine SeqA.ldy (.pointer (some ⟨gl, 34, none⟩)) (.agg (cs U8 (Ep.pub k a1.gen))) rfl (by go_simp) (fun w' M => HPP.out _ _ M (by simp)) (by simp [Region.wanted, yielded, Act.put]) ?_
      refine SeqA.pure (.bool true) (fun w' => by have q := eqKk w' (Ep.pub k a1.gen) (Ep.pub_len _ _); go_simp) rfl (by simp [Region.wanted, yielded, Act.put]) ?_
      refine SeqA.pure (.bool true) (fun w' => by go_simp) rfl rfl ?_
      refine SeqA.pure (.bool true) (fun w' => by go_simp) rfl rfl ?_
      refine SeqA.nil (fun w8 M9 hz => ?_)
      show wpT _ _ _ _ _ _
      simp only [Act.put, List.setIfInBounds_toArray, List.set_cons_succ, List.set_cons_zero]
      dsimp only [wpT]
      go_wp2_with fail
      go_ret
      exact ⟨rfl, M9.end_⟩
end Go.Proofs.YtgclegdgngldoaaDoor
