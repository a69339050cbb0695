/-
  Law 14: alive; own work.
-/
import Derived.Test.YtgclegdgngldoaaDoorEp7
set_option linter.unusedSimpArgs false
set_option linter.unusedVariables false
namespace Go.Proofs.YtgclegdgngldoaaDoor
open Go.RowKit Fp
theorem open_ep {w : World} {B b : Nat} {k : L8} {L : List Ep.Sl} {t : Nat} {v : Value} {n : Nat} (R : RO w B b k L t v) (h9 : n ≤ 900) (hn : L.length = n := by rfl) :
    Calls Tryd.prog 32 #[.pointer (some ⟨b, 0, none⟩)] w fun e w' => ∃ u, e = .returned u ∧ Ow w' w.heap.size 66 u n (fl (e66 k) L) ∧ Below w.heap.size w w' := by
  subst hn; exact open_c w B b k L t v R h9
theorem public_x {w : World} {B b : Nat} {k : L8} {L : List Ep.Sl} {t : Nat} {v : Value} (R : RO w B b k L t v) {a : Ep.Sl} (hLa : L[0]? = some a) {P : L8} {g : Int} (hP : P = Ep.pub k a.gen) (hg : g = a.gen) :
    Calls Tryd.prog 30 #[.pointer (some ⟨b, 0, none⟩)] w fun e w' => e = .returned (.tuple #[.agg (cs U8 P), .int .i64 g]) ∧ Below w.heap.size w w' := by
  subst hP; subst hg; exact public_ep w B b k L t v R a hLa
theorem secret_y {w0 w : World} (hT : KT w0 ∧ 0 < w0.heap.size) (hb : Below w0.heap.size w0 w) (k : L8) {D : L8} {g : Int} {n : Nat} (hk : k.length = 32) (hD : D = Ep.own k n) (hg : g = n) :
    Calls Tryd.prog 38 #[.agg (cs U8 k), .int .i64 g] w fun e w' => e = .returned (.agg (cs U8 D)) ∧ Below w.heap.size w w' := by
  subst hD; subst hg; exact secret_c hT hb k n hk
attribute [local irreducible] ESL EPS ROR
set_option maxRecDepth 100000 in
set_option maxHeartbeats 4000000 in
theorem alive14 (w : World) (hT : KT w ∧ 0 < w.heap.size) :
    Calls Tryd.prog 21 #[] w fun e w' => e = .returned (.bool true) ∧ Below w.heap.size w w' := by
  have HT := hid hT
  have HT3 := hid (show KT w ∧ 0 < w.heap.size ∧ w.heap.size ≤ w.heap.size from ⟨hT.1, hT.2, Nat.le_refl _⟩)
  obtain ⟨k, hk1⟩ : ∃ k : L8, k = 1 :: zs 31 := ⟨_, rfl⟩
  have hk : k.length = 32 := by rw [hk1]; rfl
  have HK1 : Hid (∀ w, exBuild Tryd.prog 23 #[(0, .int .u8 1)] w = .ok (.value (.agg (cs U8 k))) w) := hid fun w => by rw [hk1]; exact xb_k1 w
  obtain ⟨P2, hP2⟩ : ∃ P, P = Ep.pub k 2 := ⟨_, rfl⟩
  obtain ⟨O2, hO2⟩ : ∃ P, P = Ep.own k 2 := ⟨_, rfl⟩
  have HP2 := hid (show P2.length = 32 by rw [hP2]; simp)
  have HO2 := hid (show O2.length = 32 by rw [hO2]; simp)
  have HP2E := hid hP2
  have HO2E := hid hO2
  have HPP : Hid (∀ H w' {g c1 cur}, Mm no w H w' → Rw w.heap.size 66 (.slice (some ⟨g, 0, none⟩) 1 c1) 1 (fl (e66 k) [⟨2, 1600⟩]) g c1 cur → (g, cur) ∈ H → exLoad Tryd.prog 23 (.pointer (some ⟨g, 34, none⟩)) w' = .ok (.value (.agg (cs U8 P2))) w') := hid fun H w' g c1 cur M R hm => by
    have := p66 Tryd.underlying23 rfl inf_key R M hm rfl 0 (a := ⟨2, 1600⟩) rfl 34 (by decide) (cs U8 P2) (by rw [hP2]; exact e66_pub k _)
    simpa using this
  have HOO : Hid (∀ H w' {g c1 cur}, Mm no w H w' → Rw w.heap.size 66 (.slice (some ⟨g, 0, none⟩) 1 c1) 1 (fl (e66 k) [⟨2, 1600⟩]) g c1 cur → (g, cur) ∈ H → exLoad Tryd.prog 23 (.pointer (some ⟨g, 2, none⟩)) w' = .ok (.value (.agg (cs U8 O2))) w') := hid fun H w' g c1 cur M R hm => by
    have := p66 Tryd.underlying23 rfl inf_key R M hm rfl 0 (a := ⟨2, 1600⟩) rfl 2 (by decide) (cs U8 O2) (by rw [hO2]; exact e66_own k _)
    simpa using this
  clear hT hk1 hP2 hO2
  have M0 := Mm.start no w
  go_enter Tryd.func21, Tryd.ntmps21
  go_upto_region 1 with fail
  refine wp_region_lin (.op 0 (.op 1 (.op 2 .done))) (by rfl) ?_
  refine wpT_valL 5 (v := .agg (cs U8 k)) rfl rfl rfl (by have q := HK1.out w; go_simp) ?_
  refine wpT_ronew (t' := 10) (n' := 1) 6 M0 rfl rfl rfl (by go_simp) (new_v HT.out M0.end_ hk 10 10 rfl (by decide)) rfl (fun gb g1 c1 cu1 wg1 hgb R1 Mg1 => ?_)
  refine wpT_valp 1 (v := .pointer (some ⟨gb, 0, none⟩)) rfl rfl rfl (by go_simp) ?_
  dsimp only [wpT]
  try simp only [Act.put, List.setIfInBounds_toArray, List.set_cons_succ, List.set_cons_zero]
  go_upto_region 2 with fail
  refine wp_region_lin (.op 0 (.op 1 (.op 2 (.op 3 (.op 4 (.op 5 (.op 6 (.op 7 (.op 8 (.op 9 (.op 10 (.op 11 (.op 12 (.op 13 (.op 14 (.op 15 (.op 16 (.op 17 (.op 18 (.op 19 (.op 20 (.op 21 (.op 22 .done))))))))))))))))))))))) (by rfl) ?_
  refine wpT_valp 7 (v := .pointer (some ⟨gb, 0, none⟩)) rfl rfl rfl (by go_simp) ?_
  refine wpT_valp 8 (v := .bool false) rfl rfl rfl (by go_simp) ?_
  refine wpT_valp 9 (v := .bool false) rfl rfl rfl (by go_simp) ?_
  refine wpT_valp 10 (v := .pointer (some ⟨gb, 0, none⟩)) rfl rfl (by simp [Region.wanted, yielded, Act.put]) (by go_simp) ?_
  try simp only [Act.put, List.setIfInBounds_toArray, List.set_cons_succ, List.set_cons_zero]
  refine wpT_ro (t' := 1024) (n' := 2) 11 Mg1 [] [] rfl rfl R1 rfl rfl (by simp [Region.wanted, yielded, Act.put]) (by go_simp) (tick_v (ro_at (b := gb) (t := 10) Mg1 (A := []) (C := []) rfl R1 rfl hgb hk (by decide)) HT3.out Mg1.end_ (by decide) 1024 1024 rfl (by decide) (by decide) ⟨0, 10⟩ rfl (by decide) (by decide) (L' := [⟨1, 1024⟩, ⟨0, 10⟩]) rfl ⟨0, 10⟩ rfl 0 rfl) rfl (fun g2 c2 cu2 wg2 R2 Mg2 => ?_)
  refine wpT_valp 12 (v := .bool false) rfl rfl (by simp [Region.wanted, yielded, Act.put]) (by go_simp) ?_
  refine wpT_valp 13 (v := .bool false) rfl rfl rfl (by go_simp) ?_
  refine wpT_valp 14 (v := .bool false) rfl rfl rfl (by go_simp) ?_
  refine wpT_valp 15 (v := .pointer (some ⟨gb, 0, none⟩)) rfl rfl (by simp [Region.wanted, yielded, Act.put]) (by go_simp) ?_
  try simp only [Act.put, List.setIfInBounds_toArray, List.set_cons_succ, List.set_cons_zero]
  refine wpT_ownr 16 Mg2 rfl rfl (by simp [Region.wanted, yielded, Act.put]) (by go_simp) (open_ep (n := 2) (ro_at (b := gb) (t := 1024) Mg2 (A := []) (C := []) rfl R2 rfl hgb hk (by decide)) (by decide) rfl) (by decide) (fun gu cu_ curu wgu Ru Mgu => ?_)
  refine wpT_valp 17 (v := .int .i64 2) rfl rfl (by simp [Region.wanted, yielded, Act.put]) (by go_simp) ?_
  refine wpT_valp 18 (v := .bool false) rfl rfl (by simp [Region.wanted, yielded, Act.put]) (by go_simp) ?_
  refine wpT_valp 19 (v := .bool false) rfl rfl rfl (by go_simp) ?_
  refine wpT_valp 20 (v := .bool false) rfl rfl rfl (by go_simp) ?_
  try simp only [Act.put, List.setIfInBounds_toArray, List.set_cons_succ, List.set_cons_zero]
  refine wpT_valp 21 (v := .pointer (some ⟨gb, 0, none⟩)) rfl rfl (by simp [Region.wanted, yielded, Act.put]) (by go_simp) ?_
  refine wpT_ro (t' := 1536) (n' := 1) 22 Mgu [(gu, curu)] [] rfl rfl R2 rfl rfl (by simp [Region.wanted, yielded, Act.put]) (by go_simp) (tick_v (ro_at (b := gb) (t := 1024) Mgu (A := [(gu, curu)]) (C := []) rfl R2 rfl hgb hk (by decide)) HT3.out Mgu.end_ (by decide) 1536 1536 rfl (by decide) (by decide) ⟨1, 1024⟩ rfl (by decide) (by decide) (L' := [⟨1, 1024⟩]) rfl ⟨1, 1024⟩ rfl 1 rfl) rfl (fun g3 c3 cu3 wg3 R3 Mg3 => ?_)
  refine wpT_valp 23 (v := .bool false) rfl rfl (by simp [Region.wanted, yielded, Act.put]) (by go_simp) ?_
  refine wpT_valp 24 (v := .bool false) rfl rfl rfl (by go_simp) ?_
  refine wpT_valp 25 (v := .bool false) rfl rfl rfl (by go_simp) ?_
  try simp only [Act.put, List.setIfInBounds_toArray, List.set_cons_succ, List.set_cons_zero]
  refine wpT_valp 26 (v := .pointer (some ⟨gb, 0, none⟩)) rfl rfl (by simp [Region.wanted, yielded, Act.put]) (by go_simp) ?_
  refine wpT_ro (t' := 1600) (n' := 1) 27 Mg3 [] [(gu, curu)] rfl rfl R3 rfl rfl (by simp [Region.wanted, yielded, Act.put]) (by go_simp) (restart_v (ro_at (b := gb) (t := 1536) Mg3 (A := []) (C := [(gu, curu)]) rfl R3 rfl hgb hk (by decide)) HT3.out Mg3.end_ (by decide) 1600 1600 rfl (by decide) (by decide) ⟨1, 1024⟩ rfl (by decide) (L' := [⟨2, 1600⟩]) rfl) rfl (fun g4 c4 cu4 wg4 R4 Mg4 => ?_)
  refine wpT_valp 28 (v := .bool false) rfl rfl (by simp [Region.wanted, yielded, Act.put]) (by go_simp) ?_
  refine wpT_valp 29 (v := .bool false) rfl rfl rfl (by go_simp) ?_
  dsimp only [wpT]
  try simp only [Act.put, List.setIfInBounds_toArray, List.set_cons_succ, List.set_cons_zero]
  go_upto_region 4 with fail
  refine wp_region_lin (.op 0 (.op 1 (.op 2 .done))) (by rfl) ?_
  refine wpT_valp 30 (v := .pointer (some ⟨gb, 0, none⟩)) rfl rfl rfl (by go_simp) ?_
  refine wpT_ownr 31 Mg4 rfl rfl rfl (by go_simp) (open_ep (n := 1) (ro_at (b := gb) (t := 1600) Mg4 (A := []) (C := [(gu, curu)]) rfl R4 rfl hgb hk (by decide)) (by decide) rfl) (by decide) (fun gl cl curl wgl Rl Mgl => ?_)
  refine wpT_valp 2 (v := .slice (some ⟨gl, 0, none⟩) 1 cl) rfl rfl rfl (by go_simp) ?_
  dsimp only [wpT]
  try simp only [Act.put, List.setIfInBounds_toArray, List.set_cons_succ, List.set_cons_zero]
  go_upto_region 5 with fail
  refine wp_region_lin (.op 0 (.op 1 (.op 2 (.op 3 (.op 4 (.op 5 (.op 6 (.op 7 .done)))))))) (by rfl) ?_
  refine wpT_valp 33 (v := .pointer (some ⟨gb, 0, none⟩)) rfl rfl rfl (by go_simp) ?_
  refine wpT_callv 34 Mgl (v := .tuple #[.agg (cs U8 P2), .int .i64 2]) rfl rfl rfl (by go_simp) (public_x (ro_at (b := gb) (t := 1600) Mgl (A := [(gl, curl)]) (C := [(gu, curu)]) rfl R4 rfl hgb hk (by decide)) (a := ⟨2, 1600⟩) rfl HP2E.out rfl) (fun w1 M2 => ?_)
  refine wpT_valp 32 (v := .tuple #[.agg (cs U8 P2), .int .i64 2]) rfl rfl rfl (by go_simp) ?_
  refine wpT_valp 35 (v := .agg (cs U8 P2)) rfl rfl rfl (by go_simp) ?_
  try simp only [Act.put, List.setIfInBounds_toArray, List.set_cons_succ, List.set_cons_zero]
  refine wpT_valp 36 (v := .int .i64 2) rfl rfl rfl (by go_simp) ?_
  refine wpT_new (z := .agg (cs U8 (zs 32))) 3 M2 (by kernel_rfl) (by decide) rfl rfl rfl rfl (fun b3 w4 M5 => ?_)
  try dsimp only [Value.cells] at M5
  refine wpT_st0 M5 0 (cs U8 P2) inf_key rfl rfl rfl rfl (by go_simp) (by go_simp) (by simp [hk, HP2.out, HO2.out]) (by simp [hk, HP2.out, HO2.out]) (by simp [go_sem]) rfl (fun w6 M7 => ?_)
  dsimp only [List.set] at M7
  refine wpT_valp 4 (v := .int .i64 2) rfl rfl rfl (by go_simp) ?_
  dsimp only [wpT]
  try simp only [Act.put, List.setIfInBounds_toArray, List.set_cons_succ, List.set_cons_zero]
  go_upto_region 6 with fail
  refine wp_region_seq 39 [37, 38, 39, 40, 41, 42, 43, 44, 45, 46, 47, 48, 49, 50, 51, 52, 53, 54, 55, 56, 57, 58, 59, 60, 61, 62, 63, 64, 65, 66, 67, 68, 69, 70, 71, 72, 73, 74, 0] [] [] [] (.done) (Mm no w _) (by kernel_rfl) (by kernel_rfl) (by kernel_rfl) (fun d _ _ _ _ h => by cases d <;> exact h) (by rfl) M7.size (fun _ _ h k => h.sf k) M7 ?_
  simp only [List.take_succ_cons, List.take_zero]
  refine SeqA.pure (.slice (some ⟨gl, 0, none⟩) 1 cl) (fun w' => by go_simp) rfl rfl ?_
  refine SeqA.pure (.int .i64 1) (fun w' => by go_simp) rfl rfl ?_
  refine SeqA.pure (.bool true) (fun w' => by go_simp) rfl rfl ?_
  refine SeqA.pure (.bool true) (fun w' => by go_simp) rfl rfl ?_
  refine SeqA.pure (.slice (some ⟨gl, 0, none⟩) 1 cl) (fun w' => by go_simp) rfl (by simp [Region.wanted, yielded, Act.put]) ?_
  simp only [Act.put, List.setIfInBounds_toArray, List.set_cons_succ, List.set_cons_zero]
  refine SeqA.pure (.pointer (some ⟨gl, 0, none⟩)) (fun w' => by go_simp) rfl (by simp [Region.wanted, yielded, Act.put]) ?_
  refine SeqA.pure (.pointer (some ⟨gl, 0, none⟩)) (fun w' => by go_simp) rfl (by simp [Region.wanted, yielded, Act.put]) ?_
  refine SeqA.read (.int .i64 2) (fun w' M => by have c0 := c66 Rl M (by simp) rfl 0 (a := ⟨2, 1600⟩) rfl (by decide) (e66_0 k _); simp at c0; go_simp) rfl (by simp [Region.wanted, yielded, Act.put]) ?_
  refine SeqA.pure (.bool true) (fun w' => by go_simp) rfl (by simp [Region.wanted, yielded, Act.put]) ?_
  refine SeqA.pure (.bool true) (fun w' => by go_simp) rfl rfl ?_
  refine SeqA.pure (.bool true) (fun w' => by go_simp) rfl rfl ?_
  simp only [Act.put, List.setIfInBounds_toArray, List.set_cons_succ, List.set_cons_zero]
  refine SeqA.pure (.slice (some ⟨gl, 0, none⟩) 1 cl) (fun w' => by go_simp) rfl (by simp [Region.wanted, yielded, Act.put]) ?_
  refine SeqA.pure (.pointer (some ⟨gl, 0, none⟩)) (fun w' => by go_simp) rfl (by simp [Region.wanted, yielded, Act.put]) ?_
  refine SeqA.pure (.pointer (some ⟨gl, 1, none⟩)) (fun w' => by go_simp) rfl (by simp [Region.wanted, yielded, Act.put]) ?_
  refine SeqA.read (.int .i64 2560) (fun w' M => by have c0 := c66 Rl M (by simp) rfl 0 (a := ⟨2, 1600⟩) rfl (by decide) (e66_1 k _); simp [Ep.fin] at c0; go_simp) rfl (by simp [Region.wanted, yielded, Act.put]) ?_
  refine SeqA.pure (.bool true) (fun w' => by go_simp) rfl (by simp [Region.wanted, yielded, Act.put]) ?_
  refine SeqA.pure (.bool true) (fun w' => by go_simp) rfl rfl ?_
  simp only [Act.put, List.setIfInBounds_toArray, List.set_cons_succ, List.set_cons_zero]
  refine SeqA.pure (.bool true) (fun w' => by go_simp) rfl rfl ?_
  refine SeqA.pure (.int .i64 2) (fun w' => by go_simp) rfl (by simp [Region.wanted, yielded, Act.put]) ?_
  refine SeqA.pure (.bool true) (fun w' => by go_simp) rfl (by simp [Region.wanted, yielded, Act.put]) ?_
  refine SeqA.pure (.bool true) (fun w' => by go_simp) rfl rfl ?_
  refine SeqA.pure (.bool true) (fun w' => by go_simp) rfl rfl ?_
  refine SeqA.ld0 Tryd.underlying23 rfl inf_key (b3) (cs U8 P2) rfl (by go_simp) (fun _ M => M.row (b := b3) (c := cs U8 P2) (by simp)) (by simp [hk, HP2.out, HO2.out]) (by simp [Region.wanted, yielded, Act.put]) ?_
  simp only [Act.put, List.setIfInBounds_toArray, List.set_cons_succ, List.set_cons_zero]
  refine SeqA.pure (.slice (some ⟨gl, 0, none⟩) 1 cl) (fun w' => by go_simp) rfl (by simp [Region.wanted, yielded, Act.put]) ?_
  refine SeqA.pure (.pointer (some ⟨gl, 0, none⟩)) (fun w' => by go_simp) rfl (by simp [Region.wanted, yielded, Act.put]) ?_
  refine SeqA.pure (.pointer (some ⟨gl, 34, none⟩)) (fun w' => by go_simp) rfl (by simp [Region.wanted, yielded, Act.put]) ?_
  refine SeqA.ldy (.pointer (some ⟨gl, 34, none⟩)) (.agg (cs U8 P2)) rfl (by go_simp) (fun w' M => HPP.out _ _ M Rl (by simp)) (by simp [Region.wanted, yielded, Act.put]) ?_
  refine SeqA.pure (.bool true) (fun w' => by have q := eqKk w' P2 HP2.out; go_simp) rfl (by simp [Region.wanted, yielded, Act.put]) ?_
  refine SeqA.pure (.bool true) (fun w' => by go_simp) rfl rfl ?_
  simp only [Act.put, List.setIfInBounds_toArray, List.set_cons_succ, List.set_cons_zero]
  refine SeqA.pure (.bool true) (fun w' => by go_simp) rfl rfl ?_
  refine SeqA.pure (.slice (some ⟨gl, 0, none⟩) 1 cl) (fun w' => by go_simp) rfl (by simp [Region.wanted, yielded, Act.put]) ?_
  refine SeqA.pure (.pointer (some ⟨gl, 0, none⟩)) (fun w' => by go_simp) rfl (by simp [Region.wanted, yielded, Act.put]) ?_
  refine SeqA.pure (.pointer (some ⟨gl, 2, none⟩)) (fun w' => by go_simp) rfl (by simp [Region.wanted, yielded, Act.put]) ?_
  refine SeqA.ldy (.pointer (some ⟨gl, 2, none⟩)) (.agg (cs U8 O2)) rfl (by go_simp) (fun w' M => HOO.out _ _ M Rl (by simp)) (by simp [Region.wanted, yielded, Act.put]) ?_
  refine SeqA.pure (.agg (cs U8 k)) (fun w' => by have q := HK1.out w'; go_simp) rfl (by simp [Region.wanted, yielded, Act.put]) ?_
  simp only [Act.put, List.setIfInBounds_toArray, List.set_cons_succ, List.set_cons_zero]
  refine SeqA.call _ _ _ (fun w' => by go_simp) (fun w' hI _ => secret_y HT.out hI.end_ k (n := 2) hk HO2E.out rfl) M7.size rfl (by simp [Region.wanted, yielded, Act.put]) ?_
  refine SeqA.pure (.bool true) (fun w' => by have q := eqKk w' O2 HO2.out; go_simp) rfl (by simp [Region.wanted, yielded, Act.put]) ?_
  refine SeqA.pure (.bool true) (fun w' => by go_simp) rfl rfl ?_
  refine SeqA.pure (.bool true) (fun w' => by go_simp) rfl rfl ?_
  refine SeqA.nil (fun w8 M9 hz => ?_)
  show wpT _ _ _ _ _ _
  simp only [Act.put, List.setIfInBounds_toArray, List.set_cons_succ, List.set_cons_zero]
  dsimp only [wpT]
  go_wp2_with fail
  go_ret
  exact ⟨rfl, M9.end_⟩
end Go.Proofs.YtgclegdgngldoaaDoor
