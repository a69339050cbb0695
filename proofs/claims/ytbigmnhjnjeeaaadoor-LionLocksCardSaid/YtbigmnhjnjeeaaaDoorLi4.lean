/-
  Walks of package lion: mix; own work.
  Walks of package lion: rounds, slices.Reverse, Lock, Unlock; own work.
  Walks of package lion: Lock, Unlock; own work.
-/
import Derived.Test.YtbigmnhjnjeeaaaDoorLi1
import Derived.Laws.OwnMore
set_option linter.unusedSimpArgs false
set_option linter.unusedVariables false
namespace Go.Proofs.YtbigmnhjnjeeaaaDoor
open Go.RowKit
attribute [local irreducible] XP BL Li.xo Ch.xr Sh.mac Sh.derive Li.st Li.tg Li.cut Li.join
set_option maxRecDepth 100000 in
set_option maxHeartbeats 4000000 in
theorem mix_short (w : World) (k b : List (BitVec 8)) (vl vb : Value) (hk : k.length = 32) (hvb : BS w vb b) (h : b.length < 33) :
    Calls Tryd.prog 29 #[.agg (cs U8 k), vl, vb] w fun e w' => e = .returned (.tuple #[.slice none 0 0, .int .i64 4]) ∧ Below w.heap.size w w' := by
  obtain ⟨n, hn⟩ : ∃ n, n = b.length := ⟨_, rfl⟩
  obtain ⟨AB, cb, rfl, hcb⟩ := hvb.shape' n hn.symm
  have h33 : (n : Int) < 33 := by omega
  clear hvb hn
  have M0 := Mm.start no w
  go_enter Tryd.func29, Tryd.ntmps29
  have M2 := (M0.alloc (cs U8 k) 23 (by decide))
  try simp only [World.size_alloc] at M2
  go_upto_region 1 with fail
  obtain ⟨w1, hw1⟩ : ∃ w1, w1 = (w.alloc (.cells (cs U8 k) 23)) := ⟨_, rfl⟩
  rw [← hw1] at M2 ⊢
  clear hw1
  refine wp_region_lin (.op 0 (.op 1 (.op 2 (.op 3 .done)))) (by rfl) ?_
  refine wpT_valp 12 (v := .slice AB n cb) rfl rfl rfl (by go_simp) ?_
  refine wpT_valp 13 (v := .int .i64 n) rfl rfl rfl (by go_simp) ?_
  refine wpT_valp 14 (v := .bool true) rfl rfl rfl (by go_simp) ?_
  refine wpT_valp 11 (v := .bool true) rfl rfl rfl (by go_simp) ?_
  dsimp only [wpT]
  try simp only [Act.put, List.setIfInBounds_toArray, List.set_cons_succ, List.set_cons_zero]
  go_upto_region 2 with fail
  refine wp_region_lin (.op 0 (.op 1 .done)) (by rfl) ?_
  refine wpT_valp 6 (v := (.slice none 0 0)) rfl rfl rfl (by go_simp) ?_
  refine wpT_valp 7 (v := .int .i64 4) rfl rfl rfl (by go_simp) ?_
  dsimp only [wpT]
  try simp only [Act.put, List.setIfInBounds_toArray, List.set_cons_succ, List.set_cons_zero]
  go_wp2_with fail
  refine bodyPost_ret (res_two rfl (rv_tmp _ _ rfl) (rv_tmp _ _ rfl)) rfl ?_
  exact ⟨rfl, M2.end_⟩
set_option maxRecDepth 100000 in
set_option maxHeartbeats 4000000 in
theorem mix_big (w : World) (k b : List (BitVec 8)) (vl vb : Value) (hk : k.length = 32) (hvb : BS w vb b) (h : 4096 < b.length) :
    Calls Tryd.prog 29 #[.agg (cs U8 k), vl, vb] w fun e w' => e = .returned (.tuple #[.slice none 0 0, .int .i64 3]) ∧ Below w.heap.size w w' := by
  obtain ⟨n, hn⟩ : ∃ n, n = b.length := ⟨_, rfl⟩
  obtain ⟨AB, cb, rfl, hcb⟩ := hvb.shape' n hn.symm
  have h33 : ¬ (n : Int) < 33 := by omega
  have h40 : (4096 : Int) < (n : Int) := by omega
  clear hvb hn
  have M0 := Mm.start no w
  go_enter Tryd.func29, Tryd.ntmps29
  have M2 := (M0.alloc (cs U8 k) 23 (by decide))
  try simp only [World.size_alloc] at M2
  go_upto_region 1 with fail
  obtain ⟨w1, hw1⟩ : ∃ w1, w1 = (w.alloc (.cells (cs U8 k) 23)) := ⟨_, rfl⟩
  rw [← hw1] at M2 ⊢
  clear hw1
  refine wp_region_lin (.op 0 (.op 1 (.op 2 (.op 3 .done)))) (by rfl) ?_
  refine wpT_valp 12 (v := .slice AB n cb) rfl rfl rfl (by go_simp) ?_
  refine wpT_valp 13 (v := .int .i64 n) rfl rfl rfl (by go_simp) ?_
  refine wpT_valp 14 (v := .bool false) rfl rfl rfl (by go_simp) ?_
  refine wpT_valp 11 (v := .bool false) rfl rfl rfl (by go_simp) ?_
  dsimp only [wpT]
  try simp only [Act.put, List.setIfInBounds_toArray, List.set_cons_succ, List.set_cons_zero]
  go_upto_region 3 with fail
  refine wp_region_lin (.op 0 (.op 1 (.op 2 (.op 3 .done)))) (by rfl) ?_
  refine wpT_valp 16 (v := .slice AB n cb) rfl rfl rfl (by go_simp) ?_
  refine wpT_valp 17 (v := .int .i64 n) rfl rfl rfl (by go_simp) ?_
  refine wpT_valp 18 (v := .bool true) rfl rfl rfl (by go_simp) ?_
  refine wpT_valp 15 (v := .bool true) rfl rfl rfl (by go_simp) ?_
  dsimp only [wpT]
  try simp only [Act.put, List.setIfInBounds_toArray, List.set_cons_succ, List.set_cons_zero]
  go_upto_region 4 with fail
  refine wp_region_lin (.op 0 (.op 1 .done)) (by rfl) ?_
  refine wpT_valp 6 (v := (.slice none 0 0)) rfl rfl rfl (by go_simp) ?_
  refine wpT_valp 7 (v := .int .i64 3) rfl rfl rfl (by go_simp) ?_
  dsimp only [wpT]
  try simp only [Act.put, List.setIfInBounds_toArray, List.set_cons_succ, List.set_cons_zero]
  go_wp2_with fail
  refine bodyPost_ret (res_two rfl (rv_tmp _ _ rfl) (rv_tmp _ _ rfl)) rfl ?_
  exact ⟨rfl, M2.end_⟩
/-- the row of the rounds says what is done, round by round -/
def Rds (k : Bs8) (R : Array Value) (P : Nat → Bs8 × Bs8) : Prop := ∀ i, i < 4 → ∃ lb : Bs8, lb.length ≤ 100 ∧
  ((R.extract (i * 2) (i * 2 + 2) = #[.string (Bs lb), .func (.func 41) #[] #[]] ∧ P (i + 1) = Li.st (Sh.derive k lb) (P i)) ∨
   (R.extract (i * 2) (i * 2 + 2) = #[.string (Bs lb), .func (.func 42) #[] #[]] ∧ P (i + 1) = Li.tg (Sh.derive k lb) (P i)))
set_option maxRecDepth 100000 in
set_option maxHeartbeats 4000000 in
theorem mix_c (w : World) (k b : Bs8) (n rb ba oa cb : Nat) (R : Array Value) (P : Nat → Bs8 × Bs8) (hT : KT w ∧ 0 < w.heap.size) (hk : k.length = 32) (hn : b.length = n) (h33 : 33 ≤ n) (h40 : n ≤ 4096)
    (hvb : BS w (.slice (some ⟨ba, oa, none⟩) n cb) b) (hrb : rb < w.heap.size) (hR : w.rowOf rb = R) (hRs : R.size = 8) (hP0 : P 0 = Li.cut b) (hst : Rds k R P) (hlen : ∀ i, i ≤ 4 → (P i).1.length = 32 ∧ (P i).2.length = n - 32) :
    Calls Tryd.prog 29 #[.agg (cs U8 k), .slice (some ⟨rb, 0, none⟩) 4 4, .slice (some ⟨ba, oa, none⟩) n cb] w fun e w' => ∃ v, e = .returned (.tuple #[v, .int .i64 0]) ∧ OB w' w.heap.size v (Li.join (P 4)) ∧ Below w.heap.size w w' := by
  obtain ⟨L, hLe⟩ : ∃ L, L = (P 4).1 := ⟨_, rfl⟩
  obtain ⟨r, hre⟩ : ∃ r, r = (P 4).2 := ⟨_, rfl⟩
  have hL : L.length = 32 := by rw [hLe]; exact (hlen 4 (by omega)).1
  have hrl : r.length = n - 32 := by rw [hre]; exact (hlen 4 (by omega)).2
  rw [show Li.join (P 4) = L ++ r by rw [hLe, hre]; unfold Li.join; rfl]
  have HLe := hid hLe
  have Hre := hid hre
  have hn32 : 32 ≤ b.length := by omega
  obtain ⟨L0, hL0'⟩ : ∃ L0, b.take 32 = L0 := ⟨_, rfl⟩
  have hL0 : L0.length = 32 := by rw [← hL0', List.length_take]; omega
  have hba : ba < w.heap.size := SV.lt hvb ba rfl (by intro e; have h2 := congrArg List.length e; simp only [List.length_map, List.length_nil] at h2; omega)
  have HP0 : Hid (P 0 = (L0, b.drop 32)) := hid (by rw [hP0, ← hL0']; unfold Li.cut; rfl)
  have HV0 : Hid (BS w (.slice (some ⟨ba, oa + 32, none⟩) (n - 32) (cb - 32)) (b.drop 32)) := hid (by rw [← hn] at hvb ⊢; exact hvb.tail 32 (by omega) _ (fun _ => rfl))
  have hcb : n ≤ cb := by
    obtain ⟨_, _, e, h, -⟩ := hvb
    injection e with _ e1 e2
    omega
  have HVB := hid hvb
  have HT := hid hT
  have HR : Hid (∀ w', Below w.heap.size w w' → w'.rowOf rb = R) := hid fun w' h => (below_row h hrb).trans hR
  have HL0 := hid hL0'
  have HST := hid hst
  have HLN := hid hlen
  clear hvb hT hR hL0' hst hlen hP0 hLe hre
  have n1 : ¬ (n : Int) < 33 := by omega
  have n2 : ¬ (4096 : Int) < (n : Int) := by omega
  have n3 : 32 ≤ n := by omega
  have n4 : 32 ≤ cb := by omega
  have n5 : ¬ (cb : Int) < 32 := by omega
  have n6 : (32 : Int) ≤ (n : Int) := by omega
  have n7 : ¬ cb = 32 := by omega
  have M0 := Mm.start no w
  go_enter Tryd.func29, Tryd.ntmps29
  have M2 := (M0.alloc (cs U8 k) 23 (by decide))
  try simp only [World.size_alloc] at M2
  go_upto_region 1 with fail
  obtain ⟨w1, hw1⟩ : ∃ w1, w1 = (w.alloc (.cells (cs U8 k) 23)) := ⟨_, rfl⟩
  rw [← hw1] at M2 ⊢
  clear hw1
  refine wp_region_lin (.op 0 (.op 1 (.op 2 (.op 3 .done)))) (by rfl) ?_
  refine wpT_valp 12 (v := .slice (some ⟨ba, oa, none⟩) n cb) rfl rfl rfl (by go_simp) ?_
  refine wpT_valp 13 (v := .int .i64 n) rfl rfl rfl (by go_simp) ?_
  refine wpT_valp 14 (v := .bool false) rfl rfl rfl (by go_simp) ?_
  refine wpT_valp 11 (v := .bool false) rfl rfl rfl (by go_simp) ?_
  dsimp only [wpT]
  try simp only [Act.put, List.setIfInBounds_toArray, List.set_cons_succ, List.set_cons_zero]
  go_upto_region 3 with fail
  refine wp_region_lin (.op 0 (.op 1 (.op 2 (.op 3 .done)))) (by rfl) ?_
  refine wpT_valp 16 (v := .slice (some ⟨ba, oa, none⟩) n cb) rfl rfl rfl (by go_simp) ?_
  refine wpT_valp 17 (v := .int .i64 n) rfl rfl rfl (by go_simp) ?_
  refine wpT_valp 18 (v := .bool false) rfl rfl rfl (by go_simp) ?_
  refine wpT_valp 15 (v := .bool false) rfl rfl rfl (by go_simp) ?_
  dsimp only [wpT]
  try simp only [Act.put, List.setIfInBounds_toArray, List.set_cons_succ, List.set_cons_zero]
  go_upto_region 5 with fail
  refine wp_region_seq 7 [19, 20, 21, 22, 23, 24, 25] [] [] [] (.op 7 (.op 8 .done)) (Mm no w _) (by kernel_rfl) (by kernel_rfl) (by kernel_rfl) (fun d _ _ _ _ h => by cases d <;> exact h) (by rfl) M2.size (fun _ _ h k => h.sf k) M2 ?_
  simp only [List.take_succ_cons, List.take_zero]
  refine SeqA.pure (.slice (some ⟨ba, oa, none⟩) n cb) (fun w' => by go_simp) rfl rfl ?_
  refine SeqA.pure (.slice (some ⟨ba, oa, none⟩) 32 cb) (fun w' => by go_simp) rfl rfl ?_
  refine SeqA.pure (.pointer (some ⟨ba, oa, none⟩)) (fun w' => by go_simp) rfl rfl ?_
  refine SeqA.read (.agg (cs U8 L0)) (fun w' hI => by have q := ldl_key (SV.below HVB.out hI.end_) hn32 HL0.out; go_simp) rfl rfl ?_
  refine SeqA.pure (.slice (some ⟨ba, oa, none⟩) n cb) (fun w' => by go_simp) rfl rfl ?_
  simp only [Act.put, List.setIfInBounds_toArray, List.set_cons_succ, List.set_cons_zero]
  refine SeqA.pure (.slice (some ⟨ba, oa + 32, none⟩) (n - 32) (cb - 32)) (fun w' => by go_simp) rfl rfl ?_
  refine SeqA.pure (.agg (BL L0 (.slice (some ⟨ba, oa + 32, none⟩) (n - 32) (cb - 32)))) (fun w' => by have q := xb_blk2 w' L0 (some ⟨ba, oa + 32, none⟩) (n - 32) (cb - 32) hL0; go_simp) rfl rfl ?_
  refine SeqA.nil (fun w3 M4 hz => ?_)
  show wpT _ _ _ _ _ _
  simp only [Act.put, List.setIfInBounds_toArray, List.set_cons_succ, List.set_cons_zero]
  refine wpT_bx 26 (c := BL L0 (.slice (some ⟨ba, oa + 32, none⟩) (n - 32) (cb - 32))) (T := 70) M4 (by decide) rfl rfl rfl (by go_simp) (fun b5 w6 h8 M7 B9 => ?_)
  refine wpT_vald 8 (v := .pointer (some ⟨b5, 0, none⟩)) rfl rfl rfl rfl ?_
  dsimp only [wpT]
  try simp only [Act.put, List.setIfInBounds_toArray, List.set_cons_succ, List.set_cons_zero]
  go_upto_region 6 with fail
  refine wp_region_lin (.op 0 (.op 1 (.op 2 .done))) (by rfl) ?_
  refine wpT_valp 27 (v := .slice (some ⟨rb, 0, none⟩) 4 4) rfl rfl rfl (by go_simp) ?_
  refine wpT_valp 28 (v := .int .i64 4) rfl rfl rfl (by go_simp) ?_
  refine wpT_valp 29 (v := .int .i64 0) rfl rfl rfl (by go_simp) ?_
  dsimp only [wpT]
  try simp only [Act.put, List.setIfInBounds_toArray, List.set_cons_succ, List.set_cons_zero]
  go_wp2_with fail
  have hown := (M7.own (b5, BL L0 (.slice (some ⟨ba, oa + 32, none⟩) (n - 32) (cb - 32))) (by simp)).1.resolve_left (fun h => h)
  have hne := M7.ne (i := 0) (j := 1) rfl rfl (by decide)
  replace hown : w.heap.size ≤ b5 := hown
  replace hne : b5 ≠ w.heap.size := hne
  have hbx : w.heap.size ≤ b5 := hown
  have hbx1 : w.heap.size < b5 := by omega
  clear h8 B9
  go_loopw [29] (fun x wr => ∃ (i : Nat) (v : Value), i ≤ 4 ∧ x = .int .i64 i ∧ Mm no w [(b5, BL (P i).1 v), (w.heap.size, cs U8 k)] wr ∧ BS wr v (P i).2 ∧ ∀ g, v.ownBlock = some g → g < w.heap.size ∨ b5 < g) (fun x _ => 4 - (intOf x).toNat)
  case atStart => exact ⟨0, .slice (some ⟨ba, oa + 32, none⟩) (n - 32) (cb - 32), by omega, rfl, by rw [HP0.out]; exact M7, by rw [HP0.out]; exact SV.below HV0.out M7.end_, fun g hg => .inl (by have e : ba = g := Option.some.inj hg; omega)⟩
  case round =>
    clear M7
    obtain ⟨i, v, hi, rfl, M, hv, hvo⟩ := hrel
    obtain ⟨S1, MR, hS1, hT1⟩ := M.rebase
    have T0 := hid hT1
    have hvk : ∀ g, v.ownBlock = some g → ¬ S1 g := fun g hg hs => by
      have h1 := hS1 g hs
      simp only [List.map_cons, List.map_nil, List.mem_cons, List.not_mem_nil, or_false] at h1
      rcases hvo g hg with h | h <;> rcases h1 with e | e <;> omega
    have hvb : v.ownBlock ≠ some b5 := fun e => by rcases hvo _ e with h | h <;> omega
    clear hS1 hT1 M
    by_cases hi4 : i < 4
    · have HV : Hid (∀ H' w', Mm S1 wr H' w' → BS w' v (P i).2) := hid fun H' w' N => SV.keep hv fun g hg hl => N.fr.block g hl (hvk g hg)
      have hlt : (i : Int) < 4 := by omega
      have hi0 : (0 : Int) ≤ (i : Int) := by omega
      obtain ⟨hPl, hPr⟩ := HLN.out i (by omega)
      obtain ⟨lb, hlb, hc⟩ := HST.out i hi4
      replace hlb : lb.length ≤ 1073700000 := by omega
      obtain ⟨D, hD'⟩ : ∃ D, D = Sh.derive k lb := ⟨_, rfl⟩
      have hD : D.length = 32 := by rw [hD']; exact derive_len ..
      rw [← hD'] at hc
      have HD := hid hD'
      clear hD' hv hvk
      rcases hc with ⟨hRi, hP1⟩ | ⟨hRi, hP1⟩
      · have HRi := hid hRi
        have HP1 := hid hP1
        clear hRi hP1
        go_upto_region 8 with fail
        refine wp_region_lin (.op 0 (.op 1 (.op 2 (.op 3 .done)))) (by rfl) ?_
        refine wpT_valp 31 (v := .pointer (some ⟨rb, i * 2, none⟩)) rfl rfl rfl (by go_simp) ?_
        refine wpT_ldm 32 Tryd.underlying59 rfl inf_rnd rb (i * 2) (wr.rowOf rb) (#[.string (Bs lb), .func (.func 41) #[] #[]]) rfl rfl rfl (by go_simp) rfl (by have q := HR.out _ (T0.out _ _ MR).end_; rw [q]; omega) (by have q := HR.out _ (T0.out _ _ MR).end_; rw [q]; exact HRi.out) rfl ?_
        refine wpT_new (z := .agg (#[.string ByteArray.empty, .nilFunc])) 10 MR (by kernel_rfl) (by decide) rfl rfl rfl rfl (fun b21 w22 M23 => ?_)
        try dsimp only [Value.cells] at M23
        refine wpT_st0 M23 0 (#[.string (Bs lb), .func (.func 41) #[] #[]]) inf_rnd rfl rfl rfl rfl (by go_simp) (by go_simp) (by simp [BL_size, hL, hk]) (by simp [BL_size, hL, hk]) (by simp [go_sem]) rfl (fun w24 M25 => ?_)
        dsimp only [List.set] at M25
        dsimp only [wpT]
        try simp only [Act.put, List.setIfInBounds_toArray, List.set_cons_succ, List.set_cons_zero]
        go_upto_region 9 with fail
        refine wp_region_seq 7 [33, 34, 35, 36, 37, 38, 39] [] [] [] (.op 7 .done) (Mm S1 wr _) (by kernel_rfl) (by kernel_rfl) (by kernel_rfl) (fun d _ _ _ _ h => by cases d <;> exact h) (by rfl) M25.size (fun _ _ h k => h.sf k) M25 ?_
        simp only [List.take_succ_cons, List.take_zero]
        refine SeqA.pure (.pointer (some ⟨b21, 1, none⟩)) (fun w' => by go_simp) rfl rfl ?_
        refine SeqA.read (.func (.func 41) #[] #[]) (fun w' M => by have c0 := rn_1 (M.row (b := b21) (c := #[.string (Bs lb), .func (.func 41) #[] #[]]) (by simp)); go_simp) rfl rfl ?_
        refine SeqA.pure (.pointer (some ⟨b5, 0, none⟩)) (fun w' => by go_simp) rfl rfl ?_
        refine SeqA.ld0 Tryd.underlying23 rfl inf_key (w.heap.size) (cs U8 k) rfl (by go_simp) (fun _ M => M.row (by simp)) (by simp [BL_size, hL, hk]) rfl ?_
        refine SeqA.pure (.pointer (some ⟨b21, 0, none⟩)) (fun w' => by go_simp) rfl rfl ?_
        simp only [Act.put, List.setIfInBounds_toArray, List.set_cons_succ, List.set_cons_zero]
        refine SeqA.read (.string (Bs lb)) (fun w' M => by have c0 := rn_0 (M.row (b := b21) (c := #[.string (Bs lb), .func (.func 41) #[] #[]]) (by simp)); go_simp) rfl rfl ?_
        refine SeqA.call _ _ _ (fun w' => by go_simp) (fun w' hI _ => der_v HD.out HT.out (T0.out _ _ hI).end_ hk hlb) M25.size rfl rfl ?_
        refine SeqA.nil (fun w26 M27 hz => ?_)
        show wpT _ _ _ _ _ _
        simp only [Act.put, List.setIfInBounds_toArray, List.set_cons_succ, List.set_cons_zero]
        have hz9 := M27.lt (b := b5) (c := BL (P i).1 v) (by simp)
        refine wpT_callmx 40 M27 1 (v := .tuple #[]) (X := fun C' w' => ∃ v', C' = BL (P (i + 1)).1 v' ∧ BS w' v' (P (i + 1)).2 ∧ ∀ g, v'.ownBlock = some g → v.ownBlock = some g ∨ w26.heap.size ≤ g) rfl rfl rfl rfl (by go_simp) (streamm_v HP1.out hPl hD hPr (by omega) (HV.out _ _ M27) hvb (kt_loc HT.out (T0.out _ _ M27).end_ hbx) (M27.loc' (k := 1) rfl)) (fun C' w9 M9 hX => ?_)
        obtain ⟨v', rfl, hv1, hv2⟩ := hX
        dsimp only [List.set] at M9
        dsimp only [wpT]
        try simp only [Act.put, List.setIfInBounds_toArray, List.set_cons_succ, List.set_cons_zero]
        go_wp2_with fail
        go_roundw
        case rel => exact ⟨i + 1, v', by omega, by simp, (T0.out _ _ M9).sub (by simp), hv1, fun g hg => by
          rcases hv2 g hg with h | h
          · exact hvo g h
          · exact .inr (by omega)⟩
        case measure => simp only [intOf]; omega
      · have HRi := hid hRi
        have HP1 := hid hP1
        clear hRi hP1
        go_upto_region 8 with fail
        refine wp_region_lin (.op 0 (.op 1 (.op 2 (.op 3 .done)))) (by rfl) ?_
        refine wpT_valp 31 (v := .pointer (some ⟨rb, i * 2, none⟩)) rfl rfl rfl (by go_simp) ?_
        refine wpT_ldm 32 Tryd.underlying59 rfl inf_rnd rb (i * 2) (wr.rowOf rb) (#[.string (Bs lb), .func (.func 42) #[] #[]]) rfl rfl rfl (by go_simp) rfl (by have q := HR.out _ (T0.out _ _ MR).end_; rw [q]; omega) (by have q := HR.out _ (T0.out _ _ MR).end_; rw [q]; exact HRi.out) rfl ?_
        refine wpT_new (z := .agg (#[.string ByteArray.empty, .nilFunc])) 10 MR (by kernel_rfl) (by decide) rfl rfl rfl rfl (fun b21 w22 M23 => ?_)
        try dsimp only [Value.cells] at M23
        refine wpT_st0 M23 0 (#[.string (Bs lb), .func (.func 42) #[] #[]]) inf_rnd rfl rfl rfl rfl (by go_simp) (by go_simp) (by simp [BL_size, hL, hk]) (by simp [BL_size, hL, hk]) (by simp [go_sem]) rfl (fun w24 M25 => ?_)
        dsimp only [List.set] at M25
        dsimp only [wpT]
        try simp only [Act.put, List.setIfInBounds_toArray, List.set_cons_succ, List.set_cons_zero]
        go_upto_region 9 with fail
        refine wp_region_seq 7 [33, 34, 35, 36, 37, 38, 39] [] [] [] (.op 7 .done) (Mm S1 wr _) (by kernel_rfl) (by kernel_rfl) (by kernel_rfl) (fun d _ _ _ _ h => by cases d <;> exact h) (by rfl) M25.size (fun _ _ h k => h.sf k) M25 ?_
        simp only [List.take_succ_cons, List.take_zero]
        refine SeqA.pure (.pointer (some ⟨b21, 1, none⟩)) (fun w' => by go_simp) rfl rfl ?_
        refine SeqA.read (.func (.func 42) #[] #[]) (fun w' M => by have c0 := rn_1 (M.row (b := b21) (c := #[.string (Bs lb), .func (.func 42) #[] #[]]) (by simp)); go_simp) rfl rfl ?_
        refine SeqA.pure (.pointer (some ⟨b5, 0, none⟩)) (fun w' => by go_simp) rfl rfl ?_
        refine SeqA.ld0 Tryd.underlying23 rfl inf_key (w.heap.size) (cs U8 k) rfl (by go_simp) (fun _ M => M.row (by simp)) (by simp [BL_size, hL, hk]) rfl ?_
        refine SeqA.pure (.pointer (some ⟨b21, 0, none⟩)) (fun w' => by go_simp) rfl rfl ?_
        simp only [Act.put, List.setIfInBounds_toArray, List.set_cons_succ, List.set_cons_zero]
        refine SeqA.read (.string (Bs lb)) (fun w' M => by have c0 := rn_0 (M.row (b := b21) (c := #[.string (Bs lb), .func (.func 42) #[] #[]]) (by simp)); go_simp) rfl rfl ?_
        refine SeqA.call _ _ _ (fun w' => by go_simp) (fun w' hI _ => der_v HD.out HT.out (T0.out _ _ hI).end_ hk hlb) M25.size rfl rfl ?_
        refine SeqA.nil (fun w26 M27 hz => ?_)
        show wpT _ _ _ _ _ _
        simp only [Act.put, List.setIfInBounds_toArray, List.set_cons_succ, List.set_cons_zero]
        have hz9 := M27.lt (b := b5) (c := BL (P i).1 v) (by simp)
        refine wpT_callmx 40 M27 1 (v := .tuple #[]) (X := fun C' w' => ∃ v', C' = BL (P (i + 1)).1 v' ∧ BS w' v' (P (i + 1)).2 ∧ ∀ g, v'.ownBlock = some g → v.ownBlock = some g ∨ w26.heap.size ≤ g) rfl rfl rfl rfl (by go_simp) (tagm_v HP1.out hPl hD hPr (by omega) (HV.out _ _ M27) hvb (kt_loc HT.out (T0.out _ _ M27).end_ hbx) (M27.loc' (k := 1) rfl)) (fun C' w9 M9 hX => ?_)
        obtain ⟨v', rfl, hv1, hv2⟩ := hX
        dsimp only [List.set] at M9
        dsimp only [wpT]
        try simp only [Act.put, List.setIfInBounds_toArray, List.set_cons_succ, List.set_cons_zero]
        go_wp2_with fail
        go_roundw
        case rel => exact ⟨i + 1, v', by omega, by simp, (T0.out _ _ M9).sub (by simp), hv1, fun g hg => by
          rcases hv2 g hg with h | h
          · exact hvo g h
          · exact .inr (by omega)⟩
        case measure => simp only [intOf]; omega
    · obtain rfl : i = 4 := by omega
      rw [← HLe.out] at MR
      rw [← Hre.out] at hv
      have HV : Hid (∀ H' w', Mm S1 wr H' w' → BS w' v r) := hid fun H' w' N => SV.keep hv fun g hg hl => N.fr.block g hl (hvk g hg)
      clear hv hvk
      go_upto_region 11 with fail
      refine wp_region_P [0, 1, 2, 3, 4, 5, 6] (.op 7 (.op 8 (.op 9 (.op 10 .done)))) (by kernel_rfl) (by kernel_rfl) (by kernel_rfl) (fun d _ _ _ _ h => by cases d <;> exact h) ?_
      refine wpYJd_op 42 (.pointer (some ⟨b5, 0, none⟩)) rfl rfl rfl (fun w1 _ => by go_simp) ?_
      refine wpYJd_op 43 (.pointer (some ⟨b5, 0, none⟩)) rfl rfl rfl (fun w1 _ => by go_simp) ?_
      refine wpYJd_op 44 (.pointer (some ⟨b5, 0, none⟩)) rfl rfl rfl (fun w1 _ => by go_simp) ?_
      refine wpYJd_op 45 (.slice (some ⟨b5, 0, none⟩) 32 32) rfl rfl rfl (fun w1 _ => by go_simp) ?_
      refine wpYJd_op 46 (.pointer (some ⟨b5, 0, none⟩)) rfl rfl rfl (fun w1 _ => by go_simp) ?_
      try simp only [Act.put, List.setIfInBounds_toArray, List.set_cons_succ, List.set_cons_zero]
      refine wpYJd_op 47 (.pointer (some ⟨b5, 0, none⟩)) rfl rfl rfl (fun w1 _ => by go_simp) ?_
      refine wpYJd_op 48 (.pointer (some ⟨b5, 32, none⟩)) rfl rfl rfl (fun w1 _ => by go_simp) ?_
      show wpT _ _ _ _ _ _
      try simp only [Act.put, List.setIfInBounds_toArray, List.set_cons_succ, List.set_cons_zero]
      have M21 := MR.drewN 1
      change wpT _ _ _ _ _ (wr.drewN 1)
      obtain ⟨w22, hw22⟩ : ∃ w22, w22 = wr.drewN 1 := ⟨_, rfl⟩
      rw [← hw22] at M21 ⊢
      clear hw22
      refine wpT_valp 49 (v := v) rfl rfl rfl (by have c0 := bl_right hL (M21.row (b := b5) (c := BL L v) (by simp)); go_simp) ?_
      have hz8 := (T0.out _ _ M21).size
      refine wpT_apf 50 _ _ M21 (n := 32) (u := v) L r rfl rfl rfl rfl (by go_simp) (by simp) hL (BS.segp (M21.row (b := b5) (c := BL L v) (by simp)) hL) (by go_simp) (HV.out _ _ M21) (by omega) (by omega) (fun v8 w8 O8 M8 _ => ?_)
      have O8 := hid (OB.mono O8 hz8)
      refine wpT_valp 6 (v := v8) rfl rfl rfl (by go_simp) ?_
      refine wpT_valp 7 (v := .int .i64 0) rfl rfl rfl (by go_simp) ?_
      dsimp only [wpT]
      try simp only [Act.put, List.setIfInBounds_toArray, List.set_cons_succ, List.set_cons_zero]
      go_wp2_with fail
      refine bodyPost_ret (res_two rfl (rv_tmp _ _ rfl) (rv_tmp _ _ rfl)) rfl ?_
      exact ⟨v8, rfl, O8.out, (T0.out _ _ M8).end_⟩
end Go.Proofs.YtbigmnhjnjeeaaaDoor
set_option linter.unusedSimpArgs false
set_option linter.unusedVariables false
namespace Go.Proofs.YtbigmnhjnjeeaaaDoor
open Go.RowKit
abbrev fS : Value := .func (.func 41) #[] #[]
abbrev fT : Value := .func (.func 42) #[] #[]
abbrev lS (n : UInt8) : Value := .string ⟨#[108, 105, 111, 110, 32, n]⟩
/-- the rounds' row -/
def RR : Array Value := #[lS 49, fS, lS 50, fT, lS 51, fS, lS 52, fT]
def RQ : Array Value := #[lS 52, fT, lS 51, fS, lS 50, fT, lS 49, fS]
/-- what there is behind i rounds, of the numbers J -/
def LP (k b : Bs8) (J : Nat → Nat) : Nat → Bs8 × Bs8
  | 0 => Li.cut b
  | i + 1 => (if J i % 2 = 1 then Li.st else Li.tg) (Li.key k (J i)) (LP k b J i)
theorem LP_lock (k b : Bs8) : Li.join (LP k b (· + 1) 4) = Li.lock k b := rfl
theorem LP_unlock (k b : Bs8) : Li.join (LP k b (4 - ·) 4) = Li.unlock k b := rfl
theorem LP_len (k b : Bs8) (J : Nat → Nat) (h : 32 ≤ b.length) (i : Nat) : (LP k b J i).1.length = 32 ∧ (LP k b J i).2.length = b.length - 32 := by
  induction i with
  | zero => exact cut_len b h
  | succ i ih =>
    unfold LP
    split
    · have := st_len (Li.key k (J i)) (LP k b J i); omega
    · have := tg_len (Li.key k (J i)) (LP k b J i) ih.1; omega
theorem rds_lock (k b : Bs8) : Rds k RR (LP k b (· + 1)) := fun i hi => match i, hi with
  | 0, _ => ⟨Li.lab 1, by decide, .inl ⟨rfl, rfl⟩⟩
  | 1, _ => ⟨Li.lab 2, by decide, .inr ⟨rfl, rfl⟩⟩
  | 2, _ => ⟨Li.lab 3, by decide, .inl ⟨rfl, rfl⟩⟩
  | 3, _ => ⟨Li.lab 4, by decide, .inr ⟨rfl, rfl⟩⟩
theorem rds_unlock (k b : Bs8) : Rds k RQ (LP k b (4 - ·)) := fun i hi => match i, hi with
  | 0, _ => ⟨Li.lab 4, by decide, .inr ⟨rfl, rfl⟩⟩
  | 1, _ => ⟨Li.lab 3, by decide, .inl ⟨rfl, rfl⟩⟩
  | 2, _ => ⟨Li.lab 2, by decide, .inr ⟨rfl, rfl⟩⟩
  | 3, _ => ⟨Li.lab 1, by decide, .inl ⟨rfl, rfl⟩⟩
theorem bp_rnd (l : List (Nat × Value)) : Tryd.prog.built 59 l = Instr.fill (([(0, 1), (1, 1)] : List (Nat × Nat)).toArray[·]?) (((Tryd.prog.info? 59).bind (·.zero)).getD undef).cells l := by kernel_rfl
theorem bz_rnd : (((Tryd.prog.info? 59).bind (·.zero)).getD undef).cells.size = 2 := by kernel_rfl
@[go_sem ↓] theorem rb_rnd (ρ : Operand → Value) (dst : Option Tmp) (ty : TypeId) (pos : String) (after : Array Edge) (guard : Option (Nat × Bool)) (w : World) (ps : Array (Nat × Operand)) :
    (execOp ρ { dst, op := .build 59 ps, type := ty, pos, after, guard }).run Tryd.prog w = exBuild Tryd.prog 59 (ps.map fun p => (p.1, ρ p.2)) w := x_build ..
theorem xb_rnd (w : World) (ps : Array (Nat × Value)) (hc : Cont (([(0, 1), (1, 1)] : List (Nat × Nat)).toArray[·]?) 0 ps.toList) (hz : (catP ps.toList).size = 2) :
    exBuild Tryd.prog 59 ps w = .ok (.value (.agg (catP ps.toList))) w := by
  unfold exBuild; rw [run_build_cat w 59 ps _ _ bp_rnd hc (by rw [bz_rnd]; exact hz)]; rfl

theorem xb_rnd2 (w : World) (s : ByteArray) (f : Fn) : exBuild Tryd.prog 59 #[(0, .string s), (1, .func f #[] #[])] w = .ok (.value (.agg #[.string s, .func f #[] #[]])) w := by
  rw [xb_rnd w _ (by simp [Cont, Value.cells]) (by simp [catP, Value.cells])]
  simp [catP, Value.cells]
theorem rnd_info : ∃ ie z, Tryd.prog.info? 59 = some ie ∧ ie.zero = some z ∧ ie.size = 2 ∧ z.cells.size = 2 := by
  have h : (Tryd.prog.info? 59).map (fun i => (i.zero, i.size)) = some (some (.agg #[.string ByteArray.empty, .nilFunc]), 2) := by kernel_rfl
  cases hi : Tryd.prog.info? 59 with
  | none => rw [hi] at h; cases h
  | some ie =>
    rw [hi] at h
    injection h with h
    injection h with h1 h2
    exact ⟨ie, _, rfl, h1, h2, by simp [Value.cells]⟩
section
variable {ops : Array Oper} {Q : Exit → Act → World → Prop} {i : Nat} {t : Tr} {a : Act} {o : Oper} {S : Nat → Prop} {w0 w : World} {H : List (Nat × Array Value)}
theorem wpT_rnds (dst : Nat) (x0 x1 x2 x3 : Operand) (M : Mm S w0 H w) (s0 s1 s2 s3 : ByteArray) (f0 f1 f2 f3 : Fn) (hdst : o.dst = some dst) (ho : ops[i]? = some o) (hop : o.op = .buildSlice 52 4 #[(0, x0), (1, x1), (2, x2), (3, x3)])
    (h0 : a.eval x0 = .agg #[.string s0, .func f0 #[] #[]]) (h1 : a.eval x1 = .agg #[.string s1, .func f1 #[] #[]]) (h2 : a.eval x2 = .agg #[.string s2, .func f2 #[] #[]]) (h3 : a.eval x3 = .agg #[.string s3, .func f3 #[] #[]]) (hw : Region.wanted o (yielded ops a.tmps) = true)
    (h : ∀ b w', Mm S w0 ((b, #[.string s0, .func f0 #[] #[], .string s1, .func f1 #[] #[], .string s2, .func f2 #[] #[], .string s3, .func f3 #[] #[]]) :: H) w' → wpT Tryd.prog ops Q t (a.put (some dst) (.slice (some ⟨b, 0, none⟩) 4 4)) w') : wpT Tryd.prog ops Q (.op i t) a w := by
  obtain ⟨ie, z, i1, i2, i3, i4⟩ := rnd_info
  refine wpT_bsl dst M _ ie z Tryd.underlying52 i1 i2 (by rw [i3]; omega) (by rw [i3]; omega) (by decide) hdst ho hop ?_ hw (fun b w' M _ _ => h b w' M)
  rw [i3]
  have e : (Array.map (fun (x : Nat × Operand) => (x.1, a.eval x.2)) #[(0, x0), (1, x1), (2, x2), (3, x3)]).toList = [(0, .agg #[.string s0, .func f0 #[] #[]]), (1, .agg #[.string s1, .func f1 #[] #[]]), (2, .agg #[.string s2, .func f2 #[] #[]]), (3, .agg #[.string s3, .func f3 #[] #[]])] := by simp [h0, h1, h2, h3]
  have := fill_cat (fun i => some (i * 2, 2)) [(0, .agg #[.string s0, .func f0 #[] #[]]), (1, .agg #[.string s1, .func f1 #[] #[]]), (2, .agg #[.string s2, .func f2 #[] #[]]), (3, .agg #[.string s3, .func f3 #[] #[]])] #[] ((Array.range (4 * 2)).map (z.cells[· % z.cells.size]!)) (by simp [Cont, Value.cells]) (by simp [catP, Value.cells])
  rw [Array.empty_append, Array.empty_append] at this
  rw [e, this]
  simp [catP, Value.cells]
/-- a call that makes one row -/
theorem wpT_callJ (dst : Nat) (M : Mm S w0 H w) {f : FuncId} {args : Array Value} {C : Array Value} (V : Nat → Value) (hdst : o.dst = some dst) (ho : ops[i]? = some o) (hw : Region.wanted o (yielded ops a.tmps) = true) (hrun : (execOp a.eval o).run Tryd.prog w = .ok (.enter f args) w)
    (hc : Calls Tryd.prog f args w fun e w' => ∃ g, e = .returned (V g) ∧ Mm no w [(g, C)] w')
    (h : ∀ g w', Mm S w0 ((g, C) :: H) w' → wpT Tryd.prog ops Q t (a.put (some dst) (V g)) w') : wpT Tryd.prog ops Q (.op i t) a w :=
  wpT_call ho hw hrun hc (fun e w' ⟨g, he, N⟩ => ⟨V g, he, by rw [hdst]; exact h g w' (M.join N)⟩)
/-- bytes are made, all nought -/
theorem wpT_mkz (dst n : Nat) (x y : Operand) (M : Mm S w0 H w) (hdst : o.dst = some dst) (ho : ops[i]? = some o) (hop : o.op = .makeSlice 24 x y) (hw : Region.wanted o (yielded ops a.tmps) = true)
    (hx : a.eval x = .int .i64 n) (hy : a.eval y = .int .i64 n) (hn : n ≤ 16777216)
    (h : ∀ g w', BN w' w.heap.size (.slice (some ⟨g, 0, none⟩) n n) (zs n) → Mm S w0 H w' → Below w.heap.size w w' → wpT Tryd.prog ops Q t (a.put (some dst) (.slice (some ⟨g, 0, none⟩) n n)) w') : wpT Tryd.prog ops Q (.op i t) a w := by
  obtain ⟨inf, hi0, hz0, hz1, hz2⟩ := info_parts info_u8
  obtain ⟨w', hr, h1, h2⟩ := run_make_full (P := Tryd.prog) w w.heap.size 24 5 inf (.int .u8 0) 1 Tryd.underlying24 hi0 hz0 hz1 .i64 .i64 n (by rw [hz2]; omega) (by unfold maxLen; omega) (Nat.le_refl _)
  refine wpT_val (v := .slice (some ⟨w.heap.size, 0, none⟩) n n) (w' := w') ho hw ?_ ?_
  · obtain ⟨dst, op, ty, pos, after, guard⟩ := o
    subst hop
    simp only [execOp, Sem.run_bind, hx, hy]
    rw [hr]; rfl
  · rw [hdst]
    have hO : OB w' w.heap.size (.slice (some ⟨w.heap.size, 0, none⟩) n n) (zs n) := by
      unfold OB
      have e : (madeCells (Value.cells (.int .u8 0)) (n * 1)).toList = (zs n : List (BitVec 8)).map U8 := by
        rw [Nat.mul_one]; exact (toList_madeCells_one _ n).trans (by simp [zs]; exact .inr rfl)
      rw [e] at h1
      simpa [zs] using h1
    exact h _ _ hO.bn (M.grown8 h2 (fun g hg => by cases hg)) (gb_to_below h2 _ (Nat.le_refl _) (fun g hg => by cases hg))
end
attribute [local irreducible] RR RQ Rds LP Li.lock Li.unlock
set_option maxRecDepth 100000 in
set_option maxHeartbeats 4000000 in
theorem rounds_c (w : World) : Calls Tryd.prog 30 #[] w fun e w' => ∃ g, e = .returned (.slice (some ⟨g, 0, none⟩) 4 4) ∧ Mm no w [(g, RR)] w' := by
  have M0 := Mm.start no w
  go_enter Tryd.func30, Tryd.ntmps30
  go_upto_region 1 with fail
  refine wp_region_lin (.op 0 (.op 1 (.op 2 (.op 3 (.op 4 (.op 5 .done)))))) (by rfl) ?_
  refine wpT_valL 1 (v := .agg #[.string ⟨#[108, 105, 111, 110, 32, 49]⟩, .func (.func 41) #[] #[]]) rfl rfl rfl (by have q := xb_rnd2 w ⟨#[108, 105, 111, 110, 32, 49]⟩ (.func 41); go_simp) ?_
  refine wpT_valL 2 (v := .agg #[.string ⟨#[108, 105, 111, 110, 32, 50]⟩, .func (.func 42) #[] #[]]) rfl rfl rfl (by have q := xb_rnd2 w ⟨#[108, 105, 111, 110, 32, 50]⟩ (.func 42); go_simp) ?_
  refine wpT_valL 3 (v := .agg #[.string ⟨#[108, 105, 111, 110, 32, 51]⟩, .func (.func 41) #[] #[]]) rfl rfl rfl (by have q := xb_rnd2 w ⟨#[108, 105, 111, 110, 32, 51]⟩ (.func 41); go_simp) ?_
  refine wpT_valL 4 (v := .agg #[.string ⟨#[108, 105, 111, 110, 32, 52]⟩, .func (.func 42) #[] #[]]) rfl rfl rfl (by have q := xb_rnd2 w ⟨#[108, 105, 111, 110, 32, 52]⟩ (.func 42); go_simp) ?_
  try simp only [Act.put, List.setIfInBounds_toArray, List.set_cons_succ, List.set_cons_zero]
  refine wpT_rnds 5 _ _ _ _ M0 ⟨#[108, 105, 111, 110, 32, 49]⟩ ⟨#[108, 105, 111, 110, 32, 50]⟩ ⟨#[108, 105, 111, 110, 32, 51]⟩ ⟨#[108, 105, 111, 110, 32, 52]⟩ (.func 41) (.func 42) (.func 41) (.func 42) rfl rfl rfl (by go_simp) (by go_simp) (by go_simp) (by go_simp) rfl (fun g1 w2 M3 => ?_)
  refine wpT_valp 0 (v := .slice (some ⟨g1, 0, none⟩) 4 4) rfl rfl rfl (by go_simp) ?_
  dsimp only [wpT]
  try simp only [Act.put, List.setIfInBounds_toArray, List.set_cons_succ, List.set_cons_zero]
  go_wp2_with fail
  go_ret
  exact ⟨_, rfl, by unfold RR; exact M3⟩
set_option maxRecDepth 100000 in
set_option maxHeartbeats 4000000 in
theorem rev_c (w : World) (b : Nat) (s0 s1 s2 s3 : ByteArray) (f0 f1 f2 f3 : Fn) (M : Mm (fun g => g = b) w [(b, #[.string s0, .func f0 #[] #[], .string s1, .func f1 #[] #[], .string s2, .func f2 #[] #[], .string s3, .func f3 #[] #[]])] w) :
    Calls Tryd.prog 33 #[.slice (some ⟨b, 0, none⟩) 4 4] w fun e w' => e = .returned (.tuple #[]) ∧ Mm (fun g => g = b) w [(b, #[.string s3, .func f3 #[] #[], .string s2, .func f2 #[] #[], .string s1, .func f1 #[] #[], .string s0, .func f0 #[] #[]])] w' := by
  have i3 : IntKind.i64.wrap 3 = 3 := by decide
  go_enter Tryd.func33, Tryd.ntmps33
  go_upto_region 0 with fail
  refine wp_region_lin (.op 0 (.op 1 (.op 2 (.op 3 (.op 4 .done))))) (by rfl) ?_
  refine wpT_valp 4 (v := .slice (some ⟨b, 0, none⟩) 4 4) rfl rfl rfl (by go_simp) ?_
  refine wpT_valp 5 (v := .int .i64 4) rfl rfl rfl (by go_simp) ?_
  refine wpT_valp 6 (v := .int .i64 3) rfl rfl rfl (by go_simp) ?_
  refine wpT_valp 2 (v := .int .i64 0) rfl rfl rfl (by go_simp) ?_
  try simp only [Act.put, List.setIfInBounds_toArray, List.set_cons_succ, List.set_cons_zero]
  refine wpT_valp 3 (v := .int .i64 3) rfl rfl rfl (by go_simp) ?_
  dsimp only [wpT]
  try simp only [Act.put, List.setIfInBounds_toArray, List.set_cons_succ, List.set_cons_zero]
  go_wp2_with fail
  go_loopw [2, 3] (fun x y wr => (x = .int .i64 0 ∧ y = .int .i64 3 ∧ Mm (fun g => g = b) w [(b, #[.string s0, .func f0 #[] #[], .string s1, .func f1 #[] #[], .string s2, .func f2 #[] #[], .string s3, .func f3 #[] #[]])] wr) ∨ (x = .int .i64 1 ∧ y = .int .i64 2 ∧ Mm (fun g => g = b) w [(b, #[.string s3, .func f3 #[] #[], .string s1, .func f1 #[] #[], .string s2, .func f2 #[] #[], .string s0, .func f0 #[] #[]])] wr) ∨ (x = .int .i64 2 ∧ y = .int .i64 1 ∧ Mm (fun g => g = b) w [(b, #[.string s3, .func f3 #[] #[], .string s2, .func f2 #[] #[], .string s1, .func f1 #[] #[], .string s0, .func f0 #[] #[]])] wr)) (fun x _ _ => 4 - (intOf x).toNat)
  case atStart => exact .inl ⟨rfl, rfl, M⟩
  case round =>
    clear M
    rcases hrel with ⟨rfl, rfl, M⟩ | ⟨rfl, rfl, M⟩ | ⟨rfl, rfl, M⟩
    · skip
      go_upto_region 3 with fail
      refine wp_region_seq 13 [14, 15, 16, 17, 18, 19, 20, 21, 22, 23, 24, 25, 26] [] [2, 3] [] (.op 13 (.op 14 (.op 15 .done))) (Mm (fun g => g = b) w _) (by kernel_rfl) (by kernel_rfl) (by kernel_rfl) (fun d _ _ _ _ h => by cases d <;> exact h) (by rfl) M.size (fun _ _ h k => h.sf k) M ?_
      simp only [List.take_succ_cons, List.take_zero]
      refine SeqA.pure (.slice (some ⟨b, 0, none⟩) 4 4) (fun w' => by go_simp) rfl rfl ?_
      refine SeqA.pure (.int .i64 0) (fun w' => by go_simp) rfl rfl ?_
      refine SeqA.pure (.slice (some ⟨b, 0, none⟩) 4 4) (fun w' => by go_simp) rfl rfl ?_
      refine SeqA.pure (.int .i64 3) (fun w' => by go_simp) rfl rfl ?_
      refine SeqA.pure (.slice (some ⟨b, 0, none⟩) 4 4) (fun w' => by go_simp) rfl rfl ?_
      simp only [Act.put, List.setIfInBounds_toArray, List.set_cons_succ, List.set_cons_zero]
      refine SeqA.pure (.int .i64 3) (fun w' => by go_simp) rfl rfl ?_
      refine SeqA.pure (.pointer (some ⟨b, 6, none⟩)) (fun w' => by go_simp) rfl rfl ?_
      refine SeqA.ldm Tryd.underlying59 rfl inf_rnd (b) 6 (#[.string s0, .func f0 #[] #[], .string s1, .func f1 #[] #[], .string s2, .func f2 #[] #[], .string s3, .func f3 #[] #[]]) (#[.string s3, .func f3 #[] #[]]) rfl (by go_simp) (fun _ M => M.row (by simp)) (by simp []) (rfl) rfl ?_
      refine SeqA.pure (.slice (some ⟨b, 0, none⟩) 4 4) (fun w' => by go_simp) rfl rfl ?_
      refine SeqA.pure (.int .i64 0) (fun w' => by go_simp) rfl rfl ?_
      refine SeqA.pure (.pointer (some ⟨b, 0, none⟩)) (fun w' => by go_simp) rfl rfl ?_
      simp only [Act.put, List.setIfInBounds_toArray, List.set_cons_succ, List.set_cons_zero]
      refine SeqA.ldm Tryd.underlying59 rfl inf_rnd (b) 0 (#[.string s0, .func f0 #[] #[], .string s1, .func f1 #[] #[], .string s2, .func f2 #[] #[], .string s3, .func f3 #[] #[]]) (#[.string s0, .func f0 #[] #[]]) rfl (by go_simp) (fun _ M => M.row (by simp)) (by simp []) (rfl) rfl ?_
      refine SeqA.pure (.pointer (some ⟨b, 0, none⟩)) (fun w' => by go_simp) rfl rfl ?_
      refine SeqA.nil (fun w1 M2 hz => ?_)
      show wpT _ _ _ _ _ _
      simp only [Act.put, List.setIfInBounds_toArray, List.set_cons_succ, List.set_cons_zero]
      refine wpT_stm (off := 0) M2 0 (#[.string s3, .func f3 #[] #[]]) (#[.string s3, .func f3 #[] #[], .string s1, .func f1 #[] #[], .string s2, .func f2 #[] #[], .string s3, .func f3 #[] #[]]) inf_rnd rfl rfl rfl rfl (by go_simp) (by go_simp) (by simp []) (by simp []) (by simp [go_sem]) (rfl) rfl (fun w3 M4 => ?_)
      dsimp only [List.set] at M4
      refine wpT_valp 27 (v := .pointer (some ⟨b, 6, none⟩)) rfl rfl rfl (by go_simp) ?_
      refine wpT_stm (off := 6) M4 0 (#[.string s0, .func f0 #[] #[]]) (#[.string s3, .func f3 #[] #[], .string s1, .func f1 #[] #[], .string s2, .func f2 #[] #[], .string s0, .func f0 #[] #[]]) inf_rnd rfl rfl rfl rfl (by go_simp) (by go_simp) (by simp []) (by simp []) (by simp [go_sem]) (rfl) rfl (fun w5 M6 => ?_)
      dsimp only [List.set] at M6
      dsimp only [wpT]
      simp only [Act.put, List.setIfInBounds_toArray, List.set_cons_succ, List.set_cons_zero]
      go_wp2_with fail
      go_roundw
      case rel => exact .inr (.inl ⟨by simp, by simp, M6⟩)
      case measure => simp [intOf]
    · skip
      go_upto_region 3 with fail
      refine wp_region_seq 13 [14, 15, 16, 17, 18, 19, 20, 21, 22, 23, 24, 25, 26] [] [2, 3] [] (.op 13 (.op 14 (.op 15 .done))) (Mm (fun g => g = b) w _) (by kernel_rfl) (by kernel_rfl) (by kernel_rfl) (fun d _ _ _ _ h => by cases d <;> exact h) (by rfl) M.size (fun _ _ h k => h.sf k) M ?_
      simp only [List.take_succ_cons, List.take_zero]
      refine SeqA.pure (.slice (some ⟨b, 0, none⟩) 4 4) (fun w' => by go_simp) rfl rfl ?_
      refine SeqA.pure (.int .i64 1) (fun w' => by go_simp) rfl rfl ?_
      refine SeqA.pure (.slice (some ⟨b, 0, none⟩) 4 4) (fun w' => by go_simp) rfl rfl ?_
      refine SeqA.pure (.int .i64 2) (fun w' => by go_simp) rfl rfl ?_
      refine SeqA.pure (.slice (some ⟨b, 0, none⟩) 4 4) (fun w' => by go_simp) rfl rfl ?_
      simp only [Act.put, List.setIfInBounds_toArray, List.set_cons_succ, List.set_cons_zero]
      refine SeqA.pure (.int .i64 2) (fun w' => by go_simp) rfl rfl ?_
      refine SeqA.pure (.pointer (some ⟨b, 4, none⟩)) (fun w' => by go_simp) rfl rfl ?_
      refine SeqA.ldm Tryd.underlying59 rfl inf_rnd (b) 4 (#[.string s3, .func f3 #[] #[], .string s1, .func f1 #[] #[], .string s2, .func f2 #[] #[], .string s0, .func f0 #[] #[]]) (#[.string s2, .func f2 #[] #[]]) rfl (by go_simp) (fun _ M => M.row (by simp)) (by simp []) (rfl) rfl ?_
      refine SeqA.pure (.slice (some ⟨b, 0, none⟩) 4 4) (fun w' => by go_simp) rfl rfl ?_
      refine SeqA.pure (.int .i64 1) (fun w' => by go_simp) rfl rfl ?_
      refine SeqA.pure (.pointer (some ⟨b, 2, none⟩)) (fun w' => by go_simp) rfl rfl ?_
      simp only [Act.put, List.setIfInBounds_toArray, List.set_cons_succ, List.set_cons_zero]
      refine SeqA.ldm Tryd.underlying59 rfl inf_rnd (b) 2 (#[.string s3, .func f3 #[] #[], .string s1, .func f1 #[] #[], .string s2, .func f2 #[] #[], .string s0, .func f0 #[] #[]]) (#[.string s1, .func f1 #[] #[]]) rfl (by go_simp) (fun _ M => M.row (by simp)) (by simp []) (rfl) rfl ?_
      refine SeqA.pure (.pointer (some ⟨b, 2, none⟩)) (fun w' => by go_simp) rfl rfl ?_
      refine SeqA.nil (fun w1 M2 hz => ?_)
      show wpT _ _ _ _ _ _
      simp only [Act.put, List.setIfInBounds_toArray, List.set_cons_succ, List.set_cons_zero]
      refine wpT_stm (off := 2) M2 0 (#[.string s2, .func f2 #[] #[]]) (#[.string s3, .func f3 #[] #[], .string s2, .func f2 #[] #[], .string s2, .func f2 #[] #[], .string s0, .func f0 #[] #[]]) inf_rnd rfl rfl rfl rfl (by go_simp) (by go_simp) (by simp []) (by simp []) (by simp [go_sem]) (rfl) rfl (fun w3 M4 => ?_)
      dsimp only [List.set] at M4
      refine wpT_valp 27 (v := .pointer (some ⟨b, 4, none⟩)) rfl rfl rfl (by go_simp) ?_
      refine wpT_stm (off := 4) M4 0 (#[.string s1, .func f1 #[] #[]]) (#[.string s3, .func f3 #[] #[], .string s2, .func f2 #[] #[], .string s1, .func f1 #[] #[], .string s0, .func f0 #[] #[]]) inf_rnd rfl rfl rfl rfl (by go_simp) (by go_simp) (by simp []) (by simp []) (by simp [go_sem]) (rfl) rfl (fun w5 M6 => ?_)
      dsimp only [List.set] at M6
      dsimp only [wpT]
      simp only [Act.put, List.setIfInBounds_toArray, List.set_cons_succ, List.set_cons_zero]
      go_wp2_with fail
      go_roundw
      case rel => exact .inr (.inr ⟨by simp, by simp, M6⟩)
      case measure => simp [intOf]
    · go_wp2_with fail
      go_end0
      exact ⟨rfl, M⟩
end Go.Proofs.YtbigmnhjnjeeaaaDoor
set_option linter.unusedSimpArgs false
set_option linter.unusedVariables false
namespace Go.Proofs.YtbigmnhjnjeeaaaDoor
open Go.RowKit
theorem RR_size : RR.size = 8 := rfl
theorem RQ_size : RQ.size = 8 := rfl
theorem rev_v (w : World) (b : Nat) (M : Mm (fun g => g = b) w [(b, RR)] w) :
    Calls Tryd.prog 33 #[.slice (some ⟨b, 0, none⟩) 4 4] w fun e w' => e = .returned (.tuple #[]) ∧ Mm (fun g => g = b) w [(b, RQ)] w' := rev_c w b _ _ _ _ _ _ _ _ M
attribute [local irreducible] RR RQ Rds LP Li.lock Li.unlock Li.join
section
variable {w0 w : World} {k b X : Bs8} {n g ba oa cb : Nat}
theorem mix_lock (hX : X = Li.lock k b) (hT : KT w0 ∧ 0 < w0.heap.size) (hw : Below w0.heap.size w0 w) (hk : k.length = 32) (hn : b.length = n) (h33 : 33 ≤ n) (h40 : n ≤ 4096) (hvb : BS w (.slice (some ⟨ba, oa, none⟩) n cb) b) (hg : g < w.heap.size) (hr : w.rowOf g = RR) :
    Calls Tryd.prog 29 #[.agg (cs U8 k), .slice (some ⟨g, 0, none⟩) 4 4, .slice (some ⟨ba, oa, none⟩) n cb] w fun e w' => ∃ v, e = .returned v ∧ (∃ u, v = .tuple #[u, .int .i64 0] ∧ OB w' w.heap.size u X) ∧ Below w.heap.size w w' := by
  rw [hX, ← LP_lock]
  exact (mix_c w k b n g ba oa cb RR (LP k b (· + 1)) ⟨hT.1.below hw hT.2, Nat.lt_of_lt_of_le hT.2 hw.size⟩ hk hn h33 h40 hvb hg hr RR_size (by unfold LP; rfl) (rds_lock k b) (fun i _ => by rw [← hn]; exact LP_len k b _ (by omega) i)).mono fun e w' ⟨v, h1, h2, h3⟩ => ⟨_, h1, ⟨v, rfl, h2⟩, h3⟩
theorem mix_unlock (hX : X = Li.unlock k b) (hT : KT w0 ∧ 0 < w0.heap.size) (hw : Below w0.heap.size w0 w) (hk : k.length = 32) (hn : b.length = n) (h33 : 33 ≤ n) (h40 : n ≤ 4096) (hvb : BS w (.slice (some ⟨ba, oa, none⟩) n cb) b) (hg : g < w.heap.size) (hr : w.rowOf g = RQ) :
    Calls Tryd.prog 29 #[.agg (cs U8 k), .slice (some ⟨g, 0, none⟩) 4 4, .slice (some ⟨ba, oa, none⟩) n cb] w fun e w' => ∃ v, e = .returned v ∧ (∃ u, v = .tuple #[u, .int .i64 0] ∧ OB w' w.heap.size u X) ∧ Below w.heap.size w w' := by
  rw [hX, ← LP_unlock]
  exact (mix_c w k b n g ba oa cb RQ (LP k b (4 - ·)) ⟨hT.1.below hw hT.2, Nat.lt_of_lt_of_le hT.2 hw.size⟩ hk hn h33 h40 hvb hg hr RQ_size (by unfold LP; rfl) (rds_unlock k b) (fun i _ => by rw [← hn]; exact LP_len k b _ (by omega) i)).mono fun e w' ⟨v, h1, h2, h3⟩ => ⟨_, h1, ⟨v, rfl, h2⟩, h3⟩
end
/-- what a block's size is answered with -/
def szErr (n : Nat) (er : Int) : Prop := (n < 33 ∧ er = 4) ∨ (4096 < n ∧ er = 3)
theorem mixe_v (w : World) (k b : Bs8) (vl vb : Value) (er : Int) (hk : k.length = 32) (hvb : BS w vb b) (he : szErr b.length er) :
    Calls Tryd.prog 29 #[.agg (cs U8 k), vl, vb] w fun e w' => e = .returned (.tuple #[.slice none 0 0, .int .i64 er]) ∧ Below w.heap.size w w' := by
  rcases he with ⟨h, rfl⟩ | ⟨h, rfl⟩
  · exact mix_short w k b vl vb hk hvb h
  · exact mix_big w k b vl vb hk hvb h
set_option maxRecDepth 100000 in
set_option maxHeartbeats 4000000 in
theorem Lock_c (w : World) (k b X : Bs8) (vb : Value) (hX : X = Li.lock k b) (hT : KT w ∧ 0 < w.heap.size) (hk : k.length = 32) (hvb : BS w vb b) (h33 : 33 ≤ b.length) (h40 : b.length ≤ 4096) :
    Calls Tryd.prog 16 #[.agg (cs U8 k), vb] w fun e w' => ∃ v, e = .returned (.tuple #[v, .int .i64 0]) ∧ OB w' w.heap.size v X ∧ Below w.heap.size w w' := by
  obtain ⟨n, hn⟩ : ∃ n, b.length = n := ⟨_, rfl⟩
  obtain ⟨ba, oa, cb, rfl, hcb, -⟩ := BS.open hvb (by intro e; rw [e] at h33; simp at h33)
  rw [hn] at h33 h40 hcb hvb ⊢
  have HT := hid hT
  have HVB := hid hvb
  have HX := hid hX
  clear hT hvb hX
  have M0 := Mm.start no w
  go_enter Tryd.func16, Tryd.ntmps16
  have M2 := (M0.alloc (cs U8 k) 23 (by decide))
  try simp only [World.size_alloc] at M2
  go_upto_region 1 with fail
  obtain ⟨w1, hw1⟩ : ∃ w1, w1 = (w.alloc (.cells (cs U8 k) 23)) := ⟨_, rfl⟩
  rw [← hw1] at M2 ⊢
  clear hw1
  refine wp_region_P [2] (.both (.op 0 (.op 1 (.op 3 (.both (.op 4 (.op 5 (.op 6 (.op 7 .done)))) (.op 5 (.op 4 (.op 6 (.op 7 .done)))))))) (.op 1 (.op 0 (.op 3 (.both (.op 4 (.op 5 (.op 6 (.op 7 .done)))) (.op 5 (.op 4 (.op 6 (.op 7 .done))))))))) (by kernel_rfl) (by kernel_rfl) (by kernel_rfl) (fun d _ _ _ _ h => by cases d <;> exact h) ?_
  refine wpYJd_op 8 (.slice (some ⟨ba, oa, none⟩) n cb) rfl rfl rfl (fun w1 _ => by go_simp) ?_
  show wpT _ _ _ _ _ _
  try simp only [Act.put, List.setIfInBounds_toArray, List.set_cons_succ, List.set_cons_zero]
  have M3 := M2.drewN 1
  change wpT _ _ _ _ _ (w1.drewN 1)
  obtain ⟨w4, hw4⟩ : ∃ w4, w4 = w1.drewN 1 := ⟨_, rfl⟩
  rw [← hw4] at M3 ⊢
  clear hw4
  refine ⟨?_, ?_⟩
  · refine wpT_ld0 6 Tryd.underlying23 rfl inf_key (w.heap.size) (cs U8 k) rfl rfl rfl (by go_simp) (M3.row (by simp)) (by simp [hk]) rfl ?_
    refine wpT_callJ 7 M3 (fun g => .slice (some ⟨g, 0, none⟩) 4 4) rfl rfl rfl (by go_simp) (rounds_c w4) (fun g5 w6 M7 => ?_)
    have hs9 := M7.size
    refine wpT_callx 9 M7 (X := fun v w' => ∃ u, v = .tuple #[u, .int .i64 0] ∧ OB w' w6.heap.size u X) rfl rfl rfl (by go_simp) (mix_lock HX.out HT.out M7.end_ hk hn h33 h40 (SV.below HVB.out M7.end_) (M7.lt (b := g5) (c := RR) (by simp)) (M7.row (b := g5) (c := RR) (by simp))) (fun v8 w10 h12 M11 _ => ?_)
    obtain ⟨u9, rfl, O13⟩ := h12
    replace O13 := hid (OB.mono O13 hs9)
    refine ⟨?_, ?_⟩
    · refine wpT_valp 10 (v := u9) rfl rfl rfl (by go_simp) ?_
      refine wpT_valp 11 (v := .int .i64 0) rfl rfl rfl (by go_simp) ?_
      refine wpT_valp 4 (v := u9) rfl rfl rfl (by go_simp) ?_
      refine wpT_valp 5 (v := .int .i64 0) rfl rfl rfl (by go_simp) ?_
      dsimp only [wpT]
      try simp only [Act.put, List.setIfInBounds_toArray, List.set_cons_succ, List.set_cons_zero]
      go_wp2_with fail
      refine bodyPost_ret (res_two rfl (rv_tmp _ _ rfl) (rv_tmp _ _ rfl)) rfl ?_
      exact ⟨u9, rfl, O13.out, M11.end_⟩
    · refine wpT_valp 11 (v := .int .i64 0) rfl rfl rfl (by go_simp) ?_
      refine wpT_valp 10 (v := u9) rfl rfl rfl (by go_simp) ?_
      refine wpT_valp 4 (v := u9) rfl rfl rfl (by go_simp) ?_
      refine wpT_valp 5 (v := .int .i64 0) rfl rfl rfl (by go_simp) ?_
      dsimp only [wpT]
      try simp only [Act.put, List.setIfInBounds_toArray, List.set_cons_succ, List.set_cons_zero]
      go_wp2_with fail
      refine bodyPost_ret (res_two rfl (rv_tmp _ _ rfl) (rv_tmp _ _ rfl)) rfl ?_
      exact ⟨u9, rfl, O13.out, M11.end_⟩
  · refine wpT_callJ 7 M3 (fun g => .slice (some ⟨g, 0, none⟩) 4 4) rfl rfl rfl (by go_simp) (rounds_c w4) (fun g5 w6 M7 => ?_)
    refine wpT_ld0 6 Tryd.underlying23 rfl inf_key (w.heap.size) (cs U8 k) rfl rfl rfl (by go_simp) (M7.row (by simp)) (by simp [hk]) rfl ?_
    have hs9 := M7.size
    refine wpT_callx 9 M7 (X := fun v w' => ∃ u, v = .tuple #[u, .int .i64 0] ∧ OB w' w6.heap.size u X) rfl rfl rfl (by go_simp) (mix_lock HX.out HT.out M7.end_ hk hn h33 h40 (SV.below HVB.out M7.end_) (M7.lt (b := g5) (c := RR) (by simp)) (M7.row (b := g5) (c := RR) (by simp))) (fun v8 w10 h12 M11 _ => ?_)
    obtain ⟨u9, rfl, O13⟩ := h12
    replace O13 := hid (OB.mono O13 hs9)
    refine ⟨?_, ?_⟩
    · refine wpT_valp 10 (v := u9) rfl rfl rfl (by go_simp) ?_
      refine wpT_valp 11 (v := .int .i64 0) rfl rfl rfl (by go_simp) ?_
      refine wpT_valp 4 (v := u9) rfl rfl rfl (by go_simp) ?_
      refine wpT_valp 5 (v := .int .i64 0) rfl rfl rfl (by go_simp) ?_
      dsimp only [wpT]
      try simp only [Act.put, List.setIfInBounds_toArray, List.set_cons_succ, List.set_cons_zero]
      go_wp2_with fail
      refine bodyPost_ret (res_two rfl (rv_tmp _ _ rfl) (rv_tmp _ _ rfl)) rfl ?_
      exact ⟨u9, rfl, O13.out, M11.end_⟩
    · refine wpT_valp 11 (v := .int .i64 0) rfl rfl rfl (by go_simp) ?_
      refine wpT_valp 10 (v := u9) rfl rfl rfl (by go_simp) ?_
      refine wpT_valp 4 (v := u9) rfl rfl rfl (by go_simp) ?_
      refine wpT_valp 5 (v := .int .i64 0) rfl rfl rfl (by go_simp) ?_
      dsimp only [wpT]
      try simp only [Act.put, List.setIfInBounds_toArray, List.set_cons_succ, List.set_cons_zero]
      go_wp2_with fail
      refine bodyPost_ret (res_two rfl (rv_tmp _ _ rfl) (rv_tmp _ _ rfl)) rfl ?_
      exact ⟨u9, rfl, O13.out, M11.end_⟩
set_option maxRecDepth 100000 in
set_option maxHeartbeats 4000000 in
theorem Lock_e (w : World) (k b : Bs8) (vb : Value) (er : Int) (hk : k.length = 32) (hvb : BS w vb b) (he : szErr b.length er) :
    Calls Tryd.prog 16 #[.agg (cs U8 k), vb] w fun e w' => e = .returned (.tuple #[.slice none 0 0, .int .i64 er]) ∧ Below w.heap.size w w' := by
  have HVB := hid hvb
  have HE := hid he
  clear hvb he
  have M0 := Mm.start no w
  go_enter Tryd.func16, Tryd.ntmps16
  have M2 := (M0.alloc (cs U8 k) 23 (by decide))
  try simp only [World.size_alloc] at M2
  go_upto_region 1 with fail
  obtain ⟨w1, hw1⟩ : ∃ w1, w1 = (w.alloc (.cells (cs U8 k) 23)) := ⟨_, rfl⟩
  rw [← hw1] at M2 ⊢
  clear hw1
  refine wp_region_P [2] (.both (.op 0 (.op 1 (.op 3 (.both (.op 4 (.op 5 (.op 6 (.op 7 .done)))) (.op 5 (.op 4 (.op 6 (.op 7 .done)))))))) (.op 1 (.op 0 (.op 3 (.both (.op 4 (.op 5 (.op 6 (.op 7 .done)))) (.op 5 (.op 4 (.op 6 (.op 7 .done))))))))) (by kernel_rfl) (by kernel_rfl) (by kernel_rfl) (fun d _ _ _ _ h => by cases d <;> exact h) ?_
  refine wpYJd_op 8 (vb) rfl rfl rfl (fun w1 _ => by go_simp) ?_
  show wpT _ _ _ _ _ _
  try simp only [Act.put, List.setIfInBounds_toArray, List.set_cons_succ, List.set_cons_zero]
  have M3 := M2.drewN 1
  change wpT _ _ _ _ _ (w1.drewN 1)
  obtain ⟨w4, hw4⟩ : ∃ w4, w4 = w1.drewN 1 := ⟨_, rfl⟩
  rw [← hw4] at M3 ⊢
  clear hw4
  refine ⟨?_, ?_⟩
  · refine wpT_ld0 6 Tryd.underlying23 rfl inf_key (w.heap.size) (cs U8 k) rfl rfl rfl (by go_simp) (M3.row (by simp)) (by simp [hk]) rfl ?_
    refine wpT_callJ 7 M3 (fun g => .slice (some ⟨g, 0, none⟩) 4 4) rfl rfl rfl (by go_simp) (rounds_c w4) (fun g5 w6 M7 => ?_)
    refine wpT_callv 9 M7 (v := .tuple #[.slice none 0 0, .int .i64 er]) rfl rfl rfl (by go_simp) (mixe_v w6 k b (.slice (some ⟨g5, 0, none⟩) 4 4) vb er hk (SV.below HVB.out M7.end_) HE.out) (fun w8 M9 => ?_)
    refine ⟨?_, ?_⟩
    · refine wpT_valp 10 (v := .slice none 0 0) rfl rfl rfl (by go_simp) ?_
      refine wpT_valp 11 (v := .int .i64 er) rfl rfl rfl (by go_simp) ?_
      refine wpT_valp 4 (v := .slice none 0 0) rfl rfl rfl (by go_simp) ?_
      refine wpT_valp 5 (v := .int .i64 er) rfl rfl rfl (by go_simp) ?_
      dsimp only [wpT]
      try simp only [Act.put, List.setIfInBounds_toArray, List.set_cons_succ, List.set_cons_zero]
      go_wp2_with fail
      refine bodyPost_ret (res_two rfl (rv_tmp _ _ rfl) (rv_tmp _ _ rfl)) rfl ?_
      exact ⟨rfl, M9.end_⟩
    · refine wpT_valp 11 (v := .int .i64 er) rfl rfl rfl (by go_simp) ?_
      refine wpT_valp 10 (v := .slice none 0 0) rfl rfl rfl (by go_simp) ?_
      refine wpT_valp 4 (v := .slice none 0 0) rfl rfl rfl (by go_simp) ?_
      refine wpT_valp 5 (v := .int .i64 er) rfl rfl rfl (by go_simp) ?_
      dsimp only [wpT]
      try simp only [Act.put, List.setIfInBounds_toArray, List.set_cons_succ, List.set_cons_zero]
      go_wp2_with fail
      refine bodyPost_ret (res_two rfl (rv_tmp _ _ rfl) (rv_tmp _ _ rfl)) rfl ?_
      exact ⟨rfl, M9.end_⟩
  · refine wpT_callJ 7 M3 (fun g => .slice (some ⟨g, 0, none⟩) 4 4) rfl rfl rfl (by go_simp) (rounds_c w4) (fun g5 w6 M7 => ?_)
    refine wpT_ld0 6 Tryd.underlying23 rfl inf_key (w.heap.size) (cs U8 k) rfl rfl rfl (by go_simp) (M7.row (by simp)) (by simp [hk]) rfl ?_
    refine wpT_callv 9 M7 (v := .tuple #[.slice none 0 0, .int .i64 er]) rfl rfl rfl (by go_simp) (mixe_v w6 k b (.slice (some ⟨g5, 0, none⟩) 4 4) vb er hk (SV.below HVB.out M7.end_) HE.out) (fun w8 M9 => ?_)
    refine ⟨?_, ?_⟩
    · refine wpT_valp 10 (v := .slice none 0 0) rfl rfl rfl (by go_simp) ?_
      refine wpT_valp 11 (v := .int .i64 er) rfl rfl rfl (by go_simp) ?_
      refine wpT_valp 4 (v := .slice none 0 0) rfl rfl rfl (by go_simp) ?_
      refine wpT_valp 5 (v := .int .i64 er) rfl rfl rfl (by go_simp) ?_
      dsimp only [wpT]
      try simp only [Act.put, List.setIfInBounds_toArray, List.set_cons_succ, List.set_cons_zero]
      go_wp2_with fail
      refine bodyPost_ret (res_two rfl (rv_tmp _ _ rfl) (rv_tmp _ _ rfl)) rfl ?_
      exact ⟨rfl, M9.end_⟩
    · refine wpT_valp 11 (v := .int .i64 er) rfl rfl rfl (by go_simp) ?_
      refine wpT_valp 10 (v := .slice none 0 0) rfl rfl rfl (by go_simp) ?_
      refine wpT_valp 4 (v := .slice none 0 0) rfl rfl rfl (by go_simp) ?_
      refine wpT_valp 5 (v := .int .i64 er) rfl rfl rfl (by go_simp) ?_
      dsimp only [wpT]
      try simp only [Act.put, List.setIfInBounds_toArray, List.set_cons_succ, List.set_cons_zero]
      go_wp2_with fail
      refine bodyPost_ret (res_two rfl (rv_tmp _ _ rfl) (rv_tmp _ _ rfl)) rfl ?_
      exact ⟨rfl, M9.end_⟩
set_option maxRecDepth 100000 in
set_option maxHeartbeats 4000000 in
theorem Unlock_c (w : World) (k b X : Bs8) (vb : Value) (hX : X = Li.unlock k b) (hT : KT w ∧ 0 < w.heap.size) (hk : k.length = 32) (hvb : BS w vb b) (h33 : 33 ≤ b.length) (h40 : b.length ≤ 4096) :
    Calls Tryd.prog 18 #[.agg (cs U8 k), vb] w fun e w' => ∃ v, e = .returned (.tuple #[v, .int .i64 0]) ∧ OB w' w.heap.size v X ∧ Below w.heap.size w w' := by
  obtain ⟨n, hn⟩ : ∃ n, b.length = n := ⟨_, rfl⟩
  obtain ⟨ba, oa, cb, rfl, hcb, -⟩ := BS.open hvb (by intro e; rw [e] at h33; simp at h33)
  rw [hn] at h33 h40 hcb hvb ⊢
  have HT := hid hT
  have HVB := hid hvb
  have HX := hid hX
  clear hT hvb hX
  have M0 := Mm.start no w
  go_enter Tryd.func18, Tryd.ntmps18
  have M2 := (M0.alloc (cs U8 k) 23 (by decide))
  try simp only [World.size_alloc] at M2
  go_upto_region 1 with fail
  obtain ⟨w1, hw1⟩ : ∃ w1, w1 = (w.alloc (.cells (cs U8 k) 23)) := ⟨_, rfl⟩
  rw [← hw1] at M2 ⊢
  clear hw1
  refine wp_region_lin (.op 0 (.op 1 .done)) (by rfl) ?_
  refine wpT_callJ 7 M2 (fun g => .slice (some ⟨g, 0, none⟩) 4 4) rfl rfl rfl (by go_simp) (rounds_c w1) (fun g3 w4 M5 => ?_)
  refine wpT_valp 6 (v := .slice (some ⟨g3, 0, none⟩) 4 4) rfl rfl rfl (by go_simp) ?_
  dsimp only [wpT]
  try simp only [Act.put, List.setIfInBounds_toArray, List.set_cons_succ, List.set_cons_zero]
  go_upto_region 2 with fail
  refine wp_region_lin (.op 0 (.op 1 .done)) (by rfl) ?_
  refine wpT_valp 8 (v := .slice (some ⟨g3, 0, none⟩) 4 4) rfl rfl rfl (by go_simp) ?_
  refine wpT_callm 9 M5 0 (C' := RQ) (v := .tuple #[]) rfl rfl rfl rfl (by go_simp) (rev_v w4 g3 (M5.loc' (k := 0) rfl)) (fun w6 M7 _ => ?_)
  dsimp only [List.set] at M7
  dsimp only [wpT]
  try simp only [Act.put, List.setIfInBounds_toArray, List.set_cons_succ, List.set_cons_zero]
  go_upto_region 3 with fail
  refine wp_region_lin (.op 0 (.op 1 (.op 2 (.op 3 (.op 4 (.op 5 (.op 6 (.op 7 .done)))))))) (by rfl) ?_
  refine wpT_ld0 10 Tryd.underlying23 rfl inf_key (w.heap.size) (cs U8 k) rfl rfl rfl (by go_simp) (M7.row (by simp)) (by simp [hk]) rfl ?_
  refine wpT_valp 11 (v := .slice (some ⟨g3, 0, none⟩) 4 4) rfl rfl rfl (by go_simp) ?_
  refine wpT_valp 12 (v := .slice (some ⟨ba, oa, none⟩) n cb) rfl rfl rfl (by go_simp) ?_
  have hs13 := M7.size
  refine wpT_callx 13 M7 (X := fun v w' => ∃ u, v = .tuple #[u, .int .i64 0] ∧ OB w' w6.heap.size u X) rfl rfl rfl (by go_simp) (mix_unlock HX.out HT.out M7.end_ hk hn h33 h40 (SV.below HVB.out M7.end_) (M7.lt (b := g3) (c := RQ) (by simp)) (M7.row (b := g3) (c := RQ) (by simp))) (fun v8 w10 h12 M11 _ => ?_)
  obtain ⟨u9, rfl, O13⟩ := h12
  replace O13 := hid (OB.mono O13 hs13)
  try simp only [Act.put, List.setIfInBounds_toArray, List.set_cons_succ, List.set_cons_zero]
  refine wpT_valp 14 (v := u9) rfl rfl rfl (by go_simp) ?_
  refine wpT_valp 15 (v := .int .i64 0) rfl rfl rfl (by go_simp) ?_
  refine wpT_valp 4 (v := u9) rfl rfl rfl (by go_simp) ?_
  refine wpT_valp 5 (v := .int .i64 0) rfl rfl rfl (by go_simp) ?_
  dsimp only [wpT]
  try simp only [Act.put, List.setIfInBounds_toArray, List.set_cons_succ, List.set_cons_zero]
  go_wp2_with fail
  refine bodyPost_ret (res_two rfl (rv_tmp _ _ rfl) (rv_tmp _ _ rfl)) rfl ?_
  exact ⟨u9, rfl, O13.out, M11.end_⟩
set_option maxRecDepth 100000 in
set_option maxHeartbeats 4000000 in
theorem Unlock_e (w : World) (k b : Bs8) (vb : Value) (er : Int) (hk : k.length = 32) (hvb : BS w vb b) (he : szErr b.length er) :
    Calls Tryd.prog 18 #[.agg (cs U8 k), vb] w fun e w' => e = .returned (.tuple #[.slice none 0 0, .int .i64 er]) ∧ Below w.heap.size w w' := by
  have HVB := hid hvb
  have HE := hid he
  clear hvb he
  have M0 := Mm.start no w
  go_enter Tryd.func18, Tryd.ntmps18
  have M2 := (M0.alloc (cs U8 k) 23 (by decide))
  try simp only [World.size_alloc] at M2
  go_upto_region 1 with fail
  obtain ⟨w1, hw1⟩ : ∃ w1, w1 = (w.alloc (.cells (cs U8 k) 23)) := ⟨_, rfl⟩
  rw [← hw1] at M2 ⊢
  clear hw1
  refine wp_region_lin (.op 0 (.op 1 .done)) (by rfl) ?_
  refine wpT_callJ 7 M2 (fun g => .slice (some ⟨g, 0, none⟩) 4 4) rfl rfl rfl (by go_simp) (rounds_c w1) (fun g3 w4 M5 => ?_)
  refine wpT_valp 6 (v := .slice (some ⟨g3, 0, none⟩) 4 4) rfl rfl rfl (by go_simp) ?_
  dsimp only [wpT]
  try simp only [Act.put, List.setIfInBounds_toArray, List.set_cons_succ, List.set_cons_zero]
  go_upto_region 2 with fail
  refine wp_region_lin (.op 0 (.op 1 .done)) (by rfl) ?_
  refine wpT_valp 8 (v := .slice (some ⟨g3, 0, none⟩) 4 4) rfl rfl rfl (by go_simp) ?_
  refine wpT_callm 9 M5 0 (C' := RQ) (v := .tuple #[]) rfl rfl rfl rfl (by go_simp) (rev_v w4 g3 (M5.loc' (k := 0) rfl)) (fun w6 M7 _ => ?_)
  dsimp only [List.set] at M7
  dsimp only [wpT]
  try simp only [Act.put, List.setIfInBounds_toArray, List.set_cons_succ, List.set_cons_zero]
  go_upto_region 3 with fail
  refine wp_region_lin (.op 0 (.op 1 (.op 2 (.op 3 (.op 4 (.op 5 (.op 6 (.op 7 .done)))))))) (by rfl) ?_
  refine wpT_ld0 10 Tryd.underlying23 rfl inf_key (w.heap.size) (cs U8 k) rfl rfl rfl (by go_simp) (M7.row (by simp)) (by simp [hk]) rfl ?_
  refine wpT_valp 11 (v := .slice (some ⟨g3, 0, none⟩) 4 4) rfl rfl rfl (by go_simp) ?_
  refine wpT_valp 12 (v := vb) rfl rfl rfl (by go_simp) ?_
  refine wpT_callv 13 M7 (v := .tuple #[.slice none 0 0, .int .i64 er]) rfl rfl rfl (by go_simp) (mixe_v w6 k b (.slice (some ⟨g3, 0, none⟩) 4 4) vb er hk (SV.below HVB.out M7.end_) HE.out) (fun w8 M9 => ?_)
  try simp only [Act.put, List.setIfInBounds_toArray, List.set_cons_succ, List.set_cons_zero]
  refine wpT_valp 14 (v := .slice none 0 0) rfl rfl rfl (by go_simp) ?_
  refine wpT_valp 15 (v := .int .i64 er) rfl rfl rfl (by go_simp) ?_
  refine wpT_valp 4 (v := .slice none 0 0) rfl rfl rfl (by go_simp) ?_
  refine wpT_valp 5 (v := .int .i64 er) rfl rfl rfl (by go_simp) ?_
  dsimp only [wpT]
  try simp only [Act.put, List.setIfInBounds_toArray, List.set_cons_succ, List.set_cons_zero]
  go_wp2_with fail
  refine bodyPost_ret (res_two rfl (rv_tmp _ _ rfl) (rv_tmp _ _ rfl)) rfl ?_
  exact ⟨rfl, M9.end_⟩
section
variable {w0 w : World} {k b X : Bs8} {vb : Value}
theorem lock_v (hX : X = Li.lock k b) (hT : KT w0 ∧ 0 < w0.heap.size) (hw : Below w0.heap.size w0 w) (hk : k.length = 32) (hvb : BS w vb b) (h33 : 33 ≤ b.length) (h40 : b.length ≤ 4096) :
    Calls Tryd.prog 16 #[.agg (cs U8 k), vb] w fun e w' => ∃ v, e = .returned (.tuple #[v, .int .i64 0]) ∧ BN w' w.heap.size v X ∧ Below w.heap.size w w' :=
  (Lock_c w k b X vb hX ⟨hT.1.below hw hT.2, Nat.lt_of_lt_of_le hT.2 hw.size⟩ hk hvb h33 h40).mono fun e w' ⟨v, h1, h2, h3⟩ => ⟨v, h1, h2.bn, h3⟩
theorem unlock_v (hX : X = Li.unlock k b) (hT : KT w0 ∧ 0 < w0.heap.size) (hw : Below w0.heap.size w0 w) (hk : k.length = 32) (hvb : BS w vb b) (h33 : 33 ≤ b.length) (h40 : b.length ≤ 4096) :
    Calls Tryd.prog 18 #[.agg (cs U8 k), vb] w fun e w' => ∃ v, e = .returned (.tuple #[v, .int .i64 0]) ∧ BN w' w.heap.size v X ∧ Below w.heap.size w w' :=
  (Unlock_c w k b X vb hX ⟨hT.1.below hw hT.2, Nat.lt_of_lt_of_le hT.2 hw.size⟩ hk hvb h33 h40).mono fun e w' ⟨v, h1, h2, h3⟩ => ⟨v, h1, h2.bn, h3⟩
end
end Go.Proofs.YtbigmnhjnjeeaaaDoor
