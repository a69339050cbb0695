/-
  Walk of package chain: Root; own work.
  Law 17: roots; own work.
-/
import Derived.Test.YtocledgjejlolaaDoorChnC
import Derived.Test.YtocledgjejlolaaDoorLit
import Derived.Test.YtocledgjejlolaaDoorChnD
set_option linter.unusedSimpArgs false
set_option linter.unusedVariables false
namespace Go.Proofs.YtocledgjejlolaaDoor
open Go.RowKit
def pigB : List (BitVec 8) := [112, 105, 103, 101, 111, 110, 114, 121, 32, 114, 111, 111, 116]
theorem pig_len : pigB.length = 13 := rfl
theorem pig_cs : #[.int .u8 112, .int .u8 105, .int .u8 103, .int .u8 101, .int .u8 111, .int .u8 110, .int .u8 114, .int .u8 121, .int .u8 32, .int .u8 114, .int .u8 111, .int .u8 111, .int .u8 116] = cs U8 pigB := rfl
/-- what comes of a root and a secret -/
def Sh.rt (a b : List (BitVec 8)) : List (BitVec 8) := Sh.expand (Sh.mac a b) pigB 64
theorem rt_len (a b : List (BitVec 8)) : (Sh.rt a b).length = 64 := expand_len ..
theorem bs64 {w : World} {u : Value} {L : List (BitVec 8)} (h : BS w u L) (hL : L.length = 64) : ∃ ub uo uc, u = .slice (some ⟨ub, uo, none⟩) 64 uc ∧ 64 ≤ uc ∧ KC w ub uo (L.take 32) ∧ KC w ub (uo + 32) (L.drop 32) ∧ ∀ c : Array Value, w.rowOf ub = c → 64 ≤ c.size := by
  obtain ⟨b, o, cap, e, hc, hcell⟩ := h.open (by intro e; rw [e] at hL; simp at hL)
  rw [hL] at e hc
  refine ⟨b, o, cap, e, hc, ⟨by simp [hL], fun j hj => ?_⟩, ⟨by simp [hL], fun j hj => ?_⟩, fun c hr => ?_⟩
  · rw [hcell j (by omega)]
    simp [List.getD_eq_getElem?_getD, List.getElem?_take, hj]
  · rw [show o + 32 + j = o + (32 + j) by omega, hcell (32 + j) (by omega)]
    simp [List.getD_eq_getElem?_getD, List.getElem?_drop]
  · have := hcell 63 (by omega)
    rw [cell_rowOf, hr] at this
    have := (Array.getElem?_eq_some_iff.1 this).1
    omega
theorem KC.fr' {S : Nat → Prop} {w w' : World} {b o : Nat} {k : List (BitVec 8)} (h : KC w b o k) (hf : Fr S w w') (hS : ¬ S b) : KC w' b o k := by
  refine ⟨h.1, fun j hj => ?_⟩
  rw [← h.2 j hj]
  have h0 := h.2 j hj
  rw [cell_rowOf] at h0
  exact World.cell?_of_block (a := ⟨b, o + j, none⟩) (hf.block b (row_lt (Array.getElem?_eq_some_iff.1 h0).1) hS)
theorem wpT_callR {P : Program} {ops : Array Oper} {Q : Exit → Act → World → Prop} {i : Nat} {t : Tr} {a : Act} {w : World} {o : Oper} (d : Nat) {f : FuncId} {args : Array Value} {R : Ending → World → Prop} (hd : o.dst = some d) (ho : ops[i]? = some o) (hw : Region.wanted o (yielded ops a.tmps) = true) (hrun : (execOp a.eval o).run P w = .ok (.enter f args) w) (hc : Calls P f args w R)
    (h : ∀ e w', R e w' → ∃ v, e = .returned v ∧ wpT P ops Q t (a.put (some d) v) w') : wpT P ops Q (.op i t) a w := wpT_call ho hw hrun hc (by rw [hd]; exact h)
attribute [local irreducible] Sh.mac Sh.expand pigB Sh.rt
set_option maxRecDepth 100000 in
set_option maxHeartbeats 4000000 in
theorem root_any (w : World) (a b : List (BitVec 8)) (hT : KT w) (hk0 : 0 < w.heap.size) (ha : a.length = 32) (hb : b.length = 32) :
    Calls Tryd.prog 38 #[.agg (cs U8 a), .agg (cs U8 b)] w fun e w' => e = .returned (.tuple #[.agg (cs U8 ((Sh.rt a b).take 32)), .agg (cs U8 ((Sh.rt a b).drop 32))]) ∧ Below w.heap.size w w' := by
  have HK := hid (fun H w' (M : Mm no w H w') => kt_mm hT hk0 (fun h => h) M)
  obtain ⟨D, hD⟩ : ∃ D, D = Sh.mac a b := ⟨_, rfl⟩
  have hDl : D.length = 32 := by rw [hD]; unfold Sh.mac; rfl
  have hRT := hid (show Sh.rt a b = Sh.expand D pigB 64 by rw [hD]; unfold Sh.rt; rfl)
  have HD := hid hD
  clear hD hT
  have M0 := Mm.start no w
  go_enter Tryd.func38, Tryd.ntmps38
  have M2 := ((((M0.alloc (cs U8 a) 25 (by decide)).alloc (cs U8 b) 25 (by decide)).alloc (cs U8 (zs 32)) 25 (by decide)).alloc (cs U8 (zs 32)) 25 (by decide))
  try simp only [World.size_alloc] at M2
  go_upto_region 1 with fail
  obtain ⟨w1, hw1⟩ : ∃ w1, w1 = ((((w.alloc (.cells (cs U8 a) 25)).alloc (.cells (cs U8 b) 25)).alloc (.cells (cs U8 (zs 32)) 25)).alloc (.cells (cs U8 (zs 32)) 25)) := ⟨_, rfl⟩
  rw [← hw1] at M2 ⊢
  clear hw1
  refine wp_region_seq 5 [9, 10, 11, 12, 13] [3, 4] [] [] (.op 5 (.op 6 (.both (.op 7 (.both (.op 8 (.op 9 (.op 10 .done))) (.op 9 (.op 8 (.op 10 .done))))) (.op 8 (.op 7 (.op 9 (.op 10 .done))))))) (Mm no w _) (by kernel_rfl) (by kernel_rfl) (by kernel_rfl) (fun d _ _ _ _ h => by cases d <;> exact h) (by rfl) M2.size (fun _ _ h k => h.sf k) M2 ?_
  simp only [List.take_succ_cons, List.take_zero]
  refine SeqA.pure (.slice (some ⟨w.heap.size, 0, none⟩) 32 32) (fun w' => by go_simp) rfl rfl ?_
  refine SeqA.pure (.slice (some ⟨w.heap.size + 1, 0, none⟩) 32 32) (fun w' => by go_simp) rfl rfl ?_
  refine SeqA.call _ _ _ (fun w' => by go_simp) (fun w' hI _ => extractD HD.out (HK.out _ _ hI).1 (HK.out _ _ hI).2 (BS.row (hI.row (b := w.heap.size) (c := cs U8 a) (by simp)) ha (by decide)) (BS.row (hI.row (b := w.heap.size + 1) (c := cs U8 b) (by simp)) hb (by decide)) (by omega) (by omega)) M2.size rfl rfl ?_
  refine SeqA.lit pigB (#[.int .u8 112, .int .u8 105, .int .u8 103, .int .u8 101, .int .u8 111, .int .u8 110, .int .u8 114, .int .u8 121, .int .u8 32, .int .u8 114, .int .u8 111, .int .u8 111, .int .u8 116]) 13 pig_cs pig_len.symm M2.size (by decide) rfl rfl (fun w' => by go_simp) (fun u12 => ?_)
  refine SeqA.conv pigB u12 M2.size (by rw [pig_len]; unfold maxLen; decide) (fun w h => h.2) (by decide) rfl rfl (fun w' => by go_simp) (fun u13 => ?_)
  refine SeqA.nil (fun w3 M4 hz => ?_)
  obtain ⟨⟨M4, -⟩, HB⟩ := M4
  show wpT _ _ _ _ _ _
  simp only [Act.put, List.setIfInBounds_toArray, List.set_cons_succ, List.set_cons_zero]
  refine wpT_callR 14 rfl rfl rfl (by go_simp) (expand_c 64 64 rfl w3 D pigB u13 (HK.out _ _ M4).1 (HK.out _ _ M4).2 hDl HB (by rw [pig_len]; decide) (by decide)) ?_
  rintro e w4 ⟨u, rfl, hu, hb4⟩
  have M5 := M4.below hb4
  rw [← hRT.out] at hu
  obtain ⟨ub, uo, uc, rfl, huc, k1, k2, hrow⟩ := bs64 hu (rt_len a b)
  refine ⟨_, rfl, ?_⟩
  obtain ⟨R1, e1⟩ : ∃ R1, R1 = (Sh.rt a b).take 32 := ⟨_, rfl⟩
  obtain ⟨R2, e2⟩ : ∃ R2, R2 = (Sh.rt a b).drop 32 := ⟨_, rfl⟩
  rw [← e1] at k1
  rw [← e2] at k2
  have E1 := hid e1; have E2 := hid e2
  clear e1 e2
  have huc2 : ¬ uc = 32 := by omega
  have hR1 := k1.1
  have hR2 := k2.1
  have hub : ∀ g ∈ ([(w.heap.size + 1 + 1 + 1, cs U8 (zs 32)), (w.heap.size + 1 + 1, cs U8 (zs 32)), (w.heap.size + 1, cs U8 b), (w.heap.size, cs U8 a)] : List (Nat × Array Value)).map (·.1), ub ≠ g := by
    intro g hg e
    subst e
    obtain ⟨p, hp, e⟩ := List.mem_map.1 hg
    have h1 := hrow p.2 (by rw [← e]; exact M5.row hp)
    simp only [List.mem_cons, List.mem_singleton, List.not_mem_nil, or_false] at hp
    rcases hp with rfl | rfl | rfl | rfl <;> simp [ha, hb] at h1
  clear hu hrow hb4 M4 HB
  refine wpT_valp 8 (v := .tuple #[.slice (some ⟨ub, uo, none⟩) 64 uc, .int .i64 0]) rfl rfl rfl (by go_simp) ?_
  refine ⟨?_, ?_⟩
  · refine wpT_valp 15 (v := .slice (some ⟨ub, uo, none⟩) 64 uc) rfl rfl rfl (by go_simp) ?_
    refine ⟨?_, ?_⟩
    · refine wpT_valp 16 (v := .int .i64 0) rfl rfl rfl (by go_simp) ?_
      refine wpT_valp 6 (v := .slice (some ⟨ub, uo, none⟩) 64 uc) rfl rfl rfl (by go_simp) ?_
      refine wpT_valp 7 (v := .int .i64 0) rfl rfl rfl (by go_simp) ?_
      dsimp only [wpT]
      try simp only [Act.put, List.setIfInBounds_toArray, List.set_cons_succ, List.set_cons_zero]
      go_upto_region 2 with fail
      obtain ⟨S, MR, hS, hT⟩ := M5.rebase
      have HJ := hid (fun H w' (M : Mm S w4 H w') => (⟨k1.fr' M.fr (fun h => hub _ (hS _ h) rfl), k2.fr' M.fr (fun h => hub _ (hS _ h) rfl)⟩ : KC w' ub uo R1 ∧ KC w' ub (uo + 32) R2))
      have HT := hid hT
      clear hT hS k1 k2 hub M5
      refine wp_region_J (fun v => KC v ub uo R1 ∧ KC v ub (uo + 32) R2) [0, 1, 2, 3, 4, 5, 6] (.op 7 (.op 8 .done)) (by kernel_rfl) (by kernel_rfl) (by kernel_rfl) (fun d _ _ _ _ h => by cases d <;> exact h) ?_
      refine wpYJd_op 17 (.slice (some ⟨ub, uo, none⟩) 64 uc) rfl rfl rfl (fun w1 _ => by go_simp) ?_
      refine wpYJd_op 18 (.pointer (some ⟨ub, uo, none⟩)) rfl rfl rfl (fun w1 _ => by go_simp) ?_
      refine wpYJd_op 19 (.agg (cs U8 R1)) rfl rfl rfl (fun w1 h => by have q := h.1.load; clear h; go_simp) ?_
      refine wpYJd_op 20 (.slice (some ⟨ub, uo, none⟩) 64 uc) rfl rfl rfl (fun w1 _ => by go_simp) ?_
      refine wpYJd_op 21 (.slice (some ⟨ub, uo + 32, none⟩) 32 (uc - 32)) rfl rfl rfl (fun w1 _ => by go_simp) ?_
      try simp only [Act.put, List.setIfInBounds_toArray, List.set_cons_succ, List.set_cons_zero]
      refine wpYJd_op 22 (.pointer (some ⟨ub, uo + 32, none⟩)) rfl rfl rfl (fun w1 _ => by go_simp) ?_
      refine wpYJd_op 23 (.agg (cs U8 R2)) rfl rfl rfl (fun w1 h => by have q := h.2.load; clear h; go_simp) ?_
      show wpTJ _ _ _ _ _ _ _
      try simp only [Act.put, List.setIfInBounds_toArray, List.set_cons_succ, List.set_cons_zero]
      have M6 := MR.drewN 1
      change wpTJ _ _ _ _ _ _ (w4.drewN 1)
      refine wpTJ_st0 (HJ.out _ _ M6) M6 1 (cs U8 R1) inf_key rfl rfl rfl rfl (by go_simp) (by go_simp) (by simp) (by simp [hR1]) (by simp [go_sem]) rfl (fun w7 M7 => ?_)
      dsimp only [List.set] at M7
      refine wpTJ_st0 (HJ.out _ _ M7) M7 0 (cs U8 R2) inf_key rfl rfl rfl rfl (by go_simp) (by go_simp) (by simp) (by simp [hR2]) (by simp [go_sem]) rfl (fun w8 M8 => ?_)
      dsimp only [List.set] at M8
      refine ⟨HJ.out _ _ M8, ?_⟩
      go_wp2_with fail
      have r4 := M8.row (b := w.heap.size + 1 + 1) (c := cs U8 R1) (by simp)
      have r5 := M8.row (b := w.heap.size + 1 + 1 + 1) (c := cs U8 R2) (by simp)
      refine bodyPost_ret (res_two rfl (rv_row Tryd.underlying25 rfl inf_key (w.heap.size + 1 + 1) rfl (by rw [r4]; simp [hR1])) (rv_row Tryd.underlying25 rfl inf_key (w.heap.size + 1 + 1 + 1) rfl (by rw [r5]; simp [hR2]))) rfl ?_
      rw [r4, r5]
      exact ⟨by rw [E1.out, E2.out], (HT.out _ _ M8).end_⟩
    · refine wpT_valp 6 (v := .slice (some ⟨ub, uo, none⟩) 64 uc) rfl rfl rfl (by go_simp) ?_
      refine wpT_valp 16 (v := .int .i64 0) rfl rfl rfl (by go_simp) ?_
      refine wpT_valp 7 (v := .int .i64 0) rfl rfl rfl (by go_simp) ?_
      dsimp only [wpT]
      try simp only [Act.put, List.setIfInBounds_toArray, List.set_cons_succ, List.set_cons_zero]
      go_upto_region 2 with fail
      obtain ⟨S, MR, hS, hT⟩ := M5.rebase
      have HJ := hid (fun H w' (M : Mm S w4 H w') => (⟨k1.fr' M.fr (fun h => hub _ (hS _ h) rfl), k2.fr' M.fr (fun h => hub _ (hS _ h) rfl)⟩ : KC w' ub uo R1 ∧ KC w' ub (uo + 32) R2))
      have HT := hid hT
      clear hT hS k1 k2 hub M5
      refine wp_region_J (fun v => KC v ub uo R1 ∧ KC v ub (uo + 32) R2) [0, 1, 2, 3, 4, 5, 6] (.op 7 (.op 8 .done)) (by kernel_rfl) (by kernel_rfl) (by kernel_rfl) (fun d _ _ _ _ h => by cases d <;> exact h) ?_
      refine wpYJd_op 17 (.slice (some ⟨ub, uo, none⟩) 64 uc) rfl rfl rfl (fun w1 _ => by go_simp) ?_
      refine wpYJd_op 18 (.pointer (some ⟨ub, uo, none⟩)) rfl rfl rfl (fun w1 _ => by go_simp) ?_
      refine wpYJd_op 19 (.agg (cs U8 R1)) rfl rfl rfl (fun w1 h => by have q := h.1.load; clear h; go_simp) ?_
      refine wpYJd_op 20 (.slice (some ⟨ub, uo, none⟩) 64 uc) rfl rfl rfl (fun w1 _ => by go_simp) ?_
      refine wpYJd_op 21 (.slice (some ⟨ub, uo + 32, none⟩) 32 (uc - 32)) rfl rfl rfl (fun w1 _ => by go_simp) ?_
      try simp only [Act.put, List.setIfInBounds_toArray, List.set_cons_succ, List.set_cons_zero]
      refine wpYJd_op 22 (.pointer (some ⟨ub, uo + 32, none⟩)) rfl rfl rfl (fun w1 _ => by go_simp) ?_
      refine wpYJd_op 23 (.agg (cs U8 R2)) rfl rfl rfl (fun w1 h => by have q := h.2.load; clear h; go_simp) ?_
      show wpTJ _ _ _ _ _ _ _
      try simp only [Act.put, List.setIfInBounds_toArray, List.set_cons_succ, List.set_cons_zero]
      have M6 := MR.drewN 1
      change wpTJ _ _ _ _ _ _ (w4.drewN 1)
      refine wpTJ_st0 (HJ.out _ _ M6) M6 1 (cs U8 R1) inf_key rfl rfl rfl rfl (by go_simp) (by go_simp) (by simp) (by simp [hR1]) (by simp [go_sem]) rfl (fun w7 M7 => ?_)
      dsimp only [List.set] at M7
      refine wpTJ_st0 (HJ.out _ _ M7) M7 0 (cs U8 R2) inf_key rfl rfl rfl rfl (by go_simp) (by go_simp) (by simp) (by simp [hR2]) (by simp [go_sem]) rfl (fun w8 M8 => ?_)
      dsimp only [List.set] at M8
      refine ⟨HJ.out _ _ M8, ?_⟩
      go_wp2_with fail
      have r4 := M8.row (b := w.heap.size + 1 + 1) (c := cs U8 R1) (by simp)
      have r5 := M8.row (b := w.heap.size + 1 + 1 + 1) (c := cs U8 R2) (by simp)
      refine bodyPost_ret (res_two rfl (rv_row Tryd.underlying25 rfl inf_key (w.heap.size + 1 + 1) rfl (by rw [r4]; simp [hR1])) (rv_row Tryd.underlying25 rfl inf_key (w.heap.size + 1 + 1 + 1) rfl (by rw [r5]; simp [hR2]))) rfl ?_
      rw [r4, r5]
      exact ⟨by rw [E1.out, E2.out], (HT.out _ _ M8).end_⟩
  · refine wpT_valp 16 (v := .int .i64 0) rfl rfl rfl (by go_simp) ?_
    refine wpT_valp 15 (v := .slice (some ⟨ub, uo, none⟩) 64 uc) rfl rfl rfl (by go_simp) ?_
    refine wpT_valp 6 (v := .slice (some ⟨ub, uo, none⟩) 64 uc) rfl rfl rfl (by go_simp) ?_
    refine wpT_valp 7 (v := .int .i64 0) rfl rfl rfl (by go_simp) ?_
    dsimp only [wpT]
    try simp only [Act.put, List.setIfInBounds_toArray, List.set_cons_succ, List.set_cons_zero]
    go_upto_region 2 with fail
    obtain ⟨S, MR, hS, hT⟩ := M5.rebase
    have HJ := hid (fun H w' (M : Mm S w4 H w') => (⟨k1.fr' M.fr (fun h => hub _ (hS _ h) rfl), k2.fr' M.fr (fun h => hub _ (hS _ h) rfl)⟩ : KC w' ub uo R1 ∧ KC w' ub (uo + 32) R2))
    have HT := hid hT
    clear hT hS k1 k2 hub M5
    refine wp_region_J (fun v => KC v ub uo R1 ∧ KC v ub (uo + 32) R2) [0, 1, 2, 3, 4, 5, 6] (.op 7 (.op 8 .done)) (by kernel_rfl) (by kernel_rfl) (by kernel_rfl) (fun d _ _ _ _ h => by cases d <;> exact h) ?_
    refine wpYJd_op 17 (.slice (some ⟨ub, uo, none⟩) 64 uc) rfl rfl rfl (fun w1 _ => by go_simp) ?_
    refine wpYJd_op 18 (.pointer (some ⟨ub, uo, none⟩)) rfl rfl rfl (fun w1 _ => by go_simp) ?_
    refine wpYJd_op 19 (.agg (cs U8 R1)) rfl rfl rfl (fun w1 h => by have q := h.1.load; clear h; go_simp) ?_
    refine wpYJd_op 20 (.slice (some ⟨ub, uo, none⟩) 64 uc) rfl rfl rfl (fun w1 _ => by go_simp) ?_
    refine wpYJd_op 21 (.slice (some ⟨ub, uo + 32, none⟩) 32 (uc - 32)) rfl rfl rfl (fun w1 _ => by go_simp) ?_
    try simp only [Act.put, List.setIfInBounds_toArray, List.set_cons_succ, List.set_cons_zero]
    refine wpYJd_op 22 (.pointer (some ⟨ub, uo + 32, none⟩)) rfl rfl rfl (fun w1 _ => by go_simp) ?_
    refine wpYJd_op 23 (.agg (cs U8 R2)) rfl rfl rfl (fun w1 h => by have q := h.2.load; clear h; go_simp) ?_
    show wpTJ _ _ _ _ _ _ _
    try simp only [Act.put, List.setIfInBounds_toArray, List.set_cons_succ, List.set_cons_zero]
    have M6 := MR.drewN 1
    change wpTJ _ _ _ _ _ _ (w4.drewN 1)
    refine wpTJ_st0 (HJ.out _ _ M6) M6 1 (cs U8 R1) inf_key rfl rfl rfl rfl (by go_simp) (by go_simp) (by simp) (by simp [hR1]) (by simp [go_sem]) rfl (fun w7 M7 => ?_)
    dsimp only [List.set] at M7
    refine wpTJ_st0 (HJ.out _ _ M7) M7 0 (cs U8 R2) inf_key rfl rfl rfl rfl (by go_simp) (by go_simp) (by simp) (by simp [hR2]) (by simp [go_sem]) rfl (fun w8 M8 => ?_)
    dsimp only [List.set] at M8
    refine ⟨HJ.out _ _ M8, ?_⟩
    go_wp2_with fail
    have r4 := M8.row (b := w.heap.size + 1 + 1) (c := cs U8 R1) (by simp)
    have r5 := M8.row (b := w.heap.size + 1 + 1 + 1) (c := cs U8 R2) (by simp)
    refine bodyPost_ret (res_two rfl (rv_row Tryd.underlying25 rfl inf_key (w.heap.size + 1 + 1) rfl (by rw [r4]; simp [hR1])) (rv_row Tryd.underlying25 rfl inf_key (w.heap.size + 1 + 1 + 1) rfl (by rw [r5]; simp [hR2]))) rfl ?_
    rw [r4, r5]
    exact ⟨by rw [E1.out, E2.out], (HT.out _ _ M8).end_⟩
end Go.Proofs.YtocledgjejlolaaDoor
set_option linter.unusedSimpArgs false
set_option linter.unusedVariables false
namespace Go.Proofs.YtocledgjejlolaaDoor
open Go.RowKit
theorem root_v (w : World) (a b R C : List (BitVec 8)) (hT : KT w) (hk0 : 0 < w.heap.size) (ha : a.length = 32) (hb : b.length = 32) (hR : (Sh.rt a b).take 32 = R) (hC : (Sh.rt a b).drop 32 = C) :
    Calls Tryd.prog 38 #[.agg (cs U8 a), .agg (cs U8 b)] w fun e w' => e = .returned (.tuple #[.agg (cs U8 R), .agg (cs U8 C)]) ∧ Below w.heap.size w w' := by
  subst hR hC; exact root_any w a b hT hk0 ha hb
attribute [local irreducible] CR Sh.nx Sh.ms Sh.nxk Sh.msk k1 Sh.rt
set_option maxRecDepth 100000 in
set_option maxHeartbeats 4000000 in
theorem ChainRoots_w (w : World) (a b : List (BitVec 8)) (hT : KT w) (hk0 : 0 < w.heap.size) (ha : a.length = 32) (hb : b.length = 32) :
    Calls Tryd.prog 17 #[.agg (cs U8 a), .agg (cs U8 b)] w fun e w' => e = .returned (.bool true) ∧ Below w.heap.size w w' := by
  have HK := hid (fun H w' (M : Mm no w H w') => kt_mm hT hk0 (fun h => h) M)
  obtain ⟨R, hRR⟩ : ∃ R, (Sh.rt a b).take 32 = R := ⟨_, rfl⟩
  obtain ⟨C, hCC⟩ : ∃ C, (Sh.rt a b).drop 32 = C := ⟨_, rfl⟩
  have hR : R.length = 32 := by rw [← hRR]; simp [rt_len]
  have hC : C.length = 32 := by rw [← hCC]; simp [rt_len]
  have HRR := hid hRR; have HCC := hid hCC
  clear hRR hCC hT
  have M0 := Mm.start no w
  go_enter Tryd.func17, Tryd.ntmps17
  have M2 := ((M0.alloc (cs U8 a) 25 (by decide)).alloc (cs U8 b) 25 (by decide))
  try simp only [World.size_alloc] at M2
  go_upto_region 1 with fail
  obtain ⟨w1, hw1⟩ : ∃ w1, w1 = ((w.alloc (.cells (cs U8 a) 25)).alloc (.cells (cs U8 b) 25)) := ⟨_, rfl⟩
  rw [← hw1] at M2 ⊢
  clear hw1
  refine wp_region_lin (.op 0 (.op 1 .done)) (by rfl) ?_
  refine wpT_callv 17 M2 (v := .bool true) rfl rfl rfl (by go_simp) (alive17_any w1 (HK.out _ _ M2).1 (HK.out _ _ M2).2) (fun w3 M4 => ?_)
  refine wpT_valp 18 (v := .bool false) rfl rfl rfl (by go_simp) ?_
  dsimp only [wpT]
  try simp only [Act.put, List.setIfInBounds_toArray, List.set_cons_succ, List.set_cons_zero]
  go_upto_region 3 with fail
  refine wp_region_lin (.op 0 (.op 1 (.op 2 (.op 3 (.op 4 (.op 5 (.op 6 (.op 7 (.op 8 (.op 9 .done)))))))))) (by rfl) ?_
  refine wpT_ld0 20 Tryd.underlying25 rfl inf_key (w.heap.size) (cs U8 a) rfl rfl rfl (by go_simp) (M4.row (by simp)) (by simp [ha, hb, hR, hC]) rfl ?_
  refine wpT_ld0 21 Tryd.underlying25 rfl inf_key (w.heap.size + 1) (cs U8 b) rfl rfl rfl (by go_simp) (M4.row (by simp)) (by simp [ha, hb, hR, hC]) rfl ?_
  refine wpT_callv 22 M4 (v := .tuple #[.agg (cs U8 R), .agg (cs U8 C)]) rfl rfl rfl (by go_simp) (root_v w3 a b R C (HK.out _ _ M4).1 (HK.out _ _ M4).2 ha hb HRR.out HCC.out) (fun w5 M6 => ?_)
  refine wpT_valp 19 (v := .tuple #[.agg (cs U8 R), .agg (cs U8 C)]) rfl rfl rfl (by go_simp) ?_
  try simp only [Act.put, List.setIfInBounds_toArray, List.set_cons_succ, List.set_cons_zero]
  refine wpT_valp 23 (v := .agg (cs U8 R)) rfl rfl rfl (by go_simp) ?_
  refine wpT_valp 24 (v := .agg (cs U8 C)) rfl rfl rfl (by go_simp) ?_
  refine wpT_new (z := .agg (cs U8 (zs 32))) 5 M6 (by kernel_rfl) (by decide) rfl rfl rfl rfl (fun b7 w8 M9 => ?_)
  try dsimp only [Value.cells] at M9
  refine wpT_new (z := .agg (cs U8 (zs 32))) 6 M9 (by kernel_rfl) (by decide) rfl rfl rfl rfl (fun b10 w11 M12 => ?_)
  try dsimp only [Value.cells] at M12
  refine wpT_st0 M12 1 (cs U8 R) inf_key rfl rfl rfl rfl (by go_simp) (by go_simp) (by simp [ha, hb, hR, hC]) (by simp [ha, hb, hR, hC]) (by simp [go_sem]) rfl (fun w13 M14 => ?_)
  dsimp only [List.set] at M14
  try simp only [Act.put, List.setIfInBounds_toArray, List.set_cons_succ, List.set_cons_zero]
  refine wpT_st0 M14 0 (cs U8 C) inf_key rfl rfl rfl rfl (by go_simp) (by go_simp) (by simp [ha, hb, hR, hC]) (by simp [ha, hb, hR, hC]) (by simp [go_sem]) rfl (fun w15 M16 => ?_)
  dsimp only [List.set] at M16
  dsimp only [wpT]
  try simp only [Act.put, List.setIfInBounds_toArray, List.set_cons_succ, List.set_cons_zero]
  go_upto_region 4 with fail
  refine wp_region_lin (.op 0 (.op 1 (.op 2 (.op 3 (.op 4 (.op 5 (.op 6 (.op 7 (.op 8 (.op 9 .done)))))))))) (by rfl) ?_
  refine wpT_ld0 26 Tryd.underlying25 rfl inf_key (w.heap.size) (cs U8 a) rfl rfl rfl (by go_simp) (M16.row (by simp)) (by simp [ha, hb, hR, hC]) rfl ?_
  refine wpT_ld0 27 Tryd.underlying25 rfl inf_key (w.heap.size + 1) (cs U8 b) rfl rfl rfl (by go_simp) (M16.row (by simp)) (by simp [ha, hb, hR, hC]) rfl ?_
  refine wpT_callv 28 M16 (v := .tuple #[.agg (cs U8 R), .agg (cs U8 C)]) rfl rfl rfl (by go_simp) (root_v w15 a b R C (HK.out _ _ M16).1 (HK.out _ _ M16).2 ha hb HRR.out HCC.out) (fun w17 M18 => ?_)
  refine wpT_valp 25 (v := .tuple #[.agg (cs U8 R), .agg (cs U8 C)]) rfl rfl rfl (by go_simp) ?_
  try simp only [Act.put, List.setIfInBounds_toArray, List.set_cons_succ, List.set_cons_zero]
  refine wpT_valp 29 (v := .agg (cs U8 R)) rfl rfl rfl (by go_simp) ?_
  refine wpT_valp 30 (v := .agg (cs U8 C)) rfl rfl rfl (by go_simp) ?_
  refine wpT_new (z := .agg (cs U8 (zs 32))) 7 M18 (by kernel_rfl) (by decide) rfl rfl rfl rfl (fun b19 w20 M21 => ?_)
  try dsimp only [Value.cells] at M21
  refine wpT_new (z := .agg (cs U8 (zs 32))) 8 M21 (by kernel_rfl) (by decide) rfl rfl rfl rfl (fun b22 w23 M24 => ?_)
  try dsimp only [Value.cells] at M24
  refine wpT_st0 M24 1 (cs U8 R) inf_key rfl rfl rfl rfl (by go_simp) (by go_simp) (by simp [ha, hb, hR, hC]) (by simp [ha, hb, hR, hC]) (by simp [go_sem]) rfl (fun w25 M26 => ?_)
  dsimp only [List.set] at M26
  try simp only [Act.put, List.setIfInBounds_toArray, List.set_cons_succ, List.set_cons_zero]
  refine wpT_st0 M26 0 (cs U8 C) inf_key rfl rfl rfl rfl (by go_simp) (by go_simp) (by simp [ha, hb, hR, hC]) (by simp [ha, hb, hR, hC]) (by simp [go_sem]) rfl (fun w27 M28 => ?_)
  dsimp only [List.set] at M28
  dsimp only [wpT]
  try simp only [Act.put, List.setIfInBounds_toArray, List.set_cons_succ, List.set_cons_zero]
  go_upto_region 5 with fail
  refine wp_region_lin (.op 0 (.op 1 (.op 2 .done))) (by rfl) ?_
  refine wpT_ld0 31 Tryd.underlying25 rfl inf_key (b10) (cs U8 C) rfl rfl rfl (by go_simp) (M28.row (by simp)) (by simp [ha, hb, hR, hC]) rfl ?_
  refine wpT_calld 32 rfl rfl rfl (by go_simp) (new_m w27 C 0 hC (by decide) (by decide)) ?_
  rintro e w29 ⟨g31, rfl, Nw29⟩
  have M30 := M28.join Nw29
  refine ⟨_, rfl, ?_⟩
  refine wpT_valp 9 (v := .pointer (some ⟨g31, 0, none⟩)) rfl rfl rfl (by go_simp) ?_
  dsimp only [wpT]
  try simp only [Act.put, List.setIfInBounds_toArray, List.set_cons_succ, List.set_cons_zero]
  go_upto_region 6 with fail
  have hgw : w.heap.size ≤ g31 := (M30.own (g31, CR C 0) (by simp)).1.resolve_left (fun h => h)
  refine wp_region_lin (.op 0 (.op 1 .done)) (by rfl) ?_
  refine wpT_valp 33 (v := .pointer (some ⟨g31, 0, none⟩)) rfl rfl rfl (by go_simp) ?_
  refine wpT_valp 34 (v := .bool false) rfl rfl rfl (by go_simp) ?_
  dsimp only [wpT]
  try simp only [Act.put, List.setIfInBounds_toArray, List.set_cons_succ, List.set_cons_zero]
  go_upto_region 8 with fail
  refine wp_region_lin (.op 0 (.op 1 (.op 2 (.op 3 (.op 4 (.op 5 (.op 6 (.op 7 (.op 8 (.op 9 .done)))))))))) (by rfl) ?_
  refine wpT_valp 36 (v := .pointer (some ⟨g31, 0, none⟩)) rfl rfl rfl (by go_simp) ?_
  refine wpT_callm 37 M30 0 (C' := CR (Sh.nx C) 1) (v := .tuple #[.int .i64 0, .agg (cs U8 (Sh.ms C)), .int .i64 0]) rfl rfl rfl rfl (by go_simp) (next_m w29 g31 C 0 (HK.out _ _ M30).1 (HK.out _ _ M30).2 (by omega) (M30.loc' (k := 0) rfl) (by omega) (by omega) hC) (fun w32 M33 _ => ?_)
  dsimp only [List.set] at M33
  refine wpT_valp 35 (v := .tuple #[.int .i64 0, .agg (cs U8 (Sh.ms C)), .int .i64 0]) rfl rfl rfl (by go_simp) ?_
  refine wpT_valp 38 (v := .int .i64 0) rfl rfl rfl (by go_simp) ?_
  try simp only [Act.put, List.setIfInBounds_toArray, List.set_cons_succ, List.set_cons_zero]
  refine wpT_valp 39 (v := .agg (cs U8 (Sh.ms C))) rfl rfl rfl (by go_simp) ?_
  refine wpT_valp 40 (v := .int .i64 0) rfl rfl rfl (by go_simp) ?_
  refine wpT_new (z := .agg (cs U8 (zs 32))) 11 M33 (by kernel_rfl) (by decide) rfl rfl rfl rfl (fun b34 w35 M36 => ?_)
  try dsimp only [Value.cells] at M36
  refine wpT_valp 10 (v := .int .i64 0) rfl rfl rfl (by go_simp) ?_
  refine wpT_st0 M36 0 (cs U8 (Sh.ms C)) inf_key rfl rfl rfl rfl (by go_simp) (by go_simp) (by simp [ha, hb, hR, hC]) (by simp [ha, hb, hR, hC]) (by simp [go_sem]) rfl (fun w37 M38 => ?_)
  dsimp only [List.set] at M38
  try simp only [Act.put, List.setIfInBounds_toArray, List.set_cons_succ, List.set_cons_zero]
  refine wpT_valp 12 (v := .int .i64 0) rfl rfl rfl (by go_simp) ?_
  dsimp only [wpT]
  try simp only [Act.put, List.setIfInBounds_toArray, List.set_cons_succ, List.set_cons_zero]
  go_upto_region 9 with fail
  refine wp_region_lin (.op 0 (.op 1 (.op 2 (.op 3 (.op 4 (.op 5 (.op 6 (.op 7 (.op 8 .done))))))))) (by rfl) ?_
  refine wpT_ld0 42 Tryd.underlying25 rfl inf_key (b10) (cs U8 C) rfl rfl rfl (by go_simp) (M38.row (by simp)) (by simp [ha, hb, hR, hC]) rfl ?_
  refine wpT_callv 43 M38 (v := .tuple #[.agg (cs U8 (Sh.nx C)), .agg (cs U8 (Sh.ms C))]) rfl rfl rfl (by go_simp) (step_any w37 C (HK.out _ _ M38).1 (HK.out _ _ M38).2 (by simp [ha, hb, hR, hC])) (fun w39 M40 => ?_)
  refine wpT_valp 41 (v := .tuple #[.agg (cs U8 (Sh.nx C)), .agg (cs U8 (Sh.ms C))]) rfl rfl rfl (by go_simp) ?_
  refine wpT_valp 44 (v := .agg (cs U8 (Sh.nx C))) rfl rfl rfl (by go_simp) ?_
  try simp only [Act.put, List.setIfInBounds_toArray, List.set_cons_succ, List.set_cons_zero]
  refine wpT_valp 45 (v := .agg (cs U8 (Sh.ms C))) rfl rfl rfl (by go_simp) ?_
  refine wpT_new (z := .agg (cs U8 (zs 32))) 13 M40 (by kernel_rfl) (by decide) rfl rfl rfl rfl (fun b41 w42 M43 => ?_)
  try dsimp only [Value.cells] at M43
  refine wpT_new (z := .agg (cs U8 (zs 32))) 14 M43 (by kernel_rfl) (by decide) rfl rfl rfl rfl (fun b44 w45 M46 => ?_)
  try dsimp only [Value.cells] at M46
  refine wpT_st0 M46 1 (cs U8 (Sh.nx C)) inf_key rfl rfl rfl rfl (by go_simp) (by go_simp) (by simp [ha, hb, hR, hC]) (by simp [ha, hb, hR, hC]) (by simp [go_sem]) rfl (fun w47 M48 => ?_)
  dsimp only [List.set] at M48
  refine wpT_st0 M48 0 (cs U8 (Sh.ms C)) inf_key rfl rfl rfl rfl (by go_simp) (by go_simp) (by simp [ha, hb, hR, hC]) (by simp [ha, hb, hR, hC]) (by simp [go_sem]) rfl (fun w49 M50 => ?_)
  dsimp only [List.set] at M50
  dsimp only [wpT]
  try simp only [Act.put, List.setIfInBounds_toArray, List.set_cons_succ, List.set_cons_zero]
  go_upto_region 10 with fail
  refine wp_region_lin (.op 0 (.op 1 (.op 2 (.op 3 (.op 4 (.op 5 (.op 6 (.op 7 .done)))))))) (by rfl) ?_
  refine wpT_valp 47 (v := .pointer (some ⟨g31, 0, none⟩)) rfl rfl rfl (by go_simp) ?_
  refine wpT_callm 48 M50 3 (C' := CR (Sh.nx C) 1) (v := .tuple #[.agg (cs U8 (Sh.nx C)), .int .i64 1]) rfl rfl rfl rfl (by go_simp) (at_m w49 g31 (Sh.nx C) 1 (M50.loc' (k := 3) rfl) (by simp [ha, hb, hR, hC])) (fun w51 M52 _ => ?_)
  dsimp only [List.set] at M52
  refine wpT_valp 46 (v := .tuple #[.agg (cs U8 (Sh.nx C)), .int .i64 1]) rfl rfl rfl (by go_simp) ?_
  refine wpT_valp 49 (v := .agg (cs U8 (Sh.nx C))) rfl rfl rfl (by go_simp) ?_
  try simp only [Act.put, List.setIfInBounds_toArray, List.set_cons_succ, List.set_cons_zero]
  refine wpT_valp 50 (v := .int .i64 1) rfl rfl rfl (by go_simp) ?_
  refine wpT_new (z := .agg (cs U8 (zs 32))) 15 M52 (by kernel_rfl) (by decide) rfl rfl rfl rfl (fun b53 w54 M55 => ?_)
  try dsimp only [Value.cells] at M55
  refine wpT_st0 M55 0 (cs U8 (Sh.nx C)) inf_key rfl rfl rfl rfl (by go_simp) (by go_simp) (by simp [ha, hb, hR, hC]) (by simp [ha, hb, hR, hC]) (by simp [go_sem]) rfl (fun w56 M57 => ?_)
  dsimp only [List.set] at M57
  refine wpT_valp 16 (v := .int .i64 1) rfl rfl rfl (by go_simp) ?_
  dsimp only [wpT]
  try simp only [Act.put, List.setIfInBounds_toArray, List.set_cons_succ, List.set_cons_zero]
  go_upto_region 11 with fail
  refine wp_region_lin (.op 0 (.op 1 (.op 2 (.op 3 (.op 4 (.op 5 (.op 6 (.op 7 (.op 8 (.op 9 (.op 10 (.op 11 (.op 12 (.op 13 (.op 14 (.op 15 (.op 16 (.op 17 (.op 18 (.op 19 (.op 20 (.op 21 (.op 22 (.op 23 (.op 24 (.op 25 (.op 26 (.op 27 (.op 28 (.op 29 (.op 30 .done))))))))))))))))))))))))))))))) (by rfl) ?_
  refine wpT_ld0 51 Tryd.underlying25 rfl inf_key (b7) (cs U8 R) rfl rfl rfl (by go_simp) (M57.row (by simp)) (by simp [ha, hb, hR, hC]) rfl ?_
  refine wpT_ld0 52 Tryd.underlying25 rfl inf_key (b19) (cs U8 R) rfl rfl rfl (by go_simp) (M57.row (by simp)) (by simp [ha, hb, hR, hC]) rfl ?_
  refine wpT_valp 53 (v := .bool true) rfl rfl rfl (by have q := eqL w56 R (by simp [ha, hb, hR, hC]); go_simp) ?_
  refine wpT_valp 54 (v := .bool true) rfl rfl rfl (by go_simp) ?_
  try simp only [Act.put, List.setIfInBounds_toArray, List.set_cons_succ, List.set_cons_zero]
  refine wpT_ld0 55 Tryd.underlying25 rfl inf_key (b10) (cs U8 C) rfl rfl rfl (by go_simp) (M57.row (by simp)) (by simp [ha, hb, hR, hC]) (by simp [Region.wanted, yielded, Act.put]) ?_
  refine wpT_ld0 56 Tryd.underlying25 rfl inf_key (b22) (cs U8 C) rfl rfl rfl (by go_simp) (M57.row (by simp)) (by simp [ha, hb, hR, hC]) (by simp [Region.wanted, yielded, Act.put]) ?_
  refine wpT_valp 57 (v := .bool true) rfl rfl (by simp [Region.wanted, yielded, Act.put]) (by have q := eqL w56 C (by simp [ha, hb, hR, hC]); go_simp) ?_
  refine wpT_valp 58 (v := .bool true) rfl rfl rfl (by go_simp) ?_
  refine wpT_valp 59 (v := .bool true) rfl rfl rfl (by go_simp) ?_
  try simp only [Act.put, List.setIfInBounds_toArray, List.set_cons_succ, List.set_cons_zero]
  refine wpT_valp 60 (v := .int .i64 0) rfl rfl (by simp [Region.wanted, yielded, Act.put]) (by go_simp) ?_
  refine wpT_valp 61 (v := .bool true) rfl rfl (by simp [Region.wanted, yielded, Act.put]) (by go_simp) ?_
  refine wpT_valp 62 (v := .bool true) rfl rfl rfl (by go_simp) ?_
  refine wpT_valp 63 (v := .bool true) rfl rfl rfl (by go_simp) ?_
  refine wpT_ld0 64 Tryd.underlying25 rfl inf_key (b34) (cs U8 (Sh.ms C)) rfl rfl rfl (by go_simp) (M57.row (by simp)) (by simp [ha, hb, hR, hC]) (by simp [Region.wanted, yielded, Act.put]) ?_
  try simp only [Act.put, List.setIfInBounds_toArray, List.set_cons_succ, List.set_cons_zero]
  refine wpT_ld0 65 Tryd.underlying25 rfl inf_key (b44) (cs U8 (Sh.ms C)) rfl rfl rfl (by go_simp) (M57.row (by simp)) (by simp [ha, hb, hR, hC]) (by simp [Region.wanted, yielded, Act.put]) ?_
  refine wpT_valp 66 (v := .bool true) rfl rfl (by simp [Region.wanted, yielded, Act.put]) (by have q := eqL w56 (Sh.ms C) (by simp [ha, hb, hR, hC]); go_simp) ?_
  refine wpT_valp 67 (v := .bool true) rfl rfl rfl (by go_simp) ?_
  refine wpT_valp 68 (v := .bool true) rfl rfl rfl (by go_simp) ?_
  refine wpT_valp 69 (v := .int .i64 0) rfl rfl (by simp [Region.wanted, yielded, Act.put]) (by go_simp) ?_
  try simp only [Act.put, List.setIfInBounds_toArray, List.set_cons_succ, List.set_cons_zero]
  refine wpT_valp 70 (v := .bool true) rfl rfl (by simp [Region.wanted, yielded, Act.put]) (by go_simp) ?_
  refine wpT_valp 71 (v := .bool true) rfl rfl rfl (by go_simp) ?_
  refine wpT_valp 72 (v := .bool true) rfl rfl rfl (by go_simp) ?_
  refine wpT_ld0 73 Tryd.underlying25 rfl inf_key (b53) (cs U8 (Sh.nx C)) rfl rfl rfl (by go_simp) (M57.row (by simp)) (by simp [ha, hb, hR, hC]) (by simp [Region.wanted, yielded, Act.put]) ?_
  refine wpT_ld0 74 Tryd.underlying25 rfl inf_key (b41) (cs U8 (Sh.nx C)) rfl rfl rfl (by go_simp) (M57.row (by simp)) (by simp [ha, hb, hR, hC]) (by simp [Region.wanted, yielded, Act.put]) ?_
  try simp only [Act.put, List.setIfInBounds_toArray, List.set_cons_succ, List.set_cons_zero]
  refine wpT_valp 75 (v := .bool true) rfl rfl (by simp [Region.wanted, yielded, Act.put]) (by have q := eqL w56 (Sh.nx C) (by simp [ha, hb, hR, hC]); go_simp) ?_
  refine wpT_valp 76 (v := .bool true) rfl rfl rfl (by go_simp) ?_
  refine wpT_valp 77 (v := .bool true) rfl rfl rfl (by go_simp) ?_
  refine wpT_valp 78 (v := .int .i64 1) rfl rfl (by simp [Region.wanted, yielded, Act.put]) (by go_simp) ?_
  refine wpT_valp 79 (v := .bool true) rfl rfl (by simp [Region.wanted, yielded, Act.put]) (by go_simp) ?_
  try simp only [Act.put, List.setIfInBounds_toArray, List.set_cons_succ, List.set_cons_zero]
  refine wpT_valp 80 (v := .bool true) rfl rfl rfl (by go_simp) ?_
  refine wpT_valp 4 (v := .bool true) rfl rfl rfl (by go_simp) ?_
  dsimp only [wpT]
  try simp only [Act.put, List.setIfInBounds_toArray, List.set_cons_succ, List.set_cons_zero]
  go_wp2_with fail
  go_ret
  exact ⟨rfl, M57.end_⟩
end Go.Proofs.YtocledgjejlolaaDoor
