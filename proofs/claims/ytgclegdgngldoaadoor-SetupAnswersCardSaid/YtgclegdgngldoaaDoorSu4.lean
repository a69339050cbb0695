/-
  Package setup: the secret of pairs; own work.
  Package setup: Start, Answer; own work.
  Law 19: alive, and what both come to; own work.
-/
import Derived.Test.YtgclegdgngldoaaDoorSu1
set_option linter.unusedSimpArgs false
set_option linter.unusedVariables false
namespace Go.Proofs.YtgclegdgngldoaaDoor
open Go.RowKit Fp
theorem xb_k0 (w : World) : exBuild Tryd.prog 23 #[] w = .ok (.value (.agg (cs U8 (zs 32)))) w := by
  unfold exBuild; rw [run_build w _ _ (cs U8 (zs 32)) (by kernel_rfl)]; rfl
section
variable {P : Program} {ops : Array Oper} {Q : Exit → Act → World → Prop} {i : Nat} {t : Tr} {a : Act} {o : Oper} {w : World}
/-- a load whose outcome is known -/
theorem wpT_ldx {T : TypeId} {p : Operand} (dst : Nat) (A v : Value) (hdst : o.dst = some dst) (ho : ops[i]? = some o) (hop : o.op = .load T p) (hp : a.eval p = A) (hq : exLoad P T A w = .ok (.value v) w) (hw : Region.wanted o (yielded ops a.tmps) = true)
    (h : wpT P ops Q t (a.put (some dst) v) w) : wpT P ops Q (.op i t) a w :=
  wpT_val (w' := w) (v := v) ho hw (by
    obtain ⟨dst, op, ty, pos, after, guard⟩ := o
    subst hop
    rw [x_load, hp, hq]) (by rw [hdst]; exact h)
end
def cat2 (p : L8 × L8) : L8 := p.1 ++ p.2
theorem parts_take (l : List (L8 × L8)) (i : Nat) (hi : i < l.length) : Su.parts (l.take i) ++ K (shv (l.getD i ([], [])).1 (l.getD i ([], [])).2) = Su.parts (l.take (i + 1)) := by
  rw [List.take_succ_eq_append_getElem hi, parts_append, List.getD_eq_getElem?_getD, List.getElem?_eq_getElem hi]
  simp [Su.parts]
attribute [local irreducible] BR Su.pub Su.parts Sh.mac Sh.derive
set_option maxRecDepth 100000 in
set_option maxHeartbeats 2000000 in
theorem secret_ok (w : World) (l : List (L8 × L8)) (v : Value) (D : L8) (hT : KT w ∧ 0 < w.heap.size) (hv : PS w v (l.map cat2)) (h32 : ∀ p ∈ l, p.1.length = 32 ∧ p.2.length = 32) (hg : Su.good l) (h0 : 0 < l.length) (h9 : l.length ≤ 9) (eD : D = Su.sec l) :
    Calls Tryd.prog 33 #[v] w fun e w' => e = .returned (.tuple #[.agg (cs U8 D), .int .i64 0]) ∧ Below w.heap.size w w' := by
  obtain ⟨lb, elb⟩ : ∃ lb, lb = Su.lab := ⟨_, rfl⟩
  have hlb : lb.length = 14 := by rw [elb]; rfl
  obtain ⟨E, eE⟩ : ∃ E, E = Sh.mac lb (Su.parts l) := ⟨_, rfl⟩
  have hE : E.length = 32 := by rw [eE]; unfold Sh.mac; rfl
  have hD' : D = Sh.derive E Su.setupB := by rw [eD, eE, elb]; rfl
  have hD : D.length = 32 := by rw [hD']; exact derive_len ..
  have hPl : (Su.parts l).length ≤ 1000 := by rw [parts_len]; omega
  have HLB : Hid (lb = [112, 105, 103, 101, 111, 110, 114, 121, 32, 115, 101, 116, 117, 112]) := hid elb
  have HE := hid eE
  have HD := hid hD'
  have HT := hid hT
  have HG := hid hg
  clear elb eE hD' eD hT hg
  obtain ⟨a0, cp, rfl, hc0, hm0, -⟩ := id hv
  obtain ⟨gp, op, e, hpc⟩ := hv.key (by rw [List.length_map]; omega)
  subst e
  rw [List.length_map] at hc0 hm0
  obtain ⟨n, hn⟩ : ∃ n, (l.map cat2).length = n := ⟨_, rfl⟩
  have hnl : l.length = n := by rw [← hn, List.length_map]
  rw [hn]
  have HPCS : Hid (∀ i, i < n → ∀ w', Below w.heap.size w w' → PC w' gp (op + i * 64) ((l.getD i ([], [])).1 ++ (l.getD i ([], [])).2)) := hid fun i hi w' h => by
    have h1 := (hpc i (by rw [hn]; exact hi)).below h
    rw [List.getD_eq_getElem?_getD, List.getElem?_map, List.getElem?_eq_getElem (show i < l.length by omega)] at h1
    rw [List.getD_eq_getElem?_getD, List.getElem?_eq_getElem (show i < l.length by omega)]
    exact h1
  have H32 := hid h32
  clear hv hpc hn h32
  have M0 := Mm.start no w
  go_enter Tryd.func33, Tryd.ntmps33
  have M2 := (M0.alloc (cs U8 (zs 32)) 23 (by decide))
  try simp only [World.size_alloc] at M2
  go_upto_region 1 with fail
  obtain ⟨w1, hw1⟩ : ∃ w1, w1 = (w.alloc (.cells (cs U8 (zs 32)) 23)) := ⟨_, rfl⟩
  rw [← hw1] at M2 ⊢
  clear hw1
  refine wp_region_lin (.op 0 .done) (by rfl) ?_
  refine wpT_valp 4 (v := (.slice none 0 0)) rfl rfl rfl (by go_simp) ?_
  dsimp only [wpT]
  try simp only [Act.put, List.setIfInBounds_toArray, List.set_cons_succ, List.set_cons_zero]
  go_upto_region 2 with fail
  refine wp_region_lin (.op 0 (.op 1 (.op 2 .done))) (by rfl) ?_
  refine wpT_valp 9 (v := .slice (some ⟨gp, op, none⟩) n cp) rfl rfl rfl (by go_simp) ?_
  refine wpT_valp 10 (v := .int .i64 n) rfl rfl rfl (by go_simp) ?_
  refine wpT_valp 11 (v := .int .i64 0) rfl rfl rfl (by go_simp) ?_
  dsimp only [wpT]
  try simp only [Act.put, List.setIfInBounds_toArray, List.set_cons_succ, List.set_cons_zero]
  go_wp2_with fail
  go_loopw [4, 11] (fun u x wr => ∃ i : Nat, i ≤ n ∧ x = .int .i64 i ∧ OB wr (w.heap.size + 1) u (Su.parts (l.take i)) ∧ Mm no w [(w.heap.size, cs U8 (zs 32))] wr) (fun _ x _ => n - (intOf x).toNat)
  case atStart => exact ⟨0, by omega, rfl, by rw [List.take_zero]; unfold Su.parts; exact OB.nil _ _, M2⟩
  case round =>
    clear M2 M0
    obtain ⟨i, hi, rfl, OU, M⟩ := hrel
    by_cases hin : i < n
    · skip
      have hlt : (i : Int) < (n : Int) := by omega
      have hi0 : (0 : Int) ≤ (i : Int) := by omega
      obtain ⟨a, ea⟩ : ∃ a, a = (l.getD i ([], [])).1 := ⟨_, rfl⟩
      obtain ⟨b, eb⟩ : ∃ b, b = (l.getD i ([], [])).2 := ⟨_, rfl⟩
      have hmem : l.getD i ([], []) ∈ l := by
        rw [List.getD_eq_getElem?_getD, List.getElem?_eq_getElem (show i < l.length by omega)]; exact List.getElem_mem _
      have ha : a.length = 32 := by rw [ea]; exact (H32.out _ hmem).1
      have hb : b.length = 32 := by rw [eb]; exact (H32.out _ hmem).2
      have HPC : Hid (∀ w', Below w.heap.size w w' → PC w' gp (op + i * 64) (a ++ b)) := hid (by rw [ea, eb]; exact HPCS.out i (by omega))
      obtain ⟨S1, MR, hS1, hT1⟩ := M.rebase
      have M := MR
      have HT1 := hid hT1
      have hne : shv a b ≠ 0 := by rw [ea, eb]; exact HG.out _ hmem
      obtain ⟨X, eX⟩ : ∃ X, X = K (shv a b) := ⟨_, rfl⟩
      have hX : X.length = 32 := by rw [eX]; exact K_len _
      have HX := hid eX
      have hpl : (Su.parts (l.take i)).length = 32 * i := by rw [parts_len, List.length_take]; congr 1; omega
      have HPS := hid (show Su.parts (l.take i) ++ X = Su.parts (l.take (i + 1)) by rw [eX, ea, eb]; exact parts_take l i (by omega))
      clear ea eb eX hmem
      go_upto_region 4 with fail
      refine wp_region_lin (.op 0 (.op 1 (.op 2 (.op 3 .done)))) (by rfl) ?_
      refine wpT_valp 13 (v := .pointer (some ⟨gp, op + i * 64, none⟩)) rfl rfl rfl (by go_simp) ?_
      refine wpT_ldx 14 (.pointer (some ⟨gp, op + i * 64, none⟩)) (.agg (cs U8 (a ++ b))) rfl rfl rfl (by go_simp) (HPC.out _ (HT1.out _ _ M).end_).load rfl ?_
      refine wpT_new (z := .agg (cs U8 (zs 64))) 6 M (by kernel_rfl) (by decide) rfl rfl rfl rfl (fun b1 w2 M3 => ?_)
      try dsimp only [Value.cells] at M3
      refine wpT_st0 M3 0 (cs U8 (a ++ b)) inf_pr2 rfl rfl rfl rfl (by go_simp) (by go_simp) (by simp [ha, hb, hX]) (by simp [ha, hb, hX]) (by simp [go_sem]) rfl (fun w4 M5 => ?_)
      dsimp only [List.set] at M5
      dsimp only [wpT]
      try simp only [Act.put, List.setIfInBounds_toArray, List.set_cons_succ, List.set_cons_zero]
      go_upto_region 5 with fail
      refine wp_region_lin (.op 0 (.op 1 (.op 2 (.op 3 (.op 4 (.op 5 (.op 6 (.op 7 (.op 8 (.op 9 (.op 10 .done))))))))))) (by rfl) ?_
      refine wpT_valp 16 (v := .pointer (some ⟨b1, 0, none⟩)) rfl rfl rfl (by go_simp) ?_
      refine wpT_ldm 17 Tryd.underlying23 rfl inf_key (b1) 0 (cs U8 (a ++ b)) (cs U8 a) rfl rfl rfl (by go_simp) (M5.row (by simp)) (by simp [ha, hb, hX]) (by rw [cs_extract] <;> congr 1 <;> first | (simp [ha, hb, hX]; done) | simp [List.take_append, List.drop_append, List.take_of_length_le, ha, hb, hX]) rfl ?_
      refine wpT_valp 18 (v := .pointer (some ⟨b1, 32, none⟩)) rfl rfl rfl (by go_simp) ?_
      refine wpT_ldm 19 Tryd.underlying23 rfl inf_key (b1) 32 (cs U8 (a ++ b)) (cs U8 b) rfl rfl rfl (by go_simp) (M5.row (by simp)) (by simp [ha, hb, hX]) (by rw [cs_extract] <;> congr 1 <;> first | (simp [ha, hb, hX]; done) | simp [List.take_append, List.drop_append, List.take_of_length_le, ha, hb, hX]) rfl ?_
      try simp only [Act.put, List.setIfInBounds_toArray, List.set_cons_succ, List.set_cons_zero]
      refine wpT_callv 20 M5 (v := .tuple #[.agg (cs U8 X), .int .i64 0]) rfl rfl rfl (by go_simp) (shr_ok w4 a b X ha hb hne HX.out) (fun w6 M7 => ?_)
      refine wpT_valp 15 (v := .tuple #[.agg (cs U8 X), .int .i64 0]) rfl rfl rfl (by go_simp) ?_
      refine wpT_valp 21 (v := .agg (cs U8 X)) rfl rfl rfl (by go_simp) ?_
      refine wpT_valp 22 (v := .int .i64 0) rfl rfl rfl (by go_simp) ?_
      refine wpT_new (z := .agg (cs U8 (zs 32))) 7 M7 (by kernel_rfl) (by decide) rfl rfl rfl rfl (fun b8 w9 M10 => ?_)
      try dsimp only [Value.cells] at M10
      try simp only [Act.put, List.setIfInBounds_toArray, List.set_cons_succ, List.set_cons_zero]
      refine wpT_st0 M10 0 (cs U8 X) inf_key rfl rfl rfl rfl (by go_simp) (by go_simp) (by simp [ha, hb, hX]) (by simp [ha, hb, hX]) (by simp [go_sem]) rfl (fun w11 M12 => ?_)
      dsimp only [List.set] at M12
      refine wpT_valp 8 (v := .int .i64 0) rfl rfl rfl (by go_simp) ?_
      dsimp only [wpT]
      try simp only [Act.put, List.setIfInBounds_toArray, List.set_cons_succ, List.set_cons_zero]
      go_upto_region 6 with fail
      refine wp_region_lin (.op 0 (.op 1 .done)) (by rfl) ?_
      refine wpT_valp 23 (v := .int .i64 0) rfl rfl rfl (by go_simp) ?_
      refine wpT_valp 24 (v := .bool false) rfl rfl rfl (by go_simp) ?_
      dsimp only [wpT]
      try simp only [Act.put, List.setIfInBounds_toArray, List.set_cons_succ, List.set_cons_zero]
      go_upto_region 8 with fail
      refine wp_region_lin (.op 0 (.op 1 (.op 2 (.op 3 .done)))) (by rfl) ?_
      refine wpT_valp 27 (v := u4) rfl rfl rfl (by go_simp) ?_
      refine wpT_valp 28 (v := .slice (some ⟨b8, 0, none⟩) 32 32) rfl rfl rfl (by go_simp) ?_
      have O4 := OU.fr' M12.fr (fun g hg e => by
        have h1 := (OU.lt g hg).1
        have h2 := hS1 g e
        simp at h2
        omega)
      have MZ := hT1 _ _ M12
      have hw2 := MZ.lt (b := w.heap.size) (c := cs U8 (zs 32)) (by simp)
      refine wpT_apb 29 _ _ (MZ.sub (H' := [(w.heap.size, cs U8 (zs 32))]) (by simp)) (w.heap.size + 1) u4 (.slice (some ⟨b8, 0, none⟩) 32 32) (Su.parts (l.take i)) X rfl rfl rfl rfl (by go_simp) O4 (by go_simp) (BS.row (MZ.row (b := b8) (c := cs U8 X) (by simp)) hX (by unfold maxLen; decide)) (by rw [hpl, hX]; omega) (by omega) (Nat.le_add_right _ _) (fun g hg p hp => ?_) (fun u9 w9 O9 M9 => ?_)
      · have h1 := (OU.lt g hg).1
        simp only [List.mem_cons, List.not_mem_nil, or_false] at hp
        rcases hp with rfl
        show w.heap.size ≠ g; omega
      refine wpT_valp 4 (v := u9) rfl rfl rfl (by go_simp) ?_
      dsimp only [wpT]
      try simp only [Act.put, List.setIfInBounds_toArray, List.set_cons_succ, List.set_cons_zero]
      go_wp2_with fail
      rw [HPS.out] at O9
      go_roundw
      case rel => exact ⟨i + 1, by omega, by simp, O9, M9⟩
      case measure => simp only [intOf]; omega
    · obtain rfl : i = n := by omega
      rw [List.take_of_length_le (by omega)] at OU
      go_upto_region 10 with fail
      refine wp_region_lin (.op 0 (.op 1 (.op 2 (.op 3 (.op 4 (.op 5 (.op 6 .done))))))) (by rfl) ?_
      refine wpT_lit8 (len := 14) 31 32 M lb hlb (by decide) (by decide) rfl rfl rfl (by rw [HLB.out]; go_simp; rfl) rfl rfl rfl rfl rfl (fun v => by go_simp) (fun g1 w1 K1 M1 B1 _ => ?_)
      replace OU := OB.below OU B1

      refine wpT_valp 33 (v := u4) rfl rfl rfl (by go_simp) ?_
      refine wpT_callv 34 M1 (v := .agg (cs U8 E)) rfl rfl rfl (by go_simp) (ext_v HE.out HT.out M1.end_ K1 OU.bs (by omega) (by omega)) (fun w2 M2 => ?_)
      try simp only [Act.put, List.setIfInBounds_toArray, List.set_cons_succ, List.set_cons_zero]
      refine wpT_callv 35 M2 (v := .agg (cs U8 D)) rfl rfl rfl (by go_simp) (derS_v HD.out HT.out M2.end_ hE) (fun w1 M2 => ?_)
      refine wpT_st0 M2 0 (cs U8 D) inf_key rfl rfl rfl rfl (by go_simp) (by go_simp) (by simp [hE, hD]) (by simp [hE, hD]) (by simp [go_sem]) rfl (fun w3 M4 => ?_)
      dsimp only [List.set] at M4
      refine wpT_valp 3 (v := .int .i64 0) rfl rfl rfl (by go_simp) ?_
      dsimp only [wpT]
      try simp only [Act.put, List.setIfInBounds_toArray, List.set_cons_succ, List.set_cons_zero]
      go_wp2_with fail
      have r5 := M4.row (b := w.heap.size) (c := cs U8 D) (by simp)
      refine bodyPost_ret (res_two rfl (rv_row Tryd.underlying23 rfl inf_key (w.heap.size) rfl (by rw [r5]; simp [hE, hD])) (rv_tmp _ _ rfl)) rfl ?_
      rw [r5]
      exact ⟨rfl, M4.end_⟩
set_option maxRecDepth 100000 in
set_option maxHeartbeats 2000000 in
theorem secret_bad (w : World) (l : List (L8 × L8)) (v : Value) (hv : PS w v (l.map cat2)) (h32 : ∀ p ∈ l, p.1.length = 32 ∧ p.2.length = 32) (h0 : 0 < l.length) (h9 : l.length ≤ 9) (hb0 : shv (l.getD 0 ([], [])).1 (l.getD 0 ([], [])).2 = 0) :
    Calls Tryd.prog 33 #[v] w fun e w' => e = .returned (.tuple #[.agg (cs U8 (zs 32)), .int .i64 7]) ∧ Below w.heap.size w w' := by
  have HB0 := hid hb0
  clear hb0
  obtain ⟨a0, cp, rfl, hc0, hm0, -⟩ := id hv
  obtain ⟨gp, op, e, hpc⟩ := hv.key (by rw [List.length_map]; omega)
  subst e
  rw [List.length_map] at hc0 hm0
  obtain ⟨n, hn⟩ : ∃ n, (l.map cat2).length = n := ⟨_, rfl⟩
  have hnl : l.length = n := by rw [← hn, List.length_map]
  rw [hn]
  have HPCS : Hid (∀ i, i < n → ∀ w', Below w.heap.size w w' → PC w' gp (op + i * 64) ((l.getD i ([], [])).1 ++ (l.getD i ([], [])).2)) := hid fun i hi w' h => by
    have h1 := (hpc i (by rw [hn]; exact hi)).below h
    rw [List.getD_eq_getElem?_getD, List.getElem?_map, List.getElem?_eq_getElem (show i < l.length by omega)] at h1
    rw [List.getD_eq_getElem?_getD, List.getElem?_eq_getElem (show i < l.length by omega)]
    exact h1
  have H32 := hid h32
  clear hv hpc hn h32
  have M0 := Mm.start no w
  go_enter Tryd.func33, Tryd.ntmps33
  have M2 := (M0.alloc (cs U8 (zs 32)) 23 (by decide))
  try simp only [World.size_alloc] at M2
  go_upto_region 1 with fail
  obtain ⟨w1, hw1⟩ : ∃ w1, w1 = (w.alloc (.cells (cs U8 (zs 32)) 23)) := ⟨_, rfl⟩
  rw [← hw1] at M2 ⊢
  clear hw1
  refine wp_region_lin (.op 0 .done) (by rfl) ?_
  refine wpT_valp 4 (v := (.slice none 0 0)) rfl rfl rfl (by go_simp) ?_
  dsimp only [wpT]
  try simp only [Act.put, List.setIfInBounds_toArray, List.set_cons_succ, List.set_cons_zero]
  go_upto_region 2 with fail
  refine wp_region_lin (.op 0 (.op 1 (.op 2 .done))) (by rfl) ?_
  refine wpT_valp 9 (v := .slice (some ⟨gp, op, none⟩) n cp) rfl rfl rfl (by go_simp) ?_
  refine wpT_valp 10 (v := .int .i64 n) rfl rfl rfl (by go_simp) ?_
  refine wpT_valp 11 (v := .int .i64 0) rfl rfl rfl (by go_simp) ?_
  dsimp only [wpT]
  try simp only [Act.put, List.setIfInBounds_toArray, List.set_cons_succ, List.set_cons_zero]
  go_wp2_with fail
  go_loopw [4, 11] (fun u x wr => ∃ i : Nat, i = 0 ∧ x = .int .i64 i ∧ Mm no w [(w.heap.size, cs U8 (zs 32))] wr) (fun _ x _ => n - (intOf x).toNat)
  case atStart => exact ⟨0, rfl, rfl, M2⟩
  case round =>
    clear M2 M0
    obtain ⟨i, hi, rfl, M⟩ := hrel
    have hin : i < n := by omega
    have hlt : (i : Int) < (n : Int) := by omega
    have hi0 : (0 : Int) ≤ (i : Int) := by omega
    obtain ⟨a, ea⟩ : ∃ a, a = (l.getD i ([], [])).1 := ⟨_, rfl⟩
    obtain ⟨b, eb⟩ : ∃ b, b = (l.getD i ([], [])).2 := ⟨_, rfl⟩
    have hmem : l.getD i ([], []) ∈ l := by
      rw [List.getD_eq_getElem?_getD, List.getElem?_eq_getElem (show i < l.length by omega)]; exact List.getElem_mem _
    have ha : a.length = 32 := by rw [ea]; exact (H32.out _ hmem).1
    have hb : b.length = 32 := by rw [eb]; exact (H32.out _ hmem).2
    have HPC : Hid (∀ w', Below w.heap.size w w' → PC w' gp (op + i * 64) (a ++ b)) := hid (by rw [ea, eb]; exact HPCS.out i (by omega))
    obtain ⟨S1, MR, hS1, hT1⟩ := M.rebase
    have M := MR
    have HT1 := hid hT1
    have hne : shv a b = 0 := by rw [ea, eb, hi]; exact HB0.out
    clear ea eb hmem hi
    go_upto_region 4 with fail
    refine wp_region_lin (.op 0 (.op 1 (.op 2 (.op 3 .done)))) (by rfl) ?_
    refine wpT_valp 13 (v := .pointer (some ⟨gp, op + i * 64, none⟩)) rfl rfl rfl (by go_simp) ?_
    refine wpT_ldx 14 (.pointer (some ⟨gp, op + i * 64, none⟩)) (.agg (cs U8 (a ++ b))) rfl rfl rfl (by go_simp) (HPC.out _ (HT1.out _ _ M).end_).load rfl ?_
    refine wpT_new (z := .agg (cs U8 (zs 64))) 6 M (by kernel_rfl) (by decide) rfl rfl rfl rfl (fun b1 w2 M3 => ?_)
    try dsimp only [Value.cells] at M3
    refine wpT_st0 M3 0 (cs U8 (a ++ b)) inf_pr2 rfl rfl rfl rfl (by go_simp) (by go_simp) (by simp [ha, hb]) (by simp [ha, hb]) (by simp [go_sem]) rfl (fun w4 M5 => ?_)
    dsimp only [List.set] at M5
    dsimp only [wpT]
    try simp only [Act.put, List.setIfInBounds_toArray, List.set_cons_succ, List.set_cons_zero]
    go_upto_region 5 with fail
    refine wp_region_lin (.op 0 (.op 1 (.op 2 (.op 3 (.op 4 (.op 5 (.op 6 (.op 7 (.op 8 (.op 9 (.op 10 .done))))))))))) (by rfl) ?_
    refine wpT_valp 16 (v := .pointer (some ⟨b1, 0, none⟩)) rfl rfl rfl (by go_simp) ?_
    refine wpT_ldm 17 Tryd.underlying23 rfl inf_key (b1) 0 (cs U8 (a ++ b)) (cs U8 a) rfl rfl rfl (by go_simp) (M5.row (by simp)) (by simp [ha, hb]) (by rw [cs_extract] <;> congr 1 <;> first | (simp [ha, hb]; done) | simp [List.take_append, List.drop_append, List.take_of_length_le, ha, hb]) rfl ?_
    refine wpT_valp 18 (v := .pointer (some ⟨b1, 32, none⟩)) rfl rfl rfl (by go_simp) ?_
    refine wpT_ldm 19 Tryd.underlying23 rfl inf_key (b1) 32 (cs U8 (a ++ b)) (cs U8 b) rfl rfl rfl (by go_simp) (M5.row (by simp)) (by simp [ha, hb]) (by rw [cs_extract] <;> congr 1 <;> first | (simp [ha, hb]; done) | simp [List.take_append, List.drop_append, List.take_of_length_le, ha, hb]) rfl ?_
    try simp only [Act.put, List.setIfInBounds_toArray, List.set_cons_succ, List.set_cons_zero]
    refine wpT_callv 20 M5 (v := .tuple #[.agg (cs U8 (zs 32)), .int .i64 7]) rfl rfl rfl (by go_simp) (shr_bad w4 a b ha hb hne) (fun w6 M7 => ?_)
    refine wpT_valp 15 (v := .tuple #[.agg (cs U8 (zs 32)), .int .i64 7]) rfl rfl rfl (by go_simp) ?_
    refine wpT_valp 21 (v := .agg (cs U8 (zs 32))) rfl rfl rfl (by go_simp) ?_
    refine wpT_valp 22 (v := .int .i64 7) rfl rfl rfl (by go_simp) ?_
    refine wpT_new (z := .agg (cs U8 (zs 32))) 7 M7 (by kernel_rfl) (by decide) rfl rfl rfl rfl (fun b8 w9 M10 => ?_)
    try dsimp only [Value.cells] at M10
    try simp only [Act.put, List.setIfInBounds_toArray, List.set_cons_succ, List.set_cons_zero]
    refine wpT_st0 M10 0 (cs U8 (zs 32)) inf_key rfl rfl rfl rfl (by go_simp) (by go_simp) (by simp [ha, hb]) (by simp [ha, hb]) (by simp [go_sem]) rfl (fun w11 M12 => ?_)
    dsimp only [List.set] at M12
    refine wpT_valp 8 (v := .int .i64 7) rfl rfl rfl (by go_simp) ?_
    dsimp only [wpT]
    try simp only [Act.put, List.setIfInBounds_toArray, List.set_cons_succ, List.set_cons_zero]
    go_upto_region 6 with fail
    refine wp_region_lin (.op 0 (.op 1 .done)) (by rfl) ?_
    refine wpT_valp 23 (v := .int .i64 7) rfl rfl rfl (by go_simp) ?_
    refine wpT_valp 24 (v := .bool true) rfl rfl rfl (by go_simp) ?_
    dsimp only [wpT]
    try simp only [Act.put, List.setIfInBounds_toArray, List.set_cons_succ, List.set_cons_zero]
    go_upto_region 7 with fail
    refine wp_region_lin (.op 0 (.op 1 (.op 2 (.op 3 .done)))) (by rfl) ?_
    refine wpT_valL 25 (v := .agg (cs U8 (zs 32))) rfl rfl rfl (by have q := xb_k0 w11; go_simp) ?_
    refine wpT_valp 26 (v := .int .i64 7) rfl rfl rfl (by go_simp) ?_
    refine wpT_st0 M12 2 (cs U8 (zs 32)) inf_key rfl rfl rfl rfl (by go_simp) (by go_simp) (by simp [ha, hb]) (by simp [ha, hb]) (by simp [go_sem]) rfl (fun w13 M14 => ?_)
    dsimp only [List.set] at M14
    refine wpT_valp 3 (v := .int .i64 7) rfl rfl rfl (by go_simp) ?_
    dsimp only [wpT]
    try simp only [Act.put, List.setIfInBounds_toArray, List.set_cons_succ, List.set_cons_zero]
    go_wp2_with fail
    have r15 := M14.row (b := w.heap.size) (c := cs U8 (zs 32)) (by simp)
    refine bodyPost_ret (res_two rfl (rv_row Tryd.underlying23 rfl inf_key (w.heap.size) rfl (by rw [r15]; simp [ha, hb])) (rv_tmp _ _ rfl)) rfl ?_
    rw [r15]
    exact ⟨rfl, (hT1 _ _ M14).end_⟩
end Go.Proofs.YtgclegdgngldoaaDoor
set_option linter.unusedSimpArgs false
set_option linter.unusedVariables false
namespace Go.Proofs.YtgclegdgngldoaaDoor
open Go.RowKit Fp
section
variable {ops : Array Oper} {Q : Exit → Act → World → Prop} {i : Nat} {t : Tr} {a : Act} {o : Oper} {S : Nat → Prop} {w0 w : World} {H : List (Nat × Array Value)}
theorem wpT_pairsO (dst n : Nat) (ps : Array (Nat × Operand)) (M : Mm S w0 H w) (L : List L8) (c : Array Value) (hcl : c.toList = pfl L) (h64 : ∀ k ∈ L, k.length = 64) (hLn : L.length = n) (hn : n = ps.size) (hn0 : 0 < n) (hn1 : n ≤ 1000) (hdst : o.dst = some dst) (ho : ops[i]? = some o) (hop : o.op = .buildSlice 77 n ps)
    (hc : Cont (fun i => some (i * 64, 64)) 0 (ps.map fun (i, x) => (i, a.eval x)).toList) (hs : (catP (ps.map fun (i, x) => (i, a.eval x)).toList).size = n * 64) (hcc : catP (ps.map fun (i, x) => (i, a.eval x)).toList = c) (hw : Region.wanted o (yielded ops a.tmps) = true)
    (h : ∀ b w', PO w' w.heap.size (.slice (some ⟨b, 0, none⟩) n n) L → Mm S w0 H w' → Below w.heap.size w w' → wpT Tryd.prog ops Q t (a.put (some dst) (.slice (some ⟨b, 0, none⟩) n n)) w') : wpT Tryd.prog ops Q (.op i t) a w := by
  obtain ⟨ie, z, h1, h2, h3, h4⟩ := pair_info
  have hf : Instr.fill (fun i => some (i * ie.size, ie.size)) ((Array.range (n * ie.size)).map (z.cells[· % z.cells.size]!)) (ps.map fun (i, x) => (i, a.eval x)).toList = some c := by
    rw [h3]
    have := fill_cat (fun i => some (i * 64, 64)) (ps.map fun (i, x) => (i, a.eval x)).toList #[] ((Array.range (n * 64)).map (z.cells[· % z.cells.size]!)) hc (by rw [hs]; simp)
    rw [Array.empty_append, Array.empty_append] at this
    rw [this, hcc]
  refine wpT_val (w' := w.alloc (.cells c 76)) (v := .slice (some ⟨w.heap.size, 0, none⟩) n n) ho hw ?_ ?_
  · obtain ⟨dst, op, ty, pos, after, guard⟩ := o
    subst hop
    simp only [execOp, Sem.run_bind]
    rw [run_buildSlice w 77 76 n _ c ie z Tryd.underlying77 h1 h2 (by rw [h3]; omega) (by rw [h3]; omega) hf]; rfl
  · rw [hdst]
    have hb : Below w.heap.size w (w.alloc (.cells c 76)) := (Below.refl _ _).alloc (Nat.le_refl _) _
    have hsz : c.size = n * 64 := by rw [← hcc]; exact hs
    have h5 := World.ownsRow_lit (base := w.heap.size) (e := 76) (size := 64) w c n (Nat.le_refl _) (by unfold maxLen; omega) hsz
    exact h _ _ ⟨by rw [hLn, ← hcl]; exact h5, h64⟩ (M.below hb) hb
theorem wpT_pairsO3 (dst : Nat) (x y z : Operand) (M : Mm S w0 H w) (k l m : L8) (hk : k.length = 64) (hl : l.length = 64) (hm : m.length = 64) (hdst : o.dst = some dst) (ho : ops[i]? = some o) (hop : o.op = .buildSlice 77 3 #[(0, x), (1, y), (2, z)])
    (hx : a.eval x = .agg (cs U8 k)) (hy : a.eval y = .agg (cs U8 l)) (hz : a.eval z = .agg (cs U8 m)) (hw : Region.wanted o (yielded ops a.tmps) = true)
    (h : ∀ b w', PO w' w.heap.size (.slice (some ⟨b, 0, none⟩) 3 3) [k, l, m] → Mm S w0 H w' → Below w.heap.size w w' → wpT Tryd.prog ops Q t (a.put (some dst) (.slice (some ⟨b, 0, none⟩) 3 3)) w') : wpT Tryd.prog ops Q (.op i t) a w := by
  have e : (Array.map (fun (x : Nat × Operand) => (x.1, a.eval x.2)) #[(0, x), (1, y), (2, z)]).toList = [(0, .agg (cs U8 k)), (1, .agg (cs U8 l)), (2, .agg (cs U8 m))] := by simp [hx, hy, hz]
  refine wpT_pairsO dst 3 #[(0, x), (1, y), (2, z)] M [k, l, m] (cs U8 (k ++ (l ++ m))) (by simp [cs, pfl]) (fun q hq => by simp only [List.mem_cons, List.not_mem_nil, or_false] at hq; rcases hq with rfl | rfl | rfl <;> assumption) rfl rfl (by decide) (by decide) hdst ho hop ?_ ?_ ?_ hw h
  · rw [e]; simp [Cont, Value.cells, hk, hl, hm]
  · rw [e]; simp [catP, Value.cells, hk, hl, hm]
  · rw [e]; simp [catP, Value.cells, cs_append]
end
/-- the pairs of who begins, and of who is spoken to -/
def Su.ps (a f L P O : L8) (h : Bool) : List (L8 × L8) := [(a, P), (f, L), (f, P)] ++ (if h then [(f, O)] else [])
def Su.qs (a f L P O : L8) (h : Bool) : List (L8 × L8) := [(P, a), (L, f), (P, f)] ++ (if h then [(O, f)] else [])
attribute [local irreducible] BR Su.pub Su.parts Sh.mac Sh.derive
set_option maxRecDepth 100000 in
set_option maxHeartbeats 2000000 in
theorem start_c (w : World) (a f L P O D : L8) (h : Bool) (er : Int) (ha : a.length = 32) (hf : f.length = 32) (hL : L.length = 32) (hP : P.length = 32) (hO : O.length = 32) (hD : D.length = 32)
    (HS : Hid (∀ w' v, Below w.heap.size w w' → PS w' v ((Su.ps a f L P O h).map cat2) → Calls Tryd.prog 33 #[v] w' fun e w'' => e = .returned (.tuple #[.agg (cs U8 D), .int .i64 er]) ∧ Below w'.heap.size w' w'')) :
    Calls Tryd.prog 12 #[.agg (cs U8 a), .agg (cs U8 f), .agg (BR L P O h)] w fun e w' => e = .returned (.tuple #[.agg (cs U8 D), .int .i64 er]) ∧ Below w.heap.size w w' := by
  cases h
  · replace HS : Hid (∀ w' v, Below w.heap.size w w' → PS w' v [a ++ P, f ++ L, f ++ P] → Calls Tryd.prog 33 #[v] w' fun e w'' => e = .returned (.tuple #[.agg (cs U8 D), .int .i64 er]) ∧ Below w'.heap.size w' w'') := HS
    have M0 := Mm.start no w
    go_enter Tryd.func12, Tryd.ntmps12
    have M2 := ((((M0.alloc (cs U8 a) 23 (by decide)).alloc (cs U8 f) 23 (by decide)).alloc (BR L P O false) 30 (by decide)).alloc (cs U8 (zs 32)) 23 (by decide))
    try simp only [World.size_alloc] at M2
    go_upto_region 1 with fail
    obtain ⟨w1, hw1⟩ : ∃ w1, w1 = ((((w.alloc (.cells (cs U8 a) 23)).alloc (.cells (cs U8 f) 23)).alloc (.cells (BR L P O false) 30)).alloc (.cells (cs U8 (zs 32)) 23)) := ⟨_, rfl⟩
    rw [← hw1] at M2 ⊢
    clear hw1
    refine wp_region_lin (.op 0 (.op 1 (.op 2 (.op 3 (.op 4 (.op 5 (.op 6 (.op 7 (.op 8 (.op 9 (.op 10 (.op 11 (.op 12 (.op 13 .done)))))))))))))) (by rfl) ?_
    refine wpT_ld0 9 Tryd.underlying23 rfl inf_key (w.heap.size) (cs U8 a) rfl rfl rfl (by go_simp) (M2.row (by simp)) (by simp [BR_size, ha, hf, hL, hP, hO, hD]) rfl ?_
    refine wpT_valp 10 (v := .pointer (some ⟨w.heap.size + 1 + 1, 32, none⟩)) rfl rfl rfl (by go_simp) ?_
    refine wpT_ldm 11 Tryd.underlying23 rfl inf_key (w.heap.size + 1 + 1) 32 (BR L P O false) (cs U8 P) rfl rfl rfl (by go_simp) (M2.row (by simp)) (by simp [BR_size, ha, hf, hL, hP, hO, hD]) (br_32 (by simp [BR_size, ha, hf, hL, hP, hO, hD]) (by simp [BR_size, ha, hf, hL, hP, hO, hD]) (by simp [BR_size, ha, hf, hL, hP, hO, hD])) rfl ?_
    refine wpT_valL 12 (v := .agg (cs U8 (a ++ P))) rfl rfl rfl (by have q := xb_prs w1 a P (by simp [BR_size, ha, hf, hL, hP, hO, hD]) (by simp [BR_size, ha, hf, hL, hP, hO, hD]); go_simp) ?_
    try simp only [Act.put, List.setIfInBounds_toArray, List.set_cons_succ, List.set_cons_zero]
    refine wpT_ld0 13 Tryd.underlying23 rfl inf_key (w.heap.size + 1) (cs U8 f) rfl rfl rfl (by go_simp) (M2.row (by simp)) (by simp [BR_size, ha, hf, hL, hP, hO, hD]) rfl ?_
    refine wpT_valp 14 (v := .pointer (some ⟨w.heap.size + 1 + 1, 0, none⟩)) rfl rfl rfl (by go_simp) ?_
    refine wpT_ldm 15 Tryd.underlying23 rfl inf_key (w.heap.size + 1 + 1) 0 (BR L P O false) (cs U8 L) rfl rfl rfl (by go_simp) (M2.row (by simp)) (by simp [BR_size, ha, hf, hL, hP, hO, hD]) (br_0 (by simp [BR_size, ha, hf, hL, hP, hO, hD]) (by simp [BR_size, ha, hf, hL, hP, hO, hD]) (by simp [BR_size, ha, hf, hL, hP, hO, hD])) rfl ?_
    refine wpT_valL 16 (v := .agg (cs U8 (f ++ L))) rfl rfl rfl (by have q := xb_prs w1 f L (by simp [BR_size, ha, hf, hL, hP, hO, hD]) (by simp [BR_size, ha, hf, hL, hP, hO, hD]); go_simp) ?_
    refine wpT_ld0 17 Tryd.underlying23 rfl inf_key (w.heap.size + 1) (cs U8 f) rfl rfl rfl (by go_simp) (M2.row (by simp)) (by simp [BR_size, ha, hf, hL, hP, hO, hD]) rfl ?_
    try simp only [Act.put, List.setIfInBounds_toArray, List.set_cons_succ, List.set_cons_zero]
    refine wpT_valp 18 (v := .pointer (some ⟨w.heap.size + 1 + 1, 32, none⟩)) rfl rfl rfl (by go_simp) ?_
    refine wpT_ldm 19 Tryd.underlying23 rfl inf_key (w.heap.size + 1 + 1) 32 (BR L P O false) (cs U8 P) rfl rfl rfl (by go_simp) (M2.row (by simp)) (by simp [BR_size, ha, hf, hL, hP, hO, hD]) (br_32 (by simp [BR_size, ha, hf, hL, hP, hO, hD]) (by simp [BR_size, ha, hf, hL, hP, hO, hD]) (by simp [BR_size, ha, hf, hL, hP, hO, hD])) rfl ?_
    refine wpT_valL 20 (v := .agg (cs U8 (f ++ P))) rfl rfl rfl (by have q := xb_prs w1 f P (by simp [BR_size, ha, hf, hL, hP, hO, hD]) (by simp [BR_size, ha, hf, hL, hP, hO, hD]); go_simp) ?_
    refine wpT_pairsO3 21 _ _ _ M2 (a ++ P) (f ++ L) (f ++ P) (by simp [BR_size, ha, hf, hL, hP, hO, hD]) (by simp [BR_size, ha, hf, hL, hP, hO, hD]) (by simp [BR_size, ha, hf, hL, hP, hO, hD]) rfl rfl rfl (by go_simp) (by go_simp) (by go_simp) rfl (fun g1 wp1 O1 Mp1 Bp1 => ?_)
    refine wpT_valp 8 (v := .slice (some ⟨g1, 0, none⟩) 3 3) rfl rfl rfl (by go_simp) ?_
    dsimp only [wpT]
    try simp only [Act.put, List.setIfInBounds_toArray, List.set_cons_succ, List.set_cons_zero]
    go_upto_region 2 with fail
    refine wp_region_lin (.op 0 (.op 1 .done)) (by rfl) ?_
    refine wpT_valp 22 (v := .pointer (some ⟨w.heap.size + 1 + 1, 96, none⟩)) rfl rfl rfl (by go_simp) ?_
    refine wpT_valp 23 (v := .bool false) rfl rfl rfl (by have c0 := br_96 (by simp [BR_size, ha, hf, hL, hP, hO, hD]) (by simp [BR_size, ha, hf, hL, hP, hO, hD]) (by simp [BR_size, ha, hf, hL, hP, hO, hD]) (Mp1.row (b := w.heap.size + 1 + 1) (c := BR L P O false) (by simp)); go_simp) ?_
    dsimp only [wpT]
    try simp only [Act.put, List.setIfInBounds_toArray, List.set_cons_succ, List.set_cons_zero]
    go_upto_region 4 with fail
    refine wp_region_lin (.op 0 (.op 1 (.op 2 (.op 3 (.op 4 (.op 5 .done)))))) (by rfl) ?_
    refine wpT_valp 31 (v := .slice (some ⟨g1, 0, none⟩) 3 3) rfl rfl rfl (by go_simp) ?_
    refine wpT_callv 32 Mp1 (v := .tuple #[.agg (cs U8 D), .int .i64 er]) rfl rfl rfl (by go_simp) (HS.out wp1 _ Mp1.end_ O1.ks) (fun w3 M4 => ?_)
    refine wpT_valp 33 (v := .agg (cs U8 D)) rfl rfl rfl (by go_simp) ?_
    refine wpT_valp 34 (v := .int .i64 er) rfl rfl rfl (by go_simp) ?_
    try simp only [Act.put, List.setIfInBounds_toArray, List.set_cons_succ, List.set_cons_zero]
    refine wpT_st0 M4 0 (cs U8 D) inf_key rfl rfl rfl rfl (by go_simp) (by go_simp) (by simp [BR_size, ha, hf, hL, hP, hO, hD]) (by simp [BR_size, ha, hf, hL, hP, hO, hD]) (by simp [go_sem]) rfl (fun w5 M6 => ?_)
    dsimp only [List.set] at M6
    refine wpT_valp 7 (v := .int .i64 er) rfl rfl rfl (by go_simp) ?_
    dsimp only [wpT]
    try simp only [Act.put, List.setIfInBounds_toArray, List.set_cons_succ, List.set_cons_zero]
    go_wp2_with fail
    have r7 := M6.row (b := w.heap.size + 1 + 1 + 1) (c := cs U8 D) (by simp)
    refine bodyPost_ret (res_two rfl (rv_row Tryd.underlying23 rfl inf_key (w.heap.size + 1 + 1 + 1) rfl (by rw [r7]; simp [BR_size, ha, hf, hL, hP, hO, hD])) (rv_tmp _ _ rfl)) rfl ?_
    rw [r7]
    exact ⟨rfl, M6.end_⟩
  · replace HS : Hid (∀ w' v, Below w.heap.size w w' → PS w' v ([a ++ P, f ++ L, f ++ P] ++ [f ++ O]) → Calls Tryd.prog 33 #[v] w' fun e w'' => e = .returned (.tuple #[.agg (cs U8 D), .int .i64 er]) ∧ Below w'.heap.size w' w'') := HS
    have M0 := Mm.start no w
    go_enter Tryd.func12, Tryd.ntmps12
    have M2 := ((((M0.alloc (cs U8 a) 23 (by decide)).alloc (cs U8 f) 23 (by decide)).alloc (BR L P O true) 30 (by decide)).alloc (cs U8 (zs 32)) 23 (by decide))
    try simp only [World.size_alloc] at M2
    go_upto_region 1 with fail
    obtain ⟨w1, hw1⟩ : ∃ w1, w1 = ((((w.alloc (.cells (cs U8 a) 23)).alloc (.cells (cs U8 f) 23)).alloc (.cells (BR L P O true) 30)).alloc (.cells (cs U8 (zs 32)) 23)) := ⟨_, rfl⟩
    rw [← hw1] at M2 ⊢
    clear hw1
    refine wp_region_lin (.op 0 (.op 1 (.op 2 (.op 3 (.op 4 (.op 5 (.op 6 (.op 7 (.op 8 (.op 9 (.op 10 (.op 11 (.op 12 (.op 13 .done)))))))))))))) (by rfl) ?_
    refine wpT_ld0 9 Tryd.underlying23 rfl inf_key (w.heap.size) (cs U8 a) rfl rfl rfl (by go_simp) (M2.row (by simp)) (by simp [BR_size, ha, hf, hL, hP, hO, hD]) rfl ?_
    refine wpT_valp 10 (v := .pointer (some ⟨w.heap.size + 1 + 1, 32, none⟩)) rfl rfl rfl (by go_simp) ?_
    refine wpT_ldm 11 Tryd.underlying23 rfl inf_key (w.heap.size + 1 + 1) 32 (BR L P O true) (cs U8 P) rfl rfl rfl (by go_simp) (M2.row (by simp)) (by simp [BR_size, ha, hf, hL, hP, hO, hD]) (br_32 (by simp [BR_size, ha, hf, hL, hP, hO, hD]) (by simp [BR_size, ha, hf, hL, hP, hO, hD]) (by simp [BR_size, ha, hf, hL, hP, hO, hD])) rfl ?_
    refine wpT_valL 12 (v := .agg (cs U8 (a ++ P))) rfl rfl rfl (by have q := xb_prs w1 a P (by simp [BR_size, ha, hf, hL, hP, hO, hD]) (by simp [BR_size, ha, hf, hL, hP, hO, hD]); go_simp) ?_
    try simp only [Act.put, List.setIfInBounds_toArray, List.set_cons_succ, List.set_cons_zero]
    refine wpT_ld0 13 Tryd.underlying23 rfl inf_key (w.heap.size + 1) (cs U8 f) rfl rfl rfl (by go_simp) (M2.row (by simp)) (by simp [BR_size, ha, hf, hL, hP, hO, hD]) rfl ?_
    refine wpT_valp 14 (v := .pointer (some ⟨w.heap.size + 1 + 1, 0, none⟩)) rfl rfl rfl (by go_simp) ?_
    refine wpT_ldm 15 Tryd.underlying23 rfl inf_key (w.heap.size + 1 + 1) 0 (BR L P O true) (cs U8 L) rfl rfl rfl (by go_simp) (M2.row (by simp)) (by simp [BR_size, ha, hf, hL, hP, hO, hD]) (br_0 (by simp [BR_size, ha, hf, hL, hP, hO, hD]) (by simp [BR_size, ha, hf, hL, hP, hO, hD]) (by simp [BR_size, ha, hf, hL, hP, hO, hD])) rfl ?_
    refine wpT_valL 16 (v := .agg (cs U8 (f ++ L))) rfl rfl rfl (by have q := xb_prs w1 f L (by simp [BR_size, ha, hf, hL, hP, hO, hD]) (by simp [BR_size, ha, hf, hL, hP, hO, hD]); go_simp) ?_
    refine wpT_ld0 17 Tryd.underlying23 rfl inf_key (w.heap.size + 1) (cs U8 f) rfl rfl rfl (by go_simp) (M2.row (by simp)) (by simp [BR_size, ha, hf, hL, hP, hO, hD]) rfl ?_
    try simp only [Act.put, List.setIfInBounds_toArray, List.set_cons_succ, List.set_cons_zero]
    refine wpT_valp 18 (v := .pointer (some ⟨w.heap.size + 1 + 1, 32, none⟩)) rfl rfl rfl (by go_simp) ?_
    refine wpT_ldm 19 Tryd.underlying23 rfl inf_key (w.heap.size + 1 + 1) 32 (BR L P O true) (cs U8 P) rfl rfl rfl (by go_simp) (M2.row (by simp)) (by simp [BR_size, ha, hf, hL, hP, hO, hD]) (br_32 (by simp [BR_size, ha, hf, hL, hP, hO, hD]) (by simp [BR_size, ha, hf, hL, hP, hO, hD]) (by simp [BR_size, ha, hf, hL, hP, hO, hD])) rfl ?_
    refine wpT_valL 20 (v := .agg (cs U8 (f ++ P))) rfl rfl rfl (by have q := xb_prs w1 f P (by simp [BR_size, ha, hf, hL, hP, hO, hD]) (by simp [BR_size, ha, hf, hL, hP, hO, hD]); go_simp) ?_
    refine wpT_pairsO3 21 _ _ _ M2 (a ++ P) (f ++ L) (f ++ P) (by simp [BR_size, ha, hf, hL, hP, hO, hD]) (by simp [BR_size, ha, hf, hL, hP, hO, hD]) (by simp [BR_size, ha, hf, hL, hP, hO, hD]) rfl rfl rfl (by go_simp) (by go_simp) (by go_simp) rfl (fun g1 wp1 O1 Mp1 Bp1 => ?_)
    refine wpT_valp 8 (v := .slice (some ⟨g1, 0, none⟩) 3 3) rfl rfl rfl (by go_simp) ?_
    dsimp only [wpT]
    try simp only [Act.put, List.setIfInBounds_toArray, List.set_cons_succ, List.set_cons_zero]
    go_upto_region 2 with fail
    refine wp_region_lin (.op 0 (.op 1 .done)) (by rfl) ?_
    refine wpT_valp 22 (v := .pointer (some ⟨w.heap.size + 1 + 1, 96, none⟩)) rfl rfl rfl (by go_simp) ?_
    refine wpT_valp 23 (v := .bool true) rfl rfl rfl (by have c0 := br_96 (by simp [BR_size, ha, hf, hL, hP, hO, hD]) (by simp [BR_size, ha, hf, hL, hP, hO, hD]) (by simp [BR_size, ha, hf, hL, hP, hO, hD]) (Mp1.row (b := w.heap.size + 1 + 1) (c := BR L P O true) (by simp)); go_simp) ?_
    dsimp only [wpT]
    try simp only [Act.put, List.setIfInBounds_toArray, List.set_cons_succ, List.set_cons_zero]
    go_upto_region 3 with fail
    refine wp_region_lin (.op 0 (.op 1 (.op 2 (.op 3 (.op 4 (.op 5 (.op 6 (.op 7 .done)))))))) (by rfl) ?_
    refine wpT_valp 24 (v := .slice (some ⟨g1, 0, none⟩) 3 3) rfl rfl rfl (by go_simp) ?_
    refine wpT_ld0 25 Tryd.underlying23 rfl inf_key (w.heap.size + 1) (cs U8 f) rfl rfl rfl (by go_simp) (Mp1.row (by simp)) (by simp [BR_size, ha, hf, hL, hP, hO, hD]) rfl ?_
    refine wpT_valp 26 (v := .pointer (some ⟨w.heap.size + 1 + 1, 64, none⟩)) rfl rfl rfl (by go_simp) ?_
    refine wpT_ldm 27 Tryd.underlying23 rfl inf_key (w.heap.size + 1 + 1) 64 (BR L P O true) (cs U8 O) rfl rfl rfl (by go_simp) (Mp1.row (by simp)) (by simp [BR_size, ha, hf, hL, hP, hO, hD]) (br_64 (by simp [BR_size, ha, hf, hL, hP, hO, hD]) (by simp [BR_size, ha, hf, hL, hP, hO, hD]) (by simp [BR_size, ha, hf, hL, hP, hO, hD])) rfl ?_
    try simp only [Act.put, List.setIfInBounds_toArray, List.set_cons_succ, List.set_cons_zero]
    refine wpT_valL 28 (v := .agg (cs U8 (f ++ O))) rfl rfl rfl (by have q := xb_prs wp1 f O (by simp [BR_size, ha, hf, hL, hP, hO, hD]) (by simp [BR_size, ha, hf, hL, hP, hO, hD]); go_simp) ?_
    refine wpT_pairs1 29 _ Mp1 (f ++ O) (by simp [BR_size, ha, hf, hL, hP, hO, hD]) rfl rfl rfl (by go_simp) rfl (fun g2 wp2 Mp2 Bp2 hg2 => ?_)
    have hsv := SV.pair (Mp2.row (b := g2) (c := cs U8 (f ++ O)) (by simp))
    replace Mp2 := Mp2.sub (H' := [(w.heap.size + 1 + 1 + 1, cs U8 (zs 32)), (w.heap.size + 1 + 1, BR L P O true), (w.heap.size + 1, cs U8 f), (w.heap.size, cs U8 a)]) (by simp)
    replace O1 := PO.below O1 Bp2
    have hz3 := Bp1.size
    have hz4 := Bp2.size
    refine wpT_app 30 _ _ Mp2 w1.heap.size (.slice (some ⟨g1, 0, none⟩) 3 3) (.slice (some ⟨g2, 0, none⟩) 1 1) [a ++ P, f ++ L, f ++ P] (f ++ O) rfl rfl rfl rfl (by go_simp) O1 (by go_simp) (by simp [BR_size, ha, hf, hL, hP, hO, hD]) hsv (by simp) (by omega) M2.size (fun g hg p hp => by have h1 := M2.lt (b := p.1) (c := p.2) hp; have h2 := (O1.at_ g hg).1; omega) (fun u3 wp3 O3 Mp3 _ _ => ?_)
    refine wpT_valp 8 (v := u3) rfl rfl rfl (by go_simp) ?_
    dsimp only [wpT]
    try simp only [Act.put, List.setIfInBounds_toArray, List.set_cons_succ, List.set_cons_zero]
    go_upto_region 4 with fail
    refine wp_region_lin (.op 0 (.op 1 (.op 2 (.op 3 (.op 4 (.op 5 .done)))))) (by rfl) ?_
    refine wpT_valp 31 (v := u3) rfl rfl rfl (by go_simp) ?_
    refine wpT_callv 32 Mp3 (v := .tuple #[.agg (cs U8 D), .int .i64 er]) rfl rfl rfl (by go_simp) (HS.out wp3 _ Mp3.end_ O3.ks) (fun w3 M4 => ?_)
    refine wpT_valp 33 (v := .agg (cs U8 D)) rfl rfl rfl (by go_simp) ?_
    refine wpT_valp 34 (v := .int .i64 er) rfl rfl rfl (by go_simp) ?_
    try simp only [Act.put, List.setIfInBounds_toArray, List.set_cons_succ, List.set_cons_zero]
    refine wpT_st0 M4 0 (cs U8 D) inf_key rfl rfl rfl rfl (by go_simp) (by go_simp) (by simp [BR_size, ha, hf, hL, hP, hO, hD]) (by simp [BR_size, ha, hf, hL, hP, hO, hD]) (by simp [go_sem]) rfl (fun w5 M6 => ?_)
    dsimp only [List.set] at M6
    refine wpT_valp 7 (v := .int .i64 er) rfl rfl rfl (by go_simp) ?_
    dsimp only [wpT]
    try simp only [Act.put, List.setIfInBounds_toArray, List.set_cons_succ, List.set_cons_zero]
    go_wp2_with fail
    have r7 := M6.row (b := w.heap.size + 1 + 1 + 1) (c := cs U8 D) (by simp)
    refine bodyPost_ret (res_two rfl (rv_row Tryd.underlying23 rfl inf_key (w.heap.size + 1 + 1 + 1) rfl (by rw [r7]; simp [BR_size, ha, hf, hL, hP, hO, hD])) (rv_tmp _ _ rfl)) rfl ?_
    rw [r7]
    exact ⟨rfl, M6.end_⟩
set_option maxRecDepth 100000 in
set_option maxHeartbeats 2000000 in
theorem answer_c (w : World) (a f L P O D : L8) (h : Bool) (er : Int) (ha : a.length = 32) (hf : f.length = 32) (hL : L.length = 32) (hP : P.length = 32) (hO : O.length = 32) (hD : D.length = 32)
    (HS : Hid (∀ w' v, Below w.heap.size w w' → PS w' v ((Su.qs a f L P O h).map cat2) → Calls Tryd.prog 33 #[v] w' fun e w'' => e = .returned (.tuple #[.agg (cs U8 D), .int .i64 er]) ∧ Below w'.heap.size w' w'')) :
    Calls Tryd.prog 18 #[.agg (BR L P O h), .agg (cs U8 a), .agg (cs U8 f)] w fun e w' => e = .returned (.tuple #[.agg (cs U8 D), .int .i64 er]) ∧ Below w.heap.size w w' := by
  cases h
  · replace HS : Hid (∀ w' v, Below w.heap.size w w' → PS w' v [P ++ a, L ++ f, P ++ f] → Calls Tryd.prog 33 #[v] w' fun e w'' => e = .returned (.tuple #[.agg (cs U8 D), .int .i64 er]) ∧ Below w'.heap.size w' w'') := HS
    have M0 := Mm.start no w
    go_enter Tryd.func18, Tryd.ntmps18
    have M2 := ((((M0.alloc (BR L P O false) 35 (by decide)).alloc (cs U8 a) 23 (by decide)).alloc (cs U8 f) 23 (by decide)).alloc (cs U8 (zs 32)) 23 (by decide))
    try simp only [World.size_alloc] at M2
    go_upto_region 1 with fail
    obtain ⟨w1, hw1⟩ : ∃ w1, w1 = ((((w.alloc (.cells (BR L P O false) 35)).alloc (.cells (cs U8 a) 23)).alloc (.cells (cs U8 f) 23)).alloc (.cells (cs U8 (zs 32)) 23)) := ⟨_, rfl⟩
    rw [← hw1] at M2 ⊢
    clear hw1
    refine wp_region_lin (.op 0 (.op 1 (.op 2 (.op 3 (.op 4 (.op 5 (.op 6 (.op 7 (.op 8 (.op 9 (.op 10 (.op 11 (.op 12 (.op 13 .done)))))))))))))) (by rfl) ?_
    refine wpT_valp 9 (v := .pointer (some ⟨w.heap.size, 32, none⟩)) rfl rfl rfl (by go_simp) ?_
    refine wpT_ldm 10 Tryd.underlying23 rfl inf_key (w.heap.size) 32 (BR L P O false) (cs U8 P) rfl rfl rfl (by go_simp) (M2.row (by simp)) (by simp [BR_size, ha, hf, hL, hP, hO, hD]) (br_32 (by simp [BR_size, ha, hf, hL, hP, hO, hD]) (by simp [BR_size, ha, hf, hL, hP, hO, hD]) (by simp [BR_size, ha, hf, hL, hP, hO, hD])) rfl ?_
    refine wpT_ld0 11 Tryd.underlying23 rfl inf_key (w.heap.size + 1) (cs U8 a) rfl rfl rfl (by go_simp) (M2.row (by simp)) (by simp [BR_size, ha, hf, hL, hP, hO, hD]) rfl ?_
    refine wpT_valL 12 (v := .agg (cs U8 (P ++ a))) rfl rfl rfl (by have q := xb_prs w1 P a (by simp [BR_size, ha, hf, hL, hP, hO, hD]) (by simp [BR_size, ha, hf, hL, hP, hO, hD]); go_simp) ?_
    try simp only [Act.put, List.setIfInBounds_toArray, List.set_cons_succ, List.set_cons_zero]
    refine wpT_valp 13 (v := .pointer (some ⟨w.heap.size, 0, none⟩)) rfl rfl rfl (by go_simp) ?_
    refine wpT_ldm 14 Tryd.underlying23 rfl inf_key (w.heap.size) 0 (BR L P O false) (cs U8 L) rfl rfl rfl (by go_simp) (M2.row (by simp)) (by simp [BR_size, ha, hf, hL, hP, hO, hD]) (br_0 (by simp [BR_size, ha, hf, hL, hP, hO, hD]) (by simp [BR_size, ha, hf, hL, hP, hO, hD]) (by simp [BR_size, ha, hf, hL, hP, hO, hD])) rfl ?_
    refine wpT_ld0 15 Tryd.underlying23 rfl inf_key (w.heap.size + 1 + 1) (cs U8 f) rfl rfl rfl (by go_simp) (M2.row (by simp)) (by simp [BR_size, ha, hf, hL, hP, hO, hD]) rfl ?_
    refine wpT_valL 16 (v := .agg (cs U8 (L ++ f))) rfl rfl rfl (by have q := xb_prs w1 L f (by simp [BR_size, ha, hf, hL, hP, hO, hD]) (by simp [BR_size, ha, hf, hL, hP, hO, hD]); go_simp) ?_
    refine wpT_valp 17 (v := .pointer (some ⟨w.heap.size, 32, none⟩)) rfl rfl rfl (by go_simp) ?_
    try simp only [Act.put, List.setIfInBounds_toArray, List.set_cons_succ, List.set_cons_zero]
    refine wpT_ldm 18 Tryd.underlying23 rfl inf_key (w.heap.size) 32 (BR L P O false) (cs U8 P) rfl rfl rfl (by go_simp) (M2.row (by simp)) (by simp [BR_size, ha, hf, hL, hP, hO, hD]) (br_32 (by simp [BR_size, ha, hf, hL, hP, hO, hD]) (by simp [BR_size, ha, hf, hL, hP, hO, hD]) (by simp [BR_size, ha, hf, hL, hP, hO, hD])) rfl ?_
    refine wpT_ld0 19 Tryd.underlying23 rfl inf_key (w.heap.size + 1 + 1) (cs U8 f) rfl rfl rfl (by go_simp) (M2.row (by simp)) (by simp [BR_size, ha, hf, hL, hP, hO, hD]) rfl ?_
    refine wpT_valL 20 (v := .agg (cs U8 (P ++ f))) rfl rfl rfl (by have q := xb_prs w1 P f (by simp [BR_size, ha, hf, hL, hP, hO, hD]) (by simp [BR_size, ha, hf, hL, hP, hO, hD]); go_simp) ?_
    refine wpT_pairsO3 21 _ _ _ M2 (P ++ a) (L ++ f) (P ++ f) (by simp [BR_size, ha, hf, hL, hP, hO, hD]) (by simp [BR_size, ha, hf, hL, hP, hO, hD]) (by simp [BR_size, ha, hf, hL, hP, hO, hD]) rfl rfl rfl (by go_simp) (by go_simp) (by go_simp) rfl (fun g1 wp1 O1 Mp1 Bp1 => ?_)
    refine wpT_valp 8 (v := .slice (some ⟨g1, 0, none⟩) 3 3) rfl rfl rfl (by go_simp) ?_
    dsimp only [wpT]
    try simp only [Act.put, List.setIfInBounds_toArray, List.set_cons_succ, List.set_cons_zero]
    go_upto_region 2 with fail
    refine wp_region_lin (.op 0 (.op 1 .done)) (by rfl) ?_
    refine wpT_valp 22 (v := .pointer (some ⟨w.heap.size, 96, none⟩)) rfl rfl rfl (by go_simp) ?_
    refine wpT_valp 23 (v := .bool false) rfl rfl rfl (by have c0 := br_96 (by simp [BR_size, ha, hf, hL, hP, hO, hD]) (by simp [BR_size, ha, hf, hL, hP, hO, hD]) (by simp [BR_size, ha, hf, hL, hP, hO, hD]) (Mp1.row (b := w.heap.size) (c := BR L P O false) (by simp)); go_simp) ?_
    dsimp only [wpT]
    try simp only [Act.put, List.setIfInBounds_toArray, List.set_cons_succ, List.set_cons_zero]
    go_upto_region 4 with fail
    refine wp_region_lin (.op 0 (.op 1 (.op 2 (.op 3 (.op 4 (.op 5 .done)))))) (by rfl) ?_
    refine wpT_valp 31 (v := .slice (some ⟨g1, 0, none⟩) 3 3) rfl rfl rfl (by go_simp) ?_
    refine wpT_callv 32 Mp1 (v := .tuple #[.agg (cs U8 D), .int .i64 er]) rfl rfl rfl (by go_simp) (HS.out wp1 _ Mp1.end_ O1.ks) (fun w3 M4 => ?_)
    refine wpT_valp 33 (v := .agg (cs U8 D)) rfl rfl rfl (by go_simp) ?_
    refine wpT_valp 34 (v := .int .i64 er) rfl rfl rfl (by go_simp) ?_
    try simp only [Act.put, List.setIfInBounds_toArray, List.set_cons_succ, List.set_cons_zero]
    refine wpT_st0 M4 0 (cs U8 D) inf_key rfl rfl rfl rfl (by go_simp) (by go_simp) (by simp [BR_size, ha, hf, hL, hP, hO, hD]) (by simp [BR_size, ha, hf, hL, hP, hO, hD]) (by simp [go_sem]) rfl (fun w5 M6 => ?_)
    dsimp only [List.set] at M6
    refine wpT_valp 7 (v := .int .i64 er) rfl rfl rfl (by go_simp) ?_
    dsimp only [wpT]
    try simp only [Act.put, List.setIfInBounds_toArray, List.set_cons_succ, List.set_cons_zero]
    go_wp2_with fail
    have r7 := M6.row (b := w.heap.size + 1 + 1 + 1) (c := cs U8 D) (by simp)
    refine bodyPost_ret (res_two rfl (rv_row Tryd.underlying23 rfl inf_key (w.heap.size + 1 + 1 + 1) rfl (by rw [r7]; simp [BR_size, ha, hf, hL, hP, hO, hD])) (rv_tmp _ _ rfl)) rfl ?_
    rw [r7]
    exact ⟨rfl, M6.end_⟩
  · replace HS : Hid (∀ w' v, Below w.heap.size w w' → PS w' v ([P ++ a, L ++ f, P ++ f] ++ [O ++ f]) → Calls Tryd.prog 33 #[v] w' fun e w'' => e = .returned (.tuple #[.agg (cs U8 D), .int .i64 er]) ∧ Below w'.heap.size w' w'') := HS
    have M0 := Mm.start no w
    go_enter Tryd.func18, Tryd.ntmps18
    have M2 := ((((M0.alloc (BR L P O true) 35 (by decide)).alloc (cs U8 a) 23 (by decide)).alloc (cs U8 f) 23 (by decide)).alloc (cs U8 (zs 32)) 23 (by decide))
    try simp only [World.size_alloc] at M2
    go_upto_region 1 with fail
    obtain ⟨w1, hw1⟩ : ∃ w1, w1 = ((((w.alloc (.cells (BR L P O true) 35)).alloc (.cells (cs U8 a) 23)).alloc (.cells (cs U8 f) 23)).alloc (.cells (cs U8 (zs 32)) 23)) := ⟨_, rfl⟩
    rw [← hw1] at M2 ⊢
    clear hw1
    refine wp_region_lin (.op 0 (.op 1 (.op 2 (.op 3 (.op 4 (.op 5 (.op 6 (.op 7 (.op 8 (.op 9 (.op 10 (.op 11 (.op 12 (.op 13 .done)))))))))))))) (by rfl) ?_
    refine wpT_valp 9 (v := .pointer (some ⟨w.heap.size, 32, none⟩)) rfl rfl rfl (by go_simp) ?_
    refine wpT_ldm 10 Tryd.underlying23 rfl inf_key (w.heap.size) 32 (BR L P O true) (cs U8 P) rfl rfl rfl (by go_simp) (M2.row (by simp)) (by simp [BR_size, ha, hf, hL, hP, hO, hD]) (br_32 (by simp [BR_size, ha, hf, hL, hP, hO, hD]) (by simp [BR_size, ha, hf, hL, hP, hO, hD]) (by simp [BR_size, ha, hf, hL, hP, hO, hD])) rfl ?_
    refine wpT_ld0 11 Tryd.underlying23 rfl inf_key (w.heap.size + 1) (cs U8 a) rfl rfl rfl (by go_simp) (M2.row (by simp)) (by simp [BR_size, ha, hf, hL, hP, hO, hD]) rfl ?_
    refine wpT_valL 12 (v := .agg (cs U8 (P ++ a))) rfl rfl rfl (by have q := xb_prs w1 P a (by simp [BR_size, ha, hf, hL, hP, hO, hD]) (by simp [BR_size, ha, hf, hL, hP, hO, hD]); go_simp) ?_
    try simp only [Act.put, List.setIfInBounds_toArray, List.set_cons_succ, List.set_cons_zero]
    refine wpT_valp 13 (v := .pointer (some ⟨w.heap.size, 0, none⟩)) rfl rfl rfl (by go_simp) ?_
    refine wpT_ldm 14 Tryd.underlying23 rfl inf_key (w.heap.size) 0 (BR L P O true) (cs U8 L) rfl rfl rfl (by go_simp) (M2.row (by simp)) (by simp [BR_size, ha, hf, hL, hP, hO, hD]) (br_0 (by simp [BR_size, ha, hf, hL, hP, hO, hD]) (by simp [BR_size, ha, hf, hL, hP, hO, hD]) (by simp [BR_size, ha, hf, hL, hP, hO, hD])) rfl ?_
    refine wpT_ld0 15 Tryd.underlying23 rfl inf_key (w.heap.size + 1 + 1) (cs U8 f) rfl rfl rfl (by go_simp) (M2.row (by simp)) (by simp [BR_size, ha, hf, hL, hP, hO, hD]) rfl ?_
    refine wpT_valL 16 (v := .agg (cs U8 (L ++ f))) rfl rfl rfl (by have q := xb_prs w1 L f (by simp [BR_size, ha, hf, hL, hP, hO, hD]) (by simp [BR_size, ha, hf, hL, hP, hO, hD]); go_simp) ?_
    refine wpT_valp 17 (v := .pointer (some ⟨w.heap.size, 32, none⟩)) rfl rfl rfl (by go_simp) ?_
    try simp only [Act.put, List.setIfInBounds_toArray, List.set_cons_succ, List.set_cons_zero]
    refine wpT_ldm 18 Tryd.underlying23 rfl inf_key (w.heap.size) 32 (BR L P O true) (cs U8 P) rfl rfl rfl (by go_simp) (M2.row (by simp)) (by simp [BR_size, ha, hf, hL, hP, hO, hD]) (br_32 (by simp [BR_size, ha, hf, hL, hP, hO, hD]) (by simp [BR_size, ha, hf, hL, hP, hO, hD]) (by simp [BR_size, ha, hf, hL, hP, hO, hD])) rfl ?_
    refine wpT_ld0 19 Tryd.underlying23 rfl inf_key (w.heap.size + 1 + 1) (cs U8 f) rfl rfl rfl (by go_simp) (M2.row (by simp)) (by simp [BR_size, ha, hf, hL, hP, hO, hD]) rfl ?_
    refine wpT_valL 20 (v := .agg (cs U8 (P ++ f))) rfl rfl rfl (by have q := xb_prs w1 P f (by simp [BR_size, ha, hf, hL, hP, hO, hD]) (by simp [BR_size, ha, hf, hL, hP, hO, hD]); go_simp) ?_
    refine wpT_pairsO3 21 _ _ _ M2 (P ++ a) (L ++ f) (P ++ f) (by simp [BR_size, ha, hf, hL, hP, hO, hD]) (by simp [BR_size, ha, hf, hL, hP, hO, hD]) (by simp [BR_size, ha, hf, hL, hP, hO, hD]) rfl rfl rfl (by go_simp) (by go_simp) (by go_simp) rfl (fun g1 wp1 O1 Mp1 Bp1 => ?_)
    refine wpT_valp 8 (v := .slice (some ⟨g1, 0, none⟩) 3 3) rfl rfl rfl (by go_simp) ?_
    dsimp only [wpT]
    try simp only [Act.put, List.setIfInBounds_toArray, List.set_cons_succ, List.set_cons_zero]
    go_upto_region 2 with fail
    refine wp_region_lin (.op 0 (.op 1 .done)) (by rfl) ?_
    refine wpT_valp 22 (v := .pointer (some ⟨w.heap.size, 96, none⟩)) rfl rfl rfl (by go_simp) ?_
    refine wpT_valp 23 (v := .bool true) rfl rfl rfl (by have c0 := br_96 (by simp [BR_size, ha, hf, hL, hP, hO, hD]) (by simp [BR_size, ha, hf, hL, hP, hO, hD]) (by simp [BR_size, ha, hf, hL, hP, hO, hD]) (Mp1.row (b := w.heap.size) (c := BR L P O true) (by simp)); go_simp) ?_
    dsimp only [wpT]
    try simp only [Act.put, List.setIfInBounds_toArray, List.set_cons_succ, List.set_cons_zero]
    go_upto_region 3 with fail
    refine wp_region_lin (.op 0 (.op 1 (.op 2 (.op 3 (.op 4 (.op 5 (.op 6 (.op 7 .done)))))))) (by rfl) ?_
    refine wpT_valp 24 (v := .slice (some ⟨g1, 0, none⟩) 3 3) rfl rfl rfl (by go_simp) ?_
    refine wpT_valp 25 (v := .pointer (some ⟨w.heap.size, 64, none⟩)) rfl rfl rfl (by go_simp) ?_
    refine wpT_ldm 26 Tryd.underlying23 rfl inf_key (w.heap.size) 64 (BR L P O true) (cs U8 O) rfl rfl rfl (by go_simp) (Mp1.row (by simp)) (by simp [BR_size, ha, hf, hL, hP, hO, hD]) (br_64 (by simp [BR_size, ha, hf, hL, hP, hO, hD]) (by simp [BR_size, ha, hf, hL, hP, hO, hD]) (by simp [BR_size, ha, hf, hL, hP, hO, hD])) rfl ?_
    refine wpT_ld0 27 Tryd.underlying23 rfl inf_key (w.heap.size + 1 + 1) (cs U8 f) rfl rfl rfl (by go_simp) (Mp1.row (by simp)) (by simp [BR_size, ha, hf, hL, hP, hO, hD]) rfl ?_
    try simp only [Act.put, List.setIfInBounds_toArray, List.set_cons_succ, List.set_cons_zero]
    refine wpT_valL 28 (v := .agg (cs U8 (O ++ f))) rfl rfl rfl (by have q := xb_prs wp1 O f (by simp [BR_size, ha, hf, hL, hP, hO, hD]) (by simp [BR_size, ha, hf, hL, hP, hO, hD]); go_simp) ?_
    refine wpT_pairs1 29 _ Mp1 (O ++ f) (by simp [BR_size, ha, hf, hL, hP, hO, hD]) rfl rfl rfl (by go_simp) rfl (fun g2 wp2 Mp2 Bp2 hg2 => ?_)
    have hsv := SV.pair (Mp2.row (b := g2) (c := cs U8 (O ++ f)) (by simp))
    replace Mp2 := Mp2.sub (H' := [(w.heap.size + 1 + 1 + 1, cs U8 (zs 32)), (w.heap.size + 1 + 1, cs U8 f), (w.heap.size + 1, cs U8 a), (w.heap.size, BR L P O true)]) (by simp)
    replace O1 := PO.below O1 Bp2
    have hz3 := Bp1.size
    have hz4 := Bp2.size
    refine wpT_app 30 _ _ Mp2 w1.heap.size (.slice (some ⟨g1, 0, none⟩) 3 3) (.slice (some ⟨g2, 0, none⟩) 1 1) [P ++ a, L ++ f, P ++ f] (O ++ f) rfl rfl rfl rfl (by go_simp) O1 (by go_simp) (by simp [BR_size, ha, hf, hL, hP, hO, hD]) hsv (by simp) (by omega) M2.size (fun g hg p hp => by have h1 := M2.lt (b := p.1) (c := p.2) hp; have h2 := (O1.at_ g hg).1; omega) (fun u3 wp3 O3 Mp3 _ _ => ?_)
    refine wpT_valp 8 (v := u3) rfl rfl rfl (by go_simp) ?_
    dsimp only [wpT]
    try simp only [Act.put, List.setIfInBounds_toArray, List.set_cons_succ, List.set_cons_zero]
    go_upto_region 4 with fail
    refine wp_region_lin (.op 0 (.op 1 (.op 2 (.op 3 (.op 4 (.op 5 .done)))))) (by rfl) ?_
    refine wpT_valp 31 (v := u3) rfl rfl rfl (by go_simp) ?_
    refine wpT_callv 32 Mp3 (v := .tuple #[.agg (cs U8 D), .int .i64 er]) rfl rfl rfl (by go_simp) (HS.out wp3 _ Mp3.end_ O3.ks) (fun w3 M4 => ?_)
    refine wpT_valp 33 (v := .agg (cs U8 D)) rfl rfl rfl (by go_simp) ?_
    refine wpT_valp 34 (v := .int .i64 er) rfl rfl rfl (by go_simp) ?_
    try simp only [Act.put, List.setIfInBounds_toArray, List.set_cons_succ, List.set_cons_zero]
    refine wpT_st0 M4 0 (cs U8 D) inf_key rfl rfl rfl rfl (by go_simp) (by go_simp) (by simp [BR_size, ha, hf, hL, hP, hO, hD]) (by simp [BR_size, ha, hf, hL, hP, hO, hD]) (by simp [go_sem]) rfl (fun w5 M6 => ?_)
    dsimp only [List.set] at M6
    refine wpT_valp 7 (v := .int .i64 er) rfl rfl rfl (by go_simp) ?_
    dsimp only [wpT]
    try simp only [Act.put, List.setIfInBounds_toArray, List.set_cons_succ, List.set_cons_zero]
    go_wp2_with fail
    have r7 := M6.row (b := w.heap.size + 1 + 1 + 1) (c := cs U8 D) (by simp)
    refine bodyPost_ret (res_two rfl (rv_row Tryd.underlying23 rfl inf_key (w.heap.size + 1 + 1 + 1) rfl (by rw [r7]; simp [BR_size, ha, hf, hL, hP, hO, hD])) (rv_tmp _ _ rfl)) rfl ?_
    rw [r7]
    exact ⟨rfl, M6.end_⟩
end Go.Proofs.YtgclegdgngldoaaDoor
set_option linter.unusedSimpArgs false
set_option linter.unusedVariables false
namespace Go.Proofs.YtgclegdgngldoaaDoor
open Go.RowKit Fp
theorem inf_rk : (Tryd.prog.info? 25).map (·.size) = some 97 := by kernel_rfl
section
variable (ρ : Operand → Value) (dst : Option Tmp) (ty : TypeId) (pos : String) (after : Array Edge) (guard : Option (Nat × Bool)) (w : World)
@[go_sem ↓] theorem rl_rk (x : Operand) : (execOp ρ { dst, op := .load 25 x, type := ty, pos, after, guard }).run Tryd.prog w = exLoad Tryd.prog 25 (ρ x) w := x_load ..
@[go_sem ↓] theorem rs_rk (x y : Operand) : (execOp ρ { dst, op := .store 25 x y, type := ty, pos, after, guard }).run Tryd.prog w = exStore Tryd.prog 25 (ρ x) (ρ y) w := x_store ..
@[go_sem ↓] theorem ra_rk : (execOp ρ { dst, op := .alloc 25, type := ty, pos, after, guard }).run Tryd.prog w = .ok (.value (.pointer (some ⟨w.heap.size, 0, none⟩))) (w.alloc (.cells (BR (zs 32) (zs 32) (zs 32) false) 25)) :=
  (x_alloc ..).trans (x_alloc0 (v := .agg (BR (zs 32) (zs 32) (zs 32) false)) _ (by kernel_rfl))
@[go_sem] theorem xl_rk (b : Nat) (h : (w.rowOf b).size = 97) : exLoad Tryd.prog 25 (.pointer (some ⟨b, 0, none⟩)) w = .ok (.value (.agg (w.rowOf b))) w := x_load0 _ Tryd.underlying25 rfl inf_rk b h
@[go_sem] theorem xlm_rk (b o : Nat) (ho : 0 < o) (h : o + 97 ≤ (w.rowOf b).size) : exLoad Tryd.prog 25 (.pointer (some ⟨b, o, none⟩)) w = .ok (.value (.agg ((w.rowOf b).extract o (o + 97)))) w := x_loadm _ Tryd.underlying25 rfl inf_rk b o h
@[go_sem] theorem xs_rk (b : Nat) (c : Array Value) (hl : c.size = 97) (h1 : ones c = true) (h : (w.rowOf b).size = 97) (hf : w.free b = true) : exStore Tryd.prog 25 (.pointer (some ⟨b, 0, none⟩)) (.agg c) w = .ok .skip (w.setRow b c) :=
  x_store0 _ inf_rk b c hl h hf (ones_all h1)
@[go_sem] theorem xsm_rk (b o : Nat) (ho : 0 < o) (c : Array Value) (hl : c.size = 97) (h1 : ones c = true) (h : o + 97 ≤ (w.rowOf b).size) (hf : w.free b = true) : exStore Tryd.prog 25 (.pointer (some ⟨b, o, none⟩)) (.agg c) w = .ok .skip (w.setSeg b o c) :=
  x_storem _ inf_rk b o c hl h hf (ones_all h1)
end
/-- at a step: a store, and a variable made -/
theorem wps_rk {a : Act} {w : World} {K : Act → World → Prop} {Q : Exit → Act → World → Prop} {o : Oper} (p x : Operand) (ho : o.op = .store 25 p x) (b : Nat) (c : Array Value) (hp : a.eval p = .pointer (some ⟨b, 0, none⟩)) (hx : a.eval x = .agg c)
    (hl : c.size = 97) (h1 : ones c = true) (h : (w.rowOf b).size = 97) (hf : w.free b = true) (hK : K (a.put o.dst undef) (w.setRow b c)) : o.wp Tryd.prog a w K Q := by
  obtain ⟨dst, op, ty, pos, after, guard⟩ := o
  subst ho
  unfold Oper.wp
  rw [rs_rk, hp, hx, xs_rk _ _ _ hl h1 h hf]
  simp only [Oper.upon]
  exact hK
theorem wpa_rk {a : Act} {w : World} {K : Act → World → Prop} {Q : Exit → Act → World → Prop} {o : Oper} (ho : o.op = .alloc 25)
    (hK : K (a.put o.dst (.pointer (some ⟨w.heap.size, 0, none⟩))) (w.alloc (.cells (BR (zs 32) (zs 32) (zs 32) false) 25))) : o.wp Tryd.prog a w K Q := by
  obtain ⟨dst, op, ty, pos, after, guard⟩ := o
  subst ho
  unfold Oper.wp
  rw [ra_rk]
  simp only [Oper.upon]
  exact hK

theorem eqD (w : World) (D : L8) (hD : D.length = 32) : (Op.equalIn 10000 23 (.agg (cs U8 D)) (.agg (cs U8 D))).run Tryd.prog w = .ok true w := by
  rw [eqin_key w D D hD hD, beq_self_eq_true]
theorem neD (w : World) (D : L8) (hD : D.length = 32) (h : (D == zs 32) = false) : (Op.equalIn 10000 23 (.agg (cs U8 D)) (.agg (cs U8 (zs 32)))).run Tryd.prog w = .ok false w := by
  rw [eqin_key w D (zs 32) hD (by simp [zs]), h]
theorem xb_ks1 (w : World) : exBuild Tryd.prog 23 #[(0, .int .u8 1)] w = .ok (.value (.agg (cs U8 (1 :: zs 31)))) w := by
  unfold exBuild; rw [run_build w _ _ (cs U8 (1 :: zs 31)) (by kernel_rfl)]; rfl
theorem xb_ks2 (w : World) : exBuild Tryd.prog 23 #[(0, .int .u8 2)] w = .ok (.value (.agg (cs U8 (2 :: zs 31)))) w := by
  unfold exBuild; rw [run_build w _ _ (cs U8 (2 :: zs 31)) (by kernel_rfl)]; rfl
theorem xb_ks3 (w : World) : exBuild Tryd.prog 23 #[(0, .int .u8 3)] w = .ok (.value (.agg (cs U8 (3 :: zs 31)))) w := by
  unfold exBuild; rw [run_build w _ _ (cs U8 (3 :: zs 31)) (by kernel_rfl)]; rfl
theorem xb_ks4 (w : World) : exBuild Tryd.prog 23 #[(0, .int .u8 4)] w = .ok (.value (.agg (cs U8 (4 :: zs 31)))) w := by
  unfold exBuild; rw [run_build w _ _ (cs U8 (4 :: zs 31)) (by kernel_rfl)]; rfl
theorem xb_ks5 (w : World) : exBuild Tryd.prog 23 #[(0, .int .u8 5)] w = .ok (.value (.agg (cs U8 (5 :: zs 31)))) w := by
  unfold exBuild; rw [run_build w _ _ (cs U8 (5 :: zs 31)) (by kernel_rfl)]; rfl
theorem secret_v {w0 : World} {l : List (L8 × L8)} {D : L8} (hT : KT w0 ∧ 0 < w0.heap.size) (h32 : ∀ p ∈ l, p.1.length = 32 ∧ p.2.length = 32) (hg : Su.good l) (h0 : 0 < l.length) (h9 : l.length ≤ 9) (eD : D = Su.sec l) :
    Hid (∀ w' v, Below w0.heap.size w0 w' → PS w' v (l.map cat2) → Calls Tryd.prog 33 #[v] w' fun e w'' => e = .returned (.tuple #[.agg (cs U8 D), .int .i64 0]) ∧ Below w'.heap.size w' w'') :=
  hid fun w' v hb hv => secret_ok w' l v D ⟨hT.1.below hb hT.2, Nat.lt_of_lt_of_le hT.2 hb.size⟩ hv h32 hg h0 h9 eD
theorem hs_at {w0 w : World} {R : World → Value → Prop} (H : Hid (∀ w' v, Below w0.heap.size w0 w' → R w' v)) (hb : Below w0.heap.size w0 w) : Hid (∀ w' v, Below w.heap.size w w' → R w' v) := hid fun w' v h => H.out w' v (hb.trans (h.mono hb.size))
theorem sec_same {l m : List (L8 × L8)} (h : Su.parts l = Su.parts m) : Su.sec l = Su.sec m := by unfold Su.sec; rw [h]
attribute [local irreducible] BR Su.pub Sh.mac Sh.derive
set_option maxHeartbeats 1000000 in
theorem secrets_c (w : World) (L P O : L8) (h : Bool) (hL : L.length = 32) (hP : P.length = 32) (hO : O.length = 32) :
    Calls Tryd.prog 16 #[.agg (BR L P O h)] w fun e w' => e = .returned (.agg (BR L P O h)) ∧ Below w.heap.size w w' := by
  have M0 := Mm.start no w
  go_enter Tryd.func16, Tryd.ntmps16
  have M2 := ((M0.alloc (BR L P O h) 25 (by decide)).alloc (BR (zs 32) (zs 32) (zs 32) false) 35 (by decide))
  try simp only [World.size_alloc] at M2
  go_upto_region 1 with fail
  obtain ⟨w1, hw1⟩ : ∃ w1, w1 = ((w.alloc (.cells (BR L P O h) 25)).alloc (.cells (BR (zs 32) (zs 32) (zs 32) false) 35)) := ⟨_, rfl⟩
  rw [← hw1] at M2 ⊢
  clear hw1
  refine wp_region_lin (.op 0 (.op 1 (.op 2 (.op 3 (.op 4 (.op 5 (.op 6 (.op 7 (.op 8 (.op 9 .done)))))))))) (by rfl) ?_
  refine wpT_valp 3 (v := .pointer (some ⟨w.heap.size, 0, none⟩)) rfl rfl rfl (by go_simp) ?_
  refine wpT_ldm 4 Tryd.underlying23 rfl inf_key (w.heap.size) 0 (BR L P O h) (cs U8 L) rfl rfl rfl (by go_simp) (M2.row (by simp)) (by simp [BR_size, hL, hP, hO]) (br_0 (by simp [BR_size, hL, hP, hO]) (by simp [BR_size, hL, hP, hO]) (by simp [BR_size, hL, hP, hO])) rfl ?_
  refine wpT_valp 5 (v := .pointer (some ⟨w.heap.size, 32, none⟩)) rfl rfl rfl (by go_simp) ?_
  refine wpT_ldm 6 Tryd.underlying23 rfl inf_key (w.heap.size) 32 (BR L P O h) (cs U8 P) rfl rfl rfl (by go_simp) (M2.row (by simp)) (by simp [BR_size, hL, hP, hO]) (br_32 (by simp [BR_size, hL, hP, hO]) (by simp [BR_size, hL, hP, hO]) (by simp [BR_size, hL, hP, hO])) rfl ?_
  try simp only [Act.put, List.setIfInBounds_toArray, List.set_cons_succ, List.set_cons_zero]
  refine wpT_valp 7 (v := .pointer (some ⟨w.heap.size, 64, none⟩)) rfl rfl rfl (by go_simp) ?_
  refine wpT_ldm 8 Tryd.underlying23 rfl inf_key (w.heap.size) 64 (BR L P O h) (cs U8 O) rfl rfl rfl (by go_simp) (M2.row (by simp)) (by simp [BR_size, hL, hP, hO]) (br_64 (by simp [BR_size, hL, hP, hO]) (by simp [BR_size, hL, hP, hO]) (by simp [BR_size, hL, hP, hO])) rfl ?_
  refine wpT_valp 9 (v := .pointer (some ⟨w.heap.size, 96, none⟩)) rfl rfl rfl (by go_simp) ?_
  refine wpT_valp 10 (v := .bool h) rfl rfl rfl (by have c0 := br_96 (by simp [BR_size, hL, hP, hO]) (by simp [BR_size, hL, hP, hO]) (by simp [BR_size, hL, hP, hO]) (M2.row (b := w.heap.size) (c := BR L P O h) (by simp)); go_simp) ?_
  refine wpT_valL 11 (v := .agg (BR L P O h)) rfl rfl rfl (by have q := xb_sec4 w1 L P O h hL hP hO; go_simp) ?_
  try simp only [Act.put, List.setIfInBounds_toArray, List.set_cons_succ, List.set_cons_zero]
  refine wpT_st0 M2 0 (BR L P O h) inf_sec rfl rfl rfl rfl (by go_simp) (by go_simp) (by simp [BR_size, hL, hP, hO]) (by simp [BR_size, hL, hP, hO]) (by simp [go_sem]) rfl (fun w3 M4 => ?_)
  dsimp only [List.set] at M4
  dsimp only [wpT]
  try simp only [Act.put, List.setIfInBounds_toArray, List.set_cons_succ, List.set_cons_zero]
  go_wp2_with fail
  have r5 := M4.row (b := w.heap.size + 1) (c := BR L P O h) (by simp)
  refine bodyPost_ret (res_row (b := w.heap.size + 1) rfl Tryd.underlying35 rfl inf_sec _ _ rfl (by rw [r5]; simp [BR_size, hL, hP, hO])) rfl ?_
  rw [r5]
  exact ⟨rfl, M4.end_⟩
set_option maxRecDepth 100000 in
set_option maxHeartbeats 4000000 in
theorem alive19_c (w : World) (hT : KT w ∧ 0 < w.heap.size) : Calls Tryd.prog 11 #[] w fun e w' => e = .returned (.bool true) ∧ Below w.heap.size w w' := by
  obtain ⟨k1, h1, c1, e1⟩ : ∃ k : L8, k.length = 32 ∧ leN (clampB k) = suC ∧ ∀ w, exBuild Tryd.prog 23 #[(0, .int .u8 1)] w = .ok (.value (.agg (cs U8 k))) w := ⟨_, by simp [zs], su_c1, xb_ks1⟩
  obtain ⟨k2, h2, c2, e2⟩ : ∃ k : L8, k.length = 32 ∧ leN (clampB k) = suC ∧ ∀ w, exBuild Tryd.prog 23 #[(0, .int .u8 2)] w = .ok (.value (.agg (cs U8 k))) w := ⟨_, by simp [zs], su_c2, xb_ks2⟩
  obtain ⟨k3, h3, c3, e3⟩ : ∃ k : L8, k.length = 32 ∧ leN (clampB k) = suC ∧ ∀ w, exBuild Tryd.prog 23 #[(0, .int .u8 3)] w = .ok (.value (.agg (cs U8 k))) w := ⟨_, by simp [zs], su_c3, xb_ks3⟩
  obtain ⟨k4, h4, c4, e4⟩ : ∃ k : L8, k.length = 32 ∧ leN (clampB k) = suC ∧ ∀ w, exBuild Tryd.prog 23 #[(0, .int .u8 4)] w = .ok (.value (.agg (cs U8 k))) w := ⟨_, by simp [zs], su_c4, xb_ks4⟩
  obtain ⟨k5, h5, c5, e5⟩ : ∃ k : L8, k.length = 32 ∧ leN (clampB k) = suC ∧ ∀ w, exBuild Tryd.prog 23 #[(0, .int .u8 5)] w = .ok (.value (.agg (cs U8 k))) w := ⟨_, by simp [zs], su_c5, xb_ks5⟩
  obtain ⟨A, eA⟩ : ∃ A, A = K suA := ⟨_, rfl⟩
  have hA : A.length = 32 := by rw [eA]; exact K_len _
  have p1 : A = Su.pub k1 := by rw [eA, su_pubs c1]
  have p2 : A = Su.pub k2 := by rw [eA, su_pubs c2]
  have p3 : A = Su.pub k3 := by rw [eA, su_pubs c3]
  have p4 : A = Su.pub k4 := by rw [eA, su_pubs c4]
  have p5 : A = Su.pub k5 := by rw [eA, su_pubs c5]
  have hne : (suS : F) ≠ 0 := by decide +kernel
  have s1 : shv k1 A = suS := by rw [eA, su_shs c1]
  have s2 : shv k2 A = suS := by rw [eA, su_shs c2]
  have s3 : shv k3 A = suS := by rw [eA, su_shs c3]
  have s4 : shv k4 A = suS := by rw [eA, su_shs c4]
  have s5 : shv k5 A = suS := by rw [eA, su_shs c5]
  obtain ⟨D, eD⟩ : ∃ D, D = Su.sec (Su.ps k4 k5 A A A true) := ⟨_, rfl⟩
  have q1 : Su.parts (Su.ps k4 k5 A A A true) = K suS ++ (K suS ++ (K suS ++ K suS)) := by simp [Su.ps, Su.parts, s4, s5]
  have q2 : Su.parts (Su.qs A A k1 k2 k3 true) = K suS ++ (K suS ++ (K suS ++ K suS)) := by simp [Su.qs, Su.parts, s1, s2, s3]
  have hD : D.length = 32 := by rw [eD]; exact derive_len ..
  have HN : Hid ((D == zs 32) = false) := hid (by
    have h : D.getD 0 0 = 39 := by rw [eD]; unfold Su.sec; rw [q1]; exact su_first
    cases hb : (D == zs 32) with
    | false => rfl
    | true => rw [eq_of_beq hb] at h; exact absurd h (by decide))
  have HN2 : Hid (¬ D = zs 32) := hid (fun e => by have h := HN.out; rw [e] at h; simp at h)
  have HS1 := secret_v (w0 := w) (D := D) (l := Su.ps k4 k5 A A A true) hT (by intro p hp; simp [Su.ps] at hp; rcases hp with rfl | rfl | rfl | rfl <;> exact ⟨by assumption, hA⟩) (by intro p hp; simp [Su.ps] at hp; rcases hp with rfl | rfl | rfl | rfl <;> simp only [s4, s5] <;> exact hne) (by simp [Su.ps]) (by simp [Su.ps]) eD
  have HS2 := secret_v (w0 := w) (D := D) (l := Su.qs A A k1 k2 k3 true) hT (by intro p hp; simp [Su.qs] at hp; rcases hp with rfl | rfl | rfl | rfl <;> exact ⟨by assumption, hA⟩) (by intro p hp; simp [Su.qs] at hp; rcases hp with rfl | rfl | rfl | rfl <;> simp only [s1, s2, s3] <;> exact hne) (by simp [Su.qs]) (by simp [Su.qs]) (by rw [eD]; exact sec_same (by rw [q1, q2]))
  have HS3 : Hid (∀ w' v, Below w.heap.size w w' → PS w' v ((Su.qs (zs 32) (zs 32) k1 k2 k3 true).map cat2) → Calls Tryd.prog 33 #[v] w' fun e w'' => e = .returned (.tuple #[.agg (cs U8 (zs 32)), .int .i64 7]) ∧ Below w'.heap.size w' w'') :=
    hid fun w' v _ hv => secret_bad w' _ v hv (by intro p hp; simp [Su.qs] at hp; rcases hp with rfl | rfl | rfl | rfl <;> exact ⟨by assumption, by simp [zs]⟩) (by simp [Su.qs]) (by simp [Su.qs]) (by simp only [Su.qs]; exact su_zero c2)
  have HK1 := hid e1
  have HK2 := hid e2
  have HK3 := hid e3
  have HK4 := hid e4
  have HK5 := hid e5
  have HA1 := hid p1
  have HA2 := hid p2
  have HA3 : Hid (A = Su.once k3 true) := hid p3
  have HA4 := hid p4
  have HA5 := hid p5
  clear e1 e2 e3 e4 e5 p1 p2 p3 p4 p5 eA eD q1 q2 s1 s2 s3 s4 s5 hne hT c1 c2 c3 c4 c5
  have M0 := Mm.start no w
  go_enter Tryd.func11, Tryd.ntmps11
  go_upto_region 1 with fail
  refine wp_region_lin (.op 0 (.op 1 (.op 2 (.op 3 (.op 4 (.op 5 .done)))))) (by rfl) ?_
  refine wpT_valL 8 (v := .agg (cs U8 k1)) rfl rfl rfl (by have q := HK1.out w; go_simp) ?_
  refine wpT_valL 9 (v := .agg (cs U8 k2)) rfl rfl rfl (by have q := HK2.out w; go_simp) ?_
  refine wpT_valL 10 (v := .agg (cs U8 k3)) rfl rfl rfl (by have q := HK3.out w; go_simp) ?_
  refine wpT_valL 11 (v := .agg (BR k1 k2 k3 true)) rfl rfl rfl (by have q := xb_sec4 w k1 k2 k3 true h1 h2 h3; go_simp) ?_
  try simp only [Act.put, List.setIfInBounds_toArray, List.set_cons_succ, List.set_cons_zero]
  refine wpT_new (z := .agg (BR (zs 32) (zs 32) (zs 32) false)) 1 M0 (by kernel_rfl) (by decide) rfl rfl rfl rfl (fun b1 w2 M3 => ?_)
  try dsimp only [Value.cells] at M3
  refine wpT_st0 M3 0 (BR k1 k2 k3 true) inf_sec rfl rfl rfl rfl (by go_simp) (by go_simp) (by simp [BR_size, h1, h2, h3, h4, h5, hA, hD]) (by simp [BR_size, h1, h2, h3, h4, h5, hA, hD]) (by simp [go_sem]) rfl (fun w4 M5 => ?_)
  dsimp only [List.set] at M5
  dsimp only [wpT]
  try simp only [Act.put, List.setIfInBounds_toArray, List.set_cons_succ, List.set_cons_zero]
  go_upto_region 2 with fail
  refine wp_region_lin (.op 0 (.op 1 (.op 2 (.op 3 (.op 4 (.op 5 (.op 6 (.op 7 (.op 8 (.op 9 (.op 10 .done))))))))))) (by rfl) ?_
  refine wpT_valL 13 (v := .agg (cs U8 k4)) rfl rfl rfl (by have q := HK4.out w4; go_simp) ?_
  refine wpT_valL 14 (v := .agg (cs U8 k5)) rfl rfl rfl (by have q := HK5.out w4; go_simp) ?_
  refine wpT_ld0 15 Tryd.underlying35 rfl inf_sec (b1) (BR k1 k2 k3 true) rfl rfl rfl (by go_simp) (M5.row (by simp)) (by simp [BR_size, h1, h2, h3, h4, h5, hA, hD]) rfl ?_
  refine wpT_callv 16 M5 (v := .agg (BR A A A true)) rfl rfl rfl (by go_simp) (show_c w4 k1 k2 k3 A A A true h1 h2 h3 HA1.out HA2.out HA3.out) (fun w6 M7 => ?_)
  try simp only [Act.put, List.setIfInBounds_toArray, List.set_cons_succ, List.set_cons_zero]
  refine wpT_callv 17 M7 (v := .tuple #[.agg (cs U8 D), .int .i64 0]) rfl rfl rfl (by go_simp) (start_c w6 k4 k5 A A A D true 0 h4 h5 hA hA hA hD (hs_at HS1 M7.end_)) (fun w8 M9 => ?_)
  refine wpT_valp 12 (v := .tuple #[.agg (cs U8 D), .int .i64 0]) rfl rfl rfl (by go_simp) ?_
  refine wpT_valp 18 (v := .agg (cs U8 D)) rfl rfl rfl (by go_simp) ?_
  refine wpT_valp 19 (v := .int .i64 0) rfl rfl rfl (by go_simp) ?_
  refine wpT_new (z := .agg (cs U8 (zs 32))) 2 M9 (by kernel_rfl) (by decide) rfl rfl rfl rfl (fun b10 w11 M12 => ?_)
  try dsimp only [Value.cells] at M12
  try simp only [Act.put, List.setIfInBounds_toArray, List.set_cons_succ, List.set_cons_zero]
  refine wpT_st0 M12 0 (cs U8 D) inf_key rfl rfl rfl rfl (by go_simp) (by go_simp) (by simp [BR_size, h1, h2, h3, h4, h5, hA, hD]) (by simp [BR_size, h1, h2, h3, h4, h5, hA, hD]) (by simp [go_sem]) rfl (fun w13 M14 => ?_)
  dsimp only [List.set] at M14
  refine wpT_valp 3 (v := .int .i64 0) rfl rfl rfl (by go_simp) ?_
  dsimp only [wpT]
  try simp only [Act.put, List.setIfInBounds_toArray, List.set_cons_succ, List.set_cons_zero]
  go_upto_region 3 with fail
  refine wp_region_seq 10 [21, 22, 23, 24, 25, 26, 20, 27, 28, 4] [] [8] [] (.op 10 (.op 11 .done)) (Mm no w _) (by kernel_rfl) (by kernel_rfl) (by kernel_rfl) (fun d _ _ _ _ h => by cases d <;> exact h) (by rfl) M14.size (fun _ _ h k => h.sf k) M14 ?_
  simp only [List.take_succ_cons, List.take_zero]
  refine SeqA.ld0 Tryd.underlying35 rfl inf_sec (b1) (BR k1 k2 k3 true) rfl (by go_simp) (fun _ M => M.row (by simp)) (by simp [BR_size, h1, h2, h3, h4, h5, hA, hD]) rfl ?_
  refine SeqA.pure (.agg (cs U8 k4)) (fun w' => by have q := HK4.out w'; go_simp) rfl rfl ?_
  refine SeqA.call _ _ _ (fun w' => by go_simp) (fun w' hI _ => pub_v w' k4 A h4 HA4.out) M14.size rfl rfl ?_
  refine SeqA.pure (.agg (cs U8 k5)) (fun w' => by have q := HK5.out w'; go_simp) rfl rfl ?_
  refine SeqA.call _ _ _ (fun w' => by go_simp) (fun w' hI _ => pub_v w' k5 A h5 HA5.out) M14.size rfl rfl ?_
  simp only [Act.put, List.setIfInBounds_toArray, List.set_cons_succ, List.set_cons_zero]
  refine SeqA.call _ _ _ (fun w' => by go_simp) (fun w' hI _ => answer_c w' A A k1 k2 k3 D true 0 hA hA h1 h2 h3 hD (hs_at HS2 hI.end_)) M14.size rfl rfl ?_
  refine SeqA.pure (.tuple #[.agg (cs U8 D), .int .i64 0]) (fun w' => by go_simp) rfl rfl ?_
  refine SeqA.pure (.agg (cs U8 D)) (fun w' => by go_simp) rfl rfl ?_
  refine SeqA.pure (.int .i64 0) (fun w' => by go_simp) rfl rfl ?_
  refine SeqA.var (z := .agg (cs U8 (zs 32))) (by kernel_rfl) rfl rfl (by decide) rfl ?_
  refine SeqA.nil (fun w15 M16 hz => ?_)
  refine news_one (fun b17 hb1 hb2 hb3 => ?_)
  have M18 := M14.in_ (c := cs U8 (zs 32)) M16 hb1 hb2 (by decide) hb3 rfl
  show wpT _ _ _ _ _ _
  simp only [Act.put, List.setIfInBounds_toArray, List.set_cons_succ, List.set_cons_zero]
  refine wpT_st0 M18 0 (cs U8 D) inf_key rfl rfl rfl rfl (by go_simp) (by go_simp) (by simp [BR_size, h1, h2, h3, h4, h5, hA, hD]) (by simp [BR_size, h1, h2, h3, h4, h5, hA, hD]) (by simp [go_sem]) rfl (fun w19 M20 => ?_)
  dsimp only [List.set] at M20
  refine wpT_vald 5 (v := .int .i64 0) rfl rfl rfl rfl ?_
  dsimp only [wpT]
  simp only [Act.put, List.setIfInBounds_toArray, List.set_cons_succ, List.set_cons_zero]
  go_upto_region 4 with fail
  refine wp_region_lin (.op 0 (.op 1 (.op 2 (.op 3 (.op 4 (.op 5 (.op 6 (.op 7 (.op 8 (.op 9 .done)))))))))) (by rfl) ?_
  refine wpT_ld0 30 Tryd.underlying35 rfl inf_sec (b1) (BR k1 k2 k3 true) rfl rfl rfl (by go_simp) (M20.row (by simp)) (by simp [BR_size, h1, h2, h3, h4, h5, hA, hD]) rfl ?_
  refine wpT_valL 31 (v := .agg (cs U8 (zs 32))) rfl rfl rfl (by have q := xb_k0 w19; go_simp) ?_
  refine wpT_valL 32 (v := .agg (cs U8 (zs 32))) rfl rfl rfl (by have q := xb_k0 w19; go_simp) ?_
  refine wpT_callv 33 M20 (v := .tuple #[.agg (cs U8 (zs 32)), .int .i64 7]) rfl rfl rfl (by go_simp) (answer_c w19 (zs 32) (zs 32) k1 k2 k3 (zs 32) true 7 (by simp [zs]) (by simp [zs]) h1 h2 h3 (by simp [zs]) (hs_at HS3 M20.end_)) (fun w21 M22 => ?_)
  try simp only [Act.put, List.setIfInBounds_toArray, List.set_cons_succ, List.set_cons_zero]
  refine wpT_valp 29 (v := .tuple #[.agg (cs U8 (zs 32)), .int .i64 7]) rfl rfl rfl (by go_simp) ?_
  refine wpT_valp 34 (v := .agg (cs U8 (zs 32))) rfl rfl rfl (by go_simp) ?_
  refine wpT_valp 35 (v := .int .i64 7) rfl rfl rfl (by go_simp) ?_
  refine wpT_new (z := .agg (cs U8 (zs 32))) 6 M22 (by kernel_rfl) (by decide) rfl rfl rfl rfl (fun b23 w24 M25 => ?_)
  try dsimp only [Value.cells] at M25
  refine wpT_st0 M25 0 (cs U8 (zs 32)) inf_key rfl rfl rfl rfl (by go_simp) (by go_simp) (by simp [BR_size, h1, h2, h3, h4, h5, hA, hD]) (by simp [BR_size, h1, h2, h3, h4, h5, hA, hD]) (by simp [go_sem]) rfl (fun w26 M27 => ?_)
  dsimp only [List.set] at M27
  try simp only [Act.put, List.setIfInBounds_toArray, List.set_cons_succ, List.set_cons_zero]
  refine wpT_valp 7 (v := .int .i64 7) rfl rfl rfl (by go_simp) ?_
  dsimp only [wpT]
  try simp only [Act.put, List.setIfInBounds_toArray, List.set_cons_succ, List.set_cons_zero]
  go_upto_region 5 with fail
  refine wp_region_lin (.op 0 (.op 1 (.op 2 (.op 3 (.op 4 (.op 5 (.op 6 (.op 7 (.op 8 (.op 9 (.op 10 (.op 11 (.op 12 (.op 13 (.op 14 (.op 15 (.op 16 (.op 17 (.op 18 (.op 19 (.op 20 .done))))))))))))))))))))) (by rfl) ?_
  refine wpT_valp 36 (v := .int .i64 0) rfl rfl rfl (by go_simp) ?_
  refine wpT_valp 37 (v := .bool true) rfl rfl rfl (by go_simp) ?_
  refine wpT_valp 38 (v := .bool true) rfl rfl rfl (by go_simp) ?_
  refine wpT_valp 39 (v := .int .i64 0) rfl rfl (by simp [Region.wanted, yielded, Act.put]) (by go_simp) ?_
  try simp only [Act.put, List.setIfInBounds_toArray, List.set_cons_succ, List.set_cons_zero]
  refine wpT_valp 40 (v := .bool true) rfl rfl (by simp [Region.wanted, yielded, Act.put]) (by go_simp) ?_
  refine wpT_valp 41 (v := .bool true) rfl rfl rfl (by go_simp) ?_
  refine wpT_valp 42 (v := .bool true) rfl rfl rfl (by go_simp) ?_
  refine wpT_ld0 43 Tryd.underlying23 rfl inf_key (b10) (cs U8 D) rfl rfl rfl (by go_simp) (M27.row (by simp)) (by simp [BR_size, h1, h2, h3, h4, h5, hA, hD]) (by simp [Region.wanted, yielded, Act.put]) ?_
  refine wpT_ld0 44 Tryd.underlying23 rfl inf_key (b17) (cs U8 D) rfl rfl rfl (by go_simp) (M27.row (by simp)) (by simp [BR_size, h1, h2, h3, h4, h5, hA, hD]) (by simp [Region.wanted, yielded, Act.put]) ?_
  try simp only [Act.put, List.setIfInBounds_toArray, List.set_cons_succ, List.set_cons_zero]
  refine wpT_valp 45 (v := .bool true) rfl rfl (by simp [Region.wanted, yielded, Act.put]) (by have q := eqD w26 D hD; go_simp) ?_
  refine wpT_valp 46 (v := .bool true) rfl rfl rfl (by go_simp) ?_
  refine wpT_valp 47 (v := .bool true) rfl rfl rfl (by go_simp) ?_
  refine wpT_ld0 48 Tryd.underlying23 rfl inf_key (b10) (cs U8 D) rfl rfl rfl (by go_simp) (M27.row (by simp)) (by simp [BR_size, h1, h2, h3, h4, h5, hA, hD]) (by simp [Region.wanted, yielded, Act.put]) ?_
  refine wpT_valL 49 (v := .agg (cs U8 (zs 32))) rfl rfl (by simp [Region.wanted, yielded, Act.put]) (by have q := xb_k0 w26; go_simp) ?_
  try simp only [Act.put, List.setIfInBounds_toArray, List.set_cons_succ, List.set_cons_zero]
  refine wpT_valp 50 (v := .bool true) rfl rfl (by simp [Region.wanted, yielded, Act.put]) (by have q := neD w26 D hD HN.out; have q2 := HN2.out; go_simp) ?_
  refine wpT_valp 51 (v := .bool true) rfl rfl rfl (by go_simp) ?_
  refine wpT_valp 52 (v := .bool true) rfl rfl rfl (by go_simp) ?_
  refine wpT_valp 53 (v := .int .i64 7) rfl rfl (by simp [Region.wanted, yielded, Act.put]) (by go_simp) ?_
  refine wpT_valp 54 (v := .bool true) rfl rfl (by simp [Region.wanted, yielded, Act.put]) (by go_simp) ?_
  try simp only [Act.put, List.setIfInBounds_toArray, List.set_cons_succ, List.set_cons_zero]
  refine wpT_valp 55 (v := .bool true) rfl rfl rfl (by go_simp) ?_
  refine wpT_valp 0 (v := .bool true) rfl rfl rfl (by go_simp) ?_
  dsimp only [wpT]
  try simp only [Act.put, List.setIfInBounds_toArray, List.set_cons_succ, List.set_cons_zero]
  go_wp2_with fail
  go_ret
  exact ⟨rfl, M27.end_⟩
theorem alive19_v {w0 w : World} (hT : KT w0 ∧ 0 < w0.heap.size) (hw : Below w0.heap.size w0 w) : Calls Tryd.prog 11 #[] w fun e w' => e = .returned (.bool true) ∧ Below w.heap.size w w' :=
  alive19_c w ⟨hT.1.below hw hT.2, Nat.lt_of_lt_of_le hT.2 hw.size⟩
set_option maxRecDepth 100000 in
set_option maxHeartbeats 4000000 in
theorem SetupShared_w (w : World) (a f L P O : L8) (h : Bool) (hT : KT w ∧ 0 < w.heap.size) (ha : a.length = 32) (hf : f.length = 32) (hL : L.length = 32) (hP : P.length = 32) (hO : O.length = 32) :
    Calls Tryd.prog 5 #[.agg (cs U8 a), .agg (cs U8 f), .agg (BR L P O h)] w fun e w' => e = .returned (.bool true) ∧ Below w.heap.size w w' := by
  obtain ⟨X, eX⟩ : ∃ X, X = Su.pub L := ⟨_, rfl⟩
  obtain ⟨Y, eY⟩ : ∃ Y, Y = Su.pub P := ⟨_, rfl⟩
  obtain ⟨Z, eZ⟩ : ∃ Z, Z = Su.once O h := ⟨_, rfl⟩
  obtain ⟨A, eA⟩ : ∃ A, A = Su.pub a := ⟨_, rfl⟩
  obtain ⟨F, eF⟩ : ∃ F, F = Su.pub f := ⟨_, rfl⟩
  have hX : X.length = 32 := by rw [eX]; exact pub_len _
  have hY : Y.length = 32 := by rw [eY]; exact pub_len _
  have hZ : Z.length = 32 := by rw [eZ]; unfold Su.once; split; exact pub_len _; rfl
  have hA : A.length = 32 := by rw [eA]; exact pub_len _
  have hF : F.length = 32 := by rw [eF]; exact pub_len _
  obtain ⟨D, eD⟩ : ∃ D, D = Su.sec (Su.ps a f X Y Z h) := ⟨_, rfl⟩
  have hD : D.length = 32 := by rw [eD]; exact derive_len ..
  have q : Su.parts (Su.ps a f X Y Z h) = Su.parts (Su.qs A F L P O h) := by
    have z1 := shv_swap a P ha hP
    have z2 := shv_swap f L hf hL
    have z3 := shv_swap f P hf hP
    have z4 := shv_swap f O hf hO
    cases h <;> simp [Su.ps, Su.qs, Su.parts, Su.once, eX, eY, eZ, eA, eF, z1, z2, z3, z4]
  have g1 : Su.good (Su.ps a f X Y Z h) := by
    have z1 := shv_pub_ne a P ha hP
    have z2 := shv_pub_ne f L hf hL
    have z3 := shv_pub_ne f P hf hP
    have z4 := shv_pub_ne f O hf hO
    intro p hp
    cases h <;> simp [Su.ps, Su.once, eX, eY, eZ] at hp
    · rcases hp with rfl | rfl | rfl <;> assumption
    · rcases hp with rfl | rfl | rfl | rfl <;> assumption
  have g2 : Su.good (Su.qs A F L P O h) := by
    have z1 := shv_pub_ne P a hP ha
    have z2 := shv_pub_ne L f hL hf
    have z3 := shv_pub_ne P f hP hf
    have z4 := shv_pub_ne O f hO hf
    intro p hp
    cases h <;> simp [Su.qs, eA, eF] at hp
    · rcases hp with rfl | rfl | rfl <;> assumption
    · rcases hp with rfl | rfl | rfl | rfl <;> assumption
  have HS1 := secret_v (w0 := w) (D := D) (l := Su.ps a f X Y Z h) hT (by intro p hp; cases h <;> simp [Su.ps] at hp <;> rcases hp with rfl | rfl | rfl | rfl <;> exact ⟨by assumption, by assumption⟩) g1 (by simp [Su.ps]) (by cases h <;> simp [Su.ps]) eD
  have HS2 := secret_v (w0 := w) (D := D) (l := Su.qs A F L P O h) hT (by intro p hp; cases h <;> simp [Su.qs] at hp <;> rcases hp with rfl | rfl | rfl | rfl <;> exact ⟨by assumption, by assumption⟩) g2 (by simp [Su.qs]) (by cases h <;> simp [Su.qs]) (by rw [eD]; exact sec_same q)
  have HX := hid eX
  have HY := hid eY
  have HZ := hid eZ
  have HA := hid eA
  have HF := hid eF
  have HT := hid hT
  clear eX eY eZ eA eF eD q g1 g2 hT
  have M0 := Mm.start no w
  go_enter Tryd.func5, Tryd.ntmps5
  have M2 := (((M0.alloc (cs U8 a) 23 (by decide)).alloc (cs U8 f) 23 (by decide)).alloc (BR L P O h) 25 (by decide))
  try simp only [World.size_alloc] at M2
  go_upto_region 1 with fail
  obtain ⟨w1, hw1⟩ : ∃ w1, w1 = (((w.alloc (.cells (cs U8 a) 23)).alloc (.cells (cs U8 f) 23)).alloc (.cells (BR L P O h) 25)) := ⟨_, rfl⟩
  rw [← hw1] at M2 ⊢
  clear hw1
  refine wp_region_lin (.op 0 (.op 1 .done)) (by rfl) ?_
  refine wpT_callv 11 M2 (v := .bool true) rfl rfl rfl (by go_simp) (alive19_v HT.out M2.end_) (fun w3 M4 => ?_)
  refine wpT_valp 12 (v := .bool false) rfl rfl rfl (by go_simp) ?_
  dsimp only [wpT]
  try simp only [Act.put, List.setIfInBounds_toArray, List.set_cons_succ, List.set_cons_zero]
  go_upto_region 3 with fail
  refine wp_region_seq 10 [14, 15, 16, 17, 18, 19, 13, 20, 21, 7] [] [8] [] (.op 10 (.op 11 .done)) (Mm no w _) (by kernel_rfl) (by kernel_rfl) (by kernel_rfl) (fun d _ _ _ _ h => by cases d <;> exact h) (by rfl) M4.size (fun _ _ h k => h.sf k) M4 ?_
  simp only [List.take_succ_cons, List.take_zero]
  refine SeqA.ld0 Tryd.underlying23 rfl inf_key (w.heap.size) (cs U8 a) rfl (by go_simp) (fun _ M => M.row (by simp)) (by simp [BR_size, ha, hf, hL, hP, hO, hD]) rfl ?_
  refine SeqA.ld0 Tryd.underlying23 rfl inf_key (w.heap.size + 1) (cs U8 f) rfl (by go_simp) (fun _ M => M.row (by simp)) (by simp [BR_size, ha, hf, hL, hP, hO, hD]) rfl ?_
  refine SeqA.ld0 Tryd.underlying25 rfl inf_rk (w.heap.size + 1 + 1) (BR L P O h) rfl (by go_simp) (fun _ M => M.row (by simp)) (by simp [BR_size, ha, hf, hL, hP, hO, hD]) rfl ?_
  refine SeqA.call _ _ _ (fun w' => by go_simp) (fun w' hI _ => secrets_c w' L P O h hL hP hO) M4.size rfl rfl ?_
  refine SeqA.call _ _ _ (fun w' => by go_simp) (fun w' hI _ => show_c w' L P O X Y Z h hL hP hO HX.out HY.out HZ.out) M4.size rfl rfl ?_
  simp only [Act.put, List.setIfInBounds_toArray, List.set_cons_succ, List.set_cons_zero]
  refine SeqA.call _ _ _ (fun w' => by go_simp) (fun w' hI _ => start_c w' a f X Y Z D h 0 ha hf hX hY hZ hD (hs_at HS1 hI.end_)) M4.size rfl rfl ?_
  refine SeqA.pure (.tuple #[.agg (cs U8 D), .int .i64 0]) (fun w' => by go_simp) rfl rfl ?_
  refine SeqA.pure (.agg (cs U8 D)) (fun w' => by go_simp) rfl rfl ?_
  refine SeqA.pure (.int .i64 0) (fun w' => by go_simp) rfl rfl ?_
  refine SeqA.var (z := .agg (cs U8 (zs 32))) (by kernel_rfl) rfl rfl (by decide) rfl ?_
  refine SeqA.nil (fun w5 M6 hz => ?_)
  refine news_one (fun b7 hb1 hb2 hb3 => ?_)
  have M8 := M4.in_ (c := cs U8 (zs 32)) M6 hb1 hb2 (by decide) hb3 rfl
  show wpT _ _ _ _ _ _
  simp only [Act.put, List.setIfInBounds_toArray, List.set_cons_succ, List.set_cons_zero]
  refine wpT_st0 M8 0 (cs U8 D) inf_key rfl rfl rfl rfl (by go_simp) (by go_simp) (by simp [BR_size, ha, hf, hL, hP, hO, hD]) (by simp [BR_size, ha, hf, hL, hP, hO, hD]) (by simp [go_sem]) rfl (fun w9 M10 => ?_)
  dsimp only [List.set] at M10
  refine wpT_vald 8 (v := .int .i64 0) rfl rfl rfl rfl ?_
  dsimp only [wpT]
  simp only [Act.put, List.setIfInBounds_toArray, List.set_cons_succ, List.set_cons_zero]
  go_upto_region 4 with fail
  refine wp_region_seq 11 [23, 24, 25, 26, 27, 28, 29, 22, 30, 31, 9] [] [9] [] (.op 11 (.op 12 .done)) (Mm no w _) (by kernel_rfl) (by kernel_rfl) (by kernel_rfl) (fun d _ _ _ _ h => by cases d <;> exact h) (by rfl) M10.size (fun _ _ h k => h.sf k) M10 ?_
  simp only [List.take_succ_cons, List.take_zero]
  refine SeqA.ld0 Tryd.underlying25 rfl inf_rk (w.heap.size + 1 + 1) (BR L P O h) rfl (by go_simp) (fun _ M => M.row (by simp)) (by simp [BR_size, ha, hf, hL, hP, hO, hD]) rfl ?_
  refine SeqA.call _ _ _ (fun w' => by go_simp) (fun w' hI _ => secrets_c w' L P O h hL hP hO) M10.size rfl rfl ?_
  refine SeqA.ld0 Tryd.underlying23 rfl inf_key (w.heap.size) (cs U8 a) rfl (by go_simp) (fun _ M => M.row (by simp)) (by simp [BR_size, ha, hf, hL, hP, hO, hD]) rfl ?_
  refine SeqA.call _ _ _ (fun w' => by go_simp) (fun w' hI _ => pub_v w' a A ha HA.out) M10.size rfl rfl ?_
  refine SeqA.ld0 Tryd.underlying23 rfl inf_key (w.heap.size + 1) (cs U8 f) rfl (by go_simp) (fun _ M => M.row (by simp)) (by simp [BR_size, ha, hf, hL, hP, hO, hD]) rfl ?_
  simp only [Act.put, List.setIfInBounds_toArray, List.set_cons_succ, List.set_cons_zero]
  refine SeqA.call _ _ _ (fun w' => by go_simp) (fun w' hI _ => pub_v w' f F hf HF.out) M10.size rfl rfl ?_
  refine SeqA.call _ _ _ (fun w' => by go_simp) (fun w' hI _ => answer_c w' A F L P O D h 0 hA hF hL hP hO hD (hs_at HS2 hI.end_)) M10.size rfl rfl ?_
  refine SeqA.pure (.tuple #[.agg (cs U8 D), .int .i64 0]) (fun w' => by go_simp) rfl rfl ?_
  refine SeqA.pure (.agg (cs U8 D)) (fun w' => by go_simp) rfl rfl ?_
  refine SeqA.pure (.int .i64 0) (fun w' => by go_simp) rfl rfl ?_
  refine SeqA.var (z := .agg (cs U8 (zs 32))) (by kernel_rfl) rfl rfl (by decide) rfl ?_
  refine SeqA.nil (fun w11 M12 hz => ?_)
  refine news_one (fun b13 hb1 hb2 hb3 => ?_)
  have M14 := M10.in_ (c := cs U8 (zs 32)) M12 hb1 hb2 (by decide) hb3 rfl
  show wpT _ _ _ _ _ _
  simp only [Act.put, List.setIfInBounds_toArray, List.set_cons_succ, List.set_cons_zero]
  refine wpT_st0 M14 0 (cs U8 D) inf_key rfl rfl rfl rfl (by go_simp) (by go_simp) (by simp [BR_size, ha, hf, hL, hP, hO, hD]) (by simp [BR_size, ha, hf, hL, hP, hO, hD]) (by simp [go_sem]) rfl (fun w15 M16 => ?_)
  dsimp only [List.set] at M16
  refine wpT_vald 10 (v := .int .i64 0) rfl rfl rfl rfl ?_
  dsimp only [wpT]
  simp only [Act.put, List.setIfInBounds_toArray, List.set_cons_succ, List.set_cons_zero]
  go_upto_region 5 with fail
  refine wp_region_lin (.op 0 (.op 1 (.op 2 (.op 3 (.op 4 (.op 5 (.op 6 (.op 7 (.op 8 (.op 9 (.op 10 (.op 11 .done)))))))))))) (by rfl) ?_
  refine wpT_valp 32 (v := .int .i64 0) rfl rfl rfl (by go_simp) ?_
  refine wpT_valp 33 (v := .bool true) rfl rfl rfl (by go_simp) ?_
  refine wpT_valp 34 (v := .bool true) rfl rfl rfl (by go_simp) ?_
  refine wpT_valp 35 (v := .int .i64 0) rfl rfl (by simp [Region.wanted, yielded, Act.put]) (by go_simp) ?_
  try simp only [Act.put, List.setIfInBounds_toArray, List.set_cons_succ, List.set_cons_zero]
  refine wpT_valp 36 (v := .bool true) rfl rfl (by simp [Region.wanted, yielded, Act.put]) (by go_simp) ?_
  refine wpT_valp 37 (v := .bool true) rfl rfl rfl (by go_simp) ?_
  refine wpT_valp 38 (v := .bool true) rfl rfl rfl (by go_simp) ?_
  refine wpT_ld0 39 Tryd.underlying23 rfl inf_key (b7) (cs U8 D) rfl rfl rfl (by go_simp) (M16.row (by simp)) (by simp [BR_size, ha, hf, hL, hP, hO, hD]) (by simp [Region.wanted, yielded, Act.put]) ?_
  refine wpT_ld0 40 Tryd.underlying23 rfl inf_key (b13) (cs U8 D) rfl rfl rfl (by go_simp) (M16.row (by simp)) (by simp [BR_size, ha, hf, hL, hP, hO, hD]) (by simp [Region.wanted, yielded, Act.put]) ?_
  try simp only [Act.put, List.setIfInBounds_toArray, List.set_cons_succ, List.set_cons_zero]
  refine wpT_valp 41 (v := .bool true) rfl rfl (by simp [Region.wanted, yielded, Act.put]) (by have q := eqD w15 D hD; go_simp) ?_
  refine wpT_valp 42 (v := .bool true) rfl rfl rfl (by go_simp) ?_
  refine wpT_valp 6 (v := .bool true) rfl rfl rfl (by go_simp) ?_
  dsimp only [wpT]
  try simp only [Act.put, List.setIfInBounds_toArray, List.set_cons_succ, List.set_cons_zero]
  go_wp2_with fail
  go_ret
  exact ⟨rfl, M16.end_⟩
end Go.Proofs.YtgclegdgngldoaaDoor
