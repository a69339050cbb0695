/-
  Package setup: the secret of pairs; own work.
-/
import Derived.Test.YtgclegdgngldoaaDoorSu1
set_option linter.unusedSimpArgs false
set_option linter.unusedVariables false
namespace Go.Proofs.YtgclegdgngldoaaDoor
open Go.RowKit Fp
theorem xb_k0 (w : World) : exBuild Tryd.prog 23 #[] w = .ok (.value (.agg (cs U8 (zs 32)))) w := by
  unfold exBuild; rw [run_build w _ _ (cs U8 (zs 32)) (by kernel_rfl)]; rfl
section
variable {P : Program} {ops : Array Oper} {Q : Exit → Act → World → Prop} {i : Nat} {t : Tr} {a : Act} {o : Oper} {w : World}
/-- a load whose outcome is known -/
theorem wpT_ldx {T : TypeId} {p : Operand} (dst : Nat) (A v : Value) (hdst : o.dst = some dst) (ho : ops[i]? = some o) (hop : o.op = .load T p) (hp : a.eval p = A) (hq : exLoad P T A w = .ok (.value v) w) (hw : Region.wanted o (yielded ops a.tmps) = true)
    (h : wpT P ops Q t (a.put (some dst) v) w) : wpT P ops Q (.op i t) a w :=
  wpT_val (w' := w) (v := v) ho hw (by
    obtain ⟨dst, op, ty, pos, after, guard⟩ := o
    subst hop
    rw [x_load, hp, hq]) (by rw [hdst]; exact h)
end
def cat2 (p : L8 × L8) : L8 := p.1 ++ p.2
theorem parts_take (l : List (L8 × L8)) (i : Nat) (hi : i < l.length) : Su.parts (l.take i) ++ K (shv (l.getD i ([], [])).1 (l.getD i ([], [])).2) = Su.parts (l.take (i + 1)) := by
  rw [List.take_succ_eq_append_getElem hi, parts_append, List.getD_eq_getElem?_getD, List.getElem?_eq_getElem hi]
  simp [Su.parts]
attribute [local irreducible] BR Su.pub Su.parts Sh.mac Sh.derive
set_option maxRecDepth 100000 in
set_option maxHeartbeats 2000000 in
theorem secret_ok (w : World) (l : List (L8 × L8)) (v : Value) (D : L8) (hT : KT w ∧ 0 < w.heap.size) (hv : PS w v (l.map cat2)) (h32 : ∀ p ∈ l, p.1.length = 32 ∧ p.2.length = 32) (hg : Su.good l) (h0 : 0 < l.length) (h9 : l.length ≤ 9) (eD : D = Su.sec l) :
    Calls Tryd.prog 33 #[v] w fun e w' => e = .returned (.tuple #[.agg (cs U8 D), .int .i64 0]) ∧ Below w.heap.size w w' := by
  obtain ⟨lb, elb⟩ : ∃ lb, lb = Su.lab := ⟨_, rfl⟩
  have hlb : lb.length = 14 := by rw [elb]; rfl
  obtain ⟨E, eE⟩ : ∃ E, E = Sh.mac lb (Su.parts l) := ⟨_, rfl⟩
  have hE : E.length = 32 := by rw [eE]; unfold Sh.mac; rfl
  have hD' : D = Sh.derive E Su.setupB := by rw [eD, eE, elb]; rfl
  have hD : D.length = 32 := by rw [hD']; exact derive_len ..
  have hPl : (Su.parts l).length ≤ 1000 := by rw [parts_len]; omega
  have HLB : Hid (lb = [112, 105, 103, 101, 111, 110, 114, 121, 32, 115, 101, 116, 117, 112]) := hid elb
  have HE := hid eE
  have HD := hid hD'
  have HT := hid hT
  have HG := hid hg
  clear elb eE hD' eD hT hg
  obtain ⟨a0, cp, rfl, hc0, hm0, -⟩ := id hv
  obtain ⟨gp, op, e, hpc⟩ := hv.key (by rw [List.length_map]; omega)
  subst e
  rw [List.length_map] at hc0 hm0
  obtain ⟨n, hn⟩ : ∃ n, (l.map cat2).length = n := ⟨_, rfl⟩
  have hnl : l.length = n := by rw [← hn, List.length_map]
  rw [hn]
  have HPCS : Hid (∀ i, i < n → ∀ w', Below w.heap.size w w' → PC w' gp (op + i * 64) ((l.getD i ([], [])).1 ++ (l.getD i ([], [])).2)) := hid fun i hi w' h => by
    have h1 := (hpc i (by rw [hn]; exact hi)).below h
    rw [List.getD_eq_getElem?_getD, List.getElem?_map, List.getElem?_eq_getElem (show i < l.length by omega)] at h1
    rw [List.getD_eq_getElem?_getD, List.getElem?_eq_getElem (show i < l.length by omega)]
    exact h1
  have H32 := hid h32
  clear hv hpc hn h32
  have M0 := Mm.start no w
  go_enter Tryd.func33, Tryd.ntmps33
  have M2 := (M0.alloc (cs U8 (zs 32)) 23 (by decide))
  try simp only [World.size_alloc] at M2
  go_upto_region 1 with fail
  obtain ⟨w1, hw1⟩ : ∃ w1, w1 = (w.alloc (.cells (cs U8 (zs 32)) 23)) := ⟨_, rfl⟩
  rw [← hw1] at M2 ⊢
  clear hw1
  refine wp_region_lin (.op 0 .done) (by rfl) ?_
  refine wpT_valp 4 (v := (.slice none 0 0)) rfl rfl rfl (by go_simp) ?_
  dsimp only [wpT]
  try simp only [Act.put, List.setIfInBounds_toArray, List.set_cons_succ, List.set_cons_zero]
  go_upto_region 2 with fail
  refine wp_region_lin (.op 0 (.op 1 (.op 2 .done))) (by rfl) ?_
  refine wpT_valp 9 (v := .slice (some ⟨gp, op, none⟩) n cp) rfl rfl rfl (by go_simp) ?_
  refine wpT_valp 10 (v := .int .i64 n) rfl rfl rfl (by go_simp) ?_
  refine wpT_valp 11 (v := .int .i64 0) rfl rfl rfl (by go_simp) ?_
  dsimp only [wpT]
  try simp only [Act.put, List.setIfInBounds_toArray, List.set_cons_succ, List.set_cons_zero]
  go_wp2_with fail
  go_loopw [4, 11] (fun u x wr => ∃ i : Nat, i ≤ n ∧ x = .int .i64 i ∧ OB wr (w.heap.size + 1) u (Su.parts (l.take i)) ∧ Mm no w [(w.heap.size, cs U8 (zs 32))] wr) (fun _ x _ => n - (intOf x).toNat)
  case atStart => exact ⟨0, by omega, rfl, by rw [List.take_zero]; unfold Su.parts; exact OB.nil _ _, M2⟩
  case round =>
    clear M2 M0
    obtain ⟨i, hi, rfl, OU, M⟩ := hrel
    by_cases hin : i < n
    · skip
      have hlt : (i : Int) < (n : Int) := by omega
      have hi0 : (0 : Int) ≤ (i : Int) := by omega
      obtain ⟨a, ea⟩ : ∃ a, a = (l.getD i ([], [])).1 := ⟨_, rfl⟩
      obtain ⟨b, eb⟩ : ∃ b, b = (l.getD i ([], [])).2 := ⟨_, rfl⟩
      have hmem : l.getD i ([], []) ∈ l := by
        rw [List.getD_eq_getElem?_getD, List.getElem?_eq_getElem (show i < l.length by omega)]; exact List.getElem_mem _
      have ha : a.length = 32 := by rw [ea]; exact (H32.out _ hmem).1
      have hb : b.length = 32 := by rw [eb]; exact (H32.out _ hmem).2
      have HPC : Hid (∀ w', Below w.heap.size w w' → PC w' gp (op + i * 64) (a ++ b)) := hid (by rw [ea, eb]; exact HPCS.out i (by omega))
      obtain ⟨S1, MR, hS1, hT1⟩ := M.rebase
      have M := MR
      have HT1 := hid hT1
      have hne : shv a b ≠ 0 := by rw [ea, eb]; exact HG.out _ hmem
      obtain ⟨X, eX⟩ : ∃ X, X = K (shv a b) := ⟨_, rfl⟩
      have hX : X.length = 32 := by rw [eX]; exact K_len _
      have HX := hid eX
      have hpl : (Su.parts (l.take i)).length = 32 * i := by rw [parts_len, List.length_take]; congr 1; omega
      have HPS := hid (show Su.parts (l.take i) ++ X = Su.parts (l.take (i + 1)) by rw [eX, ea, eb]; exact parts_take l i (by omega))
      clear ea eb eX hmem
      go_upto_region 4 with fail
      refine wp_region_lin (.op 0 (.op 1 (.op 2 (.op 3 .done)))) (by rfl) ?_
      refine wpT_valp 13 (v := .pointer (some ⟨gp, op + i * 64, none⟩)) rfl rfl rfl (by go_simp) ?_
      refine wpT_ldx 14 (.pointer (some ⟨gp, op + i * 64, none⟩)) (.agg (cs U8 (a ++ b))) rfl rfl rfl (by go_simp) (HPC.out _ (HT1.out _ _ M).end_).load rfl ?_
      refine wpT_new (z := .agg (cs U8 (zs 64))) 6 M (by kernel_rfl) (by decide) rfl rfl rfl rfl (fun b1 w2 M3 => ?_)
      try dsimp only [Value.cells] at M3
      refine wpT_st0 M3 0 (cs U8 (a ++ b)) inf_pr2 rfl rfl rfl rfl (by go_simp) (by go_simp) (by simp [ha, hb, hX]) (by simp [ha, hb, hX]) (by simp [go_sem]) rfl (fun w4 M5 => ?_)
      dsimp only [List.set] at M5
      dsimp only [wpT]
      try simp only [Act.put, List.setIfInBounds_toArray, List.set_cons_succ, List.set_cons_zero]
      go_upto_region 5 with fail
      refine wp_region_lin (.op 0 (.op 1 (.op 2 (.op 3 (.op 4 (.op 5 (.op 6 (.op 7 (.op 8 (.op 9 (.op 10 .done))))))))))) (by rfl) ?_
      refine wpT_valp 16 (v := .pointer (some ⟨b1, 0, none⟩)) rfl rfl rfl (by go_simp) ?_
      refine wpT_ldm 17 Tryd.underlying23 rfl inf_key (b1) 0 (cs U8 (a ++ b)) (cs U8 a) rfl rfl rfl (by go_simp) (M5.row (by simp)) (by simp [ha, hb, hX]) (by rw [cs_extract] <;> congr 1 <;> first | (simp [ha, hb, hX]; done) | simp [List.take_append, List.drop_append, List.take_of_length_le, ha, hb, hX]) rfl ?_
      refine wpT_valp 18 (v := .pointer (some ⟨b1, 32, none⟩)) rfl rfl rfl (by go_simp) ?_
      refine wpT_ldm 19 Tryd.underlying23 rfl inf_key (b1) 32 (cs U8 (a ++ b)) (cs U8 b) rfl rfl rfl (by go_simp) (M5.row (by simp)) (by simp [ha, hb, hX]) (by rw [cs_extract] <;> congr 1 <;> first | (simp [ha, hb, hX]; done) | simp [List.take_append, List.drop_append, List.take_of_length_le, ha, hb, hX]) rfl ?_
      try simp only [Act.put, List.setIfInBounds_toArray, List.set_cons_succ, List.set_cons_zero]
      refine wpT_callv 20 M5 (v := .tuple #[.agg (cs U8 X), .int .i64 0]) rfl rfl rfl (by go_simp) (shr_ok w4 a b X ha hb hne HX.out) (fun w6 M7 => ?_)
      refine wpT_valp 15 (v := .tuple #[.agg (cs U8 X), .int .i64 0]) rfl rfl rfl (by go_simp) ?_
      refine wpT_valp 21 (v := .agg (cs U8 X)) rfl rfl rfl (by go_simp) ?_
      refine wpT_valp 22 (v := .int .i64 0) rfl rfl rfl (by go_simp) ?_
      refine wpT_new (z := .agg (cs U8 (zs 32))) 7 M7 (by kernel_rfl) (by decide) rfl rfl rfl rfl (fun b8 w9 M10 => ?_)
      try dsimp only [Value.cells] at M10
      try simp only [Act.put, List.setIfInBounds_toArray, List.set_cons_succ, List.set_cons_zero]
      refine wpT_st0 M10 0 (cs U8 X) inf_key rfl rfl rfl rfl (by go_simp) (by go_simp) (by simp [ha, hb, hX]) (by simp [ha, hb, hX]) (by simp [go_sem]) rfl (fun w11 M12 => ?_)
      dsimp only [List.set] at M12
      refine wpT_valp 8 (v := .int .i64 0) rfl rfl rfl (by go_simp) ?_
      dsimp only [wpT]
      try simp only [Act.put, List.setIfInBounds_toArray, List.set_cons_succ, List.set_cons_zero]
      go_upto_region 6 with fail
      refine wp_region_lin (.op 0 (.op 1 .done)) (by rfl) ?_
      refine wpT_valp 23 (v := .int .i64 0) rfl rfl rfl (by go_simp) ?_
      refine wpT_valp 24 (v := .bool false) rfl rfl rfl (by go_simp) ?_
      dsimp only [wpT]
      try simp only [Act.put, List.setIfInBounds_toArray, List.set_cons_succ, List.set_cons_zero]
      go_upto_region 8 with fail
      refine wp_region_lin (.op 0 (.op 1 (.op 2 (.op 3 .done)))) (by rfl) ?_
      refine wpT_valp 27 (v := u4) rfl rfl rfl (by go_simp) ?_
      refine wpT_valp 28 (v := .slice (some ⟨b8, 0, none⟩) 32 32) rfl rfl rfl (by go_simp) ?_
      have O4 := OU.fr' M12.fr (fun g hg e => by
        have h1 := (OU.lt g hg).1
        have h2 := hS1 g e
        simp at h2
        omega)
      have MZ := hT1 _ _ M12
      have hw2 := MZ.lt (b := w.heap.size) (c := cs U8 (zs 32)) (by simp)
      refine wpT_apb 29 _ _ (MZ.sub (H' := [(w.heap.size, cs U8 (zs 32))]) (by simp)) (w.heap.size + 1) u4 (.slice (some ⟨b8, 0, none⟩) 32 32) (Su.parts (l.take i)) X rfl rfl rfl rfl (by go_simp) O4 (by go_simp) (BS.row (MZ.row (b := b8) (c := cs U8 X) (by simp)) hX (by unfold maxLen; decide)) (by rw [hpl, hX]; omega) (by omega) (Nat.le_add_right _ _) (fun g hg p hp => ?_) (fun u9 w9 O9 M9 => ?_)
      · have h1 := (OU.lt g hg).1
        simp only [List.mem_cons, List.not_mem_nil, or_false] at hp
        rcases hp with rfl
        show w.heap.size ≠ g; omega
      refine wpT_valp 4 (v := u9) rfl rfl rfl (by go_simp) ?_
      dsimp only [wpT]
      try simp only [Act.put, List.setIfInBounds_toArray, List.set_cons_succ, List.set_cons_zero]
      go_wp2_with fail
      rw [HPS.out] at O9
      go_roundw
      case rel => exact ⟨i + 1, by omega, by simp, O9, M9⟩
      case measure => simp only [intOf]; omega
    · obtain rfl : i = n := by omega
      rw [List.take_of_length_le (by omega)] at OU
      go_upto_region 10 with fail
      refine wp_region_lin (.op 0 (.op 1 (.op 2 (.op 3 (.op 4 (.op 5 (.op 6 .done))))))) (by rfl) ?_
      refine wpT_lit8 (len := 14) 31 32 M lb hlb (by decide) (by decide) rfl rfl rfl (by rw [HLB.out]; go_simp; rfl) rfl rfl rfl rfl rfl (fun v => by go_simp) (fun g1 w1 K1 M1 B1 _ => ?_)
      replace OU := OB.below OU B1

      refine wpT_valp 33 (v := u4) rfl rfl rfl (by go_simp) ?_
      refine wpT_callv 34 M1 (v := .agg (cs U8 E)) rfl rfl rfl (by go_simp) (ext_v HE.out HT.out M1.end_ K1 OU.bs (by omega) (by omega)) (fun w2 M2 => ?_)
      try simp only [Act.put, List.setIfInBounds_toArray, List.set_cons_succ, List.set_cons_zero]
      refine wpT_callv 35 M2 (v := .agg (cs U8 D)) rfl rfl rfl (by go_simp) (derS_v HD.out HT.out M2.end_ hE) (fun w1 M2 => ?_)
      refine wpT_st0 M2 0 (cs U8 D) inf_key rfl rfl rfl rfl (by go_simp) (by go_simp) (by simp [hE, hD]) (by simp [hE, hD]) (by simp [go_sem]) rfl (fun w3 M4 => ?_)
      dsimp only [List.set] at M4
      refine wpT_valp 3 (v := .int .i64 0) rfl rfl rfl (by go_simp) ?_
      dsimp only [wpT]
      try simp only [Act.put, List.setIfInBounds_toArray, List.set_cons_succ, List.set_cons_zero]
      go_wp2_with fail
      have r5 := M4.row (b := w.heap.size) (c := cs U8 D) (by simp)
      refine bodyPost_ret (res_two rfl (rv_row Tryd.underlying23 rfl inf_key (w.heap.size) rfl (by rw [r5]; simp [hE, hD])) (rv_tmp _ _ rfl)) rfl ?_
      rw [r5]
      exact ⟨rfl, M4.end_⟩
set_option maxRecDepth 100000 in
set_option maxHeartbeats 2000000 in
theorem secret_bad (w : World) (l : List (L8 × L8)) (v : Value) (hv : PS w v (l.map cat2)) (h32 : ∀ p ∈ l, p.1.length = 32 ∧ p.2.length = 32) (h0 : 0 < l.length) (h9 : l.length ≤ 9) (hb0 : shv (l.getD 0 ([], [])).1 (l.getD 0 ([], [])).2 = 0) :
    Calls Tryd.prog 33 #[v] w fun e w' => e = .returned (.tuple #[.agg (cs U8 (zs 32)), .int .i64 7]) ∧ Below w.heap.size w w' := by
  have HB0 := hid hb0
  clear hb0
  obtain ⟨a0, cp, rfl, hc0, hm0, -⟩ := id hv
  obtain ⟨gp, op, e, hpc⟩ := hv.key (by rw [List.length_map]; omega)
  subst e
  rw [List.length_map] at hc0 hm0
  obtain ⟨n, hn⟩ : ∃ n, (l.map cat2).length = n := ⟨_, rfl⟩
  have hnl : l.length = n := by rw [← hn, List.length_map]
  rw [hn]
  have HPCS : Hid (∀ i, i < n → ∀ w', Below w.heap.size w w' → PC w' gp (op + i * 64) ((l.getD i ([], [])).1 ++ (l.getD i ([], [])).2)) := hid fun i hi w' h => by
    have h1 := (hpc i (by rw [hn]; exact hi)).below h
    rw [List.getD_eq_getElem?_getD, List.getElem?_map, List.getElem?_eq_getElem (show i < l.length by omega)] at h1
    rw [List.getD_eq_getElem?_getD, List.getElem?_eq_getElem (show i < l.length by omega)]
    exact h1
  have H32 := hid h32
  clear hv hpc hn h32
  have M0 := Mm.start no w
  go_enter Tryd.func33, Tryd.ntmps33
  have M2 := (M0.alloc (cs U8 (zs 32)) 23 (by decide))
  try simp only [World.size_alloc] at M2
  go_upto_region 1 with fail
  obtain ⟨w1, hw1⟩ : ∃ w1, w1 = (w.alloc (.cells (cs U8 (zs 32)) 23)) := ⟨_, rfl⟩
  rw [← hw1] at M2 ⊢
  clear hw1
  refine wp_region_lin (.op 0 .done) (by rfl) ?_
  refine wpT_valp 4 (v := (.slice none 0 0)) rfl rfl rfl (by go_simp) ?_
  dsimp only [wpT]
  try simp only [Act.put, List.setIfInBounds_toArray, List.set_cons_succ, List.set_cons_zero]
  go_upto_region 2 with fail
  refine wp_region_lin (.op 0 (.op 1 (.op 2 .done))) (by rfl) ?_
  refine wpT_valp 9 (v := .slice (some ⟨gp, op, none⟩) n cp) rfl rfl rfl (by go_simp) ?_
  refine wpT_valp 10 (v := .int .i64 n) rfl rfl rfl (by go_simp) ?_
  refine wpT_valp 11 (v := .int .i64 0) rfl rfl rfl (by go_simp) ?_
  dsimp only [wpT]
  try simp only [Act.put, List.setIfInBounds_toArray, List.set_cons_succ, List.set_cons_zero]
  go_wp2_with fail
  go_loopw [4, 11] (fun u x wr => ∃ i : Nat, i = 0 ∧ x = .int .i64 i ∧ Mm no w [(w.heap.size, cs U8 (zs 32))] wr) (fun _ x _ => n - (intOf x).toNat)
  case atStart => exact ⟨0, rfl, rfl, M2⟩
  case round =>
    clear M2 M0
    obtain ⟨i, hi, rfl, M⟩ := hrel
    have hin : i < n := by omega
    have hlt : (i : Int) < (n : Int) := by omega
    have hi0 : (0 : Int) ≤ (i : Int) := by omega
    obtain ⟨a, ea⟩ : ∃ a, a = (l.getD i ([], [])).1 := ⟨_, rfl⟩
    obtain ⟨b, eb⟩ : ∃ b, b = (l.getD i ([], [])).2 := ⟨_, rfl⟩
    have hmem : l.getD i ([], []) ∈ l := by
      rw [List.getD_eq_getElem?_getD, List.getElem?_eq_getElem (show i < l.length by omega)]; exact List.getElem_mem _
    have ha : a.length = 32 := by rw [ea]; exact (H32.out _ hmem).1
    have hb : b.length = 32 := by rw [eb]; exact (H32.out _ hmem).2
    have HPC : Hid (∀ w', Below w.heap.size w w' → PC w' gp (op + i * 64) (a ++ b)) := hid (by rw [ea, eb]; exact HPCS.out i (by omega))
    obtain ⟨S1, MR, hS1, hT1⟩ := M.rebase
    have M := MR
    have HT1 := hid hT1
    have hne : shv a b = 0 := by rw [ea, eb, hi]; exact HB0.out
    clear ea eb hmem hi
    go_upto_region 4 with fail
    refine wp_region_lin (.op 0 (.op 1 (.op 2 (.op 3 .done)))) (by rfl) ?_
    refine wpT_valp 13 (v := .pointer (some ⟨gp, op + i * 64, none⟩)) rfl rfl rfl (by go_simp) ?_
    refine wpT_ldx 14 (.pointer (some ⟨gp, op + i * 64, none⟩)) (.agg (cs U8 (a ++ b))) rfl rfl rfl (by go_simp) (HPC.out _ (HT1.out _ _ M).end_).load rfl ?_
    refine wpT_new (z := .agg (cs U8 (zs 64))) 6 M (by kernel_rfl) (by decide) rfl rfl rfl rfl (fun b1 w2 M3 => ?_)
    try dsimp only [Value.cells] at M3
    refine wpT_st0 M3 0 (cs U8 (a ++ b)) inf_pr2 rfl rfl rfl rfl (by go_simp) (by go_simp) (by simp [ha, hb]) (by simp [ha, hb]) (by simp [go_sem]) rfl (fun w4 M5 => ?_)
    dsimp only [List.set] at M5
    dsimp only [wpT]
    try simp only [Act.put, List.setIfInBounds_toArray, List.set_cons_succ, List.set_cons_zero]
    go_upto_region 5 with fail
    refine wp_region_lin (.op 0 (.op 1 (.op 2 (.op 3 (.op 4 (.op 5 (.op 6 (.op 7 (.op 8 (.op 9 (.op 10 .done))))))))))) (by rfl) ?_
    refine wpT_valp 16 (v := .pointer (some ⟨b1, 0, none⟩)) rfl rfl rfl (by go_simp) ?_
    refine wpT_ldm 17 Tryd.underlying23 rfl inf_key (b1) 0 (cs U8 (a ++ b)) (cs U8 a) rfl rfl rfl (by go_simp) (M5.row (by simp)) (by simp [ha, hb]) (by rw [cs_extract] <;> congr 1 <;> first | (simp [ha, hb]; done) | simp [List.take_append, List.drop_append, List.take_of_length_le, ha, hb]) rfl ?_
    refine wpT_valp 18 (v := .pointer (some ⟨b1, 32, none⟩)) rfl rfl rfl (by go_simp) ?_
    refine wpT_ldm 19 Tryd.underlying23 rfl inf_key (b1) 32 (cs U8 (a ++ b)) (cs U8 b) rfl rfl rfl (by go_simp) (M5.row (by simp)) (by simp [ha, hb]) (by rw [cs_extract] <;> congr 1 <;> first | (simp [ha, hb]; done) | simp [List.take_append, List.drop_append, List.take_of_length_le, ha, hb]) rfl ?_
    try simp only [Act.put, List.setIfInBounds_toArray, List.set_cons_succ, List.set_cons_zero]
    refine wpT_callv 20 M5 (v := .tuple #[.agg (cs U8 (zs 32)), .int .i64 7]) rfl rfl rfl (by go_simp) (shr_bad w4 a b ha hb hne) (fun w6 M7 => ?_)
    refine wpT_valp 15 (v := .tuple #[.agg (cs U8 (zs 32)), .int .i64 7]) rfl rfl rfl (by go_simp) ?_
    refine wpT_valp 21 (v := .agg (cs U8 (zs 32))) rfl rfl rfl (by go_simp) ?_
    refine wpT_valp 22 (v := .int .i64 7) rfl rfl rfl (by go_simp) ?_
    refine wpT_new (z := .agg (cs U8 (zs 32))) 7 M7 (by kernel_rfl) (by decide) rfl rfl rfl rfl (fun b8 w9 M10 => ?_)
    try dsimp only [Value.cells] at M10
    try simp only [Act.put, List.setIfInBounds_toArray, List.set_cons_succ, List.set_cons_zero]
    refine wpT_st0 M10 0 (cs U8 (zs 32)) inf_key rfl rfl rfl rfl (by go_simp) (by go_simp) (by simp [ha, hb]) (by simp [ha, hb]) (by simp [go_sem]) rfl (fun w11 M12 => ?_)
    dsimp only [List.set] at M12
    refine wpT_valp 8 (v := .int .i64 7) rfl rfl rfl (by go_simp) ?_
    dsimp only [wpT]
    try simp only [Act.put, List.setIfInBounds_toArray, List.set_cons_succ, List.set_cons_zero]
    go_upto_region 6 with fail
    refine wp_region_lin (.op 0 (.op 1 .done)) (by rfl) ?_
    refine wpT_valp 23 (v := .int .i64 7) rfl rfl rfl (by go_simp) ?_
    refine wpT_valp 24 (v := .bool true) rfl rfl rfl (by go_simp) ?_
    dsimp only [wpT]
    try simp only [Act.put, List.setIfInBounds_toArray, List.set_cons_succ, List.set_cons_zero]
    go_upto_region 7 with fail
    refine wp_region_lin (.op 0 (.op 1 (.op 2 (.op 3 .done)))) (by rfl) ?_
    refine wpT_valL 25 (v := .agg (cs U8 (zs 32))) rfl rfl rfl (by have q := xb_k0 w11; go_simp) ?_
    refine wpT_valp 26 (v := .int .i64 7) rfl rfl rfl (by go_simp) ?_
    refine wpT_st0 M12 2 (cs U8 (zs 32)) inf_key rfl rfl rfl rfl (by go_simp) (by go_simp) (by simp [ha, hb]) (by simp [ha, hb]) (by simp [go_sem]) rfl (fun w13 M14 => ?_)
    dsimp only [List.set] at M14
    refine wpT_valp 3 (v := .int .i64 7) rfl rfl rfl (by go_simp) ?_
    dsimp only [wpT]
    try simp only [Act.put, List.setIfInBounds_toArray, List.set_cons_succ, List.set_cons_zero]
    go_wp2_with fail
    have r15 := M14.row (b := w.heap.size) (c := cs U8 (zs 32)) (by simp)
    refine bodyPost_ret (res_two rfl (rv_row Tryd.underlying23 rfl inf_key (w.heap.size) rfl (by rw [r15]; simp [ha, hb])) (rv_tmp _ _ rfl)) rfl ?_
    rw [r15]
    exact ⟨rfl, (hT1 _ _ M14).end_⟩
end Go.Proofs.YtgclegdgngldoaaDoor
