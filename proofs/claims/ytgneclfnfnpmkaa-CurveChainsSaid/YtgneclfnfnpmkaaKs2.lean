/-
  A slice of keys; chains of secrets; own work.
  Walk of package curve: Chain; own work.
  Laws of chains of secrets; slices of keys that are built; own work.
-/
import Derived.Test.YtgneclfnfnpmkaaCv7
import Derived.Test.YtgneclfnfnpmkaaLin
set_option linter.unusedSimpArgs false
set_option linter.unusedVariables false
namespace Go.Proofs.Ytgneclfnfnpmkaa
open Go.RowKit Fp
/-- the value v is a slice of the keys L -/
def KS (w : World) (v : Value) (L : List (List (BitVec 8))) : Prop :=
  ∃ a cap, v = .slice a L.length cap ∧ L.length ≤ cap ∧ L.length ≤ maxLen ∧ (∀ i, i < L.length → (L.getD i []).length = 32) ∧
    (0 < L.length → ∃ b o, a = some ⟨b, o, none⟩ ∧ ∀ i j, i < L.length → j < 32 → w.cell? ⟨b, o + i * 32 + j, none⟩ = some (U8 ((L.getD i []).getD j 0)))
theorem ext_cells {r : Array Value} {off : Nat} {k : List (BitVec 8)} (hk : 0 < k.length) (h : ∀ j, j < k.length → r[off + j]? = some (U8 (k.getD j 0))) : off + k.length ≤ r.size ∧ r.extract off (off + k.length) = cs U8 k := by
  have h1 : off + k.length ≤ r.size := by
    have := (Array.getElem?_eq_some_iff.1 (h (k.length - 1) (by omega))).1
    omega
  refine ⟨h1, ?_⟩
  apply Array.ext
  · simp; omega
  · intro i i1 i2
    have i3 : i < k.length := by simp at i1; omega
    have h2 := h i i3
    have h4 := cs_get_lt (f := U8) (l := k) (i := i) i3
    rw [(Array.getElem?_eq_some_iff.1 h4).2, Array.getElem_extract, (Array.getElem?_eq_some_iff.1 h2).2, List.getD_eq_getElem?_getD, List.getElem?_eq_getElem i3]
    rfl
section
variable {w w' : World} {L : List (List (BitVec 8))} {b o n cap : Nat} {k : List (BitVec 8)}
/-- the cells of a key of the slice -/
def KC (w : World) (b o : Nat) (k : List (BitVec 8)) : Prop := k.length = 32 ∧ ∀ j, j < 32 → w.cell? ⟨b, o + j, none⟩ = some (U8 (k.getD j 0))
theorem KC.below (h : KC w b o k) (hb : Below w.heap.size w w') : KC w' b o k := by
  refine ⟨h.1, fun j hj => ?_⟩
  rw [← h.2 j hj]
  have h0 := h.2 j hj
  rw [cell_rowOf] at h0
  exact World.cell?_of_block (a := ⟨b, o + j, none⟩) (hb.block b (row_lt (Array.getElem?_eq_some_iff.1 h0).1))
theorem KC.load (h : KC w b o k) : exLoad Try.prog 23 (.pointer (some ⟨b, o, none⟩)) w = .ok (.value (.agg (cs U8 k))) w := by
  obtain ⟨h1, h2⟩ := h
  have e := ext_cells (r := w.rowOf b) (off := o) (k := k) (by omega) (fun j hj => by rw [← cell_rowOf]; exact h2 j (by omega))
  rw [h1] at e
  rw [x_loadm w Try.underlying23 rfl inf_key b o e.1, e.2]
end
theorem KS.key {w : World} {a : Option Addr} {n cap : Nat} {L : List (List (BitVec 8))} (h : KS w (.slice a n cap) L) (h0 : 0 < L.length) : ∃ b o, a = some ⟨b, o, none⟩ ∧ ∀ i, i < L.length → KC w b (o + i * 32) (L.getD i []) := by
  obtain ⟨a', cap', e, h1, h2, h3, h4⟩ := h
  injection e with e1 e2 e3
  subst e1
  obtain ⟨b, o, e, hc⟩ := h4 h0
  exact ⟨b, o, e, fun i hi => ⟨h3 i hi, fun j hj => hc i j hi hj⟩⟩
theorem KS.below {w w' : World} {v : Value} {L : List (List (BitVec 8))} (h : KS w v L) (hb : Below w.heap.size w w') : KS w' v L := by
  have h' := h
  obtain ⟨a, cap, rfl, h1, h2, h3, h4⟩ := h
  refine ⟨a, cap, rfl, h1, h2, h3, fun h0 => ?_⟩
  obtain ⟨b, o, e, hk⟩ := h'.key h0
  exact ⟨b, o, e, fun i j hi hj => ((hk i hi).below hb).2 j hj⟩
/-- a slice in a row of its own -/
theorem KS.of_row {w : World} {b : Nat} (L : List (List (BitVec 8))) (n : Nat) (hn : L.length = n) (hm : n ≤ maxLen) (h32 : ∀ i, i < L.length → (L.getD i []).length = 32) (c : List (BitVec 8)) (hc : ∀ i j, i < L.length → j < 32 → c[i * 32 + j]? = some ((L.getD i []).getD j 0)) (h : w.rowOf b = cs U8 c) : KS w (.slice (some ⟨b, 0, none⟩) n n) L := by
  subst hn
  refine ⟨_, _, rfl, Nat.le_refl _, hm, h32, fun h0 => ⟨b, 0, rfl, fun i j hi hj => ?_⟩⟩
  rw [cell_rowOf, h, Nat.zero_add]
  have h1 := hc i j hi hj
  have h2 := (List.getElem?_eq_some_iff.1 h1)
  rw [cs_get_lt (f := U8) (l := c) h2.1, h2.2]
theorem app32 {a b : List (BitVec 8)} (ha : a.length = 32) (hb : b.length = 32) : ∀ i j, i < [a, b].length → j < 32 → (a ++ b)[i * 32 + j]? = some (([a, b].getD i []).getD j 0) := by
  intro i j hi hj
  match i, hi with
  | 0, _ => rw [List.getElem?_append_left (by omega)]; simp [List.getD_eq_getElem?_getD, List.getElem?_eq_getElem (show j < a.length by omega)]
  | 1, _ => rw [List.getElem?_append_right (by omega)]; simp [ha, List.getD_eq_getElem?_getD, List.getElem?_eq_getElem (show j < b.length by omega)]
theorem one32 {a : List (BitVec 8)} (ha : a.length = 32) : ∀ i j, i < [a].length → j < 32 → a[i * 32 + j]? = some (([a].getD i []).getD j 0) := by
  intro i j hi hj
  match i, hi with
  | 0, _ => simp [List.getD_eq_getElem?_getD, List.getElem?_eq_getElem (show j < a.length by omega)]
theorem KS.two {w : World} {b : Nat} {x y : List (BitVec 8)} (hx : x.length = 32) (hy : y.length = 32) (h : w.rowOf b = cs U8 (x ++ y)) : KS w (.slice (some ⟨b, 0, none⟩) 2 2) [x, y] :=
  KS.of_row [x, y] 2 rfl (by unfold maxLen; omega) (fun i hi => match i, hi with | 0, _ => hx | 1, _ => hy) _ (app32 hx hy) h
theorem KS.one {w : World} {b : Nat} {x : List (BitVec 8)} (hx : x.length = 32) (h : w.rowOf b = cs U8 x) : KS w (.slice (some ⟨b, 0, none⟩) 1 1) [x] :=
  KS.of_row [x] 1 rfl (by unfold maxLen; omega) (fun i hi => match i, hi with | 0, _ => hx) _ (one32 hx) h
/-- a chain from a point that is not nought -/
noncomputable def chV : F → List (List (BitVec 8)) → F × Int
  | x, [] => (x, 0)
  | x, k :: L => if gv (leN (clampB k)) x = 0 then (0, 7) else chV (gv (leN (clampB k)) x) L
noncomputable def chF (u : List (BitVec 8)) (L : List (List (BitVec 8))) : F × Int :=
  if 8 < L.length then (0, 3) else if Fk (maskB u) = 0 then (0, 7) else chV (Fk (maskB u)) L
theorem chV_nil (x : F) : chV x [] = (x, 0) := rfl
theorem chV_drop {x : F} {L : List (List (BitVec 8))} {i : Nat} (hi : i < L.length) : chV x (L.drop i) = if gv (leN (clampB (L.getD i []))) x = 0 then (0, 7) else chV (gv (leN (clampB (L.getD i []))) x) (L.drop (i + 1)) := by
  rw [List.drop_eq_getElem_cons hi]
  have e : L.getD i [] = L[i] := by rw [List.getD_eq_getElem?_getD, List.getElem?_eq_getElem hi]; rfl
  rw [e]; rfl
theorem shared_k0 (w : World) (k : List (BitVec 8)) (x : F) (hk : k.length = 32) (h : gv (leN (clampB k)) x = 0) :
    Calls Try.prog 32 #[.agg (cs U8 k), .agg (cs U8 (K x))] w fun e w' => e = .returned (.tuple #[.agg (cs U8 (zs 32)), .int .i64 7]) ∧ Below w.heap.size w w' := by
  have h1 := shared_c w k (K x) hk (by simp)
  rw [shv_K, h, K_zero] at h1; exact h1
theorem shared_k1 (w : World) (k : List (BitVec 8)) (x y : F) (hk : k.length = 32) (hy : gv (leN (clampB k)) x = y) (h : ¬ y = 0) :
    Calls Try.prog 32 #[.agg (cs U8 k), .agg (cs U8 (K x))] w fun e w' => e = .returned (.tuple #[.agg (cs U8 (K y)), .int .i64 0]) ∧ Below w.heap.size w w' := by
  have h1 := shared_c w k (K x) hk (by simp)
  rw [shv_K, hy, show ec y = 0 from if_neg h] at h1; exact h1
end Go.Proofs.Ytgneclfnfnpmkaa
set_option linter.unusedSimpArgs false
set_option linter.unusedVariables false
namespace Go.Proofs.Ytgneclfnfnpmkaa
open Go.RowKit Fp
section
variable {ops : Array Oper} {B N : Nat} {qs fs : List Nat} {K' : Act → World → Prop} {i : Nat} {o : Oper} {r : List Oper} {a : Act} {acc : List (Nat × Array Value × TypeId)} {I : World → Prop}
theorem SeqA.ldk {p : Operand} (b off : Nat) (k : List (BitVec 8)) (ho : o.op = .load 23 p) (hp : a.eval p = .pointer (some ⟨b, off, none⟩)) (hI : ∀ w, I w → KC w b off k) (hw : Region.wanted o (yielded ops a.tmps) = true)
    (h : SeqA Try.prog ops B N qs fs K' (i + 1) r (a.put o.dst (.agg (cs U8 k))) acc I) (hf : fs.contains i = false := by rfl) : SeqA Try.prog ops B N qs fs K' i (o :: r) a acc I :=
  .read (.agg (cs U8 k)) (fun w hiw => by
    obtain ⟨dst, op, ty, pos, after, guard⟩ := o
    subst ho
    rw [x_load, hp, (hI w hiw).load]) (by unfold isNewOp; rw [ho]) hw h hf
end
attribute [local irreducible] chV chF gv
set_option maxRecDepth 100000 in
set_option maxHeartbeats 4000000 in
theorem chain_c (w : World) (u : List (BitVec 8)) (v : Value) (L : List (List (BitVec 8))) (hu : u.length = 32) (hv : KS w v L) :
    Calls Try.prog 38 #[.agg (cs U8 u), v] w fun e w' => e = .returned (.tuple #[.agg (cs U8 (K (chF u L).1)), .int .i64 (chF u L).2]) ∧ Below w.heap.size w w' := by
  have hv' := hv
  obtain ⟨A, cap, rfl, -, -, -, -⟩ := hv'
  by_cases hbig : 8 < L.length
  · have hL : (8 : Int) < (L.length : Int) := by omega
    have HV := hid (show Ending.returned (.tuple #[.agg (cs U8 (zs 32)), .int .i64 3]) = Ending.returned (.tuple #[.agg (cs U8 (K (chF u L).1)), .int .i64 (chF u L).2]) by unfold chF; rw [if_pos hbig, ← K_zero])
    clear hbig
    have M0 := Mm.start no w
    go_enter Try.func38, Try.ntmps38
    have M2 := ((M0.alloc (cs U8 u) 23 (by decide)).alloc (cs U8 (zs 32)) 23 (by decide))
    try simp only [World.size_alloc] at M2
    go_upto_region 2 with fail
    obtain ⟨w1, hw1⟩ : ∃ w1, w1 = ((w.alloc (.cells (cs U8 u) 23)).alloc (.cells (cs U8 (zs 32)) 23)) := ⟨_, rfl⟩
    rw [← hw1] at M2 ⊢
    clear hw1
    refine wp_region_seqF 1 [14] [] [] [] (.op 1 (.op 2 .done)) (Mm no w _) (by kernel_rfl) (by kernel_rfl) (fun d _ _ _ _ h => by cases d <;> exact h) (by rfl) M2.size (fun _ _ h k => h.sf k) M2 (by kernel_rfl) ?_
    simp only [List.take_succ_cons, List.take_zero]
    refine SeqA.pure (.agg (cs U8 (zs 32))) (fun w' => by go_simp) rfl rfl ?_
    refine SeqA.nil (fun w3 M4 hz => ?_)
    show wpT _ _ _ _ _ _
    simp only [Act.put, List.setIfInBounds_toArray, List.set_cons_succ, List.set_cons_zero]
    refine wpT_st0 M4 0 (cs U8 (zs 32)) inf_key rfl rfl rfl rfl (by go_simp) (by go_simp) (by simp [hu]) (by simp [hu]) (by simp [go_sem]) rfl (fun w5 M6 => ?_)
    dsimp only [List.set] at M6
    refine wpT_vald 5 (v := .int .i64 3) rfl rfl rfl rfl ?_
    dsimp only [wpT]
    simp only [Act.put, List.setIfInBounds_toArray, List.set_cons_succ, List.set_cons_zero]
    go_wp2_with fail
    have r7 := M6.row (b := w.heap.size + 1) (c := cs U8 (zs 32)) (by simp)
    refine bodyPost_ret (res_two rfl (rv_row Try.underlying23 rfl inf_key (w.heap.size + 1) rfl (by rw [r7]; simp [hu])) (rv_tmp _ _ rfl)) rfl ?_
    rw [r7]
    exact ⟨HV.out, M6.end_⟩
  · have hL : ¬ (8 : Int) < (L.length : Int) := by omega
    by_cases hx0 : Fk (maskB u) = 0
    · have HE := hid (decide_eq_true hx0)
      have HV := hid (show Ending.returned (.tuple #[.agg (cs U8 (zs 32)), .int .i64 7]) = Ending.returned (.tuple #[.agg (cs U8 (K (chF u L).1)), .int .i64 (chF u L).2]) by unfold chF; rw [if_neg hbig, if_pos hx0, ← K_zero])
      clear hx0 hbig
      have M0 := Mm.start no w
      go_enter Try.func38, Try.ntmps38
      have M2 := ((M0.alloc (cs U8 u) 23 (by decide)).alloc (cs U8 (zs 32)) 23 (by decide))
      try simp only [World.size_alloc] at M2
      go_upto_region 3 with fail
      obtain ⟨w1, hw1⟩ : ∃ w1, w1 = ((w.alloc (.cells (cs U8 u) 23)).alloc (.cells (cs U8 (zs 32)) 23)) := ⟨_, rfl⟩
      rw [← hw1] at M2 ⊢
      clear hw1
      refine wp_region_seqF 3 [15, 16, 6] [] [] [] (.op 3 .done) (Mm no w _) (by kernel_rfl) (by kernel_rfl) (fun d _ _ _ _ h => by cases d <;> exact h) (by rfl) M2.size (fun _ _ h k => h.sf k) M2 (by kernel_rfl) ?_
      simp only [List.take_succ_cons, List.take_zero]
      refine SeqA.ld0 Try.underlying23 rfl inf_key (w.heap.size) (cs U8 u) rfl (by go_simp) (fun _ M => M.row (by simp)) (by simp [hu]) rfl ?_
      refine SeqA.call _ _ _ (fun w' => by go_simp) (fun w' hI _ => point_any w' u (by simp [hu])) M2.size rfl rfl ?_
      refine SeqA.var (z := .agg (cs U8 (zs 32))) (by kernel_rfl) rfl rfl (by decide) rfl ?_
      refine SeqA.nil (fun w3 M4 hz => ?_)
      refine news_one (fun b5 hb1 hb2 hb3 => ?_)
      have M6 := M2.in_ (c := cs U8 (zs 32)) M4 hb1 hb2 (by decide) hb3 rfl
      show wpT _ _ _ _ _ _
      simp only [Act.put, List.setIfInBounds_toArray, List.set_cons_succ, List.set_cons_zero]
      refine wpT_st0 M6 0 (cs U8 (K (Fk (maskB u)))) inf_key rfl rfl rfl rfl (by go_simp) (by go_simp) (by simp [hu]) (by simp [hu]) (by simp [go_sem]) rfl (fun w7 M8 => ?_)
      dsimp only [List.set] at M8
      dsimp only [wpT]
      go_upto_region 4 with fail
      refine wp_region_seqF 3 [17, 18, 19] [] [] [] (.done) (Mm no w _) (by kernel_rfl) (by kernel_rfl) (fun d _ _ _ _ h => by cases d <;> exact h) (by rfl) M8.size (fun _ _ h k => h.sf k) M8 (by kernel_rfl) ?_
      simp only [List.take_succ_cons, List.take_zero]
      refine SeqA.ld0 Try.underlying23 rfl inf_key (b5) (cs U8 (K (Fk (maskB u)))) rfl (by go_simp) (fun _ M => M.row (by simp)) (by simp [hu]) rfl ?_
      refine SeqA.pure (.agg (cs U8 (zs 32))) (fun w' => by go_simp) rfl rfl ?_
      refine SeqA.pure (.bool true) (fun w' => by have q := eq0 w' (Fk (maskB u)); rw [HE.out] at q; go_simp) rfl rfl ?_
      refine SeqA.nil (fun w9 M10 hz => ?_)
      show wpT _ _ _ _ _ _
      simp only [Act.put, List.setIfInBounds_toArray, List.set_cons_succ, List.set_cons_zero]
      dsimp only [wpT]
      go_upto_region 5 with fail
      refine wp_region_seqF 1 [20] [] [] [] (.op 1 (.op 2 .done)) (Mm no w _) (by kernel_rfl) (by kernel_rfl) (fun d _ _ _ _ h => by cases d <;> exact h) (by rfl) M10.size (fun _ _ h k => h.sf k) M10 (by kernel_rfl) ?_
      simp only [List.take_succ_cons, List.take_zero]
      refine SeqA.pure (.agg (cs U8 (zs 32))) (fun w' => by go_simp) rfl rfl ?_
      refine SeqA.nil (fun w11 M12 hz => ?_)
      show wpT _ _ _ _ _ _
      simp only [Act.put, List.setIfInBounds_toArray, List.set_cons_succ, List.set_cons_zero]
      refine wpT_st0 M12 1 (cs U8 (zs 32)) inf_key rfl rfl rfl rfl (by go_simp) (by go_simp) (by simp [hu]) (by simp [hu]) (by simp [go_sem]) rfl (fun w13 M14 => ?_)
      dsimp only [List.set] at M14
      refine wpT_vald 5 (v := .int .i64 7) rfl rfl rfl rfl ?_
      dsimp only [wpT]
      simp only [Act.put, List.setIfInBounds_toArray, List.set_cons_succ, List.set_cons_zero]
      go_wp2_with fail
      have r15 := M14.row (b := w.heap.size + 1) (c := cs U8 (zs 32)) (by simp)
      refine bodyPost_ret (res_two rfl (rv_row Try.underlying23 rfl inf_key (w.heap.size + 1) rfl (by rw [r15]; simp [hu])) (rv_tmp _ _ rfl)) rfl ?_
      rw [r15]
      exact ⟨HV.out, M14.end_⟩
    · have HE := hid (decide_eq_false hx0)
      have HF := hid (show chF u L = chV (Fk (maskB u)) L by unfold chF; rw [if_neg hbig, if_neg hx0])
      have HS := hid hv
      have HX := hid hx0
      clear hv hx0
      have M0 := Mm.start no w
      go_enter Try.func38, Try.ntmps38
      have M2 := ((M0.alloc (cs U8 u) 23 (by decide)).alloc (cs U8 (zs 32)) 23 (by decide))
      try simp only [World.size_alloc] at M2
      go_upto_region 3 with fail
      obtain ⟨w1, hw1⟩ : ∃ w1, w1 = ((w.alloc (.cells (cs U8 u) 23)).alloc (.cells (cs U8 (zs 32)) 23)) := ⟨_, rfl⟩
      rw [← hw1] at M2 ⊢
      clear hw1
      refine wp_region_seqF 3 [15, 16, 6] [] [] [] (.op 3 .done) (Mm no w _) (by kernel_rfl) (by kernel_rfl) (fun d _ _ _ _ h => by cases d <;> exact h) (by rfl) M2.size (fun _ _ h k => h.sf k) M2 (by kernel_rfl) ?_
      simp only [List.take_succ_cons, List.take_zero]
      refine SeqA.ld0 Try.underlying23 rfl inf_key (w.heap.size) (cs U8 u) rfl (by go_simp) (fun _ M => M.row (by simp)) (by simp [hu]) rfl ?_
      refine SeqA.call _ _ _ (fun w' => by go_simp) (fun w' hI _ => point_any w' u (by simp [hu])) M2.size rfl rfl ?_
      refine SeqA.var (z := .agg (cs U8 (zs 32))) (by kernel_rfl) rfl rfl (by decide) rfl ?_
      refine SeqA.nil (fun w3 M4 hz => ?_)
      refine news_one (fun b5 hb1 hb2 hb3 => ?_)
      have M6 := M2.in_ (c := cs U8 (zs 32)) M4 hb1 hb2 (by decide) hb3 rfl
      show wpT _ _ _ _ _ _
      simp only [Act.put, List.setIfInBounds_toArray, List.set_cons_succ, List.set_cons_zero]
      refine wpT_st0 M6 0 (cs U8 (K (Fk (maskB u)))) inf_key rfl rfl rfl rfl (by go_simp) (by go_simp) (by simp [hu]) (by simp [hu]) (by simp [go_sem]) rfl (fun w7 M8 => ?_)
      dsimp only [List.set] at M8
      dsimp only [wpT]
      go_upto_region 4 with fail
      refine wp_region_seqF 3 [17, 18, 19] [] [] [] (.done) (Mm no w _) (by kernel_rfl) (by kernel_rfl) (fun d _ _ _ _ h => by cases d <;> exact h) (by rfl) M8.size (fun _ _ h k => h.sf k) M8 (by kernel_rfl) ?_
      simp only [List.take_succ_cons, List.take_zero]
      refine SeqA.ld0 Try.underlying23 rfl inf_key (b5) (cs U8 (K (Fk (maskB u)))) rfl (by go_simp) (fun _ M => M.row (by simp)) (by simp [hu]) rfl ?_
      refine SeqA.pure (.agg (cs U8 (zs 32))) (fun w' => by go_simp) rfl rfl ?_
      refine SeqA.pure (.bool false) (fun w' => by have q := eq0 w' (Fk (maskB u)); rw [HE.out] at q; go_simp) rfl rfl ?_
      refine SeqA.nil (fun w9 M10 hz => ?_)
      show wpT _ _ _ _ _ _
      simp only [Act.put, List.setIfInBounds_toArray, List.set_cons_succ, List.set_cons_zero]
      dsimp only [wpT]
      go_wp2_with fail
      go_loopw [23] (fun t wr => ∃ (i : Nat) (x : F), i ≤ L.length ∧ t = .int .i64 i ∧ chV (Fk (maskB u)) L = chV x (L.drop i) ∧ Mm no w [(b5, cs U8 (K x)), (w.heap.size + 1, cs U8 (zs 32)), (w.heap.size, cs U8 u)] wr) (fun t _ => L.length - (intOf t).toNat)
      case atStart => exact ⟨0, _, Nat.zero_le _, rfl, rfl, M10⟩
      case round =>
        clear M10
        obtain ⟨i, x, hi, rfl, hch, M⟩ := hrel
        have HCh := hid hch
        clear hch
        by_cases hlt : i < L.length
        · obtain ⟨kb, ko, rfl, hkc⟩ := HS.out.key (by omega)
          obtain ⟨k, hk0⟩ : ∃ k, k = L.getD i [] := ⟨_, rfl⟩
          have HC := hkc i hlt
          rw [← hk0] at HC
          have hk : k.length = 32 := HC.1
          have hlt2 : (i : Int) < (L.length : Int) := by omega
          have hi0 : (0 : Int) ≤ (i : Int) := by omega
          have HD := hid (chV_drop (x := x) hlt)
          rw [← hk0] at HD
          have HC := fun {w'} (h : Below w.heap.size w w') => HC.below h
          clear hkc hk0
          go_upto_region 8 with fail
          by_cases h0 : gv (leN (clampB k)) x = 0
          · have HV := hid (show Ending.returned (.tuple #[.agg (cs U8 (zs 32)), .int .i64 7]) = Ending.returned (.tuple #[.agg (cs U8 (K (chF u L).1)), .int .i64 (chF u L).2]) by rw [HF.out, HCh.out, HD.out, if_pos h0, ← K_zero])
            refine wp_region_seqF 3 [25, 26, 8] [] [] [] (.op 3 .done) (Mm no w _) (by kernel_rfl) (by kernel_rfl) (fun d _ _ _ _ h => by cases d <;> exact h) (by rfl) M.size (fun _ _ h k => h.sf k) M (by kernel_rfl) ?_
            simp only [List.take_succ_cons, List.take_zero]
            refine SeqA.pure (.pointer (some ⟨kb, ko + i * 32, none⟩)) (fun w' => by go_simp) rfl rfl ?_
            refine SeqA.ldk kb (ko + i * 32) k rfl (by go_simp) (fun w' M => HC M.end_) rfl ?_
            refine SeqA.var (z := .agg (cs U8 (zs 32))) (by kernel_rfl) rfl rfl (by decide) rfl ?_
            refine SeqA.nil (fun w1 M2 hz => ?_)
            refine news_one (fun b3 hb1 hb2 hb3 => ?_)
            have M4 := M.in_ (c := cs U8 (zs 32)) M2 hb1 hb2 (by decide) hb3 rfl
            show wpT _ _ _ _ _ _
            simp only [Act.put, List.setIfInBounds_toArray, List.set_cons_succ, List.set_cons_zero]
            refine wpT_st0 M4 0 (cs U8 k) inf_key rfl rfl rfl rfl (by go_simp) (by go_simp) (by simp [hu, hk]) (by simp [hu, hk]) (by simp [go_sem]) rfl (fun w5 M6 => ?_)
            dsimp only [List.set] at M6
            dsimp only [wpT]
            go_upto_region 9 with fail
            refine wp_region_seqF 7 [28, 29, 30, 27, 31, 32, 9] [] [5] [] (.op 7 (.op 8 .done)) (Mm no w _) (by kernel_rfl) (by kernel_rfl) (fun d _ _ _ _ h => by cases d <;> exact h) (by rfl) M6.size (fun _ _ h k => h.sf k) M6 (by kernel_rfl) ?_
            simp only [List.take_succ_cons, List.take_zero]
            refine SeqA.ld0 Try.underlying23 rfl inf_key (b3) (cs U8 k) rfl (by go_simp) (fun _ M => M.row (by simp)) (by simp [hu, hk]) rfl ?_
            refine SeqA.ld0 Try.underlying23 rfl inf_key (b5) (cs U8 (K x)) rfl (by go_simp) (fun _ M => M.row (by simp)) (by simp [hu, hk]) rfl ?_
            refine SeqA.call _ _ _ (fun w' => by go_simp) (fun w' hI _ => shared_k0 w' k x hk h0) M6.size rfl rfl ?_
            refine SeqA.pure (.tuple #[.agg (cs U8 (zs 32)), .int .i64 7]) (fun w' => by go_simp) rfl rfl ?_
            refine SeqA.pure (.agg (cs U8 (zs 32))) (fun w' => by go_simp) rfl rfl ?_
            simp only [Act.put, List.setIfInBounds_toArray, List.set_cons_succ, List.set_cons_zero]
            refine SeqA.pure (.int .i64 7) (fun w' => by go_simp) rfl rfl ?_
            refine SeqA.var (z := .agg (cs U8 (zs 32))) (by kernel_rfl) rfl rfl (by decide) rfl ?_
            refine SeqA.nil (fun w7 M8 hz => ?_)
            refine news_one (fun b9 hb1 hb2 hb3 => ?_)
            have M10 := M6.in_ (c := cs U8 (zs 32)) M8 hb1 hb2 (by decide) hb3 rfl
            show wpT _ _ _ _ _ _
            simp only [Act.put, List.setIfInBounds_toArray, List.set_cons_succ, List.set_cons_zero]
            refine wpT_st0 M10 0 (cs U8 (zs 32)) inf_key rfl rfl rfl rfl (by go_simp) (by go_simp) (by simp [hu, hk]) (by simp [hu, hk]) (by simp [go_sem]) rfl (fun w11 M12 => ?_)
            dsimp only [List.set] at M12
            refine wpT_vald 10 (v := .int .i64 7) rfl rfl rfl rfl ?_
            dsimp only [wpT]
            simp only [Act.put, List.setIfInBounds_toArray, List.set_cons_succ, List.set_cons_zero]
            go_upto_region 10 with fail
            refine wp_region_seqF 2 [33, 34] [] [] [] (.done) (Mm no w _) (by kernel_rfl) (by kernel_rfl) (fun d _ _ _ _ h => by cases d <;> exact h) (by rfl) M12.size (fun _ _ h k => h.sf k) M12 (by kernel_rfl) ?_
            simp only [List.take_succ_cons, List.take_zero]
            refine SeqA.pure (.int .i64 7) (fun w' => by go_simp) rfl rfl ?_
            refine SeqA.pure (.bool true) (fun w' => by go_simp) rfl rfl ?_
            refine SeqA.nil (fun w13 M14 hz => ?_)
            show wpT _ _ _ _ _ _
            simp only [Act.put, List.setIfInBounds_toArray, List.set_cons_succ, List.set_cons_zero]
            dsimp only [wpT]
            go_upto_region 11 with fail
            refine wp_region_seqF 2 [35, 36] [] [1] [] (.op 2 (.op 3 .done)) (Mm no w _) (by kernel_rfl) (by kernel_rfl) (fun d _ _ _ _ h => by cases d <;> exact h) (by rfl) M14.size (fun _ _ h k => h.sf k) M14 (by kernel_rfl) ?_
            simp only [List.take_succ_cons, List.take_zero]
            refine SeqA.pure (.agg (cs U8 (zs 32))) (fun w' => by go_simp) rfl rfl ?_
            refine SeqA.pure (.int .i64 7) (fun w' => by go_simp) rfl rfl ?_
            refine SeqA.nil (fun w15 M16 hz => ?_)
            show wpT _ _ _ _ _ _
            simp only [Act.put, List.setIfInBounds_toArray, List.set_cons_succ, List.set_cons_zero]
            refine wpT_st0 M16 3 (cs U8 (zs 32)) inf_key rfl rfl rfl rfl (by go_simp) (by go_simp) (by simp [hu, hk]) (by simp [hu, hk]) (by simp [go_sem]) rfl (fun w17 M18 => ?_)
            dsimp only [List.set] at M18
            refine wpT_vald 5 (v := .int .i64 7) rfl rfl rfl rfl ?_
            dsimp only [wpT]
            simp only [Act.put, List.setIfInBounds_toArray, List.set_cons_succ, List.set_cons_zero]
            go_wp2_with fail
            have r19 := M18.row (b := w.heap.size + 1) (c := cs U8 (zs 32)) (by simp)
            refine bodyPost_ret (res_two rfl (rv_row Try.underlying23 rfl inf_key (w.heap.size + 1) rfl (by rw [r19]; simp [hu, hk])) (rv_tmp _ _ rfl)) rfl ?_
            rw [r19]
            exact ⟨HV.out, M18.end_⟩
          · obtain ⟨y, hy⟩ : ∃ y, gv (leN (clampB k)) x = y := ⟨_, rfl⟩
            have HD2 := hid (show chV x (L.drop i) = chV y (L.drop (i + 1)) by rw [HD.out, if_neg h0, hy])
            rw [hy] at h0
            refine wp_region_seqF 3 [25, 26, 8] [] [] [] (.op 3 .done) (Mm no w _) (by kernel_rfl) (by kernel_rfl) (fun d _ _ _ _ h => by cases d <;> exact h) (by rfl) M.size (fun _ _ h k => h.sf k) M (by kernel_rfl) ?_
            simp only [List.take_succ_cons, List.take_zero]
            refine SeqA.pure (.pointer (some ⟨kb, ko + i * 32, none⟩)) (fun w' => by go_simp) rfl rfl ?_
            refine SeqA.ldk kb (ko + i * 32) k rfl (by go_simp) (fun w' M => HC M.end_) rfl ?_
            refine SeqA.var (z := .agg (cs U8 (zs 32))) (by kernel_rfl) rfl rfl (by decide) rfl ?_
            refine SeqA.nil (fun w1 M2 hz => ?_)
            refine news_one (fun b3 hb1 hb2 hb3 => ?_)
            have M4 := M.in_ (c := cs U8 (zs 32)) M2 hb1 hb2 (by decide) hb3 rfl
            show wpT _ _ _ _ _ _
            simp only [Act.put, List.setIfInBounds_toArray, List.set_cons_succ, List.set_cons_zero]
            refine wpT_st0 M4 0 (cs U8 k) inf_key rfl rfl rfl rfl (by go_simp) (by go_simp) (by simp [hu, hk]) (by simp [hu, hk]) (by simp [go_sem]) rfl (fun w5 M6 => ?_)
            dsimp only [List.set] at M6
            dsimp only [wpT]
            go_upto_region 9 with fail
            refine wp_region_seqF 7 [28, 29, 30, 27, 31, 32, 9] [] [5] [] (.op 7 (.op 8 .done)) (Mm no w _) (by kernel_rfl) (by kernel_rfl) (fun d _ _ _ _ h => by cases d <;> exact h) (by rfl) M6.size (fun _ _ h k => h.sf k) M6 (by kernel_rfl) ?_
            simp only [List.take_succ_cons, List.take_zero]
            refine SeqA.ld0 Try.underlying23 rfl inf_key (b3) (cs U8 k) rfl (by go_simp) (fun _ M => M.row (by simp)) (by simp [hu, hk]) rfl ?_
            refine SeqA.ld0 Try.underlying23 rfl inf_key (b5) (cs U8 (K x)) rfl (by go_simp) (fun _ M => M.row (by simp)) (by simp [hu, hk]) rfl ?_
            refine SeqA.call _ _ _ (fun w' => by go_simp) (fun w' hI _ => shared_k1 w' k x y hk hy h0) M6.size rfl rfl ?_
            refine SeqA.pure (.tuple #[.agg (cs U8 (K y)), .int .i64 0]) (fun w' => by go_simp) rfl rfl ?_
            refine SeqA.pure (.agg (cs U8 (K y))) (fun w' => by go_simp) rfl rfl ?_
            simp only [Act.put, List.setIfInBounds_toArray, List.set_cons_succ, List.set_cons_zero]
            refine SeqA.pure (.int .i64 0) (fun w' => by go_simp) rfl rfl ?_
            refine SeqA.var (z := .agg (cs U8 (zs 32))) (by kernel_rfl) rfl rfl (by decide) rfl ?_
            refine SeqA.nil (fun w7 M8 hz => ?_)
            refine news_one (fun b9 hb1 hb2 hb3 => ?_)
            have M10 := M6.in_ (c := cs U8 (zs 32)) M8 hb1 hb2 (by decide) hb3 rfl
            show wpT _ _ _ _ _ _
            simp only [Act.put, List.setIfInBounds_toArray, List.set_cons_succ, List.set_cons_zero]
            refine wpT_st0 M10 0 (cs U8 (K y)) inf_key rfl rfl rfl rfl (by go_simp) (by go_simp) (by simp [hu, hk]) (by simp [hu, hk]) (by simp [go_sem]) rfl (fun w11 M12 => ?_)
            dsimp only [List.set] at M12
            refine wpT_vald 10 (v := .int .i64 0) rfl rfl rfl rfl ?_
            dsimp only [wpT]
            simp only [Act.put, List.setIfInBounds_toArray, List.set_cons_succ, List.set_cons_zero]
            go_upto_region 10 with fail
            refine wp_region_seqF 2 [33, 34] [] [] [] (.done) (Mm no w _) (by kernel_rfl) (by kernel_rfl) (fun d _ _ _ _ h => by cases d <;> exact h) (by rfl) M12.size (fun _ _ h k => h.sf k) M12 (by kernel_rfl) ?_
            simp only [List.take_succ_cons, List.take_zero]
            refine SeqA.pure (.int .i64 0) (fun w' => by go_simp) rfl rfl ?_
            refine SeqA.pure (.bool false) (fun w' => by go_simp) rfl rfl ?_
            refine SeqA.nil (fun w13 M14 hz => ?_)
            show wpT _ _ _ _ _ _
            simp only [Act.put, List.setIfInBounds_toArray, List.set_cons_succ, List.set_cons_zero]
            dsimp only [wpT]
            go_upto_region 12 with fail
            refine wp_region_seqF 1 [37] [] [] [] (.op 1 .done) (Mm no w _) (by kernel_rfl) (by kernel_rfl) (fun d _ _ _ _ h => by cases d <;> exact h) (by rfl) M14.size (fun _ _ h k => h.sf k) M14 (by kernel_rfl) ?_
            simp only [List.take_succ_cons, List.take_zero]
            refine SeqA.ld0 Try.underlying23 rfl inf_key (b9) (cs U8 (K y)) rfl (by go_simp) (fun _ M => M.row (by simp)) (by simp [hu, hk]) rfl ?_
            refine SeqA.nil (fun w15 M16 hz => ?_)
            show wpT _ _ _ _ _ _
            simp only [Act.put, List.setIfInBounds_toArray, List.set_cons_succ, List.set_cons_zero]
            refine wpT_st0 M16 2 (cs U8 (K y)) inf_key rfl rfl rfl rfl (by go_simp) (by go_simp) (by simp [hu, hk]) (by simp [hu, hk]) (by simp [go_sem]) rfl (fun w17 M18 => ?_)
            dsimp only [List.set] at M18
            dsimp only [wpT]
            go_wp2_with fail
            go_roundw
            case rel =>
              refine ⟨i + 1, y, by omega, rfl, by rw [HCh.out, HD2.out], ?_⟩
              exact M18.sub ((List.sublist_cons_self _ _).trans (List.sublist_cons_self _ _))
            case measure => simp [intOf]; omega
        · have : i = L.length := by omega
          subst this
          have HV := hid (show Ending.returned (.tuple #[.agg (cs U8 (K x)), .int .i64 0]) = Ending.returned (.tuple #[.agg (cs U8 (K (chF u L).1)), .int .i64 (chF u L).2]) by rw [HF.out, HCh.out, List.drop_length, chV_nil])
          go_upto_region 14 with fail
          refine wp_region_seqF 1 [39] [] [] [] (.op 1 (.op 2 .done)) (Mm no w _) (by kernel_rfl) (by kernel_rfl) (fun d _ _ _ _ h => by cases d <;> exact h) (by rfl) M.size (fun _ _ h k => h.sf k) M (by kernel_rfl) ?_
          simp only [List.take_succ_cons, List.take_zero]
          refine SeqA.ld0 Try.underlying23 rfl inf_key (b5) (cs U8 (K x)) rfl (by go_simp) (fun _ M => M.row (by simp)) (by simp [hu]) rfl ?_
          refine SeqA.nil (fun w1 M2 hz => ?_)
          show wpT _ _ _ _ _ _
          simp only [Act.put, List.setIfInBounds_toArray, List.set_cons_succ, List.set_cons_zero]
          refine wpT_st0 M2 1 (cs U8 (K x)) inf_key rfl rfl rfl rfl (by go_simp) (by go_simp) (by simp [hu]) (by simp [hu]) (by simp [go_sem]) rfl (fun w3 M4 => ?_)
          dsimp only [List.set] at M4
          refine wpT_vald 5 (v := .int .i64 0) rfl rfl rfl rfl ?_
          dsimp only [wpT]
          simp only [Act.put, List.setIfInBounds_toArray, List.set_cons_succ, List.set_cons_zero]
          go_wp2_with fail
          have r5 := M4.row (b := w.heap.size + 1) (c := cs U8 (K x)) (by simp)
          refine bodyPost_ret (res_two rfl (rv_row Try.underlying23 rfl inf_key (w.heap.size + 1) rfl (by rw [r5]; simp [hu])) (rv_tmp _ _ rfl)) rfl ?_
          rw [r5]
          exact ⟨HV.out, M4.end_⟩
end Go.Proofs.Ytgneclfnfnpmkaa
set_option linter.unusedSimpArgs false
set_option linter.unusedVariables false
namespace Go.Proofs.Ytgneclfnfnpmkaa
open Go.RowKit Fp
theorem twZ_0 {x z : F} (h : x * z = 0) : twZ x z = 0 := by
  have e : (x + z) * (x + z) - (x - z) * (x - z) = 4 * (x * z) := by grind
  unfold twZ
  grind
theorem smZ_0 (x z X Z : F) : smZ 0 x z X Z = 0 := by unfold smZ; grind
theorem lad_0 (k : Nat) : ∀ n, (lad 0 k n).x2 * (lad 0 k n).z2 = 0 ∧ (lad 0 k n).x3 * (lad 0 k n).z3 = 0 ∧ (0 < n → (lad 0 k n).z2 = 0)
  | 0 => by
    rw [lad_zero]
    refine ⟨?_, ?_, fun h => absurd h (Nat.lt_irrefl _)⟩ <;> grind
  | n + 1 => by
    obtain ⟨h1, h2, -⟩ := lad_0 k n
    rw [lad_succ]
    generalize ((k / 2 ^ (254 - n)) % 2 == 1) = b
    generalize lad 0 k n = s at *
    cases b
    · refine ⟨?_, ?_, fun _ => ?_⟩
      · show twX s.x2 s.z2 * twZ s.x2 s.z2 = 0
        rw [twZ_0 h1]; grind
      · show smX s.x2 s.z2 s.x3 s.z3 * smZ 0 s.x2 s.z2 s.x3 s.z3 = 0
        rw [smZ_0]; grind
      · exact twZ_0 h1
    · refine ⟨?_, ?_, fun _ => ?_⟩
      · show smX s.x3 s.z3 s.x2 s.z2 * smZ 0 s.x3 s.z3 s.x2 s.z2 = 0
        rw [smZ_0]; grind
      · show twX s.x3 s.z3 * twZ s.x3 s.z3 = 0
        rw [twZ_0 h2]; grind
      · exact smZ_0 ..
theorem gv_0 (k : Nat) : gv k 0 = 0 := by
  rw [gv_eq]; unfold gx; exact mul_inv0 ((lad_0 k 255).2.2 (by decide))
theorem clamp_even (a : List (BitVec 8)) (ha : a.length = 32) : leN (clampB a) % 2 = 0 := by
  have h := clamp_mod a ha
  generalize leN (clampB a) = N at *
  omega
/-- two secrets may change places -/
theorem chF_comm (u a b : List (BitVec 8)) (ha : a.length = 32) (hb : b.length = 32) : chF u [b, a] = chF u [a, b] := by
  obtain ⟨-, a2⟩ := clamp_rng a ha
  obtain ⟨-, b2⟩ := clamp_rng b hb
  have a3 := clamp_even a ha
  have b3 := clamp_even b hb
  unfold chF
  rw [if_neg (show ¬ 8 < [b, a].length by simp), if_neg (show ¬ 8 < [a, b].length by simp)]
  by_cases h0 : Fk (maskB u) = 0
  · rw [if_pos h0, if_pos h0]
  · rw [if_neg h0, if_neg h0]
    generalize Fk (maskB u) = x at *
    simp only [chV, gv_eq]
    generalize leN (clampB a) = m at *
    generalize leN (clampB b) = n at *
    by_cases hA : gx m x = 0
    · rw [if_pos hA]
      by_cases hB : gx n x = 0
      · rw [if_pos hB]
      · rw [if_neg hB, if_pos (gx_zero h0 m n a2 b2 b3 hA hB)]
    · rw [if_neg hA]
      by_cases hB : gx n x = 0
      · rw [if_pos hB, if_pos (gx_zero h0 n m b2 a2 a3 hB hA)]
      · rw [if_neg hB, gx_comm h0 m n a2 b2 hA hB]
theorem chF_one0 {u a : List (BitVec 8)} (h : shv a u = 0) : chF u [a] = (0, 7) := by
  unfold shv at h
  unfold chF
  rw [if_neg (by simp)]
  by_cases h0 : Fk (maskB u) = 0
  · rw [if_pos h0]
  · rw [if_neg h0]; unfold chV; rw [if_pos h]
theorem chF_two0 {u a : List (BitVec 8)} (b : List (BitVec 8)) (h : shv a u = 0) : chF u [a, b] = (0, 7) := by
  unfold shv at h
  unfold chF
  rw [if_neg (by simp)]
  by_cases h0 : Fk (maskB u) = 0
  · rw [if_pos h0]
  · rw [if_neg h0]; unfold chV; rw [if_pos h]
theorem shv_ne {u a : List (BitVec 8)} (h : ¬ shv a u = 0) : ¬ Fk (maskB u) = 0 := by
  intro e; apply h; unfold shv; rw [e, gv_0]
theorem chF_one {u a : List (BitVec 8)} (h : ¬ shv a u = 0) : chF u [a] = (shv a u, 0) := by
  have h0 := shv_ne h
  unfold shv at *
  unfold chF
  rw [if_neg (by simp), if_neg h0]; unfold chV; rw [if_neg h, chV_nil]
theorem chF_two {u a : List (BitVec 8)} (b : List (BitVec 8)) (h : ¬ shv a u = 0) : chF u [a, b] = (gv (leN (clampB b)) (shv a u), ec (gv (leN (clampB b)) (shv a u))) := by
  have h0 := shv_ne h
  unfold shv at *
  unfold chF
  rw [if_neg (by simp), if_neg h0]; unfold chV; rw [if_neg h]; unfold chV
  generalize gv (leN (clampB b)) _ = y
  by_cases hy : y = 0
  · rw [if_pos hy, hy]; unfold ec; rw [if_pos rfl]
  · rw [if_neg hy, chV_nil]; unfold ec; rw [if_neg hy]
theorem key_info : ∃ ie z, Try.prog.info? 23 = some ie ∧ ie.zero = some z ∧ ie.size = 32 ∧ z.cells.size = 32 := by
  have h : (Try.prog.info? 23).map (fun i => (i.zero, i.size)) = some (some (.agg (cs U8 (zs 32))), 32) := by kernel_rfl
  cases hi : Try.prog.info? 23 with
  | none => rw [hi] at h; cases h
  | some ie =>
    rw [hi] at h
    injection h with h
    injection h with h1 h2
    exact ⟨ie, _, rfl, h1, h2, by simp [Value.cells]⟩
section
variable {ops : Array Oper} {Q : Exit → Act → World → Prop} {i : Nat} {t : Tr} {a : Act} {o : Oper} {S : Nat → Prop} {w0 w : World} {H : List (Nat × Array Value)}
theorem wpT_keys (dst n : Nat) (ps : Array (Nat × Operand)) (M : Mm S w0 H w) (c : Array Value) (hn : n = ps.size) (hn0 : 0 < n) (hn1 : n ≤ 1000) (hdst : o.dst = some dst) (ho : ops[i]? = some o) (hop : o.op = .buildSlice 36 n ps)
    (hc : Cont (fun i => some (i * 32, 32)) 0 (ps.map fun (i, x) => (i, a.eval x)).toList) (hs : (catP (ps.map fun (i, x) => (i, a.eval x)).toList).size = n * 32) (hcc : catP (ps.map fun (i, x) => (i, a.eval x)).toList = c) (hw : Region.wanted o (yielded ops a.tmps) = true)
    (h : ∀ b w', Mm S w0 ((b, c) :: H) w' → wpT Try.prog ops Q t (a.put (some dst) (.slice (some ⟨b, 0, none⟩) n n)) w') : wpT Try.prog ops Q (.op i t) a w := by
  obtain ⟨ie, z, h1, h2, h3, h4⟩ := key_info
  refine wpT_bsl dst M c ie z Try.underlying36 h1 h2 (by rw [h3]; omega) (by rw [h3]; omega) (by decide) hdst ho hop ?_ hw h
  rw [h3]
  have := fill_cat (fun i => some (i * 32, 32)) (ps.map fun (i, x) => (i, a.eval x)).toList #[] ((Array.range (n * 32)).map (z.cells[· % z.cells.size]!)) hc (by rw [hs]; simp)
  rw [Array.empty_append, Array.empty_append] at this
  rw [this, hcc]
theorem wpT_keys1 (dst : Nat) (x : Operand) (M : Mm S w0 H w) (k : List (BitVec 8)) (hk : k.length = 32) (hdst : o.dst = some dst) (ho : ops[i]? = some o) (hop : o.op = .buildSlice 36 1 #[(0, x)])
    (hx : a.eval x = .agg (cs U8 k)) (hw : Region.wanted o (yielded ops a.tmps) = true)
    (h : ∀ b w', Mm S w0 ((b, cs U8 k) :: H) w' → wpT Try.prog ops Q t (a.put (some dst) (.slice (some ⟨b, 0, none⟩) 1 1)) w') : wpT Try.prog ops Q (.op i t) a w := by
  have e : (Array.map (fun (x : Nat × Operand) => (x.1, a.eval x.2)) #[(0, x)]).toList = [(0, .agg (cs U8 k))] := by simp [hx]
  refine wpT_keys dst 1 #[(0, x)] M _ rfl (by decide) (by decide) hdst ho hop ?_ ?_ ?_ hw h
  · rw [e]; simp [Cont, Value.cells, hk]
  · rw [e]; simp [catP, Value.cells, hk]
  · rw [e]; simp [catP, Value.cells]
theorem wpT_keys2 (dst : Nat) (x y : Operand) (M : Mm S w0 H w) (k l : List (BitVec 8)) (hk : k.length = 32) (hl : l.length = 32) (hdst : o.dst = some dst) (ho : ops[i]? = some o) (hop : o.op = .buildSlice 36 2 #[(0, x), (1, y)])
    (hx : a.eval x = .agg (cs U8 k)) (hy : a.eval y = .agg (cs U8 l)) (hw : Region.wanted o (yielded ops a.tmps) = true)
    (h : ∀ b w', Mm S w0 ((b, cs U8 (k ++ l)) :: H) w' → wpT Try.prog ops Q t (a.put (some dst) (.slice (some ⟨b, 0, none⟩) 2 2)) w') : wpT Try.prog ops Q (.op i t) a w := by
  have e : (Array.map (fun (x : Nat × Operand) => (x.1, a.eval x.2)) #[(0, x), (1, y)]).toList = [(0, .agg (cs U8 k)), (1, .agg (cs U8 l))] := by simp [hx, hy]
  refine wpT_keys dst 2 #[(0, x), (1, y)] M _ rfl (by decide) (by decide) hdst ho hop ?_ ?_ ?_ hw h
  · rw [e]; simp [Cont, Value.cells, hk, hl]
  · rw [e]; simp [catP, Value.cells, hk, hl]
  · rw [e]; simp [catP, Value.cells, cs_append]
end
end Go.Proofs.Ytgneclfnfnpmkaa
