/-
  Package skipped: Get, Drop, All, Clone; own work.
-/
import Derived.Test.YtojkcbhmhfjioaaSk5
set_option linter.unusedSimpArgs false
set_option linter.unusedVariables false
namespace Go.Proofs.Ytojkcbhmhfjioaa
open Go.RowKit
section
variable {P : Program} {ops : Array Oper} {Q : Exit → Act → World → Prop} {i : Nat} {t : Tr} {a : Act} {o : Oper} {f : FuncId} {args : Array Value} {S : Nat → Prop} {w0 w : World} {H : List (Nat × Array Value)} {base k n' : Nat} {xs' : List Value}
/-- a step: a call that turns a slice of one's own -/
theorem wpT_owd {v : Value} (dst : Nat) (M : Mm S w0 H w) (hsep : ∀ g, obk v = some g → (S g ∨ w0.heap.size ≤ g) ∧ ∀ p ∈ H, p.1 ≠ g) (hdst : o.dst = some dst) (ho : ops[i]? = some o) (hw : Region.wanted o (yielded ops a.tmps) = true) (hrun : (execOp a.eval o).run P w = .ok (.enter f args) w)
    (hc : Calls P f args w fun e w' => ∃ v', e = .returned v' ∧ Ow w' base k v' n' xs' ∧ Fr (fun g => obk v = some g) w w' ∧ obk v' = obk v)
    (h : ∀ v' w', Ow w' base k v' n' xs' → Mm S w0 H w' → obk v' = obk v → wpT P ops Q t (a.put (some dst) v') w') : wpT P ops Q (.op i t) a w := by
  refine wpT_call ho hw hrun hc (fun e w' => ?_)
  rintro ⟨v', he, hO, hf, hb⟩
  refine ⟨v', he, ?_⟩
  rw [hdst]
  exact h v' w' hO (M.frw hf hsep) hb
/-- a step: a call that answers a new slice -/
theorem wpT_ownew (dst : Nat) (M : Mm S w0 H w) (hdst : o.dst = some dst) (ho : ops[i]? = some o) (hw : Region.wanted o (yielded ops a.tmps) = true) (hrun : (execOp a.eval o).run P w = .ok (.enter f args) w)
    (hc : Calls P f args w fun e w' => ∃ u, e = .returned u ∧ Ow w' w.heap.size k u n' xs' ∧ Below w.heap.size w w')
    (h : ∀ u w', Ow w' w0.heap.size k u n' xs' → Mm S w0 H w' → wpT P ops Q t (a.put (some dst) u) w') : wpT P ops Q (.op i t) a w := by
  refine wpT_call ho hw hrun hc (fun e w' => ?_)
  rintro ⟨u, he, O, hb⟩
  refine ⟨u, he, ?_⟩
  rw [hdst]
  exact h u w' (O.mono (fun g hg => Nat.le_trans M.size (O.at_ g hg).1)) (M.below hb)
end
theorem SO.mk1 {w wz : World} {H : List (Nat × Array Value)} {b n : Nat} {room : Int} {u : Value} {L : List Sk.En} (M : Mm no w H wz) (hm : (b, STR room u) ∈ H) (O : Ow wz w.heap.size 65 u n (fl eE L)) (hn : L.length = n) (ne : obk u ≠ some b) : SO wz w.heap.size b room L u := by
  obtain ⟨h1, T, hT, h⟩ := M.own _ hm
  exact ⟨⟨T, hT, h⟩, h1.resolve_left (fun h => h), by rw [hn]; exact O, ne⟩
theorem sdel_x (w : World) (base : Nat) (v : Value) (L : List Sk.En) (i : Nat) {i1 : Nat} (hi1 : i1 = i + 1) (hO : Ow w base 65 v L.length (fl eE L)) (hi : i < L.length) (h9 : L.length ≤ 100000) :
    Calls Try.prog 40 #[v, .int .i64 i, .int .i64 i1] w fun e w' => ∃ v', e = .returned v' ∧ Ow w' base 65 v' (L.length - 1) (fl eE (L.eraseIdx i)) ∧ Fr (fun g => obk v = some g) w w' ∧ obk v' = obk v := by
  subst hi1; exact sdel_c w base v L i hO hi h9
theorem xb_k0z (w : World) : exBuild Try.prog 28 #[] w = .ok (.value (.agg (cs U8 Ky.zero.l))) w := xb_k0s w
theorem sgood_z (w : World) (b : Nat) (h : w.rowOf b = STR 0 (.slice none 0 0)) (hb : b < w.heap.size) :
    Calls Try.prog 38 #[.pointer (some ⟨b, 0, none⟩)] w fun e w' => e = .returned (.bool false) ∧ Below w.heap.size w w' :=
  sgood_c w b 0 _ h hb
attribute [local irreducible] ENR STR wpT
set_option maxRecDepth 100000 in
set_option maxHeartbeats 4000000 in
theorem sget_c (w : World) (B b : Nat) (room : Int) (L : List Sk.En) (v : Value) (R : SO w B b room L v) (hrm : 0 < room) (p : Ky) (n : Int) :
    Calls Try.prog 18 #[.pointer (some ⟨b, 0, none⟩), .agg (cs U8 p.l), .int .i64 n] w fun e w' => e = .returned (.tuple #[.agg (cs U8 (Sk.get L p n).1.l), .int .i64 (Sk.get L p n).2]) ∧ Below w.heap.size w w' := by
  have HR := hid R
  have HROW : Hid (∀ w', Below w.heap.size w w' → w'.rowOf b = STR room v) := hid fun w' h => (R.below h).rowOf
  by_cases hf : Sk.find L p n < L.length
  · obtain ⟨i, hi⟩ : ∃ i, i = Sk.find L p n := ⟨_, rfl⟩
    rw [← hi] at hf
    obtain ⟨x, hx⟩ : ∃ x, L[i]? = some x := ⟨_, List.getElem?_eq_getElem hf⟩
    rw [show Sk.get L p n = (x.key, 0) by unfold Sk.get; rw [← hi, hx]]
    obtain ⟨r, hr⟩ : ∃ r : Int, r = (i : Int) := ⟨_, rfl⟩
    have HRI := hid hr
    have HNF := hid (show fndR L p n = r by unfold fndR; rw [← hi, if_pos hf, hr])
    obtain ⟨m, hm⟩ : ∃ n, L.length = n := ⟨_, rfl⟩
    have hsv := R.ow.sv
    rw [hm] at hsv
    have HV0 := hid hsv
    obtain ⟨g, o, c1, hv⟩ := sv_some eE_len (by decide) hsv (by omega)
    have ho : o = 0 := by
      rcases R.ow.2 with ⟨a, h1, h2⟩ | ⟨g', cap, cur, T, h1, _⟩
      · omega
      · rw [hv] at h1; injection h1 with h1; injection h1 with h1; injection h1
    subst ho
    subst hv
    have HEL : Hid (∀ w', Below w.heap.size w w' → exLoad Try.prog 28 (.pointer (some ⟨g, i * 65 + 32, none⟩)) w' = .ok (.value (.agg (cs U8 x.key.l))) w') := hid fun w' h => by
      have := sv_part eE_len Try.underlying28 rfl inf_key (by decide) (SV.below HV0.out h) (i := i) (j := 32) hx (by decide) (cs U8 x.key.l) (by simp [eE, ENR, cs, List.drop_append, List.take_append, List.drop_of_length_le, List.take_of_length_le])
      simpa using this
    have hlt : (i : Int) < (m : Int) := by omega
    have hi00 : (0 : Int) ≤ (i : Int) := by omega
    have hrl : ¬ r < 0 := by omega
    clear R hx hi hf hr hm hsv
    have M0 := Mm.start no w
    go_enter Try.func18, Try.ntmps18
    have M2 := ((M0.alloc (cs U8 p.l) 28 (by decide)).alloc (cs U8 (zs 32)) 28 (by decide))
    try simp only [World.size_alloc] at M2
    go_upto_region 1 with fail
    obtain ⟨w1, hw1⟩ : ∃ w1, w1 = ((w.alloc (.cells (cs U8 p.l) 28)).alloc (.cells (cs U8 (zs 32)) 28)) := ⟨_, rfl⟩
    rw [← hw1] at M2 ⊢
    clear hw1
    refine wp_region_lin (.op 0 (.op 1 (.op 2 .done))) (by rfl) ?_
    refine wpT_valp 9 (v := .pointer (some ⟨b, 0, none⟩)) rfl rfl rfl (by go_simp) ?_
    refine wpT_callv 10 M2 (v := .bool true) rfl rfl rfl (by go_simp) (sgood_t w1 (HR.out.below M2.end_) hrm) (fun w3 M4 => ?_)
    refine wpT_valp 11 (v := .bool false) rfl rfl rfl (by go_simp) ?_
    first | dsimp only [wpT] | refine wpT_fin ?_
    try simp only [Act.put, List.setIfInBounds_toArray, List.set_cons_succ, List.set_cons_zero]
    go_upto_region 3 with fail
    refine wp_region_lin (.op 0 (.op 1 (.op 2 (.op 3 (.op 4 .done))))) (by rfl) ?_
    refine wpT_valp 13 (v := .pointer (some ⟨b, 0, none⟩)) rfl rfl rfl (by go_simp) ?_
    refine wpT_ld0 14 Try.underlying28 rfl inf_key (w.heap.size) (cs U8 p.l) rfl rfl rfl (by go_simp) (M4.row (b := w.heap.size) (c := cs U8 p.l) (by simp)) (by simp [Ky.len, ENR_size, STR_size]) rfl ?_
    refine wpT_valp 15 (v := .int .i64 n) rfl rfl rfl (by go_simp) ?_
    refine wpT_callv 16 M4 (v := .int .i64 r) rfl rfl rfl (by go_simp) (sfind_c w3 B b room L _ (HR.out.below M4.end_) p n r HNF.out) (fun w5 M6 => ?_)
    try simp only [Act.put, List.setIfInBounds_toArray, List.set_cons_succ, List.set_cons_zero]
    refine wpT_valp 8 (v := .int .i64 r) rfl rfl rfl (by go_simp) ?_
    first | dsimp only [wpT] | refine wpT_fin ?_
    try simp only [Act.put, List.setIfInBounds_toArray, List.set_cons_succ, List.set_cons_zero]
    go_upto_region 4 with fail
    refine wp_region_lin (.op 0 (.op 1 .done)) (by rfl) ?_
    refine wpT_valp 17 (v := .int .i64 r) rfl rfl rfl (by go_simp) ?_
    refine wpT_valp 18 (v := .bool false) rfl rfl rfl (by go_simp) ?_
    first | dsimp only [wpT] | refine wpT_fin ?_
    try simp only [Act.put, List.setIfInBounds_toArray, List.set_cons_succ, List.set_cons_zero]
    go_upto_region 6 with fail
    obtain rfl := HRI.out
    refine wp_region_lin (.op 0 (.op 1 (.op 2 (.op 3 (.op 4 (.op 5 (.op 6 (.op 7 (.op 8 (.op 9 .done)))))))))) (by rfl) ?_
    refine wpT_valp 20 (v := .pointer (some ⟨b, 0, none⟩)) rfl rfl rfl (by go_simp) ?_
    refine wpT_valp 21 (v := .pointer (some ⟨b, 0, none⟩)) rfl rfl rfl (by go_simp) ?_
    refine wpT_valp 22 (v := .pointer (some ⟨b, 1, none⟩)) rfl rfl rfl (by go_simp) ?_
    refine wpT_valp 23 (v := .slice (some ⟨g, 0, none⟩) m c1) rfl rfl rfl (by have c0 := st_c1 (HROW.out _ M6.end_); go_simp) ?_
    try simp only [Act.put, List.setIfInBounds_toArray, List.set_cons_succ, List.set_cons_zero]
    refine wpT_valp 24 (v := .int .i64 i) rfl rfl rfl (by go_simp) ?_
    refine wpT_valp 25 (v := .pointer (some ⟨g, i * 65, none⟩)) rfl rfl rfl (by go_simp) ?_
    refine wpT_valp 26 (v := .pointer (some ⟨g, i * 65 + 32, none⟩)) rfl rfl rfl (by go_simp) ?_
    refine wpT_ldy 27 (.pointer (some ⟨g, i * 65 + 32, none⟩)) (.agg (cs U8 x.key.l)) rfl rfl rfl (by go_simp) (HEL.out _ M6.end_) rfl ?_
    refine wpT_st0 M6 0 (cs U8 x.key.l) inf_key rfl rfl rfl rfl (by go_simp) (by go_simp) (by simp [Ky.len, ENR_size, STR_size]) (by simp [Ky.len, ENR_size, STR_size]) (by simp [go_sem]) rfl (fun w7 M8 => ?_)
    dsimp only [List.set] at M8
    try simp only [Act.put, List.setIfInBounds_toArray, List.set_cons_succ, List.set_cons_zero]
    refine wpT_valp 7 (v := .int .i64 0) rfl rfl rfl (by go_simp) ?_
    first | dsimp only [wpT] | refine wpT_fin ?_
    try simp only [Act.put, List.setIfInBounds_toArray, List.set_cons_succ, List.set_cons_zero]
    go_wp2_with fail
    have r9 := M8.row (b := w.heap.size + 1) (c := cs U8 x.key.l) (by simp)
    refine bodyPost_ret (res_two rfl (rv_row Try.underlying28 rfl inf_key (w.heap.size + 1) rfl (by rw [r9]; simp [Ky.len, ENR_size, STR_size])) (rv_tmp _ _ rfl)) rfl ?_
    rw [r9]
    exact ⟨rfl, M8.end_⟩
  · rw [show Sk.get L p n = (Ky.zero, 9) by unfold Sk.get; rw [List.getElem?_eq_none (by omega)]]
    obtain ⟨r, hr⟩ : ∃ r : Int, r = -1 := ⟨_, rfl⟩
    have HNF := hid (show fndR L p n = r by unfold fndR; rw [if_neg hf, hr])
    have hrl : r < 0 := by omega
    clear R hf hr
    have M0 := Mm.start no w
    go_enter Try.func18, Try.ntmps18
    have M2 := ((M0.alloc (cs U8 p.l) 28 (by decide)).alloc (cs U8 (zs 32)) 28 (by decide))
    try simp only [World.size_alloc] at M2
    go_upto_region 1 with fail
    obtain ⟨w1, hw1⟩ : ∃ w1, w1 = ((w.alloc (.cells (cs U8 p.l) 28)).alloc (.cells (cs U8 (zs 32)) 28)) := ⟨_, rfl⟩
    rw [← hw1] at M2 ⊢
    clear hw1
    refine wp_region_lin (.op 0 (.op 1 (.op 2 .done))) (by rfl) ?_
    refine wpT_valp 9 (v := .pointer (some ⟨b, 0, none⟩)) rfl rfl rfl (by go_simp) ?_
    refine wpT_callv 10 M2 (v := .bool true) rfl rfl rfl (by go_simp) (sgood_t w1 (HR.out.below M2.end_) hrm) (fun w3 M4 => ?_)
    refine wpT_valp 11 (v := .bool false) rfl rfl rfl (by go_simp) ?_
    first | dsimp only [wpT] | refine wpT_fin ?_
    try simp only [Act.put, List.setIfInBounds_toArray, List.set_cons_succ, List.set_cons_zero]
    go_upto_region 3 with fail
    refine wp_region_lin (.op 0 (.op 1 (.op 2 (.op 3 (.op 4 .done))))) (by rfl) ?_
    refine wpT_valp 13 (v := .pointer (some ⟨b, 0, none⟩)) rfl rfl rfl (by go_simp) ?_
    refine wpT_ld0 14 Try.underlying28 rfl inf_key (w.heap.size) (cs U8 p.l) rfl rfl rfl (by go_simp) (M4.row (b := w.heap.size) (c := cs U8 p.l) (by simp)) (by simp [Ky.len, ENR_size, STR_size]) rfl ?_
    refine wpT_valp 15 (v := .int .i64 n) rfl rfl rfl (by go_simp) ?_
    refine wpT_callv 16 M4 (v := .int .i64 r) rfl rfl rfl (by go_simp) (sfind_c w3 B b room L _ (HR.out.below M4.end_) p n r HNF.out) (fun w5 M6 => ?_)
    try simp only [Act.put, List.setIfInBounds_toArray, List.set_cons_succ, List.set_cons_zero]
    refine wpT_valp 8 (v := .int .i64 r) rfl rfl rfl (by go_simp) ?_
    first | dsimp only [wpT] | refine wpT_fin ?_
    try simp only [Act.put, List.setIfInBounds_toArray, List.set_cons_succ, List.set_cons_zero]
    go_upto_region 4 with fail
    refine wp_region_lin (.op 0 (.op 1 .done)) (by rfl) ?_
    refine wpT_valp 17 (v := .int .i64 r) rfl rfl rfl (by go_simp) ?_
    refine wpT_valp 18 (v := .bool true) rfl rfl rfl (by go_simp) ?_
    first | dsimp only [wpT] | refine wpT_fin ?_
    try simp only [Act.put, List.setIfInBounds_toArray, List.set_cons_succ, List.set_cons_zero]
    go_upto_region 5 with fail
    refine wp_region_lin (.op 0 (.op 1 (.op 2 .done))) (by rfl) ?_
    refine wpT_valL 19 (v := .agg (cs U8 Ky.zero.l)) rfl rfl rfl (by have q := xb_k0z w5; go_simp) ?_
    refine wpT_st0 M6 0 (cs U8 Ky.zero.l) inf_key rfl rfl rfl rfl (by go_simp) (by go_simp) (by simp [Ky.len, ENR_size, STR_size]) (by simp [Ky.len, ENR_size, STR_size]) (by simp [go_sem]) rfl (fun w7 M8 => ?_)
    dsimp only [List.set] at M8
    refine wpT_valp 7 (v := .int .i64 9) rfl rfl rfl (by go_simp) ?_
    first | dsimp only [wpT] | refine wpT_fin ?_
    try simp only [Act.put, List.setIfInBounds_toArray, List.set_cons_succ, List.set_cons_zero]
    go_wp2_with fail
    have r9 := M8.row (b := w.heap.size + 1) (c := cs U8 Ky.zero.l) (by simp)
    refine bodyPost_ret (res_two rfl (rv_row Try.underlying28 rfl inf_key (w.heap.size + 1) rfl (by rw [r9]; simp [Ky.len, ENR_size, STR_size])) (rv_tmp _ _ rfl)) rfl ?_
    rw [r9]
    exact ⟨rfl, M8.end_⟩
set_option maxRecDepth 100000 in
set_option maxHeartbeats 4000000 in
theorem sdrop_c (w : World) (B b : Nat) (room : Int) (L : List Sk.En) (v : Value) (R : SO w B b room L v) (hrm : 0 < room) (p : Ky) (n : Int) (h9 : L.length ≤ 100000) :
    Calls Try.prog 12 #[.pointer (some ⟨b, 0, none⟩), .agg (cs U8 p.l), .int .i64 n] w (PutPost w B b room v (Sk.drop L p n)) := by
  have hbw : b < w.heap.size := (R.lt b (.inl rfl)).2
  have HR := hid R
  have HROW : Hid (∀ w', Below w.heap.size w w' → w'.rowOf b = STR room v) := hid fun w' h => (R.below h).rowOf
  by_cases hf : Sk.find L p n < L.length
  · rw [show Sk.drop L p n = (L.eraseIdx (Sk.find L p n), 0) by unfold Sk.drop; rw [if_pos hf]]
    obtain ⟨i, hi⟩ : ∃ i, i = Sk.find L p n := ⟨_, rfl⟩
    rw [← hi] at hf
    obtain ⟨r, hr⟩ : ∃ r : Int, r = (i : Int) := ⟨_, rfl⟩
    have HRI := hid hr
    have HNF := hid (show fndR L p n = r by unfold fndR; rw [← hi, if_pos hf, hr])
    rw [← hi]
    obtain ⟨i1, hi1⟩ : ∃ j, j = i + 1 := ⟨_, rfl⟩
    have HI1 := hid hi1
    have HI2 := hid (show IntKind.i64.wrap ((i : Int) + 1) = (i1 : Int) by rw [i64w (by omega) (by omega), hi1]; rfl)
    have HIL := hid hf
    have HL9 := hid h9
    obtain ⟨va, vc, hv, _⟩ := R.ow.shape
    obtain ⟨m, hm⟩ : ∃ n, L.length = n := ⟨_, rfl⟩
    obtain ⟨m1, hm1⟩ : ∃ j, j = L.length - 1 := ⟨_, rfl⟩
    have HM1 := hid hm1.symm
    rw [hm] at hv
    subst hv
    have hrl : ¬ r < 0 := by omega
    have HSEP : Hid (∀ (c c' : Array Value) (x : Nat), obk (.slice va m vc) = some x → (SF b (.slice va m vc) x ∨ w.heap.size ≤ x) ∧ ∀ q ∈ [(b, c), (w.heap.size, c')], q.1 ≠ x) := hid fun c c' x hx => by
      have h1 := HR.out.lt x (.inr hx)
      refine ⟨.inl (.inr hx), fun q hq e => ?_⟩
      simp only [List.mem_cons, List.not_mem_nil, or_false] at hq
      rcases hq with rfl | rfl
      · dsimp only at e; rw [← e] at hx; exact HR.out.ne hx
      · dsimp only at e; omega
    have HFIN : Hid (∀ (ua2 : Value) (wA : World), obk ua2 = obk (.slice va m vc) → Ow wA B 65 ua2 (L.length - 1) (fl eE (L.eraseIdx i)) →
        ∀ (S1 : Nat → Prop) (c c' : Array Value) (H : List (Nat × Array Value)) (wz : World), (∀ g, S1 g → g ∈ [(b, c), (w.heap.size, c')].map (·.1)) → Mm S1 wA H wz → Mm (SF b (.slice va m vc)) w H wz → (b, STR room ua2) ∈ H → PutPost w B b room (.slice va m vc) (L.eraseIdx i, 0) (.returned (.int .i64 0)) wz) := by
      refine hid fun ua2 wA BA OA S1 c c' H wz hS1 M1 MZ hm => ?_
      refine PutPost.fin HR.out OA (by rw [List.length_eraseIdx_of_lt HIL.out]) (fun g hg => .inl (by rw [← BA]; exact hg)) hS1 (fun q hq e => ?_) M1 MZ hm 0
      rw [BA] at e
      simp only [List.mem_cons, List.not_mem_nil, or_false] at hq
      rcases hq with rfl | rfl
      · exact HR.out.ne e
      · have := (HR.out.lt _ (.inr e)).2; dsimp only at this; omega
    clear R hi hf hr hm hm1 hi1 h9
    have M0 := Mm.start no w
    go_enter Try.func12, Try.ntmps12
    have M2 := (M0.alloc (cs U8 p.l) 28 (by decide))
    try simp only [World.size_alloc] at M2
    go_upto_region 1 with fail
    obtain ⟨w1, hw1⟩ : ∃ w1, w1 = (w.alloc (.cells (cs U8 p.l) 28)) := ⟨_, rfl⟩
    rw [← hw1] at M2 ⊢
    clear hw1
    refine wp_region_lin (.op 0 (.op 1 (.op 2 .done))) (by rfl) ?_
    refine wpT_valp 8 (v := .pointer (some ⟨b, 0, none⟩)) rfl rfl rfl (by go_simp) ?_
    refine wpT_callv 9 M2 (v := .bool true) rfl rfl rfl (by go_simp) (sgood_t w1 (HR.out.below M2.end_) hrm) (fun w3 M4 => ?_)
    refine wpT_valp 10 (v := .bool false) rfl rfl rfl (by go_simp) ?_
    first | dsimp only [wpT] | refine wpT_fin ?_
    try simp only [Act.put, List.setIfInBounds_toArray, List.set_cons_succ, List.set_cons_zero]
    go_upto_region 3 with fail
    refine wp_region_lin (.op 0 (.op 1 (.op 2 (.op 3 (.op 4 .done))))) (by rfl) ?_
    refine wpT_valp 11 (v := .pointer (some ⟨b, 0, none⟩)) rfl rfl rfl (by go_simp) ?_
    refine wpT_ld0 12 Try.underlying28 rfl inf_key (w.heap.size) (cs U8 p.l) rfl rfl rfl (by go_simp) (M4.row (b := w.heap.size) (c := cs U8 p.l) (by simp)) (by simp [Ky.len, ENR_size, STR_size]) rfl ?_
    refine wpT_valp 13 (v := .int .i64 n) rfl rfl rfl (by go_simp) ?_
    refine wpT_callv 14 M4 (v := .int .i64 r) rfl rfl rfl (by go_simp) (sfind_c w3 B b room L _ (HR.out.below M4.end_) p n r HNF.out) (fun w5 M6 => ?_)
    try simp only [Act.put, List.setIfInBounds_toArray, List.set_cons_succ, List.set_cons_zero]
    refine wpT_valp 7 (v := .int .i64 r) rfl rfl rfl (by go_simp) ?_
    first | dsimp only [wpT] | refine wpT_fin ?_
    try simp only [Act.put, List.setIfInBounds_toArray, List.set_cons_succ, List.set_cons_zero]
    go_upto_region 4 with fail
    refine wp_region_lin (.op 0 (.op 1 .done)) (by rfl) ?_
    refine wpT_valp 15 (v := .int .i64 r) rfl rfl rfl (by go_simp) ?_
    refine wpT_valp 16 (v := .bool false) rfl rfl rfl (by go_simp) ?_
    first | dsimp only [wpT] | refine wpT_fin ?_
    try simp only [Act.put, List.setIfInBounds_toArray, List.set_cons_succ, List.set_cons_zero]
    go_upto_region 6 with fail
    obtain rfl := HRI.out
    obtain ⟨Tb, hTb, hrb⟩ := (HR.out.below M6.end_).row
    have MW := (M6.wide (S' := SF b (.slice va m vc)) (fun _ h => h.elim)).more hTb hrb (.inl (.inl rfl)) (fun q hq e => by
      simp only [List.mem_cons, List.not_mem_nil, or_false] at hq
      subst hq
      dsimp only at e
      have := hbw; omega)
    have HOW := hid (show Ow _ B 65 (.slice va m vc) L.length (fl eE L) from (HR.out.below M6.end_).ow)
    have hsz := M6.size
    have hwX := MW.lt (b := w.heap.size) (c := cs U8 p.l) (by simp)
    refine wp_region_lin (.op 0 (.op 1 (.op 2 (.op 3 (.op 4 (.op 5 (.op 6 (.op 7 (.op 8 (.op 9 (.op 10 (.op 11 .done)))))))))))) (by rfl) ?_
    refine wpT_valp 17 (v := .pointer (some ⟨b, 0, none⟩)) rfl rfl rfl (by go_simp) ?_
    refine wpT_valp 18 (v := .pointer (some ⟨b, 0, none⟩)) rfl rfl rfl (by go_simp) ?_
    refine wpT_valp 19 (v := .pointer (some ⟨b, 0, none⟩)) rfl rfl rfl (by go_simp) ?_
    refine wpT_valp 20 (v := .pointer (some ⟨b, 1, none⟩)) rfl rfl rfl (by go_simp) ?_
    try simp only [Act.put, List.setIfInBounds_toArray, List.set_cons_succ, List.set_cons_zero]
    refine wpT_valp 21 (v := .slice va m vc) rfl rfl rfl (by have c0 := st_c1 (MW.row (b := b) (c := STR room (.slice va m vc)) (by simp)); go_simp) ?_
    refine wpT_valp 22 (v := .int .i64 i) rfl rfl rfl (by go_simp) ?_
    refine wpT_valp 23 (v := .int .i64 i) rfl rfl rfl (by go_simp) ?_
    refine wpT_valp 24 (v := .int .i64 i1) rfl rfl rfl (by have h := HI2.out; go_simp) ?_
    refine wpT_owd 25 MW (fun x hx => HSEP.out _ _ x hx) rfl rfl rfl (by go_simp) (sdel_x w5 B (.slice va m vc) L i HI1.out HOW.out HIL.out HL9.out) (fun ua2 wA OA MA BA => ?_)
    obtain ⟨S1, MB, hS1, hT1⟩ := MA.rebase
    have HFI := hid (HFIN.out ua2 wA BA OA)
    rw [HM1.out] at OA
    obtain ⟨xa, xc, rfl, _⟩ := OA.shape
    try simp only [Act.put, List.setIfInBounds_toArray, List.set_cons_succ, List.set_cons_zero]
    refine wpT_valp 26 (v := .pointer (some ⟨b, 0, none⟩)) rfl rfl rfl (by go_simp) ?_
    refine wpT_valp 27 (v := .pointer (some ⟨b, 1, none⟩)) rfl rfl rfl (by go_simp) ?_
    refine wpT_stc MB 0 (.slice xa m1 xc) (STR room (.slice xa m1 xc)) inf_sle rfl rfl rfl rfl (by go_simp) (by go_simp) (by simp [Ky.len, ENR_size, STR_size]) (by simp [go_sem]) (st_s1 _) rfl (fun w7 M8 => ?_)
    dsimp only [List.set] at M8
    first | dsimp only [wpT] | refine wpT_fin ?_
    try simp only [Act.put, List.setIfInBounds_toArray, List.set_cons_succ, List.set_cons_zero]
    go_upto_region 7 with fail
    refine wp_region_lin (.op 0 .done) (by rfl) ?_
    refine wpT_valp 6 (v := .int .i64 0) rfl rfl rfl (by go_simp) ?_
    first | dsimp only [wpT] | refine wpT_fin ?_
    try simp only [Act.put, List.setIfInBounds_toArray, List.set_cons_succ, List.set_cons_zero]
    go_wp2_with fail
    go_ret
    exact HFI.out _ _ _ _ _ hS1 M8 (hT1 _ _ M8) (by simp)
  · rw [show Sk.drop L p n = (L, 9) by unfold Sk.drop; rw [if_neg hf]]
    obtain ⟨r, hr⟩ : ∃ r : Int, r = -1 := ⟨_, rfl⟩
    have HNF := hid (show fndR L p n = r by unfold fndR; rw [if_neg hf, hr])
    have hrl : r < 0 := by omega
    clear R hf hr
    have M0 := Mm.start no w
    go_enter Try.func12, Try.ntmps12
    have M2 := (M0.alloc (cs U8 p.l) 28 (by decide))
    try simp only [World.size_alloc] at M2
    go_upto_region 1 with fail
    obtain ⟨w1, hw1⟩ : ∃ w1, w1 = (w.alloc (.cells (cs U8 p.l) 28)) := ⟨_, rfl⟩
    rw [← hw1] at M2 ⊢
    clear hw1
    refine wp_region_lin (.op 0 (.op 1 (.op 2 .done))) (by rfl) ?_
    refine wpT_valp 8 (v := .pointer (some ⟨b, 0, none⟩)) rfl rfl rfl (by go_simp) ?_
    refine wpT_callv 9 M2 (v := .bool true) rfl rfl rfl (by go_simp) (sgood_t w1 (HR.out.below M2.end_) hrm) (fun w3 M4 => ?_)
    refine wpT_valp 10 (v := .bool false) rfl rfl rfl (by go_simp) ?_
    first | dsimp only [wpT] | refine wpT_fin ?_
    try simp only [Act.put, List.setIfInBounds_toArray, List.set_cons_succ, List.set_cons_zero]
    go_upto_region 3 with fail
    refine wp_region_lin (.op 0 (.op 1 (.op 2 (.op 3 (.op 4 .done))))) (by rfl) ?_
    refine wpT_valp 11 (v := .pointer (some ⟨b, 0, none⟩)) rfl rfl rfl (by go_simp) ?_
    refine wpT_ld0 12 Try.underlying28 rfl inf_key (w.heap.size) (cs U8 p.l) rfl rfl rfl (by go_simp) (M4.row (b := w.heap.size) (c := cs U8 p.l) (by simp)) (by simp [Ky.len, ENR_size, STR_size]) rfl ?_
    refine wpT_valp 13 (v := .int .i64 n) rfl rfl rfl (by go_simp) ?_
    refine wpT_callv 14 M4 (v := .int .i64 r) rfl rfl rfl (by go_simp) (sfind_c w3 B b room L _ (HR.out.below M4.end_) p n r HNF.out) (fun w5 M6 => ?_)
    try simp only [Act.put, List.setIfInBounds_toArray, List.set_cons_succ, List.set_cons_zero]
    refine wpT_valp 7 (v := .int .i64 r) rfl rfl rfl (by go_simp) ?_
    first | dsimp only [wpT] | refine wpT_fin ?_
    try simp only [Act.put, List.setIfInBounds_toArray, List.set_cons_succ, List.set_cons_zero]
    go_upto_region 4 with fail
    refine wp_region_lin (.op 0 (.op 1 .done)) (by rfl) ?_
    refine wpT_valp 15 (v := .int .i64 r) rfl rfl rfl (by go_simp) ?_
    refine wpT_valp 16 (v := .bool true) rfl rfl rfl (by go_simp) ?_
    first | dsimp only [wpT] | refine wpT_fin ?_
    try simp only [Act.put, List.setIfInBounds_toArray, List.set_cons_succ, List.set_cons_zero]
    go_upto_region 5 with fail
    refine wp_region_lin (.op 0 .done) (by rfl) ?_
    refine wpT_valp 6 (v := .int .i64 9) rfl rfl rfl (by go_simp) ?_
    first | dsimp only [wpT] | refine wpT_fin ?_
    try simp only [Act.put, List.setIfInBounds_toArray, List.set_cons_succ, List.set_cons_zero]
    go_wp2_with fail
    go_ret
    exact PutPost.same HR.out M6.end_ _
set_option maxRecDepth 100000 in
set_option maxHeartbeats 4000000 in
theorem sall_c (w : World) (B b : Nat) (room : Int) (L : List Sk.En) (v : Value) (R : SO w B b room L v) (hrm : 0 < room) (h9 : L.length ≤ 100000) :
    Calls Try.prog 14 #[.pointer (some ⟨b, 0, none⟩)] w fun e w' => ∃ u, e = .returned u ∧ Ow w' w.heap.size 65 u L.length (fl eE L) ∧ Below w.heap.size w w' := by
  have HR := hid R
  have HROW : Hid (∀ w', Below w.heap.size w w' → w'.rowOf b = STR room v) := hid fun w' h => (R.below h).rowOf
  obtain ⟨va, vc, hv, _⟩ := R.ow.shape
  obtain ⟨m, hm⟩ : ∃ n, L.length = n := ⟨_, rfl⟩
  have HLM := hid hm
  rw [hm] at hv h9 ⊢
  have HM9 := hid h9
  subst hv
  have HSV : Hid (∀ w', Below w.heap.size w w' → SV w' (.slice va m vc) m (fl eE L)) := hid fun w' h => by have := (HR.out.below h).ow.sv; rw [HLM.out] at this; exact this
  clear R hm h9
  have M0 := Mm.start no w
  go_enter Try.func14, Try.ntmps14
  go_upto_region 1 with fail
  refine wp_region_lin (.op 0 (.op 1 (.op 2 .done))) (by rfl) ?_
  refine wpT_valp 3 (v := .pointer (some ⟨b, 0, none⟩)) rfl rfl rfl (by go_simp) ?_
  refine wpT_callv 4 M0 (v := .bool true) rfl rfl rfl (by go_simp) (sgood_t w (HR.out.below M0.end_) hrm) (fun w1 M2 => ?_)
  refine wpT_valp 5 (v := .bool false) rfl rfl rfl (by go_simp) ?_
  first | dsimp only [wpT] | refine wpT_fin ?_
  try simp only [Act.put, List.setIfInBounds_toArray, List.set_cons_succ, List.set_cons_zero]
  go_upto_region 3 with fail
  refine wp_region_lin (.op 0 (.op 1 (.op 2 (.op 3 (.op 4 (.op 5 .done)))))) (by rfl) ?_
  refine wpT_valp 6 (v := .pointer (some ⟨b, 0, none⟩)) rfl rfl rfl (by go_simp) ?_
  refine wpT_valp 7 (v := .pointer (some ⟨b, 0, none⟩)) rfl rfl rfl (by go_simp) ?_
  refine wpT_valp 8 (v := .pointer (some ⟨b, 1, none⟩)) rfl rfl rfl (by go_simp) ?_
  refine wpT_valp 9 (v := .slice va m vc) rfl rfl rfl (by have c0 := st_c1 (HROW.out _ M2.end_); go_simp) ?_
  try simp only [Act.put, List.setIfInBounds_toArray, List.set_cons_succ, List.set_cons_zero]
  refine wpT_ownew 10 M2 rfl rfl rfl (by go_simp) (sclone_c w1 (.slice va m vc) m L (HSV.out _ M2.end_) HLM.out HM9.out) (fun uc wc OC MC => ?_)
  have HOC := hid OC
  clear OC
  refine wpT_valp 2 (v := uc) rfl rfl rfl (by go_simp) ?_
  first | dsimp only [wpT] | refine wpT_fin ?_
  try simp only [Act.put, List.setIfInBounds_toArray, List.set_cons_succ, List.set_cons_zero]
  go_wp2_with fail
  go_ret
  exact ⟨uc, rfl, HOC.out, MC.end_⟩
set_option maxRecDepth 100000 in
set_option maxHeartbeats 4000000 in
theorem sclo_c (w : World) (B b : Nat) (room : Int) (L : List Sk.En) (v : Value) (R : SO w B b room L v) (hrm : 0 < room) (h9 : L.length ≤ 100000) :
    Calls Try.prog 17 #[.pointer (some ⟨b, 0, none⟩)] w fun e w' => ∃ b' u, e = .returned (.pointer (some ⟨b', 0, none⟩)) ∧ SO w' w.heap.size b' room L u ∧ Below w.heap.size w w' := by
  have HR := hid R
  have HROW : Hid (∀ w', Below w.heap.size w w' → w'.rowOf b = STR room v) := hid fun w' h => (R.below h).rowOf
  obtain ⟨va, vc, hv, _⟩ := R.ow.shape
  obtain ⟨m, hm⟩ : ∃ n, L.length = n := ⟨_, rfl⟩
  have HLM := hid hm
  rw [hm] at hv h9
  have HM9 := hid h9
  subst hv
  have HSV : Hid (∀ w', Below w.heap.size w w' → SV w' (.slice va m vc) m (fl eE L)) := hid fun w' h => by have := (HR.out.below h).ow.sv; rw [HLM.out] at this; exact this
  clear R hm h9
  have M0 := Mm.start no w
  go_enter Try.func17, Try.ntmps17
  go_upto_region 1 with fail
  refine wp_region_lin (.op 0 (.op 1 (.op 2 .done))) (by rfl) ?_
  refine wpT_valp 3 (v := .pointer (some ⟨b, 0, none⟩)) rfl rfl rfl (by go_simp) ?_
  refine wpT_callv 4 M0 (v := .bool true) rfl rfl rfl (by go_simp) (sgood_t w (HR.out.below M0.end_) hrm) (fun w1 M2 => ?_)
  refine wpT_valp 5 (v := .bool false) rfl rfl rfl (by go_simp) ?_
  first | dsimp only [wpT] | refine wpT_fin ?_
  try simp only [Act.put, List.setIfInBounds_toArray, List.set_cons_succ, List.set_cons_zero]
  go_upto_region 3 with fail
  refine wp_region_Z (fun v => v.rowOf (b) = STR room (.slice va m vc)) 11 (.yld [0, 1, 2, 3, 4, 5, 6, 7] (.op 8 (.op 9 (.op 10 (.rest (.op 11 .done)))))) (by kernel_rfl) (by kernel_rfl) (by kernel_rfl) (fun d _ _ _ _ h => by cases d <;> exact h) ?_
  have M3 := M2.drewN 1
  change wpZ _ _ _ _ _ _ (w1.drewN 1)
  obtain ⟨w4, hw4⟩ : ∃ w4, w4 = w1.drewN 1 := ⟨_, rfl⟩
  rw [← hw4] at M3 ⊢
  clear hw4
  refine wpZ_yld ?_
  refine wpYJd_op 6 (.pointer (some ⟨b, 0, none⟩)) rfl rfl rfl (fun w1 h => by go_simp) ?_
  refine wpYJd_op 7 (.pointer (some ⟨b, 0, none⟩)) rfl rfl rfl (fun w1 h => by go_simp) ?_
  refine wpYJd_op 8 (.pointer (some ⟨b, 0, none⟩)) rfl rfl rfl (fun w1 h => by go_simp) ?_
  refine wpYJd_op 9 (.int .i64 room) rfl rfl rfl (fun w1 h => by have c0 := st_c0 h; clear h; go_simp) ?_
  refine wpYJd_op 10 (.pointer (some ⟨b, 0, none⟩)) rfl rfl rfl (fun w1 h => by go_simp) ?_
  try simp only [Act.put, List.setIfInBounds_toArray, List.set_cons_succ, List.set_cons_zero]
  refine wpYJd_op 11 (.pointer (some ⟨b, 0, none⟩)) rfl rfl rfl (fun w1 h => by go_simp) ?_
  refine wpYJd_op 12 (.pointer (some ⟨b, 1, none⟩)) rfl rfl rfl (fun w1 h => by go_simp) ?_
  refine wpYJd_op 13 (.slice va m vc) rfl rfl rfl (fun w1 h => by have c0 := st_c1 h; clear h; go_simp) ?_
  show wpZ _ _ _ _ _ _ _
  try simp only [Act.put, List.setIfInBounds_toArray, List.set_cons_succ, List.set_cons_zero]
  refine wpZ_of (by exact HROW.out _ M3.end_) ?_
  refine wpT_ownew 14 M3 rfl rfl rfl (by go_simp) (sclone_c w4 (.slice va m vc) m L (HSV.out _ M3.end_) HLM.out HM9.out) (fun uc wc OC MC => ?_)
  have HOC := hid OC
  obtain ⟨xa, xc, rfl, _⟩ := OC.shape
  clear OC
  refine wpZ_to ?_
  try simp only [Act.put, List.setIfInBounds_toArray, List.set_cons_succ, List.set_cons_zero]
  refine wpZ_of (by exact HROW.out _ MC.end_) ?_
  refine wpT_valL 15 (v := .agg (STR room (.slice xa m xc))) rfl rfl rfl (by have q := xb_sto2 wc room xa m xc; go_simp) ?_
  refine wpZ_to ?_
  try simp only [Act.put, List.setIfInBounds_toArray, List.set_cons_succ, List.set_cons_zero]
  refine wpZ_of (by exact HROW.out _ MC.end_) ?_
  obtain ⟨S1, M5, hS1, hT1⟩ := MC.rebase
  refine wpT_sbx (c := STR room (.slice xa m xc)) (T := 58) 16 M5 (by decide) rfl rfl rfl (by go_simp) (fun gb wB hgb MB1 => ?_)
  have MB := hT1 _ _ MB1
  have HOB := hid (HOC.out.fr MB1.fr (fun x _ h => by have := hS1 x h; simp at this))
  have HNE := hid (show obk (.slice xa m xc) ≠ some gb from fun e => by have := (HOC.out.at_ _ e).2; omega)
  clear MB1 hS1 hT1 M5 hgb
  refine wpZ_to ?_
  try simp only [Act.put, List.setIfInBounds_toArray, List.set_cons_succ, List.set_cons_zero]
  refine wpZ_rest (by exact HROW.out _ MB.end_) ?_
  refine wpT_valp 2 (v := .pointer (some ⟨gb, 0, none⟩)) rfl rfl rfl (by go_simp) ?_
  first | dsimp only [wpT] | refine wpT_fin ?_
  try simp only [Act.put, List.setIfInBounds_toArray, List.set_cons_succ, List.set_cons_zero]
  go_wp2_with fail
  go_ret
  exact ⟨gb, _, rfl, SO.mk1 MB (by simp) HOB.out HLM.out HNE.out, MB.end_⟩
/-- a Store that no call made -/
def BadS (w : World) (q : Value) : Prop := q = .pointer none ∨ ∃ b, q = .pointer (some ⟨b, 0, none⟩) ∧ w.rowOf b = STR 0 (.slice none 0 0) ∧ b < w.heap.size
set_option maxRecDepth 100000 in
set_option maxHeartbeats 4000000 in
theorem sput_b (w : World) (q : Value) (hq : BadS w q) (p : Ky) (f : Int) (u : Value) :
    Calls Try.prog 13 #[q, .agg (cs U8 p.l), .int .i64 f, u] w fun e w' => e = .returned (.int .i64 1) ∧ Below w.heap.size w w' := by
  rcases hq with rfl | ⟨b, rfl, hrow, hb⟩
  ·
    have M0 := Mm.start no w
    go_enter Try.func13, Try.ntmps13
    have M2 := (M0.alloc (cs U8 p.l) 28 (by decide))
    try simp only [World.size_alloc] at M2
    go_upto_region 1 with fail
    obtain ⟨w1, hw1⟩ : ∃ w1, w1 = (w.alloc (.cells (cs U8 p.l) 28)) := ⟨_, rfl⟩
    rw [← hw1] at M2 ⊢
    clear hw1
    refine wp_region_lin (.op 0 (.op 1 (.op 2 (.op 3 .done)))) (by rfl) ?_
    refine wpT_valp 13 (v := .pointer none) rfl rfl rfl (by go_simp) ?_
    refine wpT_callv 14 M2 (v := .bool false) rfl rfl rfl (by go_simp) (sgood_nil w1) (fun w3 M4 => ?_)
    refine wpT_valp 15 (v := .bool true) rfl rfl rfl (by go_simp) ?_
    refine wpT_valp 12 (v := .bool true) rfl rfl rfl (by go_simp) ?_
    first | dsimp only [wpT] | refine wpT_fin ?_
    try simp only [Act.put, List.setIfInBounds_toArray, List.set_cons_succ, List.set_cons_zero]
    go_upto_region 2 with fail
    refine wp_region_lin (.op 0 .done) (by rfl) ?_
    refine wpT_valp 8 (v := .int .i64 1) rfl rfl rfl (by go_simp) ?_
    first | dsimp only [wpT] | refine wpT_fin ?_
    try simp only [Act.put, List.setIfInBounds_toArray, List.set_cons_succ, List.set_cons_zero]
    go_wp2_with fail
    go_ret
    exact ⟨rfl, M4.end_⟩
  · have HROW : Hid (∀ w', Below w.heap.size w w' → w'.rowOf b = STR 0 (.slice none 0 0)) := hid fun w' h => (below_row h hb).trans hrow
    have HBL : Hid (∀ w', Below w.heap.size w w' → b < w'.heap.size) := hid fun w' h => Nat.lt_of_lt_of_le hb h.size
    clear hrow hb
    have M0 := Mm.start no w
    go_enter Try.func13, Try.ntmps13
    have M2 := (M0.alloc (cs U8 p.l) 28 (by decide))
    try simp only [World.size_alloc] at M2
    go_upto_region 1 with fail
    obtain ⟨w1, hw1⟩ : ∃ w1, w1 = (w.alloc (.cells (cs U8 p.l) 28)) := ⟨_, rfl⟩
    rw [← hw1] at M2 ⊢
    clear hw1
    refine wp_region_lin (.op 0 (.op 1 (.op 2 (.op 3 .done)))) (by rfl) ?_
    refine wpT_valp 13 (v := .pointer (some ⟨b, 0, none⟩)) rfl rfl rfl (by go_simp) ?_
    refine wpT_callv 14 M2 (v := .bool false) rfl rfl rfl (by go_simp) (sgood_z w1 b (HROW.out _ M2.end_) (HBL.out _ M2.end_)) (fun w3 M4 => ?_)
    refine wpT_valp 15 (v := .bool true) rfl rfl rfl (by go_simp) ?_
    refine wpT_valp 12 (v := .bool true) rfl rfl rfl (by go_simp) ?_
    first | dsimp only [wpT] | refine wpT_fin ?_
    try simp only [Act.put, List.setIfInBounds_toArray, List.set_cons_succ, List.set_cons_zero]
    go_upto_region 2 with fail
    refine wp_region_lin (.op 0 .done) (by rfl) ?_
    refine wpT_valp 8 (v := .int .i64 1) rfl rfl rfl (by go_simp) ?_
    first | dsimp only [wpT] | refine wpT_fin ?_
    try simp only [Act.put, List.setIfInBounds_toArray, List.set_cons_succ, List.set_cons_zero]
    go_wp2_with fail
    go_ret
    exact ⟨rfl, M4.end_⟩
set_option maxRecDepth 100000 in
set_option maxHeartbeats 4000000 in
theorem sget_b (w : World) (q : Value) (hq : BadS w q) (p : Ky) (n : Int) :
    Calls Try.prog 18 #[q, .agg (cs U8 p.l), .int .i64 n] w fun e w' => e = .returned (.tuple #[.agg (cs U8 Ky.zero.l), .int .i64 1]) ∧ Below w.heap.size w w' := by
  rcases hq with rfl | ⟨b, rfl, hrow, hb⟩
  ·
    have M0 := Mm.start no w
    go_enter Try.func18, Try.ntmps18
    have M2 := ((M0.alloc (cs U8 p.l) 28 (by decide)).alloc (cs U8 (zs 32)) 28 (by decide))
    try simp only [World.size_alloc] at M2
    go_upto_region 1 with fail
    obtain ⟨w1, hw1⟩ : ∃ w1, w1 = ((w.alloc (.cells (cs U8 p.l) 28)).alloc (.cells (cs U8 (zs 32)) 28)) := ⟨_, rfl⟩
    rw [← hw1] at M2 ⊢
    clear hw1
    refine wp_region_lin (.op 0 (.op 1 (.op 2 .done))) (by rfl) ?_
    refine wpT_valp 9 (v := .pointer none) rfl rfl rfl (by go_simp) ?_
    refine wpT_callv 10 M2 (v := .bool false) rfl rfl rfl (by go_simp) (sgood_nil w1) (fun w3 M4 => ?_)
    refine wpT_valp 11 (v := .bool true) rfl rfl rfl (by go_simp) ?_
    first | dsimp only [wpT] | refine wpT_fin ?_
    try simp only [Act.put, List.setIfInBounds_toArray, List.set_cons_succ, List.set_cons_zero]
    go_upto_region 2 with fail
    refine wp_region_lin (.op 0 (.op 1 (.op 2 .done))) (by rfl) ?_
    refine wpT_valL 12 (v := .agg (cs U8 Ky.zero.l)) rfl rfl rfl (by have q := xb_k0z w3; go_simp) ?_
    refine wpT_st0 M4 0 (cs U8 Ky.zero.l) inf_key rfl rfl rfl rfl (by go_simp) (by go_simp) (by simp [Ky.len, ENR_size, STR_size]) (by simp [Ky.len, ENR_size, STR_size]) (by simp [go_sem]) rfl (fun w5 M6 => ?_)
    dsimp only [List.set] at M6
    refine wpT_valp 7 (v := .int .i64 1) rfl rfl rfl (by go_simp) ?_
    first | dsimp only [wpT] | refine wpT_fin ?_
    try simp only [Act.put, List.setIfInBounds_toArray, List.set_cons_succ, List.set_cons_zero]
    go_wp2_with fail
    have r7 := M6.row (b := w.heap.size + 1) (c := cs U8 Ky.zero.l) (by simp)
    refine bodyPost_ret (res_two rfl (rv_row Try.underlying28 rfl inf_key (w.heap.size + 1) rfl (by rw [r7]; simp [Ky.len, ENR_size, STR_size])) (rv_tmp _ _ rfl)) rfl ?_
    rw [r7]
    exact ⟨rfl, M6.end_⟩
  · have HROW : Hid (∀ w', Below w.heap.size w w' → w'.rowOf b = STR 0 (.slice none 0 0)) := hid fun w' h => (below_row h hb).trans hrow
    have HBL : Hid (∀ w', Below w.heap.size w w' → b < w'.heap.size) := hid fun w' h => Nat.lt_of_lt_of_le hb h.size
    clear hrow hb
    have M0 := Mm.start no w
    go_enter Try.func18, Try.ntmps18
    have M2 := ((M0.alloc (cs U8 p.l) 28 (by decide)).alloc (cs U8 (zs 32)) 28 (by decide))
    try simp only [World.size_alloc] at M2
    go_upto_region 1 with fail
    obtain ⟨w1, hw1⟩ : ∃ w1, w1 = ((w.alloc (.cells (cs U8 p.l) 28)).alloc (.cells (cs U8 (zs 32)) 28)) := ⟨_, rfl⟩
    rw [← hw1] at M2 ⊢
    clear hw1
    refine wp_region_lin (.op 0 (.op 1 (.op 2 .done))) (by rfl) ?_
    refine wpT_valp 9 (v := .pointer (some ⟨b, 0, none⟩)) rfl rfl rfl (by go_simp) ?_
    refine wpT_callv 10 M2 (v := .bool false) rfl rfl rfl (by go_simp) (sgood_z w1 b (HROW.out _ M2.end_) (HBL.out _ M2.end_)) (fun w3 M4 => ?_)
    refine wpT_valp 11 (v := .bool true) rfl rfl rfl (by go_simp) ?_
    first | dsimp only [wpT] | refine wpT_fin ?_
    try simp only [Act.put, List.setIfInBounds_toArray, List.set_cons_succ, List.set_cons_zero]
    go_upto_region 2 with fail
    refine wp_region_lin (.op 0 (.op 1 (.op 2 .done))) (by rfl) ?_
    refine wpT_valL 12 (v := .agg (cs U8 Ky.zero.l)) rfl rfl rfl (by have q := xb_k0z w3; go_simp) ?_
    refine wpT_st0 M4 0 (cs U8 Ky.zero.l) inf_key rfl rfl rfl rfl (by go_simp) (by go_simp) (by simp [Ky.len, ENR_size, STR_size]) (by simp [Ky.len, ENR_size, STR_size]) (by simp [go_sem]) rfl (fun w5 M6 => ?_)
    dsimp only [List.set] at M6
    refine wpT_valp 7 (v := .int .i64 1) rfl rfl rfl (by go_simp) ?_
    first | dsimp only [wpT] | refine wpT_fin ?_
    try simp only [Act.put, List.setIfInBounds_toArray, List.set_cons_succ, List.set_cons_zero]
    go_wp2_with fail
    have r7 := M6.row (b := w.heap.size + 1) (c := cs U8 Ky.zero.l) (by simp)
    refine bodyPost_ret (res_two rfl (rv_row Try.underlying28 rfl inf_key (w.heap.size + 1) rfl (by rw [r7]; simp [Ky.len, ENR_size, STR_size])) (rv_tmp _ _ rfl)) rfl ?_
    rw [r7]
    exact ⟨rfl, M6.end_⟩
set_option maxRecDepth 100000 in
set_option maxHeartbeats 4000000 in
theorem sdrop_b (w : World) (q : Value) (hq : BadS w q) (p : Ky) (n : Int) :
    Calls Try.prog 12 #[q, .agg (cs U8 p.l), .int .i64 n] w fun e w' => e = .returned (.int .i64 1) ∧ Below w.heap.size w w' := by
  rcases hq with rfl | ⟨b, rfl, hrow, hb⟩
  ·
    have M0 := Mm.start no w
    go_enter Try.func12, Try.ntmps12
    have M2 := (M0.alloc (cs U8 p.l) 28 (by decide))
    try simp only [World.size_alloc] at M2
    go_upto_region 1 with fail
    obtain ⟨w1, hw1⟩ : ∃ w1, w1 = (w.alloc (.cells (cs U8 p.l) 28)) := ⟨_, rfl⟩
    rw [← hw1] at M2 ⊢
    clear hw1
    refine wp_region_lin (.op 0 (.op 1 (.op 2 .done))) (by rfl) ?_
    refine wpT_valp 8 (v := .pointer none) rfl rfl rfl (by go_simp) ?_
    refine wpT_callv 9 M2 (v := .bool false) rfl rfl rfl (by go_simp) (sgood_nil w1) (fun w3 M4 => ?_)
    refine wpT_valp 10 (v := .bool true) rfl rfl rfl (by go_simp) ?_
    first | dsimp only [wpT] | refine wpT_fin ?_
    try simp only [Act.put, List.setIfInBounds_toArray, List.set_cons_succ, List.set_cons_zero]
    go_upto_region 2 with fail
    refine wp_region_lin (.op 0 .done) (by rfl) ?_
    refine wpT_valp 6 (v := .int .i64 1) rfl rfl rfl (by go_simp) ?_
    first | dsimp only [wpT] | refine wpT_fin ?_
    try simp only [Act.put, List.setIfInBounds_toArray, List.set_cons_succ, List.set_cons_zero]
    go_wp2_with fail
    go_ret
    exact ⟨rfl, M4.end_⟩
  · have HROW : Hid (∀ w', Below w.heap.size w w' → w'.rowOf b = STR 0 (.slice none 0 0)) := hid fun w' h => (below_row h hb).trans hrow
    have HBL : Hid (∀ w', Below w.heap.size w w' → b < w'.heap.size) := hid fun w' h => Nat.lt_of_lt_of_le hb h.size
    clear hrow hb
    have M0 := Mm.start no w
    go_enter Try.func12, Try.ntmps12
    have M2 := (M0.alloc (cs U8 p.l) 28 (by decide))
    try simp only [World.size_alloc] at M2
    go_upto_region 1 with fail
    obtain ⟨w1, hw1⟩ : ∃ w1, w1 = (w.alloc (.cells (cs U8 p.l) 28)) := ⟨_, rfl⟩
    rw [← hw1] at M2 ⊢
    clear hw1
    refine wp_region_lin (.op 0 (.op 1 (.op 2 .done))) (by rfl) ?_
    refine wpT_valp 8 (v := .pointer (some ⟨b, 0, none⟩)) rfl rfl rfl (by go_simp) ?_
    refine wpT_callv 9 M2 (v := .bool false) rfl rfl rfl (by go_simp) (sgood_z w1 b (HROW.out _ M2.end_) (HBL.out _ M2.end_)) (fun w3 M4 => ?_)
    refine wpT_valp 10 (v := .bool true) rfl rfl rfl (by go_simp) ?_
    first | dsimp only [wpT] | refine wpT_fin ?_
    try simp only [Act.put, List.setIfInBounds_toArray, List.set_cons_succ, List.set_cons_zero]
    go_upto_region 2 with fail
    refine wp_region_lin (.op 0 .done) (by rfl) ?_
    refine wpT_valp 6 (v := .int .i64 1) rfl rfl rfl (by go_simp) ?_
    first | dsimp only [wpT] | refine wpT_fin ?_
    try simp only [Act.put, List.setIfInBounds_toArray, List.set_cons_succ, List.set_cons_zero]
    go_wp2_with fail
    go_ret
    exact ⟨rfl, M4.end_⟩
set_option maxRecDepth 100000 in
set_option maxHeartbeats 4000000 in
theorem sall_b (w : World) (q : Value) (hq : BadS w q)  :
    Calls Try.prog 14 #[q] w fun e w' => e = .returned (.slice none 0 0) ∧ Below w.heap.size w w' := by
  rcases hq with rfl | ⟨b, rfl, hrow, hb⟩
  ·
    have M0 := Mm.start no w
    go_enter Try.func14, Try.ntmps14
    go_upto_region 1 with fail
    refine wp_region_lin (.op 0 (.op 1 (.op 2 .done))) (by rfl) ?_
    refine wpT_valp 3 (v := .pointer none) rfl rfl rfl (by go_simp) ?_
    refine wpT_callv 4 M0 (v := .bool false) rfl rfl rfl (by go_simp) (sgood_nil w) (fun w1 M2 => ?_)
    refine wpT_valp 5 (v := .bool true) rfl rfl rfl (by go_simp) ?_
    first | dsimp only [wpT] | refine wpT_fin ?_
    try simp only [Act.put, List.setIfInBounds_toArray, List.set_cons_succ, List.set_cons_zero]
    go_upto_region 2 with fail
    refine wp_region_lin (.op 0 .done) (by rfl) ?_
    refine wpT_valp 2 (v := .slice none 0 0) rfl rfl rfl (by go_simp) ?_
    first | dsimp only [wpT] | refine wpT_fin ?_
    try simp only [Act.put, List.setIfInBounds_toArray, List.set_cons_succ, List.set_cons_zero]
    go_wp2_with fail
    go_ret
    exact ⟨rfl, M2.end_⟩
  · have HROW : Hid (∀ w', Below w.heap.size w w' → w'.rowOf b = STR 0 (.slice none 0 0)) := hid fun w' h => (below_row h hb).trans hrow
    have HBL : Hid (∀ w', Below w.heap.size w w' → b < w'.heap.size) := hid fun w' h => Nat.lt_of_lt_of_le hb h.size
    clear hrow hb
    have M0 := Mm.start no w
    go_enter Try.func14, Try.ntmps14
    go_upto_region 1 with fail
    refine wp_region_lin (.op 0 (.op 1 (.op 2 .done))) (by rfl) ?_
    refine wpT_valp 3 (v := .pointer (some ⟨b, 0, none⟩)) rfl rfl rfl (by go_simp) ?_
    refine wpT_callv 4 M0 (v := .bool false) rfl rfl rfl (by go_simp) (sgood_z w b (HROW.out _ M0.end_) (HBL.out _ M0.end_)) (fun w1 M2 => ?_)
    refine wpT_valp 5 (v := .bool true) rfl rfl rfl (by go_simp) ?_
    first | dsimp only [wpT] | refine wpT_fin ?_
    try simp only [Act.put, List.setIfInBounds_toArray, List.set_cons_succ, List.set_cons_zero]
    go_upto_region 2 with fail
    refine wp_region_lin (.op 0 .done) (by rfl) ?_
    refine wpT_valp 2 (v := .slice none 0 0) rfl rfl rfl (by go_simp) ?_
    first | dsimp only [wpT] | refine wpT_fin ?_
    try simp only [Act.put, List.setIfInBounds_toArray, List.set_cons_succ, List.set_cons_zero]
    go_wp2_with fail
    go_ret
    exact ⟨rfl, M2.end_⟩
set_option maxRecDepth 100000 in
set_option maxHeartbeats 4000000 in
theorem sclo_b (w : World) (q : Value) (hq : BadS w q)  :
    Calls Try.prog 17 #[q] w fun e w' => e = .returned (.pointer none) ∧ Below w.heap.size w w' := by
  rcases hq with rfl | ⟨b, rfl, hrow, hb⟩
  ·
    have M0 := Mm.start no w
    go_enter Try.func17, Try.ntmps17
    go_upto_region 1 with fail
    refine wp_region_lin (.op 0 (.op 1 (.op 2 .done))) (by rfl) ?_
    refine wpT_valp 3 (v := .pointer none) rfl rfl rfl (by go_simp) ?_
    refine wpT_callv 4 M0 (v := .bool false) rfl rfl rfl (by go_simp) (sgood_nil w) (fun w1 M2 => ?_)
    refine wpT_valp 5 (v := .bool true) rfl rfl rfl (by go_simp) ?_
    first | dsimp only [wpT] | refine wpT_fin ?_
    try simp only [Act.put, List.setIfInBounds_toArray, List.set_cons_succ, List.set_cons_zero]
    go_upto_region 2 with fail
    refine wp_region_lin (.op 0 .done) (by rfl) ?_
    refine wpT_valp 2 (v := .pointer none) rfl rfl rfl (by go_simp) ?_
    first | dsimp only [wpT] | refine wpT_fin ?_
    try simp only [Act.put, List.setIfInBounds_toArray, List.set_cons_succ, List.set_cons_zero]
    go_wp2_with fail
    go_ret
    exact ⟨rfl, M2.end_⟩
  · have HROW : Hid (∀ w', Below w.heap.size w w' → w'.rowOf b = STR 0 (.slice none 0 0)) := hid fun w' h => (below_row h hb).trans hrow
    have HBL : Hid (∀ w', Below w.heap.size w w' → b < w'.heap.size) := hid fun w' h => Nat.lt_of_lt_of_le hb h.size
    clear hrow hb
    have M0 := Mm.start no w
    go_enter Try.func17, Try.ntmps17
    go_upto_region 1 with fail
    refine wp_region_lin (.op 0 (.op 1 (.op 2 .done))) (by rfl) ?_
    refine wpT_valp 3 (v := .pointer (some ⟨b, 0, none⟩)) rfl rfl rfl (by go_simp) ?_
    refine wpT_callv 4 M0 (v := .bool false) rfl rfl rfl (by go_simp) (sgood_z w b (HROW.out _ M0.end_) (HBL.out _ M0.end_)) (fun w1 M2 => ?_)
    refine wpT_valp 5 (v := .bool true) rfl rfl rfl (by go_simp) ?_
    first | dsimp only [wpT] | refine wpT_fin ?_
    try simp only [Act.put, List.setIfInBounds_toArray, List.set_cons_succ, List.set_cons_zero]
    go_upto_region 2 with fail
    refine wp_region_lin (.op 0 .done) (by rfl) ?_
    refine wpT_valp 2 (v := .pointer none) rfl rfl rfl (by go_simp) ?_
    first | dsimp only [wpT] | refine wpT_fin ?_
    try simp only [Act.put, List.setIfInBounds_toArray, List.set_cons_succ, List.set_cons_zero]
    go_wp2_with fail
    go_ret
    exact ⟨rfl, M2.end_⟩
end Go.Proofs.Ytojkcbhmhfjioaa
