/-
  Reference 19: secret, Start, Answer, Show; setup.secret of any pairs; own work.
  Laws SetupStarts, SetupAnswers; own work.
-/
import Derived.Test.YtgclegdgngldoaaDoorSu4
import Derived.Test.YtgclegdgngldoaaDoorRt2
import Derived.Test.YtgclegdgngldoaaDoorKsl
import Derived.Test.YtgclegdgngldoaaDoorRef4f
import Derived.Laws.StructEq
set_option linter.unusedSimpArgs false
set_option linter.unusedVariables false
namespace Go.Proofs.YtgclegdgngldoaaDoor
open Go.RowKit Fp
section
variable {ops : Array Oper} {Q : Exit → Act → World → Prop} {i : Nat} {t : Tr} {a : Act} {o : Oper} {S : Nat → Prop} {w0 w : World} {H : List (Nat × Array Value)}
theorem wpT_keysO (dst n : Nat) (ps : Array (Nat × Operand)) (M : Mm S w0 H w) (L : List L8) (c : Array Value) (hcl : c.toList = fl L) (h32 : ∀ k ∈ L, k.length = 32) (hLn : L.length = n) (hn : n = ps.size) (hn0 : 0 < n) (hn1 : n ≤ 1000) (hdst : o.dst = some dst) (ho : ops[i]? = some o) (hop : o.op = .buildSlice 79 n ps)
    (hc : Cont (fun i => some (i * 32, 32)) 0 (ps.map fun (i, x) => (i, a.eval x)).toList) (hs : (catP (ps.map fun (i, x) => (i, a.eval x)).toList).size = n * 32) (hcc : catP (ps.map fun (i, x) => (i, a.eval x)).toList = c) (hw : Region.wanted o (yielded ops a.tmps) = true)
    (h : ∀ b w', KO w' w.heap.size (.slice (some ⟨b, 0, none⟩) n n) L → Mm S w0 H w' → Below w.heap.size w w' → w.heap.size ≤ b → wpT Tryd.prog ops Q t (a.put (some dst) (.slice (some ⟨b, 0, none⟩) n n)) w') : wpT Tryd.prog ops Q (.op i t) a w := by
  obtain ⟨ie, z, h1, h2, h3, h4⟩ := key_info
  have hf : Instr.fill (fun i => some (i * ie.size, ie.size)) ((Array.range (n * ie.size)).map (z.cells[· % z.cells.size]!)) (ps.map fun (i, x) => (i, a.eval x)).toList = some c := by
    rw [h3]
    have := fill_cat (fun i => some (i * 32, 32)) (ps.map fun (i, x) => (i, a.eval x)).toList #[] ((Array.range (n * 32)).map (z.cells[· % z.cells.size]!)) hc (by rw [hs]; simp)
    rw [Array.empty_append, Array.empty_append] at this
    rw [this, hcc]
  refine wpT_val (w' := w.alloc (.cells c 23)) (v := .slice (some ⟨w.heap.size, 0, none⟩) n n) ho hw ?_ ?_
  · obtain ⟨dst, op, ty, pos, after, guard⟩ := o
    subst hop
    simp only [execOp, Sem.run_bind]
    rw [run_buildSlice w 79 23 n _ c ie z Tryd.underlying79 h1 h2 (by rw [h3]; omega) (by rw [h3]; omega) hf]; rfl
  · rw [hdst]
    have hb : Below w.heap.size w (w.alloc (.cells c 23)) := (Below.refl _ _).alloc (Nat.le_refl _) _
    have hsz : c.size = n * 32 := by rw [← hcc]; exact hs
    have h5 := World.ownsRow_lit (base := w.heap.size) (e := 23) (size := 32) w c n (Nat.le_refl _) (by unfold maxLen; omega) hsz
    exact h _ _ ⟨by rw [hLn, ← hcl]; exact h5, h32⟩ (M.below hb) hb (Nat.le_refl _)
theorem wpT_keysO3 (dst : Nat) (x y z : Operand) (M : Mm S w0 H w) (k l m : L8) (hk : k.length = 32) (hl : l.length = 32) (hm : m.length = 32) (hdst : o.dst = some dst) (ho : ops[i]? = some o) (hop : o.op = .buildSlice 79 3 #[(0, x), (1, y), (2, z)])
    (hx : a.eval x = .agg (cs U8 k)) (hy : a.eval y = .agg (cs U8 l)) (hz : a.eval z = .agg (cs U8 m)) (hw : Region.wanted o (yielded ops a.tmps) = true)
    (h : ∀ b w', KO w' w.heap.size (.slice (some ⟨b, 0, none⟩) 3 3) [k, l, m] → Mm S w0 H w' → Below w.heap.size w w' → w.heap.size ≤ b → wpT Tryd.prog ops Q t (a.put (some dst) (.slice (some ⟨b, 0, none⟩) 3 3)) w') : wpT Tryd.prog ops Q (.op i t) a w := by
  have e : (Array.map (fun (x : Nat × Operand) => (x.1, a.eval x.2)) #[(0, x), (1, y), (2, z)]).toList = [(0, .agg (cs U8 k)), (1, .agg (cs U8 l)), (2, .agg (cs U8 m))] := by simp [hx, hy, hz]
  refine wpT_keysO dst 3 #[(0, x), (1, y), (2, z)] M [k, l, m] (cs U8 (k ++ (l ++ m))) (by simp [cs, fl]) (fun q hq => by simp only [List.mem_cons, List.not_mem_nil, or_false] at hq; rcases hq with rfl | rfl | rfl <;> assumption) rfl rfl (by decide) (by decide) hdst ho hop ?_ ?_ ?_ hw h
  · rw [e]; simp [Cont, Value.cells, hk, hl, hm]
  · rw [e]; simp [catP, Value.cells, hk, hl, hm]
  · rw [e]; simp [catP, Value.cells, cs_append]
/-- append of one key; what has grown is told -/
theorem wpT_apkg (dst : Nat) (s x : Operand) (M : Mm S w0 H w) (base : Nat) (v u : Value) (L : List (List (BitVec 8))) (k : List (BitVec 8)) (hdst : o.dst = some dst) (ho : ops[i]? = some o)
    (hop : o.op = .call { callee := .builtin .append, args := #[s, x], argTypes := #[79, 79] }) (hg : o.guard = none) (hs : a.eval s = v) (hown : KO w base v L) (hx : a.eval x = u) (hk : k.length = 32) (hsv : SV w u 1 (k.map U8))
    (hlen : L.length ≤ 1000000) (hbase : base ≤ w.heap.size) (hb0 : w0.heap.size ≤ base) (hsep : ∀ g, v.ownBlock = some g → ∀ p ∈ H, p.1 ≠ g)
    (h : ∀ v' w', KO w' base v' (L ++ [k]) → Mm S w0 H w' → (v'.ownBlock = v.ownBlock ∨ v'.ownBlock = some w.heap.size) → w.grownBy w' v.ownBlock → wpT Tryd.prog ops Q t (a.put (some dst) v') w') : wpT Tryd.prog ops Q (.op i t) a w := by
  refine wpT_step ho hg (fun K hK => ?_)
  refine wp_apd s x 79 hop base 23 (.agg (cs U8 (zs 32))) 32 32 Tryd.underlying79 key_inf3 (by simp [Value.cells]) (by decide) v u L.length 1 (fl L) (k.map U8) hs hown.1 hx hsv (by simp [hk]) (by simp; intro _ _; rfl) (by unfold maxLen; omega) (by omega) hbase ?_
  intro v' w' h1 h2 h3
  rw [hdst]
  refine hK _ _ (h v' w' ⟨by simpa [fl] using h1, fun x hx => ?_⟩ (M.grown h2 (fun g hg => ⟨.inr (Nat.le_trans hb0 (hown.at_ g hg).1), hsep g hg⟩)) h3 h2)
  rcases List.mem_append.1 hx with e | e
  · exact hown.2 x e
  · simp at e; subst e; exact hk
end
theorem rbytes_bn (w : World) (l : L8) (hl : l.length = 32) :
    Calls Tryd.prog 53 #[.agg (cs U8 l)] w fun e w' => ∃ v, e = .returned v ∧ BN w' w.heap.size v l ∧ Below w.heap.size w w' :=
  (rbytes_any w l hl).mono fun e w' ⟨u, h1, h2, h3⟩ => ⟨u, h1, h2.bn, h3⟩
theorem rext_v {w : World} {v0 v1 : Value} {k m D : L8} (hD : D = Sh.mac k m) (h0 : BS w v0 k) (h1 : BS w v1 m) (hkl : k.length ≤ 1073740000) (hml : m.length ≤ 1073740000) :
    Calls Tryd.prog 55 #[v0, v1] w fun e w' => e = .returned (.agg (cs U8 D)) ∧ Below w.heap.size w w' := by
  rw [hD]; exact rextract_any w v0 v1 k m h0 h1 hkl hml
theorem rderS_v {w : World} {l D : L8} (hD : D = Sh.derive l Su.setupB) (hl : l.length = 32) :
    Calls Tryd.prog 54 #[.agg (cs U8 l), .string ⟨#[115, 101, 116, 117, 112]⟩] w fun e w' => e = .returned (.agg (cs U8 D)) ∧ Below w.heap.size w w' := by
  rw [hD]; exact rderive_any w l Su.setupB hl (by decide)
theorem rpub_v (w : World) (a X : L8) (ha : a.length = 32) (hX : X = Su.pub a) :
    Calls Tryd.prog 35 #[.agg (cs U8 a)] w fun e w' => e = .returned (.agg (cs U8 X)) ∧ Below w.heap.size w w' := by
  rw [hX]; exact rpublic_c w a ha
theorem rshr_ok (w : World) (a b X : L8) (ha : a.length = 32) (hb : b.length = 32) (hne : shv a b ≠ 0) (hX : X = K (shv a b)) :
    Calls Tryd.prog 52 #[.agg (cs U8 a), .agg (cs U8 b)] w fun e w' => e = .returned (.tuple #[.agg (cs U8 X), .int .i64 0]) ∧ Below w.heap.size w w' := by
  have h := rshared_c w a b ha hb
  rw [show ec (shv a b) = 0 from if_neg hne] at h
  rw [hX]; exact h
theorem rshr_bad (w : World) (a b : L8) (ha : a.length = 32) (hb : b.length = 32) (hne : shv a b = 0) :
    Calls Tryd.prog 52 #[.agg (cs U8 a), .agg (cs U8 b)] w fun e w' => e = .returned (.tuple #[.agg (cs U8 (zs 32)), .int .i64 7]) ∧ Below w.heap.size w w' := by
  have h := rshared_c w a b ha hb
  rw [show ec (shv a b) = 7 from if_pos hne, hne, K_zero] at h
  exact h
/-- what pairs come to, of whatever points -/
noncomputable def Su.res (l : List (L8 × L8)) : L8 × Int := by classical exact if Su.good l then (Su.sec l, 0) else (zs 32, 7)
theorem res_good {l : List (L8 × L8)} (h : Su.good l) : Su.res l = (Su.sec l, 0) := by unfold Su.res; rw [if_pos h]
theorem res_bad {l : List (L8 × L8)} (h : ¬ Su.good l) : Su.res l = (zs 32, 7) := by unfold Su.res; rw [if_neg h]
theorem res_len (l : List (L8 × L8)) : (Su.res l).1.length = 32 := by
  by_cases h : Su.good l
  · rw [res_good h]; exact derive_len ..
  · rw [res_bad h]; rfl
theorem good_all {l : List (L8 × L8)} (h : ∀ j, j < l.length → shv (l.getD j ([], [])).1 (l.getD j ([], [])).2 ≠ 0) : Su.good l := by
  intro p hp
  obtain ⟨j, hj, e⟩ := List.mem_iff_getElem.1 hp
  have := h j hj
  rw [List.getD_eq_getElem?_getD, List.getElem?_eq_getElem hj] at this
  rw [← e]; exact this
attribute [local irreducible] BR Su.pub Su.parts Sh.mac Sh.derive
set_option maxRecDepth 100000 in
set_option maxHeartbeats 2000000 in
theorem secret_no (w : World) (l : List (L8 × L8)) (v : Value) (hv : PS w v (l.map cat2)) (h32 : ∀ p ∈ l, p.1.length = 32 ∧ p.2.length = 32) (hg : ¬ Su.good l) (h0 : 0 < l.length) (h9 : l.length ≤ 9) :
    Calls Tryd.prog 33 #[v] w fun e w' => e = .returned (.tuple #[.agg (cs U8 (zs 32)), .int .i64 7]) ∧ Below w.heap.size w w' := by
  have HG := hid hg
  clear hg
  obtain ⟨a0, cp, rfl, hc0, hm0, -⟩ := id hv
  obtain ⟨gp, op, e, hpc⟩ := hv.key (by rw [List.length_map]; omega)
  subst e
  rw [List.length_map] at hc0 hm0
  obtain ⟨n, hn⟩ : ∃ n, (l.map cat2).length = n := ⟨_, rfl⟩
  have hnl : l.length = n := by rw [← hn, List.length_map]
  rw [hn]
  have HPCS : Hid (∀ i, i < n → ∀ w', Below w.heap.size w w' → PC w' gp (op + i * 64) ((l.getD i ([], [])).1 ++ (l.getD i ([], [])).2)) := hid fun i hi w' h => by
    have h1 := (hpc i (by rw [hn]; exact hi)).below h
    rw [List.getD_eq_getElem?_getD, List.getElem?_map, List.getElem?_eq_getElem (show i < l.length by omega)] at h1
    rw [List.getD_eq_getElem?_getD, List.getElem?_eq_getElem (show i < l.length by omega)]
    exact h1
  have H32 := hid h32
  clear hv hpc hn h32
  have M0 := Mm.start no w
  go_enter Tryd.func33, Tryd.ntmps33
  have M2 := (M0.alloc (cs U8 (zs 32)) 23 (by decide))
  try simp only [World.size_alloc] at M2
  go_upto_region 1 with fail
  obtain ⟨w1, hw1⟩ : ∃ w1, w1 = (w.alloc (.cells (cs U8 (zs 32)) 23)) := ⟨_, rfl⟩
  rw [← hw1] at M2 ⊢
  clear hw1
  refine wp_region_lin (.op 0 .done) (by rfl) ?_
  refine wpT_valp 4 (v := (.slice none 0 0)) rfl rfl rfl (by go_simp) ?_
  dsimp only [wpT]
  try simp only [Act.put, List.setIfInBounds_toArray, List.set_cons_succ, List.set_cons_zero]
  go_upto_region 2 with fail
  refine wp_region_lin (.op 0 (.op 1 (.op 2 .done))) (by rfl) ?_
  refine wpT_valp 9 (v := .slice (some ⟨gp, op, none⟩) n cp) rfl rfl rfl (by go_simp) ?_
  refine wpT_valp 10 (v := .int .i64 n) rfl rfl rfl (by go_simp) ?_
  refine wpT_valp 11 (v := .int .i64 0) rfl rfl rfl (by go_simp) ?_
  dsimp only [wpT]
  try simp only [Act.put, List.setIfInBounds_toArray, List.set_cons_succ, List.set_cons_zero]
  go_wp2_with fail
  go_loopw [4, 11] (fun u x wr => ∃ i : Nat, i ≤ n ∧ x = .int .i64 i ∧ OB wr (w.heap.size + 1) u (Su.parts (l.take i)) ∧ Mm no w [(w.heap.size, cs U8 (zs 32))] wr ∧ Hid (∀ j, j < i → shv (l.getD j ([], [])).1 (l.getD j ([], [])).2 ≠ 0)) (fun _ x _ => n - (intOf x).toNat)
  case atStart => exact ⟨0, by omega, rfl, by rw [List.take_zero]; unfold Su.parts; exact OB.nil _ _, M2, hid (fun j hj => by omega)⟩
  case round =>
    clear M2 M0
    obtain ⟨i, hi, rfl, OU, M, HJ⟩ := hrel
    by_cases hin : i < n
    · skip
      have hlt : (i : Int) < (n : Int) := by omega
      have hi0 : (0 : Int) ≤ (i : Int) := by omega
      obtain ⟨a, ea⟩ : ∃ a, a = (l.getD i ([], [])).1 := ⟨_, rfl⟩
      obtain ⟨b, eb⟩ : ∃ b, b = (l.getD i ([], [])).2 := ⟨_, rfl⟩
      have hmem : l.getD i ([], []) ∈ l := by
        rw [List.getD_eq_getElem?_getD, List.getElem?_eq_getElem (show i < l.length by omega)]; exact List.getElem_mem _
      have ha : a.length = 32 := by rw [ea]; exact (H32.out _ hmem).1
      have hb : b.length = 32 := by rw [eb]; exact (H32.out _ hmem).2
      have HPC : Hid (∀ w', Below w.heap.size w w' → PC w' gp (op + i * 64) (a ++ b)) := hid (by rw [ea, eb]; exact HPCS.out i (by omega))
      obtain ⟨S1, MR, hS1, hT1⟩ := M.rebase
      have M := MR
      have HT1 := hid hT1
      by_cases hne : shv a b = 0
      · clear ea eb hmem
        go_upto_region 4 with fail
        refine wp_region_lin (.op 0 (.op 1 (.op 2 (.op 3 .done)))) (by rfl) ?_
        refine wpT_valp 13 (v := .pointer (some ⟨gp, op + i * 64, none⟩)) rfl rfl rfl (by go_simp) ?_
        refine wpT_ldx 14 (.pointer (some ⟨gp, op + i * 64, none⟩)) (.agg (cs U8 (a ++ b))) rfl rfl rfl (by go_simp) (HPC.out _ (HT1.out _ _ M).end_).load rfl ?_
        refine wpT_new (z := .agg (cs U8 (zs 64))) 6 M (by kernel_rfl) (by decide) rfl rfl rfl rfl (fun b1 w2 M3 => ?_)
        try dsimp only [Value.cells] at M3
        refine wpT_st0 M3 0 (cs U8 (a ++ b)) inf_pr2 rfl rfl rfl rfl (by go_simp) (by go_simp) (by simp [ha, hb]) (by simp [ha, hb]) (by simp [go_sem]) rfl (fun w4 M5 => ?_)
        dsimp only [List.set] at M5
        dsimp only [wpT]
        try simp only [Act.put, List.setIfInBounds_toArray, List.set_cons_succ, List.set_cons_zero]
        go_upto_region 5 with fail
        refine wp_region_lin (.op 0 (.op 1 (.op 2 (.op 3 (.op 4 (.op 5 (.op 6 (.op 7 (.op 8 (.op 9 (.op 10 .done))))))))))) (by rfl) ?_
        refine wpT_valp 16 (v := .pointer (some ⟨b1, 0, none⟩)) rfl rfl rfl (by go_simp) ?_
        refine wpT_ldm 17 Tryd.underlying23 rfl inf_key (b1) 0 (cs U8 (a ++ b)) (cs U8 a) rfl rfl rfl (by go_simp) (M5.row (by simp)) (by simp [ha, hb]) (by rw [cs_extract] <;> congr 1 <;> first | (simp [ha, hb]; done) | simp [List.take_append, List.drop_append, List.take_of_length_le, ha, hb]) rfl ?_
        refine wpT_valp 18 (v := .pointer (some ⟨b1, 32, none⟩)) rfl rfl rfl (by go_simp) ?_
        refine wpT_ldm 19 Tryd.underlying23 rfl inf_key (b1) 32 (cs U8 (a ++ b)) (cs U8 b) rfl rfl rfl (by go_simp) (M5.row (by simp)) (by simp [ha, hb]) (by rw [cs_extract] <;> congr 1 <;> first | (simp [ha, hb]; done) | simp [List.take_append, List.drop_append, List.take_of_length_le, ha, hb]) rfl ?_
        try simp only [Act.put, List.setIfInBounds_toArray, List.set_cons_succ, List.set_cons_zero]
        refine wpT_callv 20 M5 (v := .tuple #[.agg (cs U8 (zs 32)), .int .i64 7]) rfl rfl rfl (by go_simp) (shr_bad w4 a b ha hb hne) (fun w6 M7 => ?_)
        refine wpT_valp 15 (v := .tuple #[.agg (cs U8 (zs 32)), .int .i64 7]) rfl rfl rfl (by go_simp) ?_
        refine wpT_valp 21 (v := .agg (cs U8 (zs 32))) rfl rfl rfl (by go_simp) ?_
        refine wpT_valp 22 (v := .int .i64 7) rfl rfl rfl (by go_simp) ?_
        refine wpT_new (z := .agg (cs U8 (zs 32))) 7 M7 (by kernel_rfl) (by decide) rfl rfl rfl rfl (fun b8 w9 M10 => ?_)
        try dsimp only [Value.cells] at M10
        try simp only [Act.put, List.setIfInBounds_toArray, List.set_cons_succ, List.set_cons_zero]
        refine wpT_st0 M10 0 (cs U8 (zs 32)) inf_key rfl rfl rfl rfl (by go_simp) (by go_simp) (by simp [ha, hb]) (by simp [ha, hb]) (by simp [go_sem]) rfl (fun w11 M12 => ?_)
        dsimp only [List.set] at M12
        refine wpT_valp 8 (v := .int .i64 7) rfl rfl rfl (by go_simp) ?_
        dsimp only [wpT]
        try simp only [Act.put, List.setIfInBounds_toArray, List.set_cons_succ, List.set_cons_zero]
        go_upto_region 6 with fail
        refine wp_region_lin (.op 0 (.op 1 .done)) (by rfl) ?_
        refine wpT_valp 23 (v := .int .i64 7) rfl rfl rfl (by go_simp) ?_
        refine wpT_valp 24 (v := .bool true) rfl rfl rfl (by go_simp) ?_
        dsimp only [wpT]
        try simp only [Act.put, List.setIfInBounds_toArray, List.set_cons_succ, List.set_cons_zero]
        go_upto_region 7 with fail
        refine wp_region_lin (.op 0 (.op 1 (.op 2 (.op 3 .done)))) (by rfl) ?_
        refine wpT_valL 25 (v := .agg (cs U8 (zs 32))) rfl rfl rfl (by have q := xb_k0 w11; go_simp) ?_
        refine wpT_valp 26 (v := .int .i64 7) rfl rfl rfl (by go_simp) ?_
        refine wpT_st0 M12 2 (cs U8 (zs 32)) inf_key rfl rfl rfl rfl (by go_simp) (by go_simp) (by simp [ha, hb]) (by simp [ha, hb]) (by simp [go_sem]) rfl (fun w13 M14 => ?_)
        dsimp only [List.set] at M14
        refine wpT_valp 3 (v := .int .i64 7) rfl rfl rfl (by go_simp) ?_
        dsimp only [wpT]
        try simp only [Act.put, List.setIfInBounds_toArray, List.set_cons_succ, List.set_cons_zero]
        go_wp2_with fail
        have r15 := M14.row (b := w.heap.size) (c := cs U8 (zs 32)) (by simp)
        refine bodyPost_ret (res_two rfl (rv_row Tryd.underlying23 rfl inf_key (w.heap.size) rfl (by rw [r15]; simp [ha, hb])) (rv_tmp _ _ rfl)) rfl ?_
        rw [r15]
        exact ⟨rfl, (hT1 _ _ M14).end_⟩
      · replace HJ : Hid (∀ j, j < i + 1 → shv (l.getD j ([], [])).1 (l.getD j ([], [])).2 ≠ 0) := hid (fun j hj => by
          by_cases hji : j < i
          · exact HJ.out j hji
          · obtain rfl : j = i := by omega
            rw [← ea, ← eb]; exact hne)
        obtain ⟨X, eX⟩ : ∃ X, X = K (shv a b) := ⟨_, rfl⟩
        have hX : X.length = 32 := by rw [eX]; exact K_len _
        have HX := hid eX
        have hpl : (Su.parts (l.take i)).length = 32 * i := by rw [parts_len, List.length_take]; congr 1; omega
        have HPS := hid (show Su.parts (l.take i) ++ X = Su.parts (l.take (i + 1)) by rw [eX, ea, eb]; exact parts_take l i (by omega))
        clear ea eb eX hmem
        go_upto_region 4 with fail
        refine wp_region_lin (.op 0 (.op 1 (.op 2 (.op 3 .done)))) (by rfl) ?_
        refine wpT_valp 13 (v := .pointer (some ⟨gp, op + i * 64, none⟩)) rfl rfl rfl (by go_simp) ?_
        refine wpT_ldx 14 (.pointer (some ⟨gp, op + i * 64, none⟩)) (.agg (cs U8 (a ++ b))) rfl rfl rfl (by go_simp) (HPC.out _ (HT1.out _ _ M).end_).load rfl ?_
        refine wpT_new (z := .agg (cs U8 (zs 64))) 6 M (by kernel_rfl) (by decide) rfl rfl rfl rfl (fun b1 w2 M3 => ?_)
        try dsimp only [Value.cells] at M3
        refine wpT_st0 M3 0 (cs U8 (a ++ b)) inf_pr2 rfl rfl rfl rfl (by go_simp) (by go_simp) (by simp [ha, hb, hX]) (by simp [ha, hb, hX]) (by simp [go_sem]) rfl (fun w4 M5 => ?_)
        dsimp only [List.set] at M5
        dsimp only [wpT]
        try simp only [Act.put, List.setIfInBounds_toArray, List.set_cons_succ, List.set_cons_zero]
        go_upto_region 5 with fail
        refine wp_region_lin (.op 0 (.op 1 (.op 2 (.op 3 (.op 4 (.op 5 (.op 6 (.op 7 (.op 8 (.op 9 (.op 10 .done))))))))))) (by rfl) ?_
        refine wpT_valp 16 (v := .pointer (some ⟨b1, 0, none⟩)) rfl rfl rfl (by go_simp) ?_
        refine wpT_ldm 17 Tryd.underlying23 rfl inf_key (b1) 0 (cs U8 (a ++ b)) (cs U8 a) rfl rfl rfl (by go_simp) (M5.row (by simp)) (by simp [ha, hb, hX]) (by rw [cs_extract] <;> congr 1 <;> first | (simp [ha, hb, hX]; done) | simp [List.take_append, List.drop_append, List.take_of_length_le, ha, hb, hX]) rfl ?_
        refine wpT_valp 18 (v := .pointer (some ⟨b1, 32, none⟩)) rfl rfl rfl (by go_simp) ?_
        refine wpT_ldm 19 Tryd.underlying23 rfl inf_key (b1) 32 (cs U8 (a ++ b)) (cs U8 b) rfl rfl rfl (by go_simp) (M5.row (by simp)) (by simp [ha, hb, hX]) (by rw [cs_extract] <;> congr 1 <;> first | (simp [ha, hb, hX]; done) | simp [List.take_append, List.drop_append, List.take_of_length_le, ha, hb, hX]) rfl ?_
        try simp only [Act.put, List.setIfInBounds_toArray, List.set_cons_succ, List.set_cons_zero]
        refine wpT_callv 20 M5 (v := .tuple #[.agg (cs U8 X), .int .i64 0]) rfl rfl rfl (by go_simp) (shr_ok w4 a b X ha hb hne HX.out) (fun w6 M7 => ?_)
        refine wpT_valp 15 (v := .tuple #[.agg (cs U8 X), .int .i64 0]) rfl rfl rfl (by go_simp) ?_
        refine wpT_valp 21 (v := .agg (cs U8 X)) rfl rfl rfl (by go_simp) ?_
        refine wpT_valp 22 (v := .int .i64 0) rfl rfl rfl (by go_simp) ?_
        refine wpT_new (z := .agg (cs U8 (zs 32))) 7 M7 (by kernel_rfl) (by decide) rfl rfl rfl rfl (fun b8 w9 M10 => ?_)
        try dsimp only [Value.cells] at M10
        try simp only [Act.put, List.setIfInBounds_toArray, List.set_cons_succ, List.set_cons_zero]
        refine wpT_st0 M10 0 (cs U8 X) inf_key rfl rfl rfl rfl (by go_simp) (by go_simp) (by simp [ha, hb, hX]) (by simp [ha, hb, hX]) (by simp [go_sem]) rfl (fun w11 M12 => ?_)
        dsimp only [List.set] at M12
        refine wpT_valp 8 (v := .int .i64 0) rfl rfl rfl (by go_simp) ?_
        dsimp only [wpT]
        try simp only [Act.put, List.setIfInBounds_toArray, List.set_cons_succ, List.set_cons_zero]
        go_upto_region 6 with fail
        refine wp_region_lin (.op 0 (.op 1 .done)) (by rfl) ?_
        refine wpT_valp 23 (v := .int .i64 0) rfl rfl rfl (by go_simp) ?_
        refine wpT_valp 24 (v := .bool false) rfl rfl rfl (by go_simp) ?_
        dsimp only [wpT]
        try simp only [Act.put, List.setIfInBounds_toArray, List.set_cons_succ, List.set_cons_zero]
        go_upto_region 8 with fail
        refine wp_region_lin (.op 0 (.op 1 (.op 2 (.op 3 .done)))) (by rfl) ?_
        refine wpT_valp 27 (v := u4) rfl rfl rfl (by go_simp) ?_
        refine wpT_valp 28 (v := .slice (some ⟨b8, 0, none⟩) 32 32) rfl rfl rfl (by go_simp) ?_
        have O4 := OU.fr' M12.fr (fun g hg e => by
          have h1 := (OU.lt g hg).1
          have h2 := hS1 g e
          simp at h2
          omega)
        have MZ := hT1 _ _ M12
        have hw2 := MZ.lt (b := w.heap.size) (c := cs U8 (zs 32)) (by simp)
        refine wpT_apb 29 _ _ (MZ.sub (H' := [(w.heap.size, cs U8 (zs 32))]) (by simp)) (w.heap.size + 1) u4 (.slice (some ⟨b8, 0, none⟩) 32 32) (Su.parts (l.take i)) X rfl rfl rfl rfl (by go_simp) O4 (by go_simp) (BS.row (MZ.row (b := b8) (c := cs U8 X) (by simp)) hX (by unfold maxLen; decide)) (by rw [hpl, hX]; omega) (by omega) (Nat.le_add_right _ _) (fun g hg p hp => ?_) (fun u9 w9 O9 M9 => ?_)
        · have h1 := (OU.lt g hg).1
          simp only [List.mem_cons, List.not_mem_nil, or_false] at hp
          rcases hp with rfl
          show w.heap.size ≠ g; omega
        refine wpT_valp 4 (v := u9) rfl rfl rfl (by go_simp) ?_
        dsimp only [wpT]
        try simp only [Act.put, List.setIfInBounds_toArray, List.set_cons_succ, List.set_cons_zero]
        go_wp2_with fail
        rw [HPS.out] at O9
        go_roundw
        case rel => exact ⟨i + 1, by omega, by simp, O9, M9, HJ⟩
        case measure => simp only [intOf]; omega
    · exact absurd (good_all (fun j hj => HJ.out j (by omega))) HG.out
theorem secret_any {w0 : World} {l : List (L8 × L8)} {D : L8} {er : Int} (hT : KT w0 ∧ 0 < w0.heap.size) (h32 : ∀ p ∈ l, p.1.length = 32 ∧ p.2.length = 32) (h0 : 0 < l.length) (h9 : l.length ≤ 9) (eD : (D, er) = Su.res l) :
    Hid (∀ w' v, Below w0.heap.size w0 w' → PS w' v (l.map cat2) → Calls Tryd.prog 33 #[v] w' fun e w'' => e = .returned (.tuple #[.agg (cs U8 D), .int .i64 er]) ∧ Below w'.heap.size w' w'') :=
  hid fun w' v hb hv => by
    by_cases hg : Su.good l
    · rw [res_good hg] at eD
      injection eD with e1 e2
      subst e2
      exact secret_ok w' l v D ⟨hT.1.below hb hT.2, Nat.lt_of_lt_of_le hT.2 hb.size⟩ hv h32 hg h0 h9 e1
    · rw [res_bad hg] at eD
      injection eD with e1 e2
      subst e1; subst e2
      exact secret_no w' l v hv h32 hg h0 h9
set_option maxRecDepth 100000 in
set_option maxHeartbeats 2000000 in
theorem rsecret_c (w : World) (l : List (L8 × L8)) (v1 v2 : Value) (D : L8) (er : Int) (hv1 : KS w v1 (l.map Prod.fst)) (hv2 : KS w v2 (l.map Prod.snd)) (h32 : ∀ p ∈ l, p.1.length = 32 ∧ p.2.length = 32) (h0 : 0 < l.length) (h9 : l.length ≤ 9) (eD : (D, er) = Su.res l) :
    Calls Tryd.prog 34 #[v1, v2] w fun e w' => e = .returned (.tuple #[.agg (cs U8 D), .int .i64 er]) ∧ Below w.heap.size w w' := by
  obtain ⟨lb, elb⟩ : ∃ lb, lb = Su.lab := ⟨_, rfl⟩
  have hlb : lb.length = 14 := by rw [elb]; rfl
  obtain ⟨E, eE⟩ : ∃ E, E = Sh.mac lb (Su.parts l) := ⟨_, rfl⟩
  have hE : E.length = 32 := by rw [eE]; unfold Sh.mac; rfl
  have HYES : Hid (Su.good l → D = Sh.derive E Su.setupB ∧ er = 0) := hid fun hg => by
    rw [res_good hg] at eD
    injection eD with e1 e2
    exact ⟨by rw [e1, eE, elb]; rfl, e2⟩
  have HNO : Hid (¬ Su.good l → D = zs 32 ∧ er = 7) := hid fun hg => by
    rw [res_bad hg] at eD
    injection eD with e1 e2
    exact ⟨e1, e2⟩
  have hD : D.length = 32 := by have := res_len l; rw [← eD] at this; exact this
  have hPl : (Su.parts l).length ≤ 1000 := by rw [parts_len]; omega
  have HLB : Hid (lb = [112, 105, 103, 101, 111, 110, 114, 121, 32, 115, 101, 116, 117, 112]) := hid elb
  have HE := hid eE
  clear elb eE eD
  obtain ⟨a1, c1, rfl, hc1, hm1, -⟩ := id hv1
  obtain ⟨a2, c2, rfl, hc2, hm2, -⟩ := id hv2
  obtain ⟨g1, o1, e, hk1⟩ := hv1.key (by rw [List.length_map]; omega)
  subst e
  obtain ⟨g2, o2, e, hk2⟩ := hv2.key (by rw [List.length_map]; omega)
  subst e
  rw [List.length_map] at hc1 hm1 hc2 hm2
  obtain ⟨n, hn⟩ : ∃ n, l.length = n := ⟨_, rfl⟩
  have hn1 : (l.map Prod.fst).length = n := by rw [List.length_map, hn]
  have hn2 : (l.map Prod.snd).length = n := by rw [List.length_map, hn]
  rw [hn1, hn2]
  have HKA : Hid (∀ i, i < n → ∀ w', Below w.heap.size w w' → KC w' g1 (o1 + i * 32) (l.getD i ([], [])).1) := hid fun i hi w' h => by
    have h1 := (hk1 i (by rw [hn1]; exact hi)).below h
    rw [List.getD_eq_getElem?_getD, List.getElem?_map, List.getElem?_eq_getElem (show i < l.length by omega)] at h1
    rw [List.getD_eq_getElem?_getD, List.getElem?_eq_getElem (show i < l.length by omega)]
    exact h1
  have HKB : Hid (∀ i, i < n → ∀ w', Below w.heap.size w w' → KC w' g2 (o2 + i * 32) (l.getD i ([], [])).2) := hid fun i hi w' h => by
    have h1 := (hk2 i (by rw [hn2]; exact hi)).below h
    rw [List.getD_eq_getElem?_getD, List.getElem?_map, List.getElem?_eq_getElem (show i < l.length by omega)] at h1
    rw [List.getD_eq_getElem?_getD, List.getElem?_eq_getElem (show i < l.length by omega)]
    exact h1
  have H32 := hid h32
  have hnl : l.length = n := hn
  rw [hn] at hc1 hm1 hc2 hm2
  clear hv1 hv2 hk1 hk2 hn1 hn2 h32 hn
  have M0 := Mm.start no w
  go_enter Tryd.func34, Tryd.ntmps34
  have M2 := (M0.alloc (cs U8 (zs 32)) 23 (by decide))
  try simp only [World.size_alloc] at M2
  go_upto_region 1 with fail
  obtain ⟨w1, hw1⟩ : ∃ w1, w1 = (w.alloc (.cells (cs U8 (zs 32)) 23)) := ⟨_, rfl⟩
  rw [← hw1] at M2 ⊢
  clear hw1
  refine wp_region_lin (.op 0 .done) (by rfl) ?_
  refine wpT_valp 6 (v := (.slice none 0 0)) rfl rfl rfl (by go_simp) ?_
  dsimp only [wpT]
  try simp only [Act.put, List.setIfInBounds_toArray, List.set_cons_succ, List.set_cons_zero]
  go_upto_region 2 with fail
  refine wp_region_lin (.op 0 .done) (by rfl) ?_
  refine wpT_valp 7 (v := .int .i64 0) rfl rfl rfl (by go_simp) ?_
  dsimp only [wpT]
  try simp only [Act.put, List.setIfInBounds_toArray, List.set_cons_succ, List.set_cons_zero]
  go_wp2_with fail
  go_loopw [6, 7] (fun u x wr => ∃ i : Nat, i ≤ n ∧ x = .int .i64 i ∧ OB wr (w.heap.size + 1) u (Su.parts (l.take i)) ∧ Mm no w [(w.heap.size, cs U8 (zs 32))] wr ∧ Hid (∀ j, j < i → shv (l.getD j ([], [])).1 (l.getD j ([], [])).2 ≠ 0)) (fun _ x _ => n - (intOf x).toNat)
  case atStart => exact ⟨0, by omega, rfl, by rw [List.take_zero]; unfold Su.parts; exact OB.nil _ _, M2, hid (fun j hj => by omega)⟩
  case round =>
    clear M2 M0
    obtain ⟨i, hi, rfl, OU, M, HJ⟩ := hrel
    by_cases hin : i < n
    · skip
      have hlt : (i : Int) < (n : Int) := by omega
      have hi0 : (0 : Int) ≤ (i : Int) := by omega
      obtain ⟨a, ea⟩ : ∃ a, a = (l.getD i ([], [])).1 := ⟨_, rfl⟩
      obtain ⟨b, eb⟩ : ∃ b, b = (l.getD i ([], [])).2 := ⟨_, rfl⟩
      have hmem : l.getD i ([], []) ∈ l := by
        rw [List.getD_eq_getElem?_getD, List.getElem?_eq_getElem (show i < l.length by omega)]; exact List.getElem_mem _
      have ha : a.length = 32 := by rw [ea]; exact (H32.out _ hmem).1
      have hb : b.length = 32 := by rw [eb]; exact (H32.out _ hmem).2
      have HPA : Hid (∀ w', Below w.heap.size w w' → KC w' g1 (o1 + i * 32) a) := hid (by rw [ea]; exact HKA.out i (by omega))
      have HPB : Hid (∀ w', Below w.heap.size w w' → KC w' g2 (o2 + i * 32) b) := hid (by rw [eb]; exact HKB.out i (by omega))
      obtain ⟨S1, MR, hS1, hT1⟩ := M.rebase
      have M := MR
      have HT1 := hid hT1
      by_cases hne : shv a b = 0
      · obtain ⟨rfl, rfl⟩ := HNO.out (fun hg => hg _ hmem (by rw [← ea, ← eb]; exact hne))
        clear ea eb hmem
        go_upto_region 5 with fail
        refine wp_region_seq 13 [17, 18, 19, 20, 21, 22, 23, 24, 25, 16, 26, 27, 8] [] [11] [] (.op 13 (.op 14 .done)) (Mm S1 wr _) (by kernel_rfl) (by kernel_rfl) (by kernel_rfl) (fun d _ _ _ _ h => by cases d <;> exact h) (by rfl) M.size (fun _ _ h k => h.sf k) M ?_
        simp only [List.take_succ_cons, List.take_zero]
        refine SeqA.pure (.slice (some ⟨g1, o1, none⟩) n c1) (fun w' => by go_simp) rfl rfl ?_
        refine SeqA.pure (.int .i64 i) (fun w' => by go_simp) rfl rfl ?_
        refine SeqA.pure (.pointer (some ⟨g1, o1 + i * 32, none⟩)) (fun w' => by go_simp) rfl rfl ?_
        refine SeqA.ldk g1 (o1 + i * 32) a rfl (by go_simp) (fun w' N => HPA.out _ (HT1.out _ _ N).end_) rfl ?_
        refine SeqA.pure (.slice (some ⟨g2, o2, none⟩) n c2) (fun w' => by go_simp) rfl rfl ?_
        simp only [Act.put, List.setIfInBounds_toArray, List.set_cons_succ, List.set_cons_zero]
        refine SeqA.pure (.int .i64 i) (fun w' => by go_simp) rfl rfl ?_
        refine SeqA.pure (.pointer (some ⟨g2, o2 + i * 32, none⟩)) (fun w' => by go_simp) rfl rfl ?_
        refine SeqA.ldk g2 (o2 + i * 32) b rfl (by go_simp) (fun w' N => HPB.out _ (HT1.out _ _ N).end_) rfl ?_
        refine SeqA.call _ _ _ (fun w' => by go_simp) (fun w' hI _ => rshr_bad w' a b ha hb hne) M.size rfl rfl ?_
        refine SeqA.pure (.tuple #[.agg (cs U8 (zs 32)), .int .i64 7]) (fun w' => by go_simp) rfl rfl ?_
        refine SeqA.pure (.agg (cs U8 (zs 32))) (fun w' => by go_simp) rfl rfl ?_
        simp only [Act.put, List.setIfInBounds_toArray, List.set_cons_succ, List.set_cons_zero]
        refine SeqA.pure (.int .i64 7) (fun w' => by go_simp) rfl rfl ?_
        refine SeqA.var (z := .agg (cs U8 (zs 32))) (by kernel_rfl) rfl rfl (by decide) rfl ?_
        refine SeqA.nil (fun w1 M2 hz => ?_)
        refine news_one (fun b3 hb1 hb2 hb3 => ?_)
        have M4 := M.in_ (c := cs U8 (zs 32)) M2 hb1 hb2 (by decide) hb3 rfl
        show wpT _ _ _ _ _ _
        simp only [Act.put, List.setIfInBounds_toArray, List.set_cons_succ, List.set_cons_zero]
        refine wpT_st0 M4 0 (cs U8 (zs 32)) inf_key rfl rfl rfl rfl (by go_simp) (by go_simp) (by simp [ha, hb]) (by simp [ha, hb]) (by simp [go_sem]) rfl (fun w5 M6 => ?_)
        dsimp only [List.set] at M6
        refine wpT_vald 9 (v := .int .i64 7) rfl rfl rfl rfl ?_
        dsimp only [wpT]
        simp only [Act.put, List.setIfInBounds_toArray, List.set_cons_succ, List.set_cons_zero]
        go_upto_region 6 with fail
        refine wp_region_lin (.op 0 (.op 1 .done)) (by rfl) ?_
        refine wpT_valp 28 (v := .int .i64 7) rfl rfl rfl (by go_simp) ?_
        refine wpT_valp 29 (v := .bool true) rfl rfl rfl (by go_simp) ?_
        dsimp only [wpT]
        try simp only [Act.put, List.setIfInBounds_toArray, List.set_cons_succ, List.set_cons_zero]
        go_upto_region 7 with fail
        refine wp_region_lin (.op 0 (.op 1 (.op 2 .done))) (by rfl) ?_
        refine wpT_valL 30 (v := .agg (cs U8 (zs 32))) rfl rfl rfl (by have q := xb_k0 w5; go_simp) ?_
        refine wpT_st0 M6 1 (cs U8 (zs 32)) inf_key rfl rfl rfl rfl (by go_simp) (by go_simp) (by simp [ha, hb]) (by simp [ha, hb]) (by simp [go_sem]) rfl (fun w7 M8 => ?_)
        dsimp only [List.set] at M8
        refine wpT_valp 5 (v := .int .i64 7) rfl rfl rfl (by go_simp) ?_
        dsimp only [wpT]
        try simp only [Act.put, List.setIfInBounds_toArray, List.set_cons_succ, List.set_cons_zero]
        go_wp2_with fail
        have r9 := M8.row (b := w.heap.size) (c := cs U8 (zs 32)) (by simp)
        refine bodyPost_ret (res_two rfl (rv_row Tryd.underlying23 rfl inf_key (w.heap.size) rfl (by rw [r9]; simp [ha, hb])) (rv_tmp _ _ rfl)) rfl ?_
        rw [r9]
        exact ⟨rfl, (hT1 _ _ M8).end_⟩
      · replace HJ : Hid (∀ j, j < i + 1 → shv (l.getD j ([], [])).1 (l.getD j ([], [])).2 ≠ 0) := hid (fun j hj => by
          by_cases hji : j < i
          · exact HJ.out j hji
          · obtain rfl : j = i := by omega
            rw [← ea, ← eb]; exact hne)
        obtain ⟨X, eX⟩ : ∃ X, X = K (shv a b) := ⟨_, rfl⟩
        have hX : X.length = 32 := by rw [eX]; exact K_len _
        have HX := hid eX
        have hpl : (Su.parts (l.take i)).length = 32 * i := by rw [parts_len, List.length_take]; congr 1; omega
        have HPS := hid (show Su.parts (l.take i) ++ X = Su.parts (l.take (i + 1)) by rw [eX, ea, eb]; exact parts_take l i (by omega))
        clear ea eb eX hmem
        go_upto_region 5 with fail
        refine wp_region_seq 13 [17, 18, 19, 20, 21, 22, 23, 24, 25, 16, 26, 27, 8] [] [11] [] (.op 13 (.op 14 .done)) (Mm S1 wr _) (by kernel_rfl) (by kernel_rfl) (by kernel_rfl) (fun d _ _ _ _ h => by cases d <;> exact h) (by rfl) M.size (fun _ _ h k => h.sf k) M ?_
        simp only [List.take_succ_cons, List.take_zero]
        refine SeqA.pure (.slice (some ⟨g1, o1, none⟩) n c1) (fun w' => by go_simp) rfl rfl ?_
        refine SeqA.pure (.int .i64 i) (fun w' => by go_simp) rfl rfl ?_
        refine SeqA.pure (.pointer (some ⟨g1, o1 + i * 32, none⟩)) (fun w' => by go_simp) rfl rfl ?_
        refine SeqA.ldk g1 (o1 + i * 32) a rfl (by go_simp) (fun w' N => HPA.out _ (HT1.out _ _ N).end_) rfl ?_
        refine SeqA.pure (.slice (some ⟨g2, o2, none⟩) n c2) (fun w' => by go_simp) rfl rfl ?_
        simp only [Act.put, List.setIfInBounds_toArray, List.set_cons_succ, List.set_cons_zero]
        refine SeqA.pure (.int .i64 i) (fun w' => by go_simp) rfl rfl ?_
        refine SeqA.pure (.pointer (some ⟨g2, o2 + i * 32, none⟩)) (fun w' => by go_simp) rfl rfl ?_
        refine SeqA.ldk g2 (o2 + i * 32) b rfl (by go_simp) (fun w' N => HPB.out _ (HT1.out _ _ N).end_) rfl ?_
        refine SeqA.call _ _ _ (fun w' => by go_simp) (fun w' hI _ => rshr_ok w' a b X ha hb hne HX.out) M.size rfl rfl ?_
        refine SeqA.pure (.tuple #[.agg (cs U8 X), .int .i64 0]) (fun w' => by go_simp) rfl rfl ?_
        refine SeqA.pure (.agg (cs U8 X)) (fun w' => by go_simp) rfl rfl ?_
        simp only [Act.put, List.setIfInBounds_toArray, List.set_cons_succ, List.set_cons_zero]
        refine SeqA.pure (.int .i64 0) (fun w' => by go_simp) rfl rfl ?_
        refine SeqA.var (z := .agg (cs U8 (zs 32))) (by kernel_rfl) rfl rfl (by decide) rfl ?_
        refine SeqA.nil (fun w1 M2 hz => ?_)
        refine news_one (fun b3 hb1 hb2 hb3 => ?_)
        have M4 := M.in_ (c := cs U8 (zs 32)) M2 hb1 hb2 (by decide) hb3 rfl
        show wpT _ _ _ _ _ _
        simp only [Act.put, List.setIfInBounds_toArray, List.set_cons_succ, List.set_cons_zero]
        refine wpT_st0 M4 0 (cs U8 X) inf_key rfl rfl rfl rfl (by go_simp) (by go_simp) (by simp [ha, hb, hX]) (by simp [ha, hb, hX]) (by simp [go_sem]) rfl (fun w5 M6 => ?_)
        dsimp only [List.set] at M6
        refine wpT_vald 9 (v := .int .i64 0) rfl rfl rfl rfl ?_
        dsimp only [wpT]
        simp only [Act.put, List.setIfInBounds_toArray, List.set_cons_succ, List.set_cons_zero]
        go_upto_region 6 with fail
        refine wp_region_lin (.op 0 (.op 1 .done)) (by rfl) ?_
        refine wpT_valp 28 (v := .int .i64 0) rfl rfl rfl (by go_simp) ?_
        refine wpT_valp 29 (v := .bool false) rfl rfl rfl (by go_simp) ?_
        dsimp only [wpT]
        try simp only [Act.put, List.setIfInBounds_toArray, List.set_cons_succ, List.set_cons_zero]
        go_upto_region 8 with fail
        refine wp_region_lin (.op 0 (.op 1 (.op 2 (.op 3 (.op 4 .done))))) (by rfl) ?_
        refine wpT_valp 31 (v := u6) rfl rfl rfl (by go_simp) ?_
        refine wpT_ld0 32 Tryd.underlying23 rfl inf_key (b3) (cs U8 X) rfl rfl rfl (by go_simp) (M6.row (by simp)) (by simp [ha, hb, hX]) rfl ?_
        refine wpT_callN 33 M6 (l := X) (fun v => v) rfl rfl rfl (by go_simp) (rbytes_bn w5 X hX) (fun v33 wB SB MB TB KB => ?_)
        have MQ := TB.out _ _ MB
        have O4 := OU.fr' MQ.fr (fun g hg e => by
          have h1 := (OU.lt g hg).1
          have h2 := hS1 g e
          simp at h2
          omega)
        have MZ := hT1 _ _ MQ
        have hw2 := MZ.lt (b := w.heap.size) (c := cs U8 (zs 32)) (by simp)
        refine wpT_apb 34 _ _ (MZ.sub (H' := [(w.heap.size, cs U8 (zs 32))]) (by simp)) (w.heap.size + 1) u6 v33 (Su.parts (l.take i)) X rfl rfl rfl rfl (by go_simp) O4 (by go_simp) (KB.out _ _ MB).1 (by rw [hpl, hX]; omega) (by omega) (Nat.le_add_right _ _) (fun g hg p hp => ?_) (fun u9 w9 O9 M9 => ?_)
        · have h1 := (OU.lt g hg).1
          simp only [List.mem_cons, List.not_mem_nil, or_false] at hp
          rcases hp with rfl
          show w.heap.size ≠ g; omega
        try simp only [Act.put, List.setIfInBounds_toArray, List.set_cons_succ, List.set_cons_zero]
        refine wpT_valp 6 (v := u9) rfl rfl rfl (by go_simp) ?_
        dsimp only [wpT]
        try simp only [Act.put, List.setIfInBounds_toArray, List.set_cons_succ, List.set_cons_zero]
        go_wp2_with fail
        rw [HPS.out] at O9
        go_roundw
        case rel => exact ⟨i + 1, by omega, by simp, O9, M9, HJ⟩
        case measure => simp only [intOf]; omega
    · obtain rfl : i = n := by omega
      obtain ⟨HD, rfl⟩ := HYES.out (good_all (fun j hj => HJ.out j (by omega)))
      replace HD := hid HD
      rw [List.take_of_length_le (by omega)] at OU
      go_upto_region 9 with fail
      refine wp_region_lin (.op 0 (.op 1 (.op 2 (.op 3 (.op 4 (.op 5 (.op 6 .done))))))) (by rfl) ?_
      refine wpT_lit8 (len := 14) 35 36 M lb hlb (by decide) (by decide) rfl rfl rfl (by rw [HLB.out]; go_simp; rfl) rfl rfl rfl rfl rfl (fun v => by go_simp) (fun g3 w1 K1 M1 B1 _ => ?_)
      replace OU := OB.below OU B1

      refine wpT_valp 37 (v := u6) rfl rfl rfl (by go_simp) ?_
      refine wpT_callv 38 M1 (v := .agg (cs U8 E)) rfl rfl rfl (by go_simp) (rext_v HE.out K1 OU.bs (by omega) (by omega)) (fun w2 M2 => ?_)
      try simp only [Act.put, List.setIfInBounds_toArray, List.set_cons_succ, List.set_cons_zero]
      refine wpT_callv 39 M2 (v := .agg (cs U8 D)) rfl rfl rfl (by go_simp) (rderS_v HD.out hE) (fun w1 M2 => ?_)
      refine wpT_st0 M2 0 (cs U8 D) inf_key rfl rfl rfl rfl (by go_simp) (by go_simp) (by simp [hE, hD]) (by simp [hE, hD]) (by simp [go_sem]) rfl (fun w3 M4 => ?_)
      dsimp only [List.set] at M4
      refine wpT_valp 5 (v := .int .i64 0) rfl rfl rfl (by go_simp) ?_
      dsimp only [wpT]
      try simp only [Act.put, List.setIfInBounds_toArray, List.set_cons_succ, List.set_cons_zero]
      go_wp2_with fail
      have r5 := M4.row (b := w.heap.size) (c := cs U8 D) (by simp)
      refine bodyPost_ret (res_two rfl (rv_row Tryd.underlying23 rfl inf_key (w.heap.size) rfl (by rw [r5]; simp [hE, hD])) (rv_tmp _ _ rfl)) rfl ?_
      rw [r5]
      exact ⟨rfl, M4.end_⟩
end Go.Proofs.YtgclegdgngldoaaDoor
set_option linter.unusedSimpArgs false
set_option linter.unusedVariables false
namespace Go.Proofs.YtgclegdgngldoaaDoor
open Go.RowKit Fp
theorem bp_rk (l : List (Nat × Value)) : Tryd.prog.built 25 l = Instr.fill (([(0, 32), (32, 32), (64, 32), (96, 1)] : List (Nat × Nat)).toArray[·]?) (((Tryd.prog.info? 25).bind (·.zero)).getD undef).cells l := by kernel_rfl
theorem bz_rk : (((Tryd.prog.info? 25).bind (·.zero)).getD undef).cells.size = 97 := by kernel_rfl
@[go_sem ↓] theorem rb_rk (ρ : Operand → Value) (dst : Option Tmp) (ty : TypeId) (pos : String) (after : Array Edge) (guard : Option (Nat × Bool)) (w : World) (ps : Array (Nat × Operand)) :
    (execOp ρ { dst, op := .build 25 ps, type := ty, pos, after, guard }).run Tryd.prog w = exBuild Tryd.prog 25 (ps.map fun p => (p.1, ρ p.2)) w := x_build ..
theorem xb_rk (w : World) (ps : Array (Nat × Value)) (hc : Cont (([(0, 32), (32, 32), (64, 32), (96, 1)] : List (Nat × Nat)).toArray[·]?) 0 ps.toList) (hz : (catP ps.toList).size = 97) :
    exBuild Tryd.prog 25 ps w = .ok (.value (.agg (catP ps.toList))) w := by
  unfold exBuild; rw [run_build_cat w 25 ps _ _ bp_rk hc (by rw [bz_rk]; exact hz)]; rfl

theorem eqk9 (w : World) (a : L8) (ha : a.length = 32) : (Op.equalIn 9999 23 (.agg (cs U8 a)) (.agg (cs U8 a))).run Tryd.prog w = .ok true w := by
  rw [cs8_cell, run_equalIn_bytes w 9997 23 5 32 Tryd.underlying23 Tryd.underlying5 (fun w => by kernel_rfl) _ _ (by simpa using ha) (by simpa using ha), beq_self_eq_true]
theorem part_br (w : World) (L P O : L8) (h : Bool) (off : Nat) (k : L8) (hk : (BR L P O h).extract off (off + 32) = cs U8 k) : (part 23 (BR L P O h) off).run Tryd.prog w = .ok (.agg (cs U8 k)) w := by
  have h1 : ∀ w, (isAgg 23).run Tryd.prog w = .ok true w := fun w => by kernel_rfl
  have h2 : ∀ w, (sizeOf 23).run Tryd.prog w = .ok 32 w := fun w => by kernel_rfl
  simp only [part, Sem.run_bind, h1, Result.andThen_ok, if_true, h2, Sem.run_pure, hk]
theorem part_bl (w : World) (L P O : L8) (h : Bool) (hc : (BR L P O h)[96]? = some (.bool h)) : (part 4 (BR L P O h) 96).run Tryd.prog w = .ok (.bool h) w := by
  have h1 : ∀ w, (isAgg 4).run Tryd.prog w = .ok false w := fun w => by kernel_rfl
  simp only [part, Sem.run_bind, h1, Result.andThen_ok, Bool.false_eq_true, if_false, hc, Sem.run_pure]
theorem br_cell (L P O : L8) (h : Bool) (hL : L.length = 32) (hP : P.length = 32) (hO : O.length = 32) : (BR L P O h)[96]? = some (.bool h) := by
  unfold BR
  rw [Array.getElem?_append_right (by simp; omega)]
  simp [hL, hP, hO]
theorem eqBR (w : World) (L P O : L8) (h : Bool) (hL : L.length = 32) (hP : P.length = 32) (hO : O.length = 32) :
    (Op.equalIn 10000 30 (.agg (BR L P O h)) (.agg (BR L P O h))).run Tryd.prog w = .ok true w := by
  have hf : (Tryd.prog.fieldsOf 30).toList.map (fun f => (f.name, f.type, f.offset)) = [("Lasting", 23, 0), ("Pre", 23, 32), ("Once", 23, 64), ("HasOnce", 4, 96)] := by kernel_rfl
  rw [run_equalIn_struct w 9999 _ _ _ (by unfold Program.fieldsOf; rw [Tryd.underlying30]) (by kernel_rfl)]
  generalize (Tryd.prog.fieldsOf 30).toList = fs at hf
  obtain ⟨f0, fs, rfl, e0, hf⟩ := List.map_eq_cons_iff.1 hf
  obtain ⟨f1, fs, rfl, e1, hf⟩ := List.map_eq_cons_iff.1 hf
  obtain ⟨f2, fs, rfl, e2, hf⟩ := List.map_eq_cons_iff.1 hf
  obtain ⟨f3, fs, rfl, e3, hf⟩ := List.map_eq_cons_iff.1 hf
  obtain rfl := List.map_eq_nil_iff.1 hf
  simp only [Prod.mk.injEq] at e0 e1 e2 e3
  obtain ⟨n0, t0, o0⟩ := e0
  obtain ⟨n1, t1, o1⟩ := e1
  obtain ⟨n2, t2, o2⟩ := e2
  obtain ⟨n3, t3, o3⟩ := e3
  have hb : ∀ w, (Op.equalIn 9999 4 (.bool h) (.bool h)).run Tryd.prog w = .ok true w := fun w => by rw [run_equalIn_bool w 9998 4 h h Tryd.underlying4, beq_self_eq_true]
  have k0 := fun w => part_br w L P O h 0 L (br_0 hL hP hO)
  have k1 := fun w => part_br w L P O h 32 P (br_32 hL hP hO)
  have k2 := fun w => part_br w L P O h 64 O (br_64 hL hP hO)
  have k3 := fun w => part_bl w L P O h (br_cell L P O h hL hP hO)
  have q0 : ("Lasting" ≠ "_") = True := eq_true (by decide)
  have q1 : ("Pre" ≠ "_") = True := eq_true (by decide)
  have q2 : ("Once" ≠ "_") = True := eq_true (by decide)
  have q3 : ("HasOnce" ≠ "_") = True := eq_true (by decide)
  have j0 := fun w => eqk9 w L hL
  have j1 := fun w => eqk9 w P hP
  have j2 := fun w => eqk9 w O hO
  simp only [Op.eqFields, q0, q1, q2, q3, if_true, n0, n1, n2, n3, t0, t1, t2, t3, o0, o1, o2, o3, Sem.run_bind, k0, k1, k2, k3, j0, j1, j2, hb, Result.andThen_ok, Bool.not_true, Bool.false_eq_true, if_false, Sem.run_pure]
theorem eqBR3 (w : World) (L P O : L8) (h : Bool) (hL : L.length = 32) (hP : P.length = 32) (hO : O.length = 32) :
    (Op.equalIn 9999 23 (.agg ((BR L P O h).extract 0 32)) (.agg ((BR L P O h).extract 0 32))).run Tryd.prog w = .ok true w ∧
    (Op.equalIn 9999 23 (.agg ((BR L P O h).extract 32 64)) (.agg ((BR L P O h).extract 32 64))).run Tryd.prog w = .ok true w ∧
    (Op.equalIn 9999 23 (.agg ((BR L P O h).extract 64 96)) (.agg ((BR L P O h).extract 64 96))).run Tryd.prog w = .ok true w ∧ (BR L P O h)[96]? = some (.bool h) := by
  refine ⟨?_, ?_, ?_, br_cell L P O h hL hP hO⟩
  · rw [show (BR L P O h).extract 0 32 = cs U8 L from br_0 hL hP hO]; exact eqk9 w L hL
  · rw [show (BR L P O h).extract 32 64 = cs U8 P from br_32 hL hP hO]; exact eqk9 w P hP
  · rw [show (BR L P O h).extract 64 96 = cs U8 O from br_64 hL hP hO]; exact eqk9 w O hO
theorem xb_rk3 (w : World) (X Y : L8) (h : Bool) (hX : X.length = 32) (hY : Y.length = 32) : exBuild Tryd.prog 25 #[(0, .agg (cs U8 X)), (1, .agg (cs U8 Y)), (3, .bool h)] w = .ok (.value (.agg (BR X Y (zs 32) h))) w := by
  unfold exBuild
  rw [run_build w 25 _ (BR X Y (zs 32) h) ?_]
  · rfl
  rw [bp_rk, show (((Tryd.prog.info? 25).bind (·.zero)).getD undef).cells = #[] ++ cs U8 (zs 32) ++ (cs U8 (zs 32) ++ (cs U8 (zs 32) ++ #[.bool false])) by kernel_rfl]
  show Instr.fill _ _ [(0, Value.agg (cs U8 X)), (1, Value.agg (cs U8 Y)), (3, Value.bool h)] = _
  rw [fill_one _ 0 _ #[] _ _ _ (by simp [Value.cells, hX]) (by simp [Value.cells, hX, zs]),
    show #[] ++ (Value.agg (cs U8 X)).cells ++ (cs U8 (zs 32) ++ (cs U8 (zs 32) ++ #[.bool false])) = cs U8 X ++ cs U8 (zs 32) ++ (cs U8 (zs 32) ++ #[.bool false]) by simp [Value.cells],
    fill_one _ 1 _ (cs U8 X) _ _ _ (by simp [Value.cells, hX, hY]) (by simp [Value.cells, hY, zs]),
    show cs U8 X ++ (Value.agg (cs U8 Y)).cells ++ (cs U8 (zs 32) ++ #[.bool false]) = (cs U8 X ++ (cs U8 Y ++ cs U8 (zs 32))) ++ #[.bool false] ++ #[] by simp [Value.cells],
    fill_one _ 3 _ (cs U8 X ++ (cs U8 Y ++ cs U8 (zs 32))) _ _ _ (by simp [Value.cells, hX, hY, zs]) (by simp [Value.cells])]
  simp [Instr.fill, BR, Value.cells, cs_append]
theorem xb_bun4 (w : World) (L P O : L8) (h : Bool) (hL : L.length = 32) (hP : P.length = 32) (hO : O.length = 32) : exBuild Tryd.prog 30 #[(0, .agg (cs U8 L)), (1, .agg (cs U8 P)), (2, .agg (cs U8 O)), (3, .bool h)] w = .ok (.value (.agg (BR L P O h))) w := by
  rw [xb_bun w _ (by simp [Cont, Value.cells, hL, hP, hO]) (by simp [catP, Value.cells, hL, hP, hO])]
  simp [catP, Value.cells, BR, cs_append]
theorem rsecret_v {w0 : World} {l : List (L8 × L8)} {D : L8} {er : Int} (h32 : ∀ p ∈ l, p.1.length = 32 ∧ p.2.length = 32) (h0 : 0 < l.length) (h9 : l.length ≤ 9) (eD : (D, er) = Su.res l) :
    Hid (∀ w' v1 v2, Below w0.heap.size w0 w' → KS w' v1 (l.map Prod.fst) → KS w' v2 (l.map Prod.snd) → Calls Tryd.prog 34 #[v1, v2] w' fun e w'' => e = .returned (.tuple #[.agg (cs U8 D), .int .i64 er]) ∧ Below w'.heap.size w' w'') :=
  hid fun w' v1 v2 _ k1 k2 => rsecret_c w' l v1 v2 D er k1 k2 h32 h0 h9 eD
attribute [local irreducible] BR Su.pub Su.parts Su.res Sh.mac Sh.derive
set_option maxRecDepth 100000 in
set_option maxHeartbeats 2000000 in
theorem rshow_c (w : World) (L P O X Y Z : L8) (h : Bool) (hL : L.length = 32) (hP : P.length = 32) (hO : O.length = 32) (eX : X = Su.pub L) (eY : Y = Su.pub P) (eZ : Z = Su.once O h) :
    Calls Tryd.prog 17 #[.agg (BR L P O h)] w fun e w' => e = .returned (.agg (BR X Y Z h)) ∧ Below w.heap.size w w' := by
  have hX : X.length = 32 := by rw [eX]; exact pub_len _
  have hY : Y.length = 32 := by rw [eY]; exact pub_len _
  have hZ : Z.length = 32 := by rw [eZ]; unfold Su.once; split; exact pub_len _; rfl
  have HX := hid eX
  have HY := hid eY
  cases h
  · obtain rfl : Z = zs 32 := by rw [eZ]; rfl
    clear eX eY eZ
    have M0 := Mm.start no w
    go_enter Tryd.func17, Tryd.ntmps17
    have M2 := ((M0.alloc (BR L P O false) 25 (by decide)).alloc (BR (zs 32) (zs 32) (zs 32) false) 25 (by decide))
    try simp only [World.size_alloc] at M2
    go_upto_region 1 with fail
    obtain ⟨w1, hw1⟩ : ∃ w1, w1 = ((w.alloc (.cells (BR L P O false) 25)).alloc (.cells (BR (zs 32) (zs 32) (zs 32) false) 25)) := ⟨_, rfl⟩
    rw [← hw1] at M2 ⊢
    clear hw1
    refine wp_region_seq 10 [4, 5, 6, 7, 8, 9, 10, 11, 12, 3] [] [] [] (.op 10 .done) (Mm no w _) (by kernel_rfl) (by kernel_rfl) (by kernel_rfl) (fun d _ _ _ _ h => by cases d <;> exact h) (by rfl) M2.size (fun _ _ h k => h.sf k) M2 ?_
    simp only [List.take_succ_cons, List.take_zero]
    refine SeqA.pure (.pointer (some ⟨w.heap.size, 0, none⟩)) (fun w' => by go_simp) rfl rfl ?_
    refine SeqA.ldm Tryd.underlying23 rfl inf_key (w.heap.size) 0 (BR L P O false) (cs U8 L) rfl (by go_simp) (fun _ M => M.row (by simp)) (by simp [BR_size, hL, hP, hO, hX, hY, hZ]) (br_0 (by simp [BR_size, hL, hP, hO, hX, hY, hZ]) (by simp [BR_size, hL, hP, hO, hX, hY, hZ]) (by simp [BR_size, hL, hP, hO, hX, hY, hZ])) rfl ?_
    refine SeqA.call _ _ _ (fun w' => by go_simp) (fun w' hI _ => rpub_v w' L X hL HX.out) M2.size rfl rfl ?_
    refine SeqA.pure (.pointer (some ⟨w.heap.size, 32, none⟩)) (fun w' => by go_simp) rfl rfl ?_
    refine SeqA.ldm Tryd.underlying23 rfl inf_key (w.heap.size) 32 (BR L P O false) (cs U8 P) rfl (by go_simp) (fun _ M => M.row (by simp)) (by simp [BR_size, hL, hP, hO, hX, hY, hZ]) (br_32 (by simp [BR_size, hL, hP, hO, hX, hY, hZ]) (by simp [BR_size, hL, hP, hO, hX, hY, hZ]) (by simp [BR_size, hL, hP, hO, hX, hY, hZ])) rfl ?_
    simp only [Act.put, List.setIfInBounds_toArray, List.set_cons_succ, List.set_cons_zero]
    refine SeqA.call _ _ _ (fun w' => by go_simp) (fun w' hI _ => rpub_v w' P Y hP HY.out) M2.size rfl rfl ?_
    refine SeqA.pure (.pointer (some ⟨w.heap.size, 96, none⟩)) (fun w' => by go_simp) rfl rfl ?_
    refine SeqA.read (.bool false) (fun w' M => by have c0 := br_96 (by simp [BR_size, hL, hP, hO, hX, hY, hZ]) (by simp [BR_size, hL, hP, hO, hX, hY, hZ]) (by simp [BR_size, hL, hP, hO, hX, hY, hZ]) (M.row (b := w.heap.size) (c := BR L P O false) (by simp)); go_simp) rfl rfl ?_
    refine SeqA.pure (.agg (BR X Y (zs 32) false)) (fun w' => by have q := xb_rk3 w' X Y false hX hY; go_simp) rfl rfl ?_
    refine SeqA.var (z := .agg (BR (zs 32) (zs 32) (zs 32) false)) (by kernel_rfl) rfl rfl (by decide) rfl ?_
    refine SeqA.nil (fun w3 M4 hz => ?_)
    refine news_one (fun b5 hb1 hb2 hb3 => ?_)
    have M6 := M2.in_ (c := BR (zs 32) (zs 32) (zs 32) false) M4 hb1 hb2 (by decide) hb3 rfl
    show wpT _ _ _ _ _ _
    simp only [Act.put, List.setIfInBounds_toArray, List.set_cons_succ, List.set_cons_zero]
    refine wpT_st0 M6 0 (BR X Y (zs 32) false) inf_rk rfl rfl rfl rfl (by go_simp) (by go_simp) (by simp [BR_size, hL, hP, hO, hX, hY, hZ]) (by simp [BR_size, hL, hP, hO, hX, hY, hZ]) (by simp [go_sem]) rfl (fun w7 M8 => ?_)
    dsimp only [List.set] at M8
    dsimp only [wpT]
    go_upto_region 2 with fail
    refine wp_region_lin (.op 0 (.op 1 .done)) (by rfl) ?_
    refine wpT_valp 13 (v := .pointer (some ⟨w.heap.size, 96, none⟩)) rfl rfl rfl (by go_simp) ?_
    refine wpT_valp 14 (v := .bool false) rfl rfl rfl (by have c0 := br_96 (by simp [BR_size, hL, hP, hO, hX, hY, hZ]) (by simp [BR_size, hL, hP, hO, hX, hY, hZ]) (by simp [BR_size, hL, hP, hO, hX, hY, hZ]) (M8.row (b := w.heap.size) (c := BR L P O false) (by simp)); go_simp) ?_
    dsimp only [wpT]
    try simp only [Act.put, List.setIfInBounds_toArray, List.set_cons_succ, List.set_cons_zero]
    go_upto_region 4 with fail
    refine wp_region_lin (.op 0 (.op 1 .done)) (by rfl) ?_
    refine wpT_ld0 19 Tryd.underlying25 rfl inf_rk (b5) (BR X Y (zs 32) false) rfl rfl rfl (by go_simp) (M8.row (by simp)) (by simp [BR_size, hL, hP, hO, hX, hY, hZ]) rfl ?_
    refine wpT_st0 M8 1 (BR X Y (zs 32) false) inf_rk rfl rfl rfl rfl (by go_simp) (by go_simp) (by simp [BR_size, hL, hP, hO, hX, hY, hZ]) (by simp [BR_size, hL, hP, hO, hX, hY, hZ]) (by simp [go_sem]) rfl (fun w9 M10 => ?_)
    dsimp only [List.set] at M10
    dsimp only [wpT]
    try simp only [Act.put, List.setIfInBounds_toArray, List.set_cons_succ, List.set_cons_zero]
    go_wp2_with fail
    have r11 := M10.row (b := w.heap.size + 1) (c := BR X Y (zs 32) false) (by simp)
    refine bodyPost_ret (res_row (b := w.heap.size + 1) rfl Tryd.underlying25 rfl inf_rk _ _ rfl (by rw [r11]; simp [BR_size, hL, hP, hO, hX, hY, hZ])) rfl ?_
    rw [r11]
    exact ⟨rfl, M10.end_⟩
  · have HZ := hid (show Z = Su.pub O by rw [eZ]; rfl)
    clear eX eY eZ
    have M0 := Mm.start no w
    go_enter Tryd.func17, Tryd.ntmps17
    have M2 := ((M0.alloc (BR L P O true) 25 (by decide)).alloc (BR (zs 32) (zs 32) (zs 32) false) 25 (by decide))
    try simp only [World.size_alloc] at M2
    go_upto_region 1 with fail
    obtain ⟨w1, hw1⟩ : ∃ w1, w1 = ((w.alloc (.cells (BR L P O true) 25)).alloc (.cells (BR (zs 32) (zs 32) (zs 32) false) 25)) := ⟨_, rfl⟩
    rw [← hw1] at M2 ⊢
    clear hw1
    refine wp_region_seq 10 [4, 5, 6, 7, 8, 9, 10, 11, 12, 3] [] [] [] (.op 10 .done) (Mm no w _) (by kernel_rfl) (by kernel_rfl) (by kernel_rfl) (fun d _ _ _ _ h => by cases d <;> exact h) (by rfl) M2.size (fun _ _ h k => h.sf k) M2 ?_
    simp only [List.take_succ_cons, List.take_zero]
    refine SeqA.pure (.pointer (some ⟨w.heap.size, 0, none⟩)) (fun w' => by go_simp) rfl rfl ?_
    refine SeqA.ldm Tryd.underlying23 rfl inf_key (w.heap.size) 0 (BR L P O true) (cs U8 L) rfl (by go_simp) (fun _ M => M.row (by simp)) (by simp [BR_size, hL, hP, hO, hX, hY, hZ]) (br_0 (by simp [BR_size, hL, hP, hO, hX, hY, hZ]) (by simp [BR_size, hL, hP, hO, hX, hY, hZ]) (by simp [BR_size, hL, hP, hO, hX, hY, hZ])) rfl ?_
    refine SeqA.call _ _ _ (fun w' => by go_simp) (fun w' hI _ => rpub_v w' L X hL HX.out) M2.size rfl rfl ?_
    refine SeqA.pure (.pointer (some ⟨w.heap.size, 32, none⟩)) (fun w' => by go_simp) rfl rfl ?_
    refine SeqA.ldm Tryd.underlying23 rfl inf_key (w.heap.size) 32 (BR L P O true) (cs U8 P) rfl (by go_simp) (fun _ M => M.row (by simp)) (by simp [BR_size, hL, hP, hO, hX, hY, hZ]) (br_32 (by simp [BR_size, hL, hP, hO, hX, hY, hZ]) (by simp [BR_size, hL, hP, hO, hX, hY, hZ]) (by simp [BR_size, hL, hP, hO, hX, hY, hZ])) rfl ?_
    simp only [Act.put, List.setIfInBounds_toArray, List.set_cons_succ, List.set_cons_zero]
    refine SeqA.call _ _ _ (fun w' => by go_simp) (fun w' hI _ => rpub_v w' P Y hP HY.out) M2.size rfl rfl ?_
    refine SeqA.pure (.pointer (some ⟨w.heap.size, 96, none⟩)) (fun w' => by go_simp) rfl rfl ?_
    refine SeqA.read (.bool true) (fun w' M => by have c0 := br_96 (by simp [BR_size, hL, hP, hO, hX, hY, hZ]) (by simp [BR_size, hL, hP, hO, hX, hY, hZ]) (by simp [BR_size, hL, hP, hO, hX, hY, hZ]) (M.row (b := w.heap.size) (c := BR L P O true) (by simp)); go_simp) rfl rfl ?_
    refine SeqA.pure (.agg (BR X Y (zs 32) true)) (fun w' => by have q := xb_rk3 w' X Y true hX hY; go_simp) rfl rfl ?_
    refine SeqA.var (z := .agg (BR (zs 32) (zs 32) (zs 32) false)) (by kernel_rfl) rfl rfl (by decide) rfl ?_
    refine SeqA.nil (fun w3 M4 hz => ?_)
    refine news_one (fun b5 hb1 hb2 hb3 => ?_)
    have M6 := M2.in_ (c := BR (zs 32) (zs 32) (zs 32) false) M4 hb1 hb2 (by decide) hb3 rfl
    show wpT _ _ _ _ _ _
    simp only [Act.put, List.setIfInBounds_toArray, List.set_cons_succ, List.set_cons_zero]
    refine wpT_st0 M6 0 (BR X Y (zs 32) true) inf_rk rfl rfl rfl rfl (by go_simp) (by go_simp) (by simp [BR_size, hL, hP, hO, hX, hY, hZ]) (by simp [BR_size, hL, hP, hO, hX, hY, hZ]) (by simp [go_sem]) rfl (fun w7 M8 => ?_)
    dsimp only [List.set] at M8
    dsimp only [wpT]
    go_upto_region 2 with fail
    refine wp_region_lin (.op 0 (.op 1 .done)) (by rfl) ?_
    refine wpT_valp 13 (v := .pointer (some ⟨w.heap.size, 96, none⟩)) rfl rfl rfl (by go_simp) ?_
    refine wpT_valp 14 (v := .bool true) rfl rfl rfl (by have c0 := br_96 (by simp [BR_size, hL, hP, hO, hX, hY, hZ]) (by simp [BR_size, hL, hP, hO, hX, hY, hZ]) (by simp [BR_size, hL, hP, hO, hX, hY, hZ]) (M8.row (b := w.heap.size) (c := BR L P O true) (by simp)); go_simp) ?_
    dsimp only [wpT]
    try simp only [Act.put, List.setIfInBounds_toArray, List.set_cons_succ, List.set_cons_zero]
    go_upto_region 3 with fail
    refine wp_region_lin (.op 0 (.op 1 (.op 2 (.op 3 (.op 4 .done))))) (by rfl) ?_
    refine wpT_valp 15 (v := .pointer (some ⟨w.heap.size, 64, none⟩)) rfl rfl rfl (by go_simp) ?_
    refine wpT_ldm 16 Tryd.underlying23 rfl inf_key (w.heap.size) 64 (BR L P O true) (cs U8 O) rfl rfl rfl (by go_simp) (M8.row (by simp)) (by simp [BR_size, hL, hP, hO, hX, hY, hZ]) (br_64 (by simp [BR_size, hL, hP, hO, hX, hY, hZ]) (by simp [BR_size, hL, hP, hO, hX, hY, hZ]) (by simp [BR_size, hL, hP, hO, hX, hY, hZ])) rfl ?_
    refine wpT_callv 17 M8 (v := .agg (cs U8 Z)) rfl rfl rfl (by go_simp) (rpub_v w7 O Z hO HZ.out) (fun w9 M10 => ?_)
    refine wpT_valp 18 (v := .pointer (some ⟨b5, 64, none⟩)) rfl rfl rfl (by go_simp) ?_
    try simp only [Act.put, List.setIfInBounds_toArray, List.set_cons_succ, List.set_cons_zero]
    refine wpT_stm (off := 64) M10 0 (cs U8 Z) (BR X Y Z true) inf_key rfl rfl rfl rfl (by go_simp) (by go_simp) (by simp [BR_size, hL, hP, hO, hX, hY, hZ]) (by simp [BR_size, hL, hP, hO, hX, hY, hZ]) (by simp [go_sem]) (br_put (by simp [BR_size, hL, hP, hO, hX, hY, hZ]) (by simp [BR_size, hL, hP, hO, hX, hY, hZ]) (by simp [BR_size, hL, hP, hO, hX, hY, hZ]) (by simp [BR_size, hL, hP, hO, hX, hY, hZ])) rfl (fun w11 M12 => ?_)
    dsimp only [List.set] at M12
    dsimp only [wpT]
    try simp only [Act.put, List.setIfInBounds_toArray, List.set_cons_succ, List.set_cons_zero]
    go_upto_region 4 with fail
    refine wp_region_lin (.op 0 (.op 1 .done)) (by rfl) ?_
    refine wpT_ld0 19 Tryd.underlying25 rfl inf_rk (b5) (BR X Y Z true) rfl rfl rfl (by go_simp) (M12.row (by simp)) (by simp [BR_size, hL, hP, hO, hX, hY, hZ]) rfl ?_
    refine wpT_st0 M12 1 (BR X Y Z true) inf_rk rfl rfl rfl rfl (by go_simp) (by go_simp) (by simp [BR_size, hL, hP, hO, hX, hY, hZ]) (by simp [BR_size, hL, hP, hO, hX, hY, hZ]) (by simp [go_sem]) rfl (fun w13 M14 => ?_)
    dsimp only [List.set] at M14
    dsimp only [wpT]
    try simp only [Act.put, List.setIfInBounds_toArray, List.set_cons_succ, List.set_cons_zero]
    go_wp2_with fail
    have r15 := M14.row (b := w.heap.size + 1) (c := BR X Y Z true) (by simp)
    refine bodyPost_ret (res_row (b := w.heap.size + 1) rfl Tryd.underlying25 rfl inf_rk _ _ rfl (by rw [r15]; simp [BR_size, hL, hP, hO, hX, hY, hZ])) rfl ?_
    rw [r15]
    exact ⟨rfl, M14.end_⟩
set_option maxRecDepth 100000 in
set_option maxHeartbeats 2000000 in
theorem rstart_c (w : World) (a f L P O D : L8) (h : Bool) (er : Int) (ha : a.length = 32) (hf : f.length = 32) (hL : L.length = 32) (hP : P.length = 32) (hO : O.length = 32) (eD : (D, er) = Su.res (Su.ps a f L P O h)) :
    Calls Tryd.prog 14 #[.agg (cs U8 a), .agg (cs U8 f), .agg (BR L P O h)] w fun e w' => e = .returned (.tuple #[.agg (cs U8 D), .int .i64 er]) ∧ Below w.heap.size w w' := by
  have hD : D.length = 32 := by have := res_len (Su.ps a f L P O h); rw [← eD] at this; exact this
  have HS := rsecret_v (w0 := w) (l := Su.ps a f L P O h) (by intro p hp; cases h <;> simp [Su.ps] at hp <;> rcases hp with rfl | rfl | rfl | rfl <;> exact ⟨by assumption, by assumption⟩) (by simp [Su.ps]) (by cases h <;> simp [Su.ps]) eD
  clear eD
  cases h
  · replace HS : Hid (∀ w' v1 v2, Below w.heap.size w w' → KS w' v1 [a, f, f] → KS w' v2 [P, L, P] → Calls Tryd.prog 34 #[v1, v2] w' fun e w'' => e = .returned (.tuple #[.agg (cs U8 D), .int .i64 er]) ∧ Below w'.heap.size w' w'') := HS
    have M0 := Mm.start no w
    go_enter Tryd.func14, Tryd.ntmps14
    have M2 := ((((M0.alloc (cs U8 a) 23 (by decide)).alloc (cs U8 f) 23 (by decide)).alloc (BR L P O false) 25 (by decide)).alloc (cs U8 (zs 32)) 23 (by decide))
    try simp only [World.size_alloc] at M2
    go_upto_region 1 with fail
    obtain ⟨w1, hw1⟩ : ∃ w1, w1 = ((((w.alloc (.cells (cs U8 a) 23)).alloc (.cells (cs U8 f) 23)).alloc (.cells (BR L P O false) 25)).alloc (.cells (cs U8 (zs 32)) 23)) := ⟨_, rfl⟩
    rw [← hw1] at M2 ⊢
    clear hw1
    refine wp_region_lin (.op 0 (.op 1 (.op 2 (.op 3 (.op 4 .done))))) (by rfl) ?_
    refine wpT_ld0 10 Tryd.underlying23 rfl inf_key (w.heap.size) (cs U8 a) rfl rfl rfl (by go_simp) (M2.row (by simp)) (by simp [BR_size, ha, hf, hL, hP, hO, hD]) rfl ?_
    refine wpT_ld0 11 Tryd.underlying23 rfl inf_key (w.heap.size + 1) (cs U8 f) rfl rfl rfl (by go_simp) (M2.row (by simp)) (by simp [BR_size, ha, hf, hL, hP, hO, hD]) rfl ?_
    refine wpT_ld0 12 Tryd.underlying23 rfl inf_key (w.heap.size + 1) (cs U8 f) rfl rfl rfl (by go_simp) (M2.row (by simp)) (by simp [BR_size, ha, hf, hL, hP, hO, hD]) rfl ?_
    have hz1 := M2.size
    refine wpT_keysO3 13 _ _ _ M2 a f f (by simp [BR_size, ha, hf, hL, hP, hO, hD]) (by simp [BR_size, ha, hf, hL, hP, hO, hD]) (by simp [BR_size, ha, hf, hL, hP, hO, hD]) rfl rfl rfl (by go_simp) (by go_simp) (by go_simp) rfl (fun g1 wp1 O1 Mp1 Bp1 hg1 => ?_)
    have hl1 := (O1.at_ g1 rfl).2
    have hs1 := Bp1.size
    try simp only [Act.put, List.setIfInBounds_toArray, List.set_cons_succ, List.set_cons_zero]
    refine wpT_valp 8 (v := .slice (some ⟨g1, 0, none⟩) 3 3) rfl rfl rfl (by go_simp) ?_
    dsimp only [wpT]
    try simp only [Act.put, List.setIfInBounds_toArray, List.set_cons_succ, List.set_cons_zero]
    go_upto_region 2 with fail
    refine wp_region_lin (.op 0 (.op 1 (.op 2 (.op 3 (.op 4 (.op 5 (.op 6 (.op 7 .done)))))))) (by rfl) ?_
    refine wpT_valp 14 (v := .pointer (some ⟨w.heap.size + 1 + 1, 32, none⟩)) rfl rfl rfl (by go_simp) ?_
    refine wpT_ldm 15 Tryd.underlying23 rfl inf_key (w.heap.size + 1 + 1) 32 (BR L P O false) (cs U8 P) rfl rfl rfl (by go_simp) (Mp1.row (by simp)) (by simp [BR_size, ha, hf, hL, hP, hO, hD]) (br_32 (by simp [BR_size, ha, hf, hL, hP, hO, hD]) (by simp [BR_size, ha, hf, hL, hP, hO, hD]) (by simp [BR_size, ha, hf, hL, hP, hO, hD])) rfl ?_
    refine wpT_valp 16 (v := .pointer (some ⟨w.heap.size + 1 + 1, 0, none⟩)) rfl rfl rfl (by go_simp) ?_
    refine wpT_ldm 17 Tryd.underlying23 rfl inf_key (w.heap.size + 1 + 1) 0 (BR L P O false) (cs U8 L) rfl rfl rfl (by go_simp) (Mp1.row (by simp)) (by simp [BR_size, ha, hf, hL, hP, hO, hD]) (br_0 (by simp [BR_size, ha, hf, hL, hP, hO, hD]) (by simp [BR_size, ha, hf, hL, hP, hO, hD]) (by simp [BR_size, ha, hf, hL, hP, hO, hD])) rfl ?_
    try simp only [Act.put, List.setIfInBounds_toArray, List.set_cons_succ, List.set_cons_zero]
    refine wpT_valp 18 (v := .pointer (some ⟨w.heap.size + 1 + 1, 32, none⟩)) rfl rfl rfl (by go_simp) ?_
    refine wpT_ldm 19 Tryd.underlying23 rfl inf_key (w.heap.size + 1 + 1) 32 (BR L P O false) (cs U8 P) rfl rfl rfl (by go_simp) (Mp1.row (by simp)) (by simp [BR_size, ha, hf, hL, hP, hO, hD]) (br_32 (by simp [BR_size, ha, hf, hL, hP, hO, hD]) (by simp [BR_size, ha, hf, hL, hP, hO, hD]) (by simp [BR_size, ha, hf, hL, hP, hO, hD])) rfl ?_
    have hz2 := Mp1.size
    refine wpT_keysO3 20 _ _ _ Mp1 P L P (by simp [BR_size, ha, hf, hL, hP, hO, hD]) (by simp [BR_size, ha, hf, hL, hP, hO, hD]) (by simp [BR_size, ha, hf, hL, hP, hO, hD]) rfl rfl rfl (by go_simp) (by go_simp) (by go_simp) rfl (fun g2 wp2 O2 Mp2 Bp2 hg2 => ?_)
    have hl2 := (O2.at_ g2 rfl).2
    have hs2 := Bp2.size
    replace O1 := O1.below Bp2
    refine wpT_valp 9 (v := .slice (some ⟨g2, 0, none⟩) 3 3) rfl rfl rfl (by go_simp) ?_
    dsimp only [wpT]
    try simp only [Act.put, List.setIfInBounds_toArray, List.set_cons_succ, List.set_cons_zero]
    go_upto_region 3 with fail
    refine wp_region_lin (.op 0 (.op 1 .done)) (by rfl) ?_
    refine wpT_valp 21 (v := .pointer (some ⟨w.heap.size + 1 + 1, 96, none⟩)) rfl rfl rfl (by go_simp) ?_
    refine wpT_valp 22 (v := .bool false) rfl rfl rfl (by have c0 := br_96 (by simp [BR_size, ha, hf, hL, hP, hO, hD]) (by simp [BR_size, ha, hf, hL, hP, hO, hD]) (by simp [BR_size, ha, hf, hL, hP, hO, hD]) (Mp2.row (b := w.heap.size + 1 + 1) (c := BR L P O false) (by simp)); go_simp) ?_
    dsimp only [wpT]
    try simp only [Act.put, List.setIfInBounds_toArray, List.set_cons_succ, List.set_cons_zero]
    go_upto_region 6 with fail
    refine wp_region_lin (.op 0 (.op 1 (.op 2 (.op 3 (.op 4 (.op 5 (.op 6 .done))))))) (by rfl) ?_
    refine wpT_valp 32 (v := .slice (some ⟨g1, 0, none⟩) 3 3) rfl rfl rfl (by go_simp) ?_
    refine wpT_valp 33 (v := .slice (some ⟨g2, 0, none⟩) 3 3) rfl rfl rfl (by go_simp) ?_
    refine wpT_callv 34 Mp2 (v := .tuple #[.agg (cs U8 D), .int .i64 er]) rfl rfl rfl (by go_simp) (HS.out wp2 _ _ Mp2.end_ O1.ks O2.ks) (fun w3 M4 => ?_)
    refine wpT_valp 35 (v := .agg (cs U8 D)) rfl rfl rfl (by go_simp) ?_
    try simp only [Act.put, List.setIfInBounds_toArray, List.set_cons_succ, List.set_cons_zero]
    refine wpT_valp 36 (v := .int .i64 er) rfl rfl rfl (by go_simp) ?_
    refine wpT_st0 M4 0 (cs U8 D) inf_key rfl rfl rfl rfl (by go_simp) (by go_simp) (by simp [BR_size, ha, hf, hL, hP, hO, hD]) (by simp [BR_size, ha, hf, hL, hP, hO, hD]) (by simp [go_sem]) rfl (fun w5 M6 => ?_)
    dsimp only [List.set] at M6
    refine wpT_valp 7 (v := .int .i64 er) rfl rfl rfl (by go_simp) ?_
    dsimp only [wpT]
    try simp only [Act.put, List.setIfInBounds_toArray, List.set_cons_succ, List.set_cons_zero]
    go_wp2_with fail
    have r7 := M6.row (b := w.heap.size + 1 + 1 + 1) (c := cs U8 D) (by simp)
    refine bodyPost_ret (res_two rfl (rv_row Tryd.underlying23 rfl inf_key (w.heap.size + 1 + 1 + 1) rfl (by rw [r7]; simp [BR_size, ha, hf, hL, hP, hO, hD])) (rv_tmp _ _ rfl)) rfl ?_
    rw [r7]
    exact ⟨rfl, M6.end_⟩
  · replace HS : Hid (∀ w' v1 v2, Below w.heap.size w w' → KS w' v1 ([a, f, f] ++ [f]) → KS w' v2 ([P, L, P] ++ [O]) → Calls Tryd.prog 34 #[v1, v2] w' fun e w'' => e = .returned (.tuple #[.agg (cs U8 D), .int .i64 er]) ∧ Below w'.heap.size w' w'') := HS
    have M0 := Mm.start no w
    go_enter Tryd.func14, Tryd.ntmps14
    have M2 := ((((M0.alloc (cs U8 a) 23 (by decide)).alloc (cs U8 f) 23 (by decide)).alloc (BR L P O true) 25 (by decide)).alloc (cs U8 (zs 32)) 23 (by decide))
    try simp only [World.size_alloc] at M2
    go_upto_region 1 with fail
    obtain ⟨w1, hw1⟩ : ∃ w1, w1 = ((((w.alloc (.cells (cs U8 a) 23)).alloc (.cells (cs U8 f) 23)).alloc (.cells (BR L P O true) 25)).alloc (.cells (cs U8 (zs 32)) 23)) := ⟨_, rfl⟩
    rw [← hw1] at M2 ⊢
    clear hw1
    refine wp_region_lin (.op 0 (.op 1 (.op 2 (.op 3 (.op 4 .done))))) (by rfl) ?_
    refine wpT_ld0 10 Tryd.underlying23 rfl inf_key (w.heap.size) (cs U8 a) rfl rfl rfl (by go_simp) (M2.row (by simp)) (by simp [BR_size, ha, hf, hL, hP, hO, hD]) rfl ?_
    refine wpT_ld0 11 Tryd.underlying23 rfl inf_key (w.heap.size + 1) (cs U8 f) rfl rfl rfl (by go_simp) (M2.row (by simp)) (by simp [BR_size, ha, hf, hL, hP, hO, hD]) rfl ?_
    refine wpT_ld0 12 Tryd.underlying23 rfl inf_key (w.heap.size + 1) (cs U8 f) rfl rfl rfl (by go_simp) (M2.row (by simp)) (by simp [BR_size, ha, hf, hL, hP, hO, hD]) rfl ?_
    have hz1 := M2.size
    refine wpT_keysO3 13 _ _ _ M2 a f f (by simp [BR_size, ha, hf, hL, hP, hO, hD]) (by simp [BR_size, ha, hf, hL, hP, hO, hD]) (by simp [BR_size, ha, hf, hL, hP, hO, hD]) rfl rfl rfl (by go_simp) (by go_simp) (by go_simp) rfl (fun g1 wp1 O1 Mp1 Bp1 hg1 => ?_)
    have hl1 := (O1.at_ g1 rfl).2
    have hs1 := Bp1.size
    try simp only [Act.put, List.setIfInBounds_toArray, List.set_cons_succ, List.set_cons_zero]
    refine wpT_valp 8 (v := .slice (some ⟨g1, 0, none⟩) 3 3) rfl rfl rfl (by go_simp) ?_
    dsimp only [wpT]
    try simp only [Act.put, List.setIfInBounds_toArray, List.set_cons_succ, List.set_cons_zero]
    go_upto_region 2 with fail
    refine wp_region_lin (.op 0 (.op 1 (.op 2 (.op 3 (.op 4 (.op 5 (.op 6 (.op 7 .done)))))))) (by rfl) ?_
    refine wpT_valp 14 (v := .pointer (some ⟨w.heap.size + 1 + 1, 32, none⟩)) rfl rfl rfl (by go_simp) ?_
    refine wpT_ldm 15 Tryd.underlying23 rfl inf_key (w.heap.size + 1 + 1) 32 (BR L P O true) (cs U8 P) rfl rfl rfl (by go_simp) (Mp1.row (by simp)) (by simp [BR_size, ha, hf, hL, hP, hO, hD]) (br_32 (by simp [BR_size, ha, hf, hL, hP, hO, hD]) (by simp [BR_size, ha, hf, hL, hP, hO, hD]) (by simp [BR_size, ha, hf, hL, hP, hO, hD])) rfl ?_
    refine wpT_valp 16 (v := .pointer (some ⟨w.heap.size + 1 + 1, 0, none⟩)) rfl rfl rfl (by go_simp) ?_
    refine wpT_ldm 17 Tryd.underlying23 rfl inf_key (w.heap.size + 1 + 1) 0 (BR L P O true) (cs U8 L) rfl rfl rfl (by go_simp) (Mp1.row (by simp)) (by simp [BR_size, ha, hf, hL, hP, hO, hD]) (br_0 (by simp [BR_size, ha, hf, hL, hP, hO, hD]) (by simp [BR_size, ha, hf, hL, hP, hO, hD]) (by simp [BR_size, ha, hf, hL, hP, hO, hD])) rfl ?_
    try simp only [Act.put, List.setIfInBounds_toArray, List.set_cons_succ, List.set_cons_zero]
    refine wpT_valp 18 (v := .pointer (some ⟨w.heap.size + 1 + 1, 32, none⟩)) rfl rfl rfl (by go_simp) ?_
    refine wpT_ldm 19 Tryd.underlying23 rfl inf_key (w.heap.size + 1 + 1) 32 (BR L P O true) (cs U8 P) rfl rfl rfl (by go_simp) (Mp1.row (by simp)) (by simp [BR_size, ha, hf, hL, hP, hO, hD]) (br_32 (by simp [BR_size, ha, hf, hL, hP, hO, hD]) (by simp [BR_size, ha, hf, hL, hP, hO, hD]) (by simp [BR_size, ha, hf, hL, hP, hO, hD])) rfl ?_
    have hz2 := Mp1.size
    refine wpT_keysO3 20 _ _ _ Mp1 P L P (by simp [BR_size, ha, hf, hL, hP, hO, hD]) (by simp [BR_size, ha, hf, hL, hP, hO, hD]) (by simp [BR_size, ha, hf, hL, hP, hO, hD]) rfl rfl rfl (by go_simp) (by go_simp) (by go_simp) rfl (fun g2 wp2 O2 Mp2 Bp2 hg2 => ?_)
    have hl2 := (O2.at_ g2 rfl).2
    have hs2 := Bp2.size
    replace O1 := O1.below Bp2
    refine wpT_valp 9 (v := .slice (some ⟨g2, 0, none⟩) 3 3) rfl rfl rfl (by go_simp) ?_
    dsimp only [wpT]
    try simp only [Act.put, List.setIfInBounds_toArray, List.set_cons_succ, List.set_cons_zero]
    go_upto_region 3 with fail
    refine wp_region_lin (.op 0 (.op 1 .done)) (by rfl) ?_
    refine wpT_valp 21 (v := .pointer (some ⟨w.heap.size + 1 + 1, 96, none⟩)) rfl rfl rfl (by go_simp) ?_
    refine wpT_valp 22 (v := .bool true) rfl rfl rfl (by have c0 := br_96 (by simp [BR_size, ha, hf, hL, hP, hO, hD]) (by simp [BR_size, ha, hf, hL, hP, hO, hD]) (by simp [BR_size, ha, hf, hL, hP, hO, hD]) (Mp2.row (b := w.heap.size + 1 + 1) (c := BR L P O true) (by simp)); go_simp) ?_
    dsimp only [wpT]
    try simp only [Act.put, List.setIfInBounds_toArray, List.set_cons_succ, List.set_cons_zero]
    go_upto_region 4 with fail
    refine wp_region_lin (.op 0 (.op 1 (.op 2 (.op 3 (.op 4 .done))))) (by rfl) ?_
    refine wpT_valp 23 (v := .slice (some ⟨g1, 0, none⟩) 3 3) rfl rfl rfl (by go_simp) ?_
    refine wpT_ld0 24 Tryd.underlying23 rfl inf_key (w.heap.size + 1) (cs U8 f) rfl rfl rfl (by go_simp) (Mp2.row (by simp)) (by simp [BR_size, ha, hf, hL, hP, hO, hD]) rfl ?_
    refine wpT_keys1 25 _ Mp2 f (by simp [BR_size, ha, hf, hL, hP, hO, hD]) rfl rfl rfl (by go_simp) rfl (fun g3 wp3 Mp3 Bp3 hg3 => ?_)
    have hsv3 := SV.key (Mp3.row (b := g3) (c := cs U8 f) (by simp))
    replace Mp3 := Mp3.sub (H' := [(w.heap.size + 1 + 1 + 1, cs U8 (zs 32)), (w.heap.size + 1 + 1, BR L P O true), (w.heap.size + 1, cs U8 f), (w.heap.size, cs U8 a)]) (by simp)
    replace O1 := O1.below Bp3
    replace O2 := O2.below Bp3
    have hs3 := Bp3.size
    refine wpT_apkg 26 _ _ Mp3 w1.heap.size (.slice (some ⟨g1, 0, none⟩) 3 3) (.slice (some ⟨g3, 0, none⟩) 1 1) [a, f, f] f rfl rfl rfl rfl (by go_simp) O1 (by go_simp) (by simp [BR_size, ha, hf, hL, hP, hO, hD]) hsv3 (by simp) (by omega) (by omega) (fun g hg p hp => ?_) (fun u26 wq3 Oq3 Mq3 Eq3 Gq3 => ?_)
    · have h1 := (O1.at_ g hg).1
      have h2 := M2.lt (b := p.1) (c := p.2) hp
      omega
    have hs33 := Gq3.size
    replace O2 := O2.kept Gq3 (.inr (by simp [Value.ownBlock]; omega))
    replace O1 := Oq3
    try simp only [Act.put, List.setIfInBounds_toArray, List.set_cons_succ, List.set_cons_zero]
    refine wpT_valp 8 (v := u26) rfl rfl rfl (by go_simp) ?_
    dsimp only [wpT]
    try simp only [Act.put, List.setIfInBounds_toArray, List.set_cons_succ, List.set_cons_zero]
    go_upto_region 5 with fail
    refine wp_region_lin (.op 0 (.op 1 (.op 2 (.op 3 (.op 4 (.op 5 .done)))))) (by rfl) ?_
    refine wpT_valp 27 (v := .slice (some ⟨g2, 0, none⟩) 3 3) rfl rfl rfl (by go_simp) ?_
    refine wpT_valp 28 (v := .pointer (some ⟨w.heap.size + 1 + 1, 64, none⟩)) rfl rfl rfl (by go_simp) ?_
    refine wpT_ldm 29 Tryd.underlying23 rfl inf_key (w.heap.size + 1 + 1) 64 (BR L P O true) (cs U8 O) rfl rfl rfl (by go_simp) (Mq3.row (by simp)) (by simp [BR_size, ha, hf, hL, hP, hO, hD]) (br_64 (by simp [BR_size, ha, hf, hL, hP, hO, hD]) (by simp [BR_size, ha, hf, hL, hP, hO, hD]) (by simp [BR_size, ha, hf, hL, hP, hO, hD])) rfl ?_
    refine wpT_keys1 30 _ Mq3 O (by simp [BR_size, ha, hf, hL, hP, hO, hD]) rfl rfl rfl (by go_simp) rfl (fun g4 wp4 Mp4 Bp4 hg4 => ?_)
    have hsv4 := SV.key (Mp4.row (b := g4) (c := cs U8 O) (by simp))
    replace Mp4 := Mp4.sub (H' := [(w.heap.size + 1 + 1 + 1, cs U8 (zs 32)), (w.heap.size + 1 + 1, BR L P O true), (w.heap.size + 1, cs U8 f), (w.heap.size, cs U8 a)]) (by simp)
    replace O1 := O1.below Bp4
    replace O2 := O2.below Bp4
    have hs4 := Bp4.size
    try simp only [Act.put, List.setIfInBounds_toArray, List.set_cons_succ, List.set_cons_zero]
    refine wpT_apkg 31 _ _ Mp4 wp1.heap.size (.slice (some ⟨g2, 0, none⟩) 3 3) (.slice (some ⟨g4, 0, none⟩) 1 1) [P, L, P] O rfl rfl rfl rfl (by go_simp) O2 (by go_simp) (by simp [BR_size, ha, hf, hL, hP, hO, hD]) hsv4 (by simp) (by omega) (by omega) (fun g hg p hp => ?_) (fun u31 wq4 Oq4 Mq4 Eq4 Gq4 => ?_)
    · have h1 := (O2.at_ g hg).1
      have h2 := Mp1.lt (b := p.1) (c := p.2) hp
      omega
    have hs44 := Gq4.size
    replace O1 := O1.kept Gq4 (by rcases Eq3 with h | h <;> rw [h] <;> right <;> simp [Value.ownBlock] <;> omega)
    replace O2 := Oq4
    refine wpT_valp 9 (v := u31) rfl rfl rfl (by go_simp) ?_
    dsimp only [wpT]
    try simp only [Act.put, List.setIfInBounds_toArray, List.set_cons_succ, List.set_cons_zero]
    go_upto_region 6 with fail
    refine wp_region_lin (.op 0 (.op 1 (.op 2 (.op 3 (.op 4 (.op 5 (.op 6 .done))))))) (by rfl) ?_
    refine wpT_valp 32 (v := u26) rfl rfl rfl (by go_simp) ?_
    refine wpT_valp 33 (v := u31) rfl rfl rfl (by go_simp) ?_
    refine wpT_callv 34 Mq4 (v := .tuple #[.agg (cs U8 D), .int .i64 er]) rfl rfl rfl (by go_simp) (HS.out wq4 _ _ Mq4.end_ O1.ks O2.ks) (fun w3 M4 => ?_)
    refine wpT_valp 35 (v := .agg (cs U8 D)) rfl rfl rfl (by go_simp) ?_
    try simp only [Act.put, List.setIfInBounds_toArray, List.set_cons_succ, List.set_cons_zero]
    refine wpT_valp 36 (v := .int .i64 er) rfl rfl rfl (by go_simp) ?_
    refine wpT_st0 M4 0 (cs U8 D) inf_key rfl rfl rfl rfl (by go_simp) (by go_simp) (by simp [BR_size, ha, hf, hL, hP, hO, hD]) (by simp [BR_size, ha, hf, hL, hP, hO, hD]) (by simp [go_sem]) rfl (fun w5 M6 => ?_)
    dsimp only [List.set] at M6
    refine wpT_valp 7 (v := .int .i64 er) rfl rfl rfl (by go_simp) ?_
    dsimp only [wpT]
    try simp only [Act.put, List.setIfInBounds_toArray, List.set_cons_succ, List.set_cons_zero]
    go_wp2_with fail
    have r7 := M6.row (b := w.heap.size + 1 + 1 + 1) (c := cs U8 D) (by simp)
    refine bodyPost_ret (res_two rfl (rv_row Tryd.underlying23 rfl inf_key (w.heap.size + 1 + 1 + 1) rfl (by rw [r7]; simp [BR_size, ha, hf, hL, hP, hO, hD])) (rv_tmp _ _ rfl)) rfl ?_
    rw [r7]
    exact ⟨rfl, M6.end_⟩
set_option maxRecDepth 100000 in
set_option maxHeartbeats 2000000 in
theorem ranswer_c (w : World) (a f L P O D : L8) (h : Bool) (er : Int) (ha : a.length = 32) (hf : f.length = 32) (hL : L.length = 32) (hP : P.length = 32) (hO : O.length = 32) (eD : (D, er) = Su.res (Su.qs a f L P O h)) :
    Calls Tryd.prog 19 #[.agg (BR L P O h), .agg (cs U8 a), .agg (cs U8 f)] w fun e w' => e = .returned (.tuple #[.agg (cs U8 D), .int .i64 er]) ∧ Below w.heap.size w w' := by
  have hD : D.length = 32 := by have := res_len (Su.qs a f L P O h); rw [← eD] at this; exact this
  have HS := rsecret_v (w0 := w) (l := Su.qs a f L P O h) (by intro p hp; cases h <;> simp [Su.qs] at hp <;> rcases hp with rfl | rfl | rfl | rfl <;> exact ⟨by assumption, by assumption⟩) (by simp [Su.qs]) (by cases h <;> simp [Su.qs]) eD
  clear eD
  cases h
  · replace HS : Hid (∀ w' v1 v2, Below w.heap.size w w' → KS w' v1 [P, L, P] → KS w' v2 [a, f, f] → Calls Tryd.prog 34 #[v1, v2] w' fun e w'' => e = .returned (.tuple #[.agg (cs U8 D), .int .i64 er]) ∧ Below w'.heap.size w' w'') := HS
    have M0 := Mm.start no w
    go_enter Tryd.func19, Tryd.ntmps19
    have M2 := ((((M0.alloc (BR L P O false) 25 (by decide)).alloc (cs U8 a) 23 (by decide)).alloc (cs U8 f) 23 (by decide)).alloc (cs U8 (zs 32)) 23 (by decide))
    try simp only [World.size_alloc] at M2
    go_upto_region 1 with fail
    obtain ⟨w1, hw1⟩ : ∃ w1, w1 = ((((w.alloc (.cells (BR L P O false) 25)).alloc (.cells (cs U8 a) 23)).alloc (.cells (cs U8 f) 23)).alloc (.cells (cs U8 (zs 32)) 23)) := ⟨_, rfl⟩
    rw [← hw1] at M2 ⊢
    clear hw1
    refine wp_region_lin (.op 0 (.op 1 (.op 2 (.op 3 (.op 4 (.op 5 (.op 6 (.op 7 .done)))))))) (by rfl) ?_
    refine wpT_valp 10 (v := .pointer (some ⟨w.heap.size, 32, none⟩)) rfl rfl rfl (by go_simp) ?_
    refine wpT_ldm 11 Tryd.underlying23 rfl inf_key (w.heap.size) 32 (BR L P O false) (cs U8 P) rfl rfl rfl (by go_simp) (M2.row (by simp)) (by simp [BR_size, ha, hf, hL, hP, hO, hD]) (br_32 (by simp [BR_size, ha, hf, hL, hP, hO, hD]) (by simp [BR_size, ha, hf, hL, hP, hO, hD]) (by simp [BR_size, ha, hf, hL, hP, hO, hD])) rfl ?_
    refine wpT_valp 12 (v := .pointer (some ⟨w.heap.size, 0, none⟩)) rfl rfl rfl (by go_simp) ?_
    refine wpT_ldm 13 Tryd.underlying23 rfl inf_key (w.heap.size) 0 (BR L P O false) (cs U8 L) rfl rfl rfl (by go_simp) (M2.row (by simp)) (by simp [BR_size, ha, hf, hL, hP, hO, hD]) (br_0 (by simp [BR_size, ha, hf, hL, hP, hO, hD]) (by simp [BR_size, ha, hf, hL, hP, hO, hD]) (by simp [BR_size, ha, hf, hL, hP, hO, hD])) rfl ?_
    try simp only [Act.put, List.setIfInBounds_toArray, List.set_cons_succ, List.set_cons_zero]
    refine wpT_valp 14 (v := .pointer (some ⟨w.heap.size, 32, none⟩)) rfl rfl rfl (by go_simp) ?_
    refine wpT_ldm 15 Tryd.underlying23 rfl inf_key (w.heap.size) 32 (BR L P O false) (cs U8 P) rfl rfl rfl (by go_simp) (M2.row (by simp)) (by simp [BR_size, ha, hf, hL, hP, hO, hD]) (br_32 (by simp [BR_size, ha, hf, hL, hP, hO, hD]) (by simp [BR_size, ha, hf, hL, hP, hO, hD]) (by simp [BR_size, ha, hf, hL, hP, hO, hD])) rfl ?_
    have hz1 := M2.size
    refine wpT_keysO3 16 _ _ _ M2 P L P (by simp [BR_size, ha, hf, hL, hP, hO, hD]) (by simp [BR_size, ha, hf, hL, hP, hO, hD]) (by simp [BR_size, ha, hf, hL, hP, hO, hD]) rfl rfl rfl (by go_simp) (by go_simp) (by go_simp) rfl (fun g1 wp1 O1 Mp1 Bp1 hg1 => ?_)
    have hl1 := (O1.at_ g1 rfl).2
    have hs1 := Bp1.size
    refine wpT_valp 8 (v := .slice (some ⟨g1, 0, none⟩) 3 3) rfl rfl rfl (by go_simp) ?_
    dsimp only [wpT]
    try simp only [Act.put, List.setIfInBounds_toArray, List.set_cons_succ, List.set_cons_zero]
    go_upto_region 2 with fail
    refine wp_region_lin (.op 0 (.op 1 (.op 2 (.op 3 (.op 4 .done))))) (by rfl) ?_
    refine wpT_ld0 17 Tryd.underlying23 rfl inf_key (w.heap.size + 1) (cs U8 a) rfl rfl rfl (by go_simp) (Mp1.row (by simp)) (by simp [BR_size, ha, hf, hL, hP, hO, hD]) rfl ?_
    refine wpT_ld0 18 Tryd.underlying23 rfl inf_key (w.heap.size + 1 + 1) (cs U8 f) rfl rfl rfl (by go_simp) (Mp1.row (by simp)) (by simp [BR_size, ha, hf, hL, hP, hO, hD]) rfl ?_
    refine wpT_ld0 19 Tryd.underlying23 rfl inf_key (w.heap.size + 1 + 1) (cs U8 f) rfl rfl rfl (by go_simp) (Mp1.row (by simp)) (by simp [BR_size, ha, hf, hL, hP, hO, hD]) rfl ?_
    have hz2 := Mp1.size
    refine wpT_keysO3 20 _ _ _ Mp1 a f f (by simp [BR_size, ha, hf, hL, hP, hO, hD]) (by simp [BR_size, ha, hf, hL, hP, hO, hD]) (by simp [BR_size, ha, hf, hL, hP, hO, hD]) rfl rfl rfl (by go_simp) (by go_simp) (by go_simp) rfl (fun g2 wp2 O2 Mp2 Bp2 hg2 => ?_)
    have hl2 := (O2.at_ g2 rfl).2
    have hs2 := Bp2.size
    replace O1 := O1.below Bp2
    try simp only [Act.put, List.setIfInBounds_toArray, List.set_cons_succ, List.set_cons_zero]
    refine wpT_valp 9 (v := .slice (some ⟨g2, 0, none⟩) 3 3) rfl rfl rfl (by go_simp) ?_
    dsimp only [wpT]
    try simp only [Act.put, List.setIfInBounds_toArray, List.set_cons_succ, List.set_cons_zero]
    go_upto_region 3 with fail
    refine wp_region_lin (.op 0 (.op 1 .done)) (by rfl) ?_
    refine wpT_valp 21 (v := .pointer (some ⟨w.heap.size, 96, none⟩)) rfl rfl rfl (by go_simp) ?_
    refine wpT_valp 22 (v := .bool false) rfl rfl rfl (by have c0 := br_96 (by simp [BR_size, ha, hf, hL, hP, hO, hD]) (by simp [BR_size, ha, hf, hL, hP, hO, hD]) (by simp [BR_size, ha, hf, hL, hP, hO, hD]) (Mp2.row (b := w.heap.size) (c := BR L P O false) (by simp)); go_simp) ?_
    dsimp only [wpT]
    try simp only [Act.put, List.setIfInBounds_toArray, List.set_cons_succ, List.set_cons_zero]
    go_upto_region 6 with fail
    refine wp_region_lin (.op 0 (.op 1 (.op 2 (.op 3 (.op 4 (.op 5 (.op 6 .done))))))) (by rfl) ?_
    refine wpT_valp 32 (v := .slice (some ⟨g1, 0, none⟩) 3 3) rfl rfl rfl (by go_simp) ?_
    refine wpT_valp 33 (v := .slice (some ⟨g2, 0, none⟩) 3 3) rfl rfl rfl (by go_simp) ?_
    refine wpT_callv 34 Mp2 (v := .tuple #[.agg (cs U8 D), .int .i64 er]) rfl rfl rfl (by go_simp) (HS.out wp2 _ _ Mp2.end_ O1.ks O2.ks) (fun w3 M4 => ?_)
    refine wpT_valp 35 (v := .agg (cs U8 D)) rfl rfl rfl (by go_simp) ?_
    try simp only [Act.put, List.setIfInBounds_toArray, List.set_cons_succ, List.set_cons_zero]
    refine wpT_valp 36 (v := .int .i64 er) rfl rfl rfl (by go_simp) ?_
    refine wpT_st0 M4 0 (cs U8 D) inf_key rfl rfl rfl rfl (by go_simp) (by go_simp) (by simp [BR_size, ha, hf, hL, hP, hO, hD]) (by simp [BR_size, ha, hf, hL, hP, hO, hD]) (by simp [go_sem]) rfl (fun w5 M6 => ?_)
    dsimp only [List.set] at M6
    refine wpT_valp 7 (v := .int .i64 er) rfl rfl rfl (by go_simp) ?_
    dsimp only [wpT]
    try simp only [Act.put, List.setIfInBounds_toArray, List.set_cons_succ, List.set_cons_zero]
    go_wp2_with fail
    have r7 := M6.row (b := w.heap.size + 1 + 1 + 1) (c := cs U8 D) (by simp)
    refine bodyPost_ret (res_two rfl (rv_row Tryd.underlying23 rfl inf_key (w.heap.size + 1 + 1 + 1) rfl (by rw [r7]; simp [BR_size, ha, hf, hL, hP, hO, hD])) (rv_tmp _ _ rfl)) rfl ?_
    rw [r7]
    exact ⟨rfl, M6.end_⟩
  · replace HS : Hid (∀ w' v1 v2, Below w.heap.size w w' → KS w' v1 ([P, L, P] ++ [O]) → KS w' v2 ([a, f, f] ++ [f]) → Calls Tryd.prog 34 #[v1, v2] w' fun e w'' => e = .returned (.tuple #[.agg (cs U8 D), .int .i64 er]) ∧ Below w'.heap.size w' w'') := HS
    have M0 := Mm.start no w
    go_enter Tryd.func19, Tryd.ntmps19
    have M2 := ((((M0.alloc (BR L P O true) 25 (by decide)).alloc (cs U8 a) 23 (by decide)).alloc (cs U8 f) 23 (by decide)).alloc (cs U8 (zs 32)) 23 (by decide))
    try simp only [World.size_alloc] at M2
    go_upto_region 1 with fail
    obtain ⟨w1, hw1⟩ : ∃ w1, w1 = ((((w.alloc (.cells (BR L P O true) 25)).alloc (.cells (cs U8 a) 23)).alloc (.cells (cs U8 f) 23)).alloc (.cells (cs U8 (zs 32)) 23)) := ⟨_, rfl⟩
    rw [← hw1] at M2 ⊢
    clear hw1
    refine wp_region_lin (.op 0 (.op 1 (.op 2 (.op 3 (.op 4 (.op 5 (.op 6 (.op 7 .done)))))))) (by rfl) ?_
    refine wpT_valp 10 (v := .pointer (some ⟨w.heap.size, 32, none⟩)) rfl rfl rfl (by go_simp) ?_
    refine wpT_ldm 11 Tryd.underlying23 rfl inf_key (w.heap.size) 32 (BR L P O true) (cs U8 P) rfl rfl rfl (by go_simp) (M2.row (by simp)) (by simp [BR_size, ha, hf, hL, hP, hO, hD]) (br_32 (by simp [BR_size, ha, hf, hL, hP, hO, hD]) (by simp [BR_size, ha, hf, hL, hP, hO, hD]) (by simp [BR_size, ha, hf, hL, hP, hO, hD])) rfl ?_
    refine wpT_valp 12 (v := .pointer (some ⟨w.heap.size, 0, none⟩)) rfl rfl rfl (by go_simp) ?_
    refine wpT_ldm 13 Tryd.underlying23 rfl inf_key (w.heap.size) 0 (BR L P O true) (cs U8 L) rfl rfl rfl (by go_simp) (M2.row (by simp)) (by simp [BR_size, ha, hf, hL, hP, hO, hD]) (br_0 (by simp [BR_size, ha, hf, hL, hP, hO, hD]) (by simp [BR_size, ha, hf, hL, hP, hO, hD]) (by simp [BR_size, ha, hf, hL, hP, hO, hD])) rfl ?_
    try simp only [Act.put, List.setIfInBounds_toArray, List.set_cons_succ, List.set_cons_zero]
    refine wpT_valp 14 (v := .pointer (some ⟨w.heap.size, 32, none⟩)) rfl rfl rfl (by go_simp) ?_
    refine wpT_ldm 15 Tryd.underlying23 rfl inf_key (w.heap.size) 32 (BR L P O true) (cs U8 P) rfl rfl rfl (by go_simp) (M2.row (by simp)) (by simp [BR_size, ha, hf, hL, hP, hO, hD]) (br_32 (by simp [BR_size, ha, hf, hL, hP, hO, hD]) (by simp [BR_size, ha, hf, hL, hP, hO, hD]) (by simp [BR_size, ha, hf, hL, hP, hO, hD])) rfl ?_
    have hz1 := M2.size
    refine wpT_keysO3 16 _ _ _ M2 P L P (by simp [BR_size, ha, hf, hL, hP, hO, hD]) (by simp [BR_size, ha, hf, hL, hP, hO, hD]) (by simp [BR_size, ha, hf, hL, hP, hO, hD]) rfl rfl rfl (by go_simp) (by go_simp) (by go_simp) rfl (fun g1 wp1 O1 Mp1 Bp1 hg1 => ?_)
    have hl1 := (O1.at_ g1 rfl).2
    have hs1 := Bp1.size
    refine wpT_valp 8 (v := .slice (some ⟨g1, 0, none⟩) 3 3) rfl rfl rfl (by go_simp) ?_
    dsimp only [wpT]
    try simp only [Act.put, List.setIfInBounds_toArray, List.set_cons_succ, List.set_cons_zero]
    go_upto_region 2 with fail
    refine wp_region_lin (.op 0 (.op 1 (.op 2 (.op 3 (.op 4 .done))))) (by rfl) ?_
    refine wpT_ld0 17 Tryd.underlying23 rfl inf_key (w.heap.size + 1) (cs U8 a) rfl rfl rfl (by go_simp) (Mp1.row (by simp)) (by simp [BR_size, ha, hf, hL, hP, hO, hD]) rfl ?_
    refine wpT_ld0 18 Tryd.underlying23 rfl inf_key (w.heap.size + 1 + 1) (cs U8 f) rfl rfl rfl (by go_simp) (Mp1.row (by simp)) (by simp [BR_size, ha, hf, hL, hP, hO, hD]) rfl ?_
    refine wpT_ld0 19 Tryd.underlying23 rfl inf_key (w.heap.size + 1 + 1) (cs U8 f) rfl rfl rfl (by go_simp) (Mp1.row (by simp)) (by simp [BR_size, ha, hf, hL, hP, hO, hD]) rfl ?_
    have hz2 := Mp1.size
    refine wpT_keysO3 20 _ _ _ Mp1 a f f (by simp [BR_size, ha, hf, hL, hP, hO, hD]) (by simp [BR_size, ha, hf, hL, hP, hO, hD]) (by simp [BR_size, ha, hf, hL, hP, hO, hD]) rfl rfl rfl (by go_simp) (by go_simp) (by go_simp) rfl (fun g2 wp2 O2 Mp2 Bp2 hg2 => ?_)
    have hl2 := (O2.at_ g2 rfl).2
    have hs2 := Bp2.size
    replace O1 := O1.below Bp2
    try simp only [Act.put, List.setIfInBounds_toArray, List.set_cons_succ, List.set_cons_zero]
    refine wpT_valp 9 (v := .slice (some ⟨g2, 0, none⟩) 3 3) rfl rfl rfl (by go_simp) ?_
    dsimp only [wpT]
    try simp only [Act.put, List.setIfInBounds_toArray, List.set_cons_succ, List.set_cons_zero]
    go_upto_region 3 with fail
    refine wp_region_lin (.op 0 (.op 1 .done)) (by rfl) ?_
    refine wpT_valp 21 (v := .pointer (some ⟨w.heap.size, 96, none⟩)) rfl rfl rfl (by go_simp) ?_
    refine wpT_valp 22 (v := .bool true) rfl rfl rfl (by have c0 := br_96 (by simp [BR_size, ha, hf, hL, hP, hO, hD]) (by simp [BR_size, ha, hf, hL, hP, hO, hD]) (by simp [BR_size, ha, hf, hL, hP, hO, hD]) (Mp2.row (b := w.heap.size) (c := BR L P O true) (by simp)); go_simp) ?_
    dsimp only [wpT]
    try simp only [Act.put, List.setIfInBounds_toArray, List.set_cons_succ, List.set_cons_zero]
    go_upto_region 4 with fail
    refine wp_region_lin (.op 0 (.op 1 (.op 2 (.op 3 (.op 4 (.op 5 .done)))))) (by rfl) ?_
    refine wpT_valp 23 (v := .slice (some ⟨g1, 0, none⟩) 3 3) rfl rfl rfl (by go_simp) ?_
    refine wpT_valp 24 (v := .pointer (some ⟨w.heap.size, 64, none⟩)) rfl rfl rfl (by go_simp) ?_
    refine wpT_ldm 25 Tryd.underlying23 rfl inf_key (w.heap.size) 64 (BR L P O true) (cs U8 O) rfl rfl rfl (by go_simp) (Mp2.row (by simp)) (by simp [BR_size, ha, hf, hL, hP, hO, hD]) (br_64 (by simp [BR_size, ha, hf, hL, hP, hO, hD]) (by simp [BR_size, ha, hf, hL, hP, hO, hD]) (by simp [BR_size, ha, hf, hL, hP, hO, hD])) rfl ?_
    refine wpT_keys1 26 _ Mp2 O (by simp [BR_size, ha, hf, hL, hP, hO, hD]) rfl rfl rfl (by go_simp) rfl (fun g3 wp3 Mp3 Bp3 hg3 => ?_)
    have hsv3 := SV.key (Mp3.row (b := g3) (c := cs U8 O) (by simp))
    replace Mp3 := Mp3.sub (H' := [(w.heap.size + 1 + 1 + 1, cs U8 (zs 32)), (w.heap.size + 1 + 1, cs U8 f), (w.heap.size + 1, cs U8 a), (w.heap.size, BR L P O true)]) (by simp)
    replace O1 := O1.below Bp3
    replace O2 := O2.below Bp3
    have hs3 := Bp3.size
    try simp only [Act.put, List.setIfInBounds_toArray, List.set_cons_succ, List.set_cons_zero]
    refine wpT_apkg 27 _ _ Mp3 w1.heap.size (.slice (some ⟨g1, 0, none⟩) 3 3) (.slice (some ⟨g3, 0, none⟩) 1 1) [P, L, P] O rfl rfl rfl rfl (by go_simp) O1 (by go_simp) (by simp [BR_size, ha, hf, hL, hP, hO, hD]) hsv3 (by simp) (by omega) (by omega) (fun g hg p hp => ?_) (fun u27 wq3 Oq3 Mq3 Eq3 Gq3 => ?_)
    · have h1 := (O1.at_ g hg).1
      have h2 := M2.lt (b := p.1) (c := p.2) hp
      omega
    have hs33 := Gq3.size
    replace O2 := O2.kept Gq3 (.inr (by simp [Value.ownBlock]; omega))
    replace O1 := Oq3
    refine wpT_valp 8 (v := u27) rfl rfl rfl (by go_simp) ?_
    dsimp only [wpT]
    try simp only [Act.put, List.setIfInBounds_toArray, List.set_cons_succ, List.set_cons_zero]
    go_upto_region 5 with fail
    refine wp_region_lin (.op 0 (.op 1 (.op 2 (.op 3 (.op 4 .done))))) (by rfl) ?_
    refine wpT_valp 28 (v := .slice (some ⟨g2, 0, none⟩) 3 3) rfl rfl rfl (by go_simp) ?_
    refine wpT_ld0 29 Tryd.underlying23 rfl inf_key (w.heap.size + 1 + 1) (cs U8 f) rfl rfl rfl (by go_simp) (Mq3.row (by simp)) (by simp [BR_size, ha, hf, hL, hP, hO, hD]) rfl ?_
    refine wpT_keys1 30 _ Mq3 f (by simp [BR_size, ha, hf, hL, hP, hO, hD]) rfl rfl rfl (by go_simp) rfl (fun g4 wp4 Mp4 Bp4 hg4 => ?_)
    have hsv4 := SV.key (Mp4.row (b := g4) (c := cs U8 f) (by simp))
    replace Mp4 := Mp4.sub (H' := [(w.heap.size + 1 + 1 + 1, cs U8 (zs 32)), (w.heap.size + 1 + 1, cs U8 f), (w.heap.size + 1, cs U8 a), (w.heap.size, BR L P O true)]) (by simp)
    replace O1 := O1.below Bp4
    replace O2 := O2.below Bp4
    have hs4 := Bp4.size
    refine wpT_apkg 31 _ _ Mp4 wp1.heap.size (.slice (some ⟨g2, 0, none⟩) 3 3) (.slice (some ⟨g4, 0, none⟩) 1 1) [a, f, f] f rfl rfl rfl rfl (by go_simp) O2 (by go_simp) (by simp [BR_size, ha, hf, hL, hP, hO, hD]) hsv4 (by simp) (by omega) (by omega) (fun g hg p hp => ?_) (fun u31 wq4 Oq4 Mq4 Eq4 Gq4 => ?_)
    · have h1 := (O2.at_ g hg).1
      have h2 := Mp1.lt (b := p.1) (c := p.2) hp
      omega
    have hs44 := Gq4.size
    replace O1 := O1.kept Gq4 (by rcases Eq3 with h | h <;> rw [h] <;> right <;> simp [Value.ownBlock] <;> omega)
    replace O2 := Oq4
    try simp only [Act.put, List.setIfInBounds_toArray, List.set_cons_succ, List.set_cons_zero]
    refine wpT_valp 9 (v := u31) rfl rfl rfl (by go_simp) ?_
    dsimp only [wpT]
    try simp only [Act.put, List.setIfInBounds_toArray, List.set_cons_succ, List.set_cons_zero]
    go_upto_region 6 with fail
    refine wp_region_lin (.op 0 (.op 1 (.op 2 (.op 3 (.op 4 (.op 5 (.op 6 .done))))))) (by rfl) ?_
    refine wpT_valp 32 (v := u27) rfl rfl rfl (by go_simp) ?_
    refine wpT_valp 33 (v := u31) rfl rfl rfl (by go_simp) ?_
    refine wpT_callv 34 Mq4 (v := .tuple #[.agg (cs U8 D), .int .i64 er]) rfl rfl rfl (by go_simp) (HS.out wq4 _ _ Mq4.end_ O1.ks O2.ks) (fun w3 M4 => ?_)
    refine wpT_valp 35 (v := .agg (cs U8 D)) rfl rfl rfl (by go_simp) ?_
    try simp only [Act.put, List.setIfInBounds_toArray, List.set_cons_succ, List.set_cons_zero]
    refine wpT_valp 36 (v := .int .i64 er) rfl rfl rfl (by go_simp) ?_
    refine wpT_st0 M4 0 (cs U8 D) inf_key rfl rfl rfl rfl (by go_simp) (by go_simp) (by simp [BR_size, ha, hf, hL, hP, hO, hD]) (by simp [BR_size, ha, hf, hL, hP, hO, hD]) (by simp [go_sem]) rfl (fun w5 M6 => ?_)
    dsimp only [List.set] at M6
    refine wpT_valp 7 (v := .int .i64 er) rfl rfl rfl (by go_simp) ?_
    dsimp only [wpT]
    try simp only [Act.put, List.setIfInBounds_toArray, List.set_cons_succ, List.set_cons_zero]
    go_wp2_with fail
    have r7 := M6.row (b := w.heap.size + 1 + 1 + 1) (c := cs U8 D) (by simp)
    refine bodyPost_ret (res_two rfl (rv_row Tryd.underlying23 rfl inf_key (w.heap.size + 1 + 1 + 1) rfl (by rw [r7]; simp [BR_size, ha, hf, hL, hP, hO, hD])) (rv_tmp _ _ rfl)) rfl ?_
    rw [r7]
    exact ⟨rfl, M6.end_⟩
set_option maxHeartbeats 1000000 in
theorem bundle_c (w : World) (L P O : L8) (h : Bool) (hL : L.length = 32) (hP : P.length = 32) (hO : O.length = 32) :
    Calls Tryd.prog 13 #[.agg (BR L P O h)] w fun e w' => e = .returned (.agg (BR L P O h)) ∧ Below w.heap.size w w' := by
  have M0 := Mm.start no w
  go_enter Tryd.func13, Tryd.ntmps13
  have M2 := ((M0.alloc (BR L P O h) 25 (by decide)).alloc (BR (zs 32) (zs 32) (zs 32) false) 30 (by decide))
  try simp only [World.size_alloc] at M2
  go_upto_region 1 with fail
  obtain ⟨w1, hw1⟩ : ∃ w1, w1 = ((w.alloc (.cells (BR L P O h) 25)).alloc (.cells (BR (zs 32) (zs 32) (zs 32) false) 30)) := ⟨_, rfl⟩
  rw [← hw1] at M2 ⊢
  clear hw1
  refine wp_region_lin (.op 0 (.op 1 (.op 2 (.op 3 (.op 4 (.op 5 (.op 6 (.op 7 (.op 8 (.op 9 .done)))))))))) (by rfl) ?_
  refine wpT_valp 3 (v := .pointer (some ⟨w.heap.size, 0, none⟩)) rfl rfl rfl (by go_simp) ?_
  refine wpT_ldm 4 Tryd.underlying23 rfl inf_key (w.heap.size) 0 (BR L P O h) (cs U8 L) rfl rfl rfl (by go_simp) (M2.row (by simp)) (by simp [BR_size, hL, hP, hO]) (br_0 (by simp [BR_size, hL, hP, hO]) (by simp [BR_size, hL, hP, hO]) (by simp [BR_size, hL, hP, hO])) rfl ?_
  refine wpT_valp 5 (v := .pointer (some ⟨w.heap.size, 32, none⟩)) rfl rfl rfl (by go_simp) ?_
  refine wpT_ldm 6 Tryd.underlying23 rfl inf_key (w.heap.size) 32 (BR L P O h) (cs U8 P) rfl rfl rfl (by go_simp) (M2.row (by simp)) (by simp [BR_size, hL, hP, hO]) (br_32 (by simp [BR_size, hL, hP, hO]) (by simp [BR_size, hL, hP, hO]) (by simp [BR_size, hL, hP, hO])) rfl ?_
  try simp only [Act.put, List.setIfInBounds_toArray, List.set_cons_succ, List.set_cons_zero]
  refine wpT_valp 7 (v := .pointer (some ⟨w.heap.size, 64, none⟩)) rfl rfl rfl (by go_simp) ?_
  refine wpT_ldm 8 Tryd.underlying23 rfl inf_key (w.heap.size) 64 (BR L P O h) (cs U8 O) rfl rfl rfl (by go_simp) (M2.row (by simp)) (by simp [BR_size, hL, hP, hO]) (br_64 (by simp [BR_size, hL, hP, hO]) (by simp [BR_size, hL, hP, hO]) (by simp [BR_size, hL, hP, hO])) rfl ?_
  refine wpT_valp 9 (v := .pointer (some ⟨w.heap.size, 96, none⟩)) rfl rfl rfl (by go_simp) ?_
  refine wpT_valp 10 (v := .bool h) rfl rfl rfl (by have c0 := br_96 (by simp [BR_size, hL, hP, hO]) (by simp [BR_size, hL, hP, hO]) (by simp [BR_size, hL, hP, hO]) (M2.row (b := w.heap.size) (c := BR L P O h) (by simp)); go_simp) ?_
  refine wpT_valL 11 (v := .agg (BR L P O h)) rfl rfl rfl (by have q := xb_bun4 w1 L P O h hL hP hO; go_simp) ?_
  try simp only [Act.put, List.setIfInBounds_toArray, List.set_cons_succ, List.set_cons_zero]
  refine wpT_st0 M2 0 (BR L P O h) inf_bun rfl rfl rfl rfl (by go_simp) (by go_simp) (by simp [BR_size, hL, hP, hO]) (by simp [BR_size, hL, hP, hO]) (by simp [go_sem]) rfl (fun w3 M4 => ?_)
  dsimp only [List.set] at M4
  dsimp only [wpT]
  try simp only [Act.put, List.setIfInBounds_toArray, List.set_cons_succ, List.set_cons_zero]
  go_wp2_with fail
  have r5 := M4.row (b := w.heap.size + 1) (c := BR L P O h) (by simp)
  refine bodyPost_ret (res_row (b := w.heap.size + 1) rfl Tryd.underlying30 rfl inf_bun _ _ rfl (by rw [r5]; simp [BR_size, hL, hP, hO])) rfl ?_
  rw [r5]
  exact ⟨rfl, M4.end_⟩
set_option maxRecDepth 100000 in
set_option maxHeartbeats 4000000 in
theorem SetupStarts_w (w : World) (a f L P O : L8) (h : Bool) (hT : KT w ∧ 0 < w.heap.size) (ha : a.length = 32) (hf : f.length = 32) (hL : L.length = 32) (hP : P.length = 32) (hO : O.length = 32) :
    Calls Tryd.prog 3 #[.agg (cs U8 a), .agg (cs U8 f), .agg (BR L P O h)] w fun e w' => e = .returned (.bool true) ∧ Below w.heap.size w w' := by
  obtain ⟨X, eX⟩ : ∃ X, X = Su.pub L := ⟨_, rfl⟩
  obtain ⟨Y, eY⟩ : ∃ Y, Y = Su.pub P := ⟨_, rfl⟩
  obtain ⟨Z, eZ⟩ : ∃ Z, Z = Su.once O h := ⟨_, rfl⟩
  have hX : X.length = 32 := by rw [eX]; exact pub_len _
  have hY : Y.length = 32 := by rw [eY]; exact pub_len _
  have hZ : Z.length = 32 := by rw [eZ]; unfold Su.once; split; exact pub_len _; rfl
  obtain ⟨D, er, eD⟩ : ∃ D er, (D, er) = Su.res (Su.ps a f L P O h) := ⟨_, _, rfl⟩
  have hD : D.length = 32 := by have := res_len (Su.ps a f L P O h); rw [← eD] at this; exact this
  have HS1 := secret_any (w0 := w) (D := D) (er := er) (l := Su.ps a f L P O h) hT (by intro p hp; cases h <;> simp [Su.ps] at hp <;> rcases hp with rfl | rfl | rfl | rfl <;> exact ⟨by assumption, by assumption⟩) (by simp [Su.ps]) (by cases h <;> simp [Su.ps]) eD
  have HD := hid eD
  have HX := hid eX
  have HY := hid eY
  have HZ := hid eZ
  have HT := hid hT
  clear eX eY eZ eD hT
  have M0 := Mm.start no w
  go_enter Tryd.func3, Tryd.ntmps3
  have M2 := (((M0.alloc (cs U8 a) 23 (by decide)).alloc (cs U8 f) 23 (by decide)).alloc (BR L P O h) 25 (by decide))
  try simp only [World.size_alloc] at M2
  go_upto_region 1 with fail
  obtain ⟨w1, hw1⟩ : ∃ w1, w1 = (((w.alloc (.cells (cs U8 a) 23)).alloc (.cells (cs U8 f) 23)).alloc (.cells (BR L P O h) 25)) := ⟨_, rfl⟩
  rw [← hw1] at M2 ⊢
  clear hw1
  refine wp_region_lin (.op 0 (.op 1 .done)) (by rfl) ?_
  refine wpT_callv 11 M2 (v := .bool true) rfl rfl rfl (by go_simp) (alive19_v HT.out M2.end_) (fun w3 M4 => ?_)
  refine wpT_valp 12 (v := .bool false) rfl rfl rfl (by go_simp) ?_
  dsimp only [wpT]
  try simp only [Act.put, List.setIfInBounds_toArray, List.set_cons_succ, List.set_cons_zero]
  go_upto_region 3 with fail
  refine wp_region_seq 9 [14, 15, 16, 17, 18, 13, 19, 20, 7] [] [7] [] (.op 9 (.op 10 .done)) (Mm no w _) (by kernel_rfl) (by kernel_rfl) (by kernel_rfl) (fun d _ _ _ _ h => by cases d <;> exact h) (by rfl) M4.size (fun _ _ h k => h.sf k) M4 ?_
  simp only [List.take_succ_cons, List.take_zero]
  refine SeqA.ld0 Tryd.underlying23 rfl inf_key (w.heap.size) (cs U8 a) rfl (by go_simp) (fun _ M => M.row (by simp)) (by simp [BR_size, ha, hf, hL, hP, hO, hX, hY, hZ, hD]) rfl ?_
  refine SeqA.ld0 Tryd.underlying23 rfl inf_key (w.heap.size + 1) (cs U8 f) rfl (by go_simp) (fun _ M => M.row (by simp)) (by simp [BR_size, ha, hf, hL, hP, hO, hX, hY, hZ, hD]) rfl ?_
  refine SeqA.ld0 Tryd.underlying25 rfl inf_rk (w.heap.size + 1 + 1) (BR L P O h) rfl (by go_simp) (fun _ M => M.row (by simp)) (by simp [BR_size, ha, hf, hL, hP, hO, hX, hY, hZ, hD]) rfl ?_
  refine SeqA.call _ _ _ (fun w' => by go_simp) (fun w' hI _ => bundle_c w' L P O h hL hP hO) M4.size rfl rfl ?_
  refine SeqA.call _ _ _ (fun w' => by go_simp) (fun w' hI _ => start_c w' a f L P O D h er ha hf hL hP hO hD (hs_at HS1 hI.end_)) M4.size rfl rfl ?_
  simp only [Act.put, List.setIfInBounds_toArray, List.set_cons_succ, List.set_cons_zero]
  refine SeqA.pure (.tuple #[.agg (cs U8 D), .int .i64 er]) (fun w' => by go_simp) rfl rfl ?_
  refine SeqA.pure (.agg (cs U8 D)) (fun w' => by go_simp) rfl rfl ?_
  refine SeqA.pure (.int .i64 er) (fun w' => by go_simp) rfl rfl ?_
  refine SeqA.var (z := .agg (cs U8 (zs 32))) (by kernel_rfl) rfl rfl (by decide) rfl ?_
  refine SeqA.nil (fun w5 M6 hz => ?_)
  refine news_one (fun b7 hb1 hb2 hb3 => ?_)
  have M8 := M4.in_ (c := cs U8 (zs 32)) M6 hb1 hb2 (by decide) hb3 rfl
  show wpT _ _ _ _ _ _
  simp only [Act.put, List.setIfInBounds_toArray, List.set_cons_succ, List.set_cons_zero]
  refine wpT_st0 M8 0 (cs U8 D) inf_key rfl rfl rfl rfl (by go_simp) (by go_simp) (by simp [BR_size, ha, hf, hL, hP, hO, hX, hY, hZ, hD]) (by simp [BR_size, ha, hf, hL, hP, hO, hX, hY, hZ, hD]) (by simp [go_sem]) rfl (fun w9 M10 => ?_)
  dsimp only [List.set] at M10
  refine wpT_vald 8 (v := .int .i64 er) rfl rfl rfl rfl ?_
  dsimp only [wpT]
  simp only [Act.put, List.setIfInBounds_toArray, List.set_cons_succ, List.set_cons_zero]
  go_upto_region 4 with fail
  refine wp_region_lin (.op 0 (.op 1 (.op 2 (.op 3 (.op 4 (.op 5 (.op 6 (.op 7 (.op 8 (.op 9 .done)))))))))) (by rfl) ?_
  refine wpT_ld0 22 Tryd.underlying23 rfl inf_key (w.heap.size) (cs U8 a) rfl rfl rfl (by go_simp) (M10.row (by simp)) (by simp [BR_size, ha, hf, hL, hP, hO, hX, hY, hZ, hD]) rfl ?_
  refine wpT_ld0 23 Tryd.underlying23 rfl inf_key (w.heap.size + 1) (cs U8 f) rfl rfl rfl (by go_simp) (M10.row (by simp)) (by simp [BR_size, ha, hf, hL, hP, hO, hX, hY, hZ, hD]) rfl ?_
  refine wpT_ld0 24 Tryd.underlying25 rfl inf_rk (w.heap.size + 1 + 1) (BR L P O h) rfl rfl rfl (by go_simp) (M10.row (by simp)) (by simp [BR_size, ha, hf, hL, hP, hO, hX, hY, hZ, hD]) rfl ?_
  refine wpT_callv 25 M10 (v := .tuple #[.agg (cs U8 D), .int .i64 er]) rfl rfl rfl (by go_simp) (rstart_c w9 a f L P O D h er ha hf hL hP hO HD.out) (fun w11 M12 => ?_)
  try simp only [Act.put, List.setIfInBounds_toArray, List.set_cons_succ, List.set_cons_zero]
  refine wpT_valp 21 (v := .tuple #[.agg (cs U8 D), .int .i64 er]) rfl rfl rfl (by go_simp) ?_
  refine wpT_valp 26 (v := .agg (cs U8 D)) rfl rfl rfl (by go_simp) ?_
  refine wpT_valp 27 (v := .int .i64 er) rfl rfl rfl (by go_simp) ?_
  refine wpT_new (z := .agg (cs U8 (zs 32))) 9 M12 (by kernel_rfl) (by decide) rfl rfl rfl rfl (fun b13 w14 M15 => ?_)
  try dsimp only [Value.cells] at M15
  refine wpT_st0 M15 0 (cs U8 D) inf_key rfl rfl rfl rfl (by go_simp) (by go_simp) (by simp [BR_size, ha, hf, hL, hP, hO, hX, hY, hZ, hD]) (by simp [BR_size, ha, hf, hL, hP, hO, hX, hY, hZ, hD]) (by simp [go_sem]) rfl (fun w16 M17 => ?_)
  dsimp only [List.set] at M17
  try simp only [Act.put, List.setIfInBounds_toArray, List.set_cons_succ, List.set_cons_zero]
  refine wpT_valp 10 (v := .int .i64 er) rfl rfl rfl (by go_simp) ?_
  dsimp only [wpT]
  try simp only [Act.put, List.setIfInBounds_toArray, List.set_cons_succ, List.set_cons_zero]
  go_upto_region 5 with fail
  refine wp_region_seq 18 [28, 29, 30, 31, 32, 33, 34, 35, 36, 37, 38, 39, 40, 41, 42, 43, 44, 6] [] [] [] (.done) (Mm no w _) (by kernel_rfl) (by kernel_rfl) (by kernel_rfl) (fun d _ _ _ _ h => by cases d <;> exact h) (by rfl) M17.size (fun _ _ h k => h.sf k) M17 ?_
  simp only [List.take_succ_cons, List.take_zero]
  refine SeqA.ld0 Tryd.underlying25 rfl inf_rk (w.heap.size + 1 + 1) (BR L P O h) rfl (by go_simp) (fun _ M => M.row (by simp)) (by simp [BR_size, ha, hf, hL, hP, hO, hX, hY, hZ, hD]) rfl ?_
  refine SeqA.call _ _ _ (fun w' => by go_simp) (fun w' hI _ => secrets_c w' L P O h hL hP hO) M17.size rfl rfl ?_
  refine SeqA.call _ _ _ (fun w' => by go_simp) (fun w' hI _ => show_c w' L P O X Y Z h hL hP hO HX.out HY.out HZ.out) M17.size rfl rfl ?_
  refine SeqA.ld0 Tryd.underlying25 rfl inf_rk (w.heap.size + 1 + 1) (BR L P O h) rfl (by go_simp) (fun _ M => M.row (by simp)) (by simp [BR_size, ha, hf, hL, hP, hO, hX, hY, hZ, hD]) rfl ?_
  refine SeqA.call _ _ _ (fun w' => by go_simp) (fun w' hI _ => rshow_c w' L P O X Y Z h hL hP hO HX.out HY.out HZ.out) M17.size rfl rfl ?_
  simp only [Act.put, List.setIfInBounds_toArray, List.set_cons_succ, List.set_cons_zero]
  refine SeqA.call _ _ _ (fun w' => by go_simp) (fun w' hI _ => bundle_c w' X Y Z h hX hY hZ) M17.size rfl rfl ?_
  refine SeqA.pure (.bool true) (fun w' => by obtain ⟨q0, q1, q2, q3⟩ := eqBR3 w' X Y Z h hX hY hZ; go_simp) rfl rfl ?_
  refine SeqA.pure (.bool true) (fun w' => by go_simp) rfl rfl ?_
  refine SeqA.ld0 Tryd.underlying23 rfl inf_key (b7) (cs U8 D) rfl (by go_simp) (fun _ M => M.row (by simp)) (by simp [BR_size, ha, hf, hL, hP, hO, hX, hY, hZ, hD]) (by simp [Region.wanted, yielded, Act.put]) ?_
  refine SeqA.ld0 Tryd.underlying23 rfl inf_key (b13) (cs U8 D) rfl (by go_simp) (fun _ M => M.row (by simp)) (by simp [BR_size, ha, hf, hL, hP, hO, hX, hY, hZ, hD]) (by simp [Region.wanted, yielded, Act.put]) ?_
  refine SeqA.pure (.bool true) (fun w' => by have q := eqD w' D hD; go_simp) rfl (by simp [Region.wanted, yielded, Act.put]) ?_
  simp only [Act.put, List.setIfInBounds_toArray, List.set_cons_succ, List.set_cons_zero]
  refine SeqA.pure (.bool true) (fun w' => by go_simp) rfl rfl ?_
  refine SeqA.pure (.bool true) (fun w' => by go_simp) rfl rfl ?_
  refine SeqA.pure (.int .i64 er) (fun w' => by go_simp) rfl (by simp [Region.wanted, yielded, Act.put]) ?_
  refine SeqA.pure (.int .i64 er) (fun w' => by go_simp) rfl (by simp [Region.wanted, yielded, Act.put]) ?_
  refine SeqA.pure (.bool true) (fun w' => by go_simp) rfl (by simp [Region.wanted, yielded, Act.put]) ?_
  refine SeqA.pure (.bool true) (fun w' => by go_simp) rfl rfl ?_
  simp only [Act.put, List.setIfInBounds_toArray, List.set_cons_succ, List.set_cons_zero]
  refine SeqA.pure (.bool true) (fun w' => by go_simp) rfl rfl ?_
  refine SeqA.nil (fun w18 M19 hz => ?_)
  show wpT _ _ _ _ _ _
  simp only [Act.put, List.setIfInBounds_toArray, List.set_cons_succ, List.set_cons_zero]
  dsimp only [wpT]
  go_wp2_with fail
  go_ret
  exact ⟨rfl, M19.end_⟩
set_option maxRecDepth 100000 in
set_option maxHeartbeats 4000000 in
theorem SetupAnswers_w (w : World) (a f L P O : L8) (h : Bool) (hT : KT w ∧ 0 < w.heap.size) (ha : a.length = 32) (hf : f.length = 32) (hL : L.length = 32) (hP : P.length = 32) (hO : O.length = 32) :
    Calls Tryd.prog 4 #[.agg (BR L P O h), .agg (cs U8 a), .agg (cs U8 f)] w fun e w' => e = .returned (.bool true) ∧ Below w.heap.size w w' := by
  obtain ⟨X, eX⟩ : ∃ X, X = Su.pub L := ⟨_, rfl⟩
  obtain ⟨Y, eY⟩ : ∃ Y, Y = Su.pub P := ⟨_, rfl⟩
  obtain ⟨Z, eZ⟩ : ∃ Z, Z = Su.once O h := ⟨_, rfl⟩
  have hX : X.length = 32 := by rw [eX]; exact pub_len _
  have hY : Y.length = 32 := by rw [eY]; exact pub_len _
  have hZ : Z.length = 32 := by rw [eZ]; unfold Su.once; split; exact pub_len _; rfl
  obtain ⟨D, er, eD⟩ : ∃ D er, (D, er) = Su.res (Su.qs a f L P O h) := ⟨_, _, rfl⟩
  have hD : D.length = 32 := by have := res_len (Su.qs a f L P O h); rw [← eD] at this; exact this
  have HS1 := secret_any (w0 := w) (D := D) (er := er) (l := Su.qs a f L P O h) hT (by intro p hp; cases h <;> simp [Su.qs] at hp <;> rcases hp with rfl | rfl | rfl | rfl <;> exact ⟨by assumption, by assumption⟩) (by simp [Su.qs]) (by cases h <;> simp [Su.qs]) eD
  have HD := hid eD
  have HX := hid eX
  have HY := hid eY
  have HZ := hid eZ
  have HT := hid hT
  clear eX eY eZ eD hT
  have M0 := Mm.start no w
  go_enter Tryd.func4, Tryd.ntmps4
  have M2 := (((M0.alloc (BR L P O h) 25 (by decide)).alloc (cs U8 a) 23 (by decide)).alloc (cs U8 f) 23 (by decide))
  try simp only [World.size_alloc] at M2
  go_upto_region 1 with fail
  obtain ⟨w1, hw1⟩ : ∃ w1, w1 = (((w.alloc (.cells (BR L P O h) 25)).alloc (.cells (cs U8 a) 23)).alloc (.cells (cs U8 f) 23)) := ⟨_, rfl⟩
  rw [← hw1] at M2 ⊢
  clear hw1
  refine wp_region_lin (.op 0 (.op 1 .done)) (by rfl) ?_
  refine wpT_callv 11 M2 (v := .bool true) rfl rfl rfl (by go_simp) (alive19_v HT.out M2.end_) (fun w3 M4 => ?_)
  refine wpT_valp 12 (v := .bool false) rfl rfl rfl (by go_simp) ?_
  dsimp only [wpT]
  try simp only [Act.put, List.setIfInBounds_toArray, List.set_cons_succ, List.set_cons_zero]
  go_upto_region 3 with fail
  refine wp_region_seq 9 [14, 15, 16, 17, 18, 13, 19, 20, 7] [] [7] [] (.op 9 (.op 10 .done)) (Mm no w _) (by kernel_rfl) (by kernel_rfl) (by kernel_rfl) (fun d _ _ _ _ h => by cases d <;> exact h) (by rfl) M4.size (fun _ _ h k => h.sf k) M4 ?_
  simp only [List.take_succ_cons, List.take_zero]
  refine SeqA.ld0 Tryd.underlying25 rfl inf_rk (w.heap.size) (BR L P O h) rfl (by go_simp) (fun _ M => M.row (by simp)) (by simp [BR_size, ha, hf, hL, hP, hO, hD]) rfl ?_
  refine SeqA.call _ _ _ (fun w' => by go_simp) (fun w' hI _ => secrets_c w' L P O h hL hP hO) M4.size rfl rfl ?_
  refine SeqA.ld0 Tryd.underlying23 rfl inf_key (w.heap.size + 1) (cs U8 a) rfl (by go_simp) (fun _ M => M.row (by simp)) (by simp [BR_size, ha, hf, hL, hP, hO, hD]) rfl ?_
  refine SeqA.ld0 Tryd.underlying23 rfl inf_key (w.heap.size + 1 + 1) (cs U8 f) rfl (by go_simp) (fun _ M => M.row (by simp)) (by simp [BR_size, ha, hf, hL, hP, hO, hD]) rfl ?_
  refine SeqA.call _ _ _ (fun w' => by go_simp) (fun w' hI _ => answer_c w' a f L P O D h er ha hf hL hP hO hD (hs_at HS1 hI.end_)) M4.size rfl rfl ?_
  simp only [Act.put, List.setIfInBounds_toArray, List.set_cons_succ, List.set_cons_zero]
  refine SeqA.pure (.tuple #[.agg (cs U8 D), .int .i64 er]) (fun w' => by go_simp) rfl rfl ?_
  refine SeqA.pure (.agg (cs U8 D)) (fun w' => by go_simp) rfl rfl ?_
  refine SeqA.pure (.int .i64 er) (fun w' => by go_simp) rfl rfl ?_
  refine SeqA.var (z := .agg (cs U8 (zs 32))) (by kernel_rfl) rfl rfl (by decide) rfl ?_
  refine SeqA.nil (fun w5 M6 hz => ?_)
  refine news_one (fun b7 hb1 hb2 hb3 => ?_)
  have M8 := M4.in_ (c := cs U8 (zs 32)) M6 hb1 hb2 (by decide) hb3 rfl
  show wpT _ _ _ _ _ _
  simp only [Act.put, List.setIfInBounds_toArray, List.set_cons_succ, List.set_cons_zero]
  refine wpT_st0 M8 0 (cs U8 D) inf_key rfl rfl rfl rfl (by go_simp) (by go_simp) (by simp [BR_size, ha, hf, hL, hP, hO, hD]) (by simp [BR_size, ha, hf, hL, hP, hO, hD]) (by simp [go_sem]) rfl (fun w9 M10 => ?_)
  dsimp only [List.set] at M10
  refine wpT_vald 8 (v := .int .i64 er) rfl rfl rfl rfl ?_
  dsimp only [wpT]
  simp only [Act.put, List.setIfInBounds_toArray, List.set_cons_succ, List.set_cons_zero]
  go_upto_region 4 with fail
  refine wp_region_lin (.op 0 (.op 1 (.op 2 (.op 3 (.op 4 (.op 5 (.op 6 (.op 7 (.op 8 (.op 9 .done)))))))))) (by rfl) ?_
  refine wpT_ld0 22 Tryd.underlying25 rfl inf_rk (w.heap.size) (BR L P O h) rfl rfl rfl (by go_simp) (M10.row (by simp)) (by simp [BR_size, ha, hf, hL, hP, hO, hD]) rfl ?_
  refine wpT_ld0 23 Tryd.underlying23 rfl inf_key (w.heap.size + 1) (cs U8 a) rfl rfl rfl (by go_simp) (M10.row (by simp)) (by simp [BR_size, ha, hf, hL, hP, hO, hD]) rfl ?_
  refine wpT_ld0 24 Tryd.underlying23 rfl inf_key (w.heap.size + 1 + 1) (cs U8 f) rfl rfl rfl (by go_simp) (M10.row (by simp)) (by simp [BR_size, ha, hf, hL, hP, hO, hD]) rfl ?_
  refine wpT_callv 25 M10 (v := .tuple #[.agg (cs U8 D), .int .i64 er]) rfl rfl rfl (by go_simp) (ranswer_c w9 a f L P O D h er ha hf hL hP hO HD.out) (fun w11 M12 => ?_)
  try simp only [Act.put, List.setIfInBounds_toArray, List.set_cons_succ, List.set_cons_zero]
  refine wpT_valp 21 (v := .tuple #[.agg (cs U8 D), .int .i64 er]) rfl rfl rfl (by go_simp) ?_
  refine wpT_valp 26 (v := .agg (cs U8 D)) rfl rfl rfl (by go_simp) ?_
  refine wpT_valp 27 (v := .int .i64 er) rfl rfl rfl (by go_simp) ?_
  refine wpT_new (z := .agg (cs U8 (zs 32))) 9 M12 (by kernel_rfl) (by decide) rfl rfl rfl rfl (fun b13 w14 M15 => ?_)
  try dsimp only [Value.cells] at M15
  refine wpT_st0 M15 0 (cs U8 D) inf_key rfl rfl rfl rfl (by go_simp) (by go_simp) (by simp [BR_size, ha, hf, hL, hP, hO, hD]) (by simp [BR_size, ha, hf, hL, hP, hO, hD]) (by simp [go_sem]) rfl (fun w16 M17 => ?_)
  dsimp only [List.set] at M17
  try simp only [Act.put, List.setIfInBounds_toArray, List.set_cons_succ, List.set_cons_zero]
  refine wpT_valp 10 (v := .int .i64 er) rfl rfl rfl (by go_simp) ?_
  dsimp only [wpT]
  try simp only [Act.put, List.setIfInBounds_toArray, List.set_cons_succ, List.set_cons_zero]
  go_upto_region 5 with fail
  refine wp_region_lin (.op 0 (.op 1 (.op 2 (.op 3 (.op 4 (.op 5 (.op 6 (.op 7 (.op 8 .done))))))))) (by rfl) ?_
  refine wpT_ld0 28 Tryd.underlying23 rfl inf_key (b7) (cs U8 D) rfl rfl rfl (by go_simp) (M17.row (by simp)) (by simp [BR_size, ha, hf, hL, hP, hO, hD]) rfl ?_
  refine wpT_ld0 29 Tryd.underlying23 rfl inf_key (b13) (cs U8 D) rfl rfl rfl (by go_simp) (M17.row (by simp)) (by simp [BR_size, ha, hf, hL, hP, hO, hD]) rfl ?_
  refine wpT_valp 30 (v := .bool true) rfl rfl rfl (by have q := eqD w16 D hD; go_simp) ?_
  refine wpT_valp 31 (v := .bool true) rfl rfl rfl (by go_simp) ?_
  try simp only [Act.put, List.setIfInBounds_toArray, List.set_cons_succ, List.set_cons_zero]
  refine wpT_valp 32 (v := .int .i64 er) rfl rfl (by simp [Region.wanted, yielded, Act.put]) (by go_simp) ?_
  refine wpT_valp 33 (v := .int .i64 er) rfl rfl (by simp [Region.wanted, yielded, Act.put]) (by go_simp) ?_
  refine wpT_valp 34 (v := .bool true) rfl rfl (by simp [Region.wanted, yielded, Act.put]) (by go_simp) ?_
  refine wpT_valp 35 (v := .bool true) rfl rfl rfl (by go_simp) ?_
  refine wpT_valp 6 (v := .bool true) rfl rfl rfl (by go_simp) ?_
  dsimp only [wpT]
  try simp only [Act.put, List.setIfInBounds_toArray, List.set_cons_succ, List.set_cons_zero]
  go_wp2_with fail
  go_ret
  exact ⟨rfl, M17.end_⟩
end Go.Proofs.YtgclegdgngldoaaDoor
