/-
  Walk of reference 17's Root; law 17: steps; own work.
-/
import Derived.Test.YtocledgjejlolaaDoorChnL
import Derived.Test.YtocledgjejlolaaDoorRefV
import Derived.Test.YtocledgjejlolaaDoorTx
set_option linter.unusedSimpArgs false
set_option linter.unusedVariables false
namespace Go.Proofs.YtocledgjejlolaaDoor
open Go.RowKit
/-- a literal of bytes, laid and told to be bytes -/
theorem wpT_lit2 {ops : Array Oper} {Q : Exit → Act → World → Prop} {i j : Nat} {t : Tr} {a : Act} {o o2 : Oper} {w : World} (d d2 : Nat) (l : List (BitVec 8)) (c : Array Value) (n : Nat) (hc : c = cs U8 l) (hln : n = l.length) (hm : l.length ≤ maxLen)
    (hd : o.dst = some d) (ho : ops[i]? = some o) (hw : Region.wanted o (yielded ops a.tmps) = true) (hd2 : o2.dst = some d2) (ho2 : ops[j]? = some o2) (hg2 : o2.guard = none)
    (hrun : (execOp a.eval o).run Tryd.prog w = .ok (.value (.slice (some ⟨w.heap.size, 0, none⟩) n n)) (w.alloc (.cells c 5)))
    (hrun2 : ∀ g w2, (execOp (a.put (some d) (.slice (some ⟨g, 0, none⟩) n n)).eval o2).run Tryd.prog w2 = ((convert 22 22 (.slice (some ⟨g, 0, none⟩) n n)).run Tryd.prog w2).andThen fun a w' => .ok (.value a) w')
    (h : ∀ g w', BS w' (.slice (some ⟨g, 0, none⟩) n n) l → Below w.heap.size w w' → wpT Tryd.prog ops Q t ((a.put (some d) (.slice (some ⟨g, 0, none⟩) n n)).put (some d2) (.slice (some ⟨g, 0, none⟩) n n)) w') :
    wpT Tryd.prog ops Q (.op i (.op j t)) a w := by
  subst hc; subst hln
  refine wpT_val ho hw hrun ?_
  rw [hd]
  have hh : (w.alloc (.cells (cs U8 l) 5)).heap[w.heap.size]? = some (.cells (cs U8 l) 5 (0, 0)) := heap_new' _
  obtain ⟨⟨fz', e1⟩, e2, e3⟩ := freeze_heap (cs U8 l).size hh
  have hr := hrun2 w.heap.size (w.alloc (.cells (cs U8 l) 5))
  rw [conv_run _ _ hh] at hr
  refine wpT_val ho2 (by simp [Region.wanted, hg2]) hr ?_
  rw [hd2]
  refine h _ _ ?_ ⟨rfl, rfl, rfl, by rw [e3]; simp, fun k hk => ?_⟩
  · refine ⟨_, l.length, rfl, Nat.le_refl _, hm, fun _ => ⟨w.heap.size, 0, rfl, fun i hi => ?_⟩⟩
    have hi' : i < l.length := by simpa using hi
    rw [cell_rowOf, rowOf_eq e1]; simp [cs]
  · rw [e2 k (by omega)]; exact Below.heap_alloc w _ _ hk
attribute [local irreducible] Sh.mac Sh.expand pigB Sh.rt fil Sh.nx Sh.ms
set_option maxRecDepth 100000 in
set_option maxHeartbeats 4000000 in
theorem rroot_any (w : World) (a b : List (BitVec 8)) (ha : a.length = 32) (hb : b.length = 32) :
    Calls Tryd.prog 39 #[.agg (cs U8 a), .agg (cs U8 b)] w fun e w' => e = .returned (.tuple #[.agg (cs U8 ((Sh.rt a b).take 32)), .agg (cs U8 ((Sh.rt a b).drop 32))]) ∧ Below w.heap.size w w' := by
  obtain ⟨D, hD⟩ : ∃ D, D = Sh.mac a b := ⟨_, rfl⟩
  have hDl : D.length = 32 := by rw [hD]; unfold Sh.mac; rfl
  have hRT := hid (show Sh.rt a b = Sh.expand D pigB 64 by rw [hD]; unfold Sh.rt; rfl)
  have HD := hid hD
  clear hD
  have M0 := Mm.start no w
  go_enter Tryd.func39, Tryd.ntmps39
  have M2 := ((((M0.alloc (cs U8 a) 25 (by decide)).alloc (cs U8 b) 25 (by decide)).alloc (cs U8 (zs 32)) 25 (by decide)).alloc (cs U8 (zs 32)) 25 (by decide))
  try simp only [World.size_alloc] at M2
  go_upto_region 1 with fail
  obtain ⟨w1, hw1⟩ : ∃ w1, w1 = ((((w.alloc (.cells (cs U8 a) 25)).alloc (.cells (cs U8 b) 25)).alloc (.cells (cs U8 (zs 32)) 25)).alloc (.cells (cs U8 (zs 32)) 25)) := ⟨_, rfl⟩
  rw [← hw1] at M2 ⊢
  clear hw1
  refine wp_region_X (fun v => v.rowOf w.heap.size = cs U8 a ∧ v.rowOf (w.heap.size + 1) = cs U8 b) (.yld [0, 2] (.two 1 (.two 3 (.two 4 (.op 5 (.op 6 .done)) 5 (.op 4 (.op 6 .done))) 5 (.op 3 (.op 4 (.op 6 .done)))) 5 (.op 1 (.op 3 (.op 4 (.op 6 .done)))))) (by kernel_rfl) (by kernel_rfl) (by kernel_rfl) (fun d _ _ _ _ h => by cases d <;> exact h) ?_
  refine wpX_yld ?_
  refine wpYJd_ld 12 Tryd.underlying25 rfl inf_key w.heap.size (cs U8 a) rfl rfl rfl (by go_simp) (fun _ h => h.1) (by simp [ha]) rfl ?_
  refine wpYJd_ld 14 Tryd.underlying25 rfl inf_key (w.heap.size + 1) (cs U8 b) rfl rfl rfl (by go_simp) (fun _ h => h.2) (by simp [hb]) rfl ?_
  show wpX _ _ _ _ _ _ _
  try simp only [Act.put, List.setIfInBounds_toArray, List.set_cons_succ, List.set_cons_zero]
  have N0 := M2.drewN 1
  change wpX _ _ _ _ _ _ (w1.drewN 1)
  obtain ⟨v0, hv0⟩ : ∃ v0, v0 = w1.drewN 1 := ⟨_, rfl⟩
  rw [← hv0] at N0 ⊢
  clear hv0
  apply meet4 (P := fun (u1 u2 : Value) (b6 : Nat) (w' : World) => Mm no w [(b6, cs U8 D), (w.heap.size + 1 + 1 + 1, cs U8 (zs 32)), (w.heap.size + 1 + 1, cs U8 (zs 32)), (w.heap.size + 1, cs U8 b), (w.heap.size, cs U8 a)] w')
  case h1 =>
    intro rest
    refine ⟨⟨N0.row (by simp), N0.row (by simp)⟩, ?_, ?_⟩
    · skip
      refine callX 13 rfl rfl rfl (by go_simp) (rbytes_any v0 a ha) ?_
      rintro e v1 ⟨u1, rfl, HO1, hb1⟩
      have HB1 := HO1.bs
      have N1 := N0.below hb1
      refine ⟨_, rfl, ?_⟩
      refine ⟨⟨N1.row (by simp), N1.row (by simp)⟩, ?_, ?_⟩
      · skip
        refine callX 15 rfl rfl rfl (by go_simp) (rbytes_any v1 b hb) ?_
        rintro e v2 ⟨u2, rfl, HO2, hb2⟩
        have HB2 := HO2.bs
        have HB1 := HB1.below hb2
        have N2 := N1.below hb2
        refine ⟨_, rfl, ?_⟩
        refine ⟨⟨N2.row (by simp), N2.row (by simp)⟩, ?_, ?_⟩
        · skip
          refine callX 16 rfl rfl rfl (by go_simp) (rextractD HD.out HB1 HB2 (by rw [ha]; decide) (by rw [hb]; decide)) ?_
          rintro e v3 ⟨rfl, hb3⟩
          have N3 := N2.below hb3
          refine ⟨_, rfl, ?_⟩
          refine ⟨⟨N3.row (by simp), N3.row (by simp)⟩, ?_⟩
          refine newX (z := .agg (cs U8 (zs 32))) 6 N3 (by kernel_rfl) (by decide) rfl rfl rfl rfl (fun b6 vb N4 B5 L5 => ?_)
          try dsimp only [Value.cells] at N4
          refine ⟨⟨N4.row (by simp), N4.row (by simp)⟩, ?_⟩
          refine st0X N4 0 (cs U8 D) inf_key rfl rfl rfl rfl (by go_simp) (by go_simp) (by simp) (by simp [hDl]) (by simp [go_sem]) rfl (fun v6 N6 => ?_)
          dsimp only [List.set] at N6
          refine ⟨⟨N6.row (by simp), N6.row (by simp)⟩, ?_⟩
          try simp only [Act.put, List.setIfInBounds_toArray, List.set_cons_succ, List.set_cons_zero]
          exact rest u1 u2 b6 v6 N6
        · skip
          refine newX (z := .agg (cs U8 (zs 32))) 6 N2 (by kernel_rfl) (by decide) rfl rfl rfl rfl (fun b6 vb N2b B5 L5 => ?_)
          try dsimp only [Value.cells] at N2b
          have HB1 := HB1.below B5
          have HB2 := HB2.below B5
          refine ⟨⟨N2b.row (by simp), N2b.row (by simp)⟩, ?_⟩
          refine callX 16 rfl rfl rfl (by go_simp) (rextractD HD.out HB1 HB2 (by rw [ha]; decide) (by rw [hb]; decide)) ?_
          rintro e v3 ⟨rfl, hb3⟩
          have N3 := N2b.below hb3
          refine ⟨_, rfl, ?_⟩
          refine ⟨⟨N3.row (by simp), N3.row (by simp)⟩, ?_⟩
          refine st0X N3 0 (cs U8 D) inf_key rfl rfl rfl rfl (by go_simp) (by go_simp) (by simp) (by simp [hDl]) (by simp [go_sem]) rfl (fun v6 N6 => ?_)
          dsimp only [List.set] at N6
          refine ⟨⟨N6.row (by simp), N6.row (by simp)⟩, ?_⟩
          try simp only [Act.put, List.setIfInBounds_toArray, List.set_cons_succ, List.set_cons_zero]
          exact rest u1 u2 b6 v6 N6
      · skip
        refine newX (z := .agg (cs U8 (zs 32))) 6 N1 (by kernel_rfl) (by decide) rfl rfl rfl rfl (fun b6 vb N1b B5 L5 => ?_)
        try dsimp only [Value.cells] at N1b
        have HB1 := HB1.below B5
        refine ⟨⟨N1b.row (by simp), N1b.row (by simp)⟩, ?_⟩
        refine callX 15 rfl rfl rfl (by go_simp) (rbytes_any vb b hb) ?_
        rintro e v2 ⟨u2, rfl, HO2, hb2⟩
        have HB2 := HO2.bs
        have HB1 := HB1.below hb2
        have N2 := N1b.below hb2
        refine ⟨_, rfl, ?_⟩
        refine ⟨⟨N2.row (by simp), N2.row (by simp)⟩, ?_⟩
        refine callX 16 rfl rfl rfl (by go_simp) (rextractD HD.out HB1 HB2 (by rw [ha]; decide) (by rw [hb]; decide)) ?_
        rintro e v3 ⟨rfl, hb3⟩
        have N3 := N2.below hb3
        refine ⟨_, rfl, ?_⟩
        refine ⟨⟨N3.row (by simp), N3.row (by simp)⟩, ?_⟩
        refine st0X N3 0 (cs U8 D) inf_key rfl rfl rfl rfl (by go_simp) (by go_simp) (by simp) (by simp [hDl]) (by simp [go_sem]) rfl (fun v6 N6 => ?_)
        dsimp only [List.set] at N6
        refine ⟨⟨N6.row (by simp), N6.row (by simp)⟩, ?_⟩
        try simp only [Act.put, List.setIfInBounds_toArray, List.set_cons_succ, List.set_cons_zero]
        exact rest u1 u2 b6 v6 N6
    · skip
      refine newX (z := .agg (cs U8 (zs 32))) 6 N0 (by kernel_rfl) (by decide) rfl rfl rfl rfl (fun b6 vb N0b B5 L5 => ?_)
      try dsimp only [Value.cells] at N0b
      refine ⟨⟨N0b.row (by simp), N0b.row (by simp)⟩, ?_⟩
      refine callX 13 rfl rfl rfl (by go_simp) (rbytes_any vb a ha) ?_
      rintro e v1 ⟨u1, rfl, HO1, hb1⟩
      have HB1 := HO1.bs
      have N1 := N0b.below hb1
      refine ⟨_, rfl, ?_⟩
      refine ⟨⟨N1.row (by simp), N1.row (by simp)⟩, ?_⟩
      refine callX 15 rfl rfl rfl (by go_simp) (rbytes_any v1 b hb) ?_
      rintro e v2 ⟨u2, rfl, HO2, hb2⟩
      have HB2 := HO2.bs
      have HB1 := HB1.below hb2
      have N2 := N1.below hb2
      refine ⟨_, rfl, ?_⟩
      refine ⟨⟨N2.row (by simp), N2.row (by simp)⟩, ?_⟩
      refine callX 16 rfl rfl rfl (by go_simp) (rextractD HD.out HB1 HB2 (by rw [ha]; decide) (by rw [hb]; decide)) ?_
      rintro e v3 ⟨rfl, hb3⟩
      have N3 := N2.below hb3
      refine ⟨_, rfl, ?_⟩
      refine ⟨⟨N3.row (by simp), N3.row (by simp)⟩, ?_⟩
      refine st0X N3 0 (cs U8 D) inf_key rfl rfl rfl rfl (by go_simp) (by go_simp) (by simp) (by simp [hDl]) (by simp [go_sem]) rfl (fun v6 N6 => ?_)
      dsimp only [List.set] at N6
      refine ⟨⟨N6.row (by simp), N6.row (by simp)⟩, ?_⟩
      try simp only [Act.put, List.setIfInBounds_toArray, List.set_cons_succ, List.set_cons_zero]
      exact rest u1 u2 b6 v6 N6
  case h2 =>
    intro u1 u2 bd wx0 MX
    obtain ⟨wx, hwx⟩ : ∃ wx, wx = wx0 := ⟨_, rfl⟩
    subst hwx
    go_upto_region 2 with fail
    obtain ⟨R1, e1⟩ : ∃ R1, R1 = (Sh.rt a b).take 32 := ⟨_, rfl⟩
    obtain ⟨R2, e2⟩ : ∃ R2, R2 = (Sh.rt a b).drop 32 := ⟨_, rfl⟩
    have hR1 : R1.length = 32 := by rw [e1]; simp [rt_len]
    have hR2 : R2.length = 32 := by rw [e2]; simp [rt_len]
    have E1 := hid e1; have E2 := hid e2
    clear e1 e2
    refine wp_region_lin (.op 0 (.op 1 (.op 2 (.op 3 (.op 4 (.op 5 (.op 6 (.op 7 (.op 8 .done))))))))) (by rfl) ?_
    refine wpT_ld0 18 Tryd.underlying25 rfl inf_key (bd) (cs U8 D) rfl rfl rfl (by go_simp) (MX.row (by simp)) (by simp [ha, hb, hDl, hR1, hR2]) rfl ?_
    refine wpT_lit2 19 20 pigB (#[.int .u8 112, .int .u8 105, .int .u8 103, .int .u8 101, .int .u8 111, .int .u8 110, .int .u8 114, .int .u8 121, .int .u8 32, .int .u8 114, .int .u8 111, .int .u8 111, .int .u8 116]) 13 pig_cs pig_len.symm (by rw [pig_len]; unfold maxLen; decide) rfl rfl rfl rfl rfl rfl (by go_simp) (fun g w2 => by go_simp) (fun gl w3 HBL HBB => ?_)
    have M4 := MX.below HBB
    skip
    refine wpT_callR 21 rfl rfl rfl (by go_simp) (rexpand_c 64 64 rfl w3 D pigB _ hDl HBL (by rw [pig_len]; decide) (by decide)) ?_
    rintro e wE ⟨u, rfl, hu, hbe⟩
    have M5 := M4.below hbe
    rw [← hRT.out] at hu
    obtain ⟨ub, uo, uc, rfl, huc, kc1, kc2, hrow⟩ := bs64 hu (rt_len a b)
    rw [← E1.out] at kc1
    rw [← E2.out] at kc2
    have huc2 : ¬ uc = 32 := by omega
    have hub : ∀ g ∈ ([(bd, cs U8 D), (w.heap.size + 1 + 1 + 1, cs U8 (zs 32)), (w.heap.size + 1 + 1, cs U8 (zs 32)), (w.heap.size + 1, cs U8 b), (w.heap.size, cs U8 a)] : List (Nat × Array Value)).map (·.1), ub ≠ g := by
      intro g hg e
      subst e
      obtain ⟨p, hp, e⟩ := List.mem_map.1 hg
      have h1 := hrow p.2 (by rw [← e]; exact M5.row hp)
      simp only [List.mem_cons, List.mem_singleton, List.not_mem_nil, or_false] at hp
      rcases hp with rfl | rfl | rfl | rfl | rfl <;> simp [ha, hb, hDl] at h1
    obtain ⟨S, MR, hS, hT⟩ := M5.rebase
    have HJ := hid (fun H w1 (M : Mm S wE H w1) => (⟨kc1.fr' M.fr (fun h => hub _ (hS _ h) rfl), kc2.fr' M.fr (fun h => hub _ (hS _ h) rfl)⟩ : KC w1 ub uo R1 ∧ KC w1 ub (uo + 32) R2))
    have HT := hid hT
    clear hT hS kc1 kc2 hub hu hrow hbe
    refine ⟨_, rfl, ?_⟩
    try simp only [Act.put, List.setIfInBounds_toArray, List.set_cons_succ, List.set_cons_zero]
    refine wpT_valp 17 (v := .tuple #[.slice (some ⟨ub, uo, none⟩) 64 uc, .int .i64 0]) rfl rfl rfl (by go_simp) ?_
    refine wpT_valp 22 (v := .slice (some ⟨ub, uo, none⟩) 64 uc) rfl rfl rfl (by go_simp) ?_
    refine wpT_valp 23 (v := .int .i64 0) rfl rfl rfl (by go_simp) ?_
    refine wpT_valp 7 (v := .slice (some ⟨ub, uo, none⟩) 64 uc) rfl rfl rfl (by go_simp) ?_
    refine wpT_valp 8 (v := .int .i64 0) rfl rfl rfl (by go_simp) ?_
    dsimp only [wpT]
    try simp only [Act.put, List.setIfInBounds_toArray, List.set_cons_succ, List.set_cons_zero]
    go_upto_region 3 with fail
    refine wp_region_lin (.op 0 (.op 1 .done)) (by rfl) ?_
    refine wpT_new (z := .agg (cs U8 (zs 32))) 9 MR (by kernel_rfl) (by decide) rfl rfl rfl rfl (fun bp w7 M8 => ?_)
    try dsimp only [Value.cells] at M8
    refine wpT_new (z := .agg (cs U8 (zs 32))) 10 M8 (by kernel_rfl) (by decide) rfl rfl rfl rfl (fun bq w10 M11 => ?_)
    try dsimp only [Value.cells] at M11
    dsimp only [wpT]
    try simp only [Act.put, List.setIfInBounds_toArray, List.set_cons_succ, List.set_cons_zero]
    go_wp2_with fail
    clear MX
    go_loopw [11] (fun t wr => ∃ i : Nat, i ≤ 32 ∧ t = .int .i64 i ∧ Mm S wE [(bq, cs U8 (fil R2 32 i)), (bp, cs U8 (fil R1 32 i)), (bd, cs U8 D), (w.heap.size + 1 + 1 + 1, cs U8 (zs 32)), (w.heap.size + 1 + 1, cs U8 (zs 32)), (w.heap.size + 1, cs U8 b), (w.heap.size, cs U8 a)] wr) (fun t _ => 32 - (intOf t).toNat)
    case atStart => exact ⟨0, by omega, rfl, by rw [fil_zero, fil_zero]; exact M11⟩
    case round =>
      clear M11
      obtain ⟨i, hi, rfl, M⟩ := hrel
      by_cases hi32 : i < 32
      · have hlt : (i : Int) < 32 := by omega
        have hi0 : (0 : Int) ≤ (i : Int) := by omega
        obtain ⟨j, hj⟩ : ∃ j : Nat, j = 32 + i := ⟨_, rfl⟩
        have HJ2 := hid (show IntKind.i64.wrap (32 + (i : Int)) = (j : Int) by rw [i64n _ (by omega) (by omega), hj]; omega)
        have HJ3 := hid (show uo + 32 + i = uo + j by omega)
        have hj64 : (j : Int) < 64 := by omega
        have hi64 : (i : Int) < 64 := by omega
        have hj0 : (0 : Int) ≤ (j : Int) := by omega
        have hf1 := fil_len R1 32 i (by omega) (by omega)
        have hf2 := fil_len R2 32 i (by omega) (by omega)
        have hg1 := fil_len R1 32 (i + 1) (by omega) (by omega)
        have hs1 := hid (fil_set R1 32 i (by omega) (by omega))
        have hs2 := hid (fil_set R2 32 i (by omega) (by omega))
        clear hj
        go_upto_region 7 with fail
        refine wp_region_lin (.op 0 (.op 1 (.op 2 (.op 3 (.op 4 (.op 5 (.op 6 .done))))))) (by rfl) ?_
        refine wpT_valp 28 (v := .int .i64 i) rfl rfl rfl (by go_simp) ?_
        refine wpT_valp 29 (v := .slice (some ⟨ub, uo, none⟩) 64 uc) rfl rfl rfl (by go_simp) ?_
        refine wpT_valp 30 (v := .int .i64 i) rfl rfl rfl (by go_simp) ?_
        refine wpT_valp 31 (v := .pointer (some ⟨ub, uo + i, none⟩)) rfl rfl rfl (by go_simp) ?_
        try simp only [Act.put, List.setIfInBounds_toArray, List.set_cons_succ, List.set_cons_zero]
        refine wpT_valp 32 (v := U8 (R1.getD i 0)) rfl rfl rfl (by have c0 := (HJ.out _ _ M).1.2 i hi32; go_simp) ?_
        refine wpT_valp 33 (v := .pointer (some ⟨bp, i, none⟩)) rfl rfl rfl (by go_simp) ?_
        refine wpT_stc M 1 (U8 (R1.getD i 0)) (cs U8 ((fil R1 32 i).set i (R1.getD i 0))) inf_u8 rfl rfl rfl rfl (by go_simp) (by go_simp) (by have := (by omega : i < (fil R1 32 i).length); first | (simp; done) | (simpa using this) | (simp; omega)) (by simp [go_sem]) (cs_set _ _) rfl (fun w1 M2 => ?_)
        dsimp only [List.set] at M2
        dsimp only [wpT]
        try simp only [Act.put, List.setIfInBounds_toArray, List.set_cons_succ, List.set_cons_zero]
        go_upto_region 8 with fail
        refine wp_region_lin (.op 0 (.op 1 (.op 2 (.op 3 (.op 4 (.op 5 (.op 6 (.op 7 .done)))))))) (by rfl) ?_
        refine wpT_valp 34 (v := .int .i64 i) rfl rfl rfl (by go_simp) ?_
        refine wpT_valp 35 (v := .slice (some ⟨ub, uo, none⟩) 64 uc) rfl rfl rfl (by go_simp) ?_
        refine wpT_valp 36 (v := .int .i64 i) rfl rfl rfl (by go_simp) ?_
        refine wpT_valp 37 (v := .int .i64 j) rfl rfl rfl (by have h := HJ2.out; go_simp) ?_
        try simp only [Act.put, List.setIfInBounds_toArray, List.set_cons_succ, List.set_cons_zero]
        refine wpT_valp 38 (v := .pointer (some ⟨ub, uo + j, none⟩)) rfl rfl rfl (by go_simp) ?_
        refine wpT_valp 39 (v := U8 (R2.getD i 0)) rfl rfl rfl (by have c0 := (HJ.out _ _ M2).2.2 i hi32; rw [HJ3.out] at c0; go_simp) ?_
        refine wpT_valp 40 (v := .pointer (some ⟨bq, i, none⟩)) rfl rfl rfl (by go_simp) ?_
        refine wpT_stc M2 0 (U8 (R2.getD i 0)) (cs U8 ((fil R2 32 i).set i (R2.getD i 0))) inf_u8 rfl rfl rfl rfl (by go_simp) (by go_simp) (by have := (by omega : i < (fil R2 32 i).length); first | (simp; done) | (simpa using this) | (simp; omega)) (by simp [go_sem]) (cs_set _ _) rfl (fun w3 M4 => ?_)
        dsimp only [List.set] at M4
        dsimp only [wpT]
        try simp only [Act.put, List.setIfInBounds_toArray, List.set_cons_succ, List.set_cons_zero]
        go_wp2_with fail
        rw [hs1.out, hs2.out] at M4
        go_roundw
        case rel => exact ⟨i + 1, by omega, rfl, M4⟩
        case measure => simp [intOf]; omega
      · have : i = 32 := by omega
        subst this
        rw [fil_all, fil_all, List.take_of_length_le (by omega), List.take_of_length_le (by omega)] at M
        go_upto_region 9 with fail
        refine wp_region_J (fun v => v.rowOf (bp) = cs U8 R1 ∧ v.rowOf (bq) = cs U8 R2) [0, 1] (.op 2 (.op 3 .done)) (by kernel_rfl) (by kernel_rfl) (by kernel_rfl) (fun d _ _ _ _ h => by cases d <;> exact h) ?_
        refine wpYJd_ld 41 Tryd.underlying25 rfl inf_key (bp) (cs U8 R1) rfl rfl rfl (by go_simp) (fun _ h => h.1) (by simp [ha, hb, hDl, hR1, hR2]) rfl ?_
        refine wpYJd_ld 42 Tryd.underlying25 rfl inf_key (bq) (cs U8 R2) rfl rfl rfl (by go_simp) (fun _ h => h.2) (by simp [ha, hb, hDl, hR1, hR2]) rfl ?_
        show wpTJ _ _ _ _ _ _ _
        try simp only [Act.put, List.setIfInBounds_toArray, List.set_cons_succ, List.set_cons_zero]
        have M1 := M.drewN 1
        change wpTJ _ _ _ _ _ _ (wr.drewN 1)
        obtain ⟨w2, hw2⟩ : ∃ w2, w2 = wr.drewN 1 := ⟨_, rfl⟩
        rw [← hw2] at M1 ⊢
        clear hw2
        refine wpTJ_st0 (⟨M1.row (by simp), M1.row (by simp)⟩) M1 4 (cs U8 R1) inf_key rfl rfl rfl rfl (by go_simp) (by go_simp) (by simp [ha, hb, hDl, hR1, hR2]) (by simp [ha, hb, hDl, hR1, hR2]) (by simp [go_sem]) rfl (fun w3 M4 => ?_)
        dsimp only [List.set] at M4
        refine wpTJ_st0 (⟨M4.row (by simp), M4.row (by simp)⟩) M4 3 (cs U8 R2) inf_key rfl rfl rfl rfl (by go_simp) (by go_simp) (by simp [ha, hb, hDl, hR1, hR2]) (by simp [ha, hb, hDl, hR1, hR2]) (by simp [go_sem]) rfl (fun w5 M6 => ?_)
        dsimp only [List.set] at M6
        refine ⟨(⟨M6.row (by simp), M6.row (by simp)⟩), ?_⟩
        try simp only [Act.put, List.setIfInBounds_toArray, List.set_cons_succ, List.set_cons_zero]
        go_wp2_with fail
        have r7 := M6.row (b := w.heap.size + 1 + 1) (c := cs U8 R1) (by simp)
        have r8 := M6.row (b := w.heap.size + 1 + 1 + 1) (c := cs U8 R2) (by simp)
        refine bodyPost_ret (res_two rfl (rv_row Tryd.underlying25 rfl inf_key (w.heap.size + 1 + 1) rfl (by rw [r7]; simp [ha, hb, hDl, hR1, hR2])) (rv_row Tryd.underlying25 rfl inf_key (w.heap.size + 1 + 1 + 1) rfl (by rw [r8]; simp [ha, hb, hDl, hR1, hR2]))) rfl ?_
        rw [r7, r8]
        exact ⟨by rw [E1.out, E2.out], (HT.out _ _ M6).end_⟩
theorem rroot_v (w : World) (a b R C : List (BitVec 8)) (ha : a.length = 32) (hb : b.length = 32) (hR : (Sh.rt a b).take 32 = R) (hC : (Sh.rt a b).drop 32 = C) :
    Calls Tryd.prog 39 #[.agg (cs U8 a), .agg (cs U8 b)] w fun e w' => e = .returned (.tuple #[.agg (cs U8 R), .agg (cs U8 C)]) ∧ Below w.heap.size w w' := by
  subst hR hC; exact rroot_any w a b ha hb
set_option maxRecDepth 100000 in
set_option maxHeartbeats 4000000 in
theorem ChainSteps_w (w : World) (a b : List (BitVec 8)) (hT : KT w) (hk0 : 0 < w.heap.size) (ha : a.length = 32) (hb : b.length = 32) :
    Calls Tryd.prog 13 #[.agg (cs U8 a), .agg (cs U8 b)] w fun e w' => e = .returned (.bool true) ∧ Below w.heap.size w w' := by
  have HK := hid (fun H w' (M : Mm no w H w') => kt_mm hT hk0 (fun h => h) M)
  obtain ⟨R, hRR⟩ : ∃ R, (Sh.rt a b).take 32 = R := ⟨_, rfl⟩
  obtain ⟨C, hCC⟩ : ∃ C, (Sh.rt a b).drop 32 = C := ⟨_, rfl⟩
  have hR : R.length = 32 := by rw [← hRR]; simp [rt_len]
  have hC : C.length = 32 := by rw [← hCC]; simp [rt_len]
  have HRR := hid hRR; have HCC := hid hCC
  clear hRR hCC hT
  have M0 := Mm.start no w
  go_enter Tryd.func13, Tryd.ntmps13
  have M2 := ((M0.alloc (cs U8 a) 25 (by decide)).alloc (cs U8 b) 25 (by decide))
  try simp only [World.size_alloc] at M2
  go_upto_region 1 with fail
  obtain ⟨w1, hw1⟩ : ∃ w1, w1 = ((w.alloc (.cells (cs U8 a) 25)).alloc (.cells (cs U8 b) 25)) := ⟨_, rfl⟩
  rw [← hw1] at M2 ⊢
  clear hw1
  refine wp_region_lin (.op 0 (.op 1 .done)) (by rfl) ?_
  refine wpT_callv 13 M2 (v := .bool true) rfl rfl rfl (by go_simp) (alive17_any w1 (HK.out _ _ M2).1 (HK.out _ _ M2).2) (fun w3 M4 => ?_)
  refine wpT_valp 14 (v := .bool false) rfl rfl rfl (by go_simp) ?_
  dsimp only [wpT]
  try simp only [Act.put, List.setIfInBounds_toArray, List.set_cons_succ, List.set_cons_zero]
  go_upto_region 3 with fail
  refine wp_region_lin (.op 0 (.op 1 (.op 2 (.op 3 (.op 4 (.op 5 (.op 6 (.op 7 (.op 8 (.op 9 .done)))))))))) (by rfl) ?_
  refine wpT_ld0 16 Tryd.underlying25 rfl inf_key (w.heap.size) (cs U8 a) rfl rfl rfl (by go_simp) (M4.row (by simp)) (by simp [ha, hb, hR, hC]) rfl ?_
  refine wpT_ld0 17 Tryd.underlying25 rfl inf_key (w.heap.size + 1) (cs U8 b) rfl rfl rfl (by go_simp) (M4.row (by simp)) (by simp [ha, hb, hR, hC]) rfl ?_
  refine wpT_callv 18 M4 (v := .tuple #[.agg (cs U8 R), .agg (cs U8 C)]) rfl rfl rfl (by go_simp) (root_v w3 a b R C (HK.out _ _ M4).1 (HK.out _ _ M4).2 ha hb HRR.out HCC.out) (fun w5 M6 => ?_)
  refine wpT_valp 15 (v := .tuple #[.agg (cs U8 R), .agg (cs U8 C)]) rfl rfl rfl (by go_simp) ?_
  try simp only [Act.put, List.setIfInBounds_toArray, List.set_cons_succ, List.set_cons_zero]
  refine wpT_valp 19 (v := .agg (cs U8 R)) rfl rfl rfl (by go_simp) ?_
  refine wpT_valp 20 (v := .agg (cs U8 C)) rfl rfl rfl (by go_simp) ?_
  refine wpT_new (z := .agg (cs U8 (zs 32))) 5 M6 (by kernel_rfl) (by decide) rfl rfl rfl rfl (fun b7 w8 M9 => ?_)
  try dsimp only [Value.cells] at M9
  refine wpT_new (z := .agg (cs U8 (zs 32))) 6 M9 (by kernel_rfl) (by decide) rfl rfl rfl rfl (fun b10 w11 M12 => ?_)
  try dsimp only [Value.cells] at M12
  refine wpT_st0 M12 1 (cs U8 R) inf_key rfl rfl rfl rfl (by go_simp) (by go_simp) (by simp [ha, hb, hR, hC]) (by simp [ha, hb, hR, hC]) (by simp [go_sem]) rfl (fun w13 M14 => ?_)
  dsimp only [List.set] at M14
  try simp only [Act.put, List.setIfInBounds_toArray, List.set_cons_succ, List.set_cons_zero]
  refine wpT_st0 M14 0 (cs U8 C) inf_key rfl rfl rfl rfl (by go_simp) (by go_simp) (by simp [ha, hb, hR, hC]) (by simp [ha, hb, hR, hC]) (by simp [go_sem]) rfl (fun w15 M16 => ?_)
  dsimp only [List.set] at M16
  dsimp only [wpT]
  try simp only [Act.put, List.setIfInBounds_toArray, List.set_cons_succ, List.set_cons_zero]
  go_upto_region 4 with fail
  refine wp_region_lin (.op 0 (.op 1 (.op 2 (.op 3 (.op 4 (.op 5 (.op 6 (.op 7 (.op 8 (.op 9 .done)))))))))) (by rfl) ?_
  refine wpT_ld0 22 Tryd.underlying25 rfl inf_key (w.heap.size) (cs U8 a) rfl rfl rfl (by go_simp) (M16.row (by simp)) (by simp [ha, hb, hR, hC]) rfl ?_
  refine wpT_ld0 23 Tryd.underlying25 rfl inf_key (w.heap.size + 1) (cs U8 b) rfl rfl rfl (by go_simp) (M16.row (by simp)) (by simp [ha, hb, hR, hC]) rfl ?_
  refine wpT_callv 24 M16 (v := .tuple #[.agg (cs U8 R), .agg (cs U8 C)]) rfl rfl rfl (by go_simp) (rroot_v w15 a b R C ha hb HRR.out HCC.out) (fun w17 M18 => ?_)
  refine wpT_valp 21 (v := .tuple #[.agg (cs U8 R), .agg (cs U8 C)]) rfl rfl rfl (by go_simp) ?_
  try simp only [Act.put, List.setIfInBounds_toArray, List.set_cons_succ, List.set_cons_zero]
  refine wpT_valp 25 (v := .agg (cs U8 R)) rfl rfl rfl (by go_simp) ?_
  refine wpT_valp 26 (v := .agg (cs U8 C)) rfl rfl rfl (by go_simp) ?_
  refine wpT_new (z := .agg (cs U8 (zs 32))) 7 M18 (by kernel_rfl) (by decide) rfl rfl rfl rfl (fun b19 w20 M21 => ?_)
  try dsimp only [Value.cells] at M21
  refine wpT_new (z := .agg (cs U8 (zs 32))) 8 M21 (by kernel_rfl) (by decide) rfl rfl rfl rfl (fun b22 w23 M24 => ?_)
  try dsimp only [Value.cells] at M24
  refine wpT_st0 M24 1 (cs U8 R) inf_key rfl rfl rfl rfl (by go_simp) (by go_simp) (by simp [ha, hb, hR, hC]) (by simp [ha, hb, hR, hC]) (by simp [go_sem]) rfl (fun w25 M26 => ?_)
  dsimp only [List.set] at M26
  try simp only [Act.put, List.setIfInBounds_toArray, List.set_cons_succ, List.set_cons_zero]
  refine wpT_st0 M26 0 (cs U8 C) inf_key rfl rfl rfl rfl (by go_simp) (by go_simp) (by simp [ha, hb, hR, hC]) (by simp [ha, hb, hR, hC]) (by simp [go_sem]) rfl (fun w27 M28 => ?_)
  dsimp only [List.set] at M28
  dsimp only [wpT]
  try simp only [Act.put, List.setIfInBounds_toArray, List.set_cons_succ, List.set_cons_zero]
  go_upto_region 5 with fail
  refine wp_region_lin (.op 0 (.op 1 (.op 2 (.op 3 (.op 4 (.op 5 (.op 6 (.op 7 (.op 8 .done))))))))) (by rfl) ?_
  refine wpT_ld0 28 Tryd.underlying25 rfl inf_key (w.heap.size) (cs U8 a) rfl rfl rfl (by go_simp) (M28.row (by simp)) (by simp [ha, hb, hR, hC]) rfl ?_
  refine wpT_callv 29 M28 (v := .tuple #[.agg (cs U8 (Sh.nx a)), .agg (cs U8 (Sh.ms a))]) rfl rfl rfl (by go_simp) (step_any w27 a (HK.out _ _ M28).1 (HK.out _ _ M28).2 (by simp [ha, hb, hR, hC])) (fun w29 M30 => ?_)
  refine wpT_valp 27 (v := .tuple #[.agg (cs U8 (Sh.nx a)), .agg (cs U8 (Sh.ms a))]) rfl rfl rfl (by go_simp) ?_
  refine wpT_valp 30 (v := .agg (cs U8 (Sh.nx a))) rfl rfl rfl (by go_simp) ?_
  try simp only [Act.put, List.setIfInBounds_toArray, List.set_cons_succ, List.set_cons_zero]
  refine wpT_valp 31 (v := .agg (cs U8 (Sh.ms a))) rfl rfl rfl (by go_simp) ?_
  refine wpT_new (z := .agg (cs U8 (zs 32))) 9 M30 (by kernel_rfl) (by decide) rfl rfl rfl rfl (fun b31 w32 M33 => ?_)
  try dsimp only [Value.cells] at M33
  refine wpT_new (z := .agg (cs U8 (zs 32))) 10 M33 (by kernel_rfl) (by decide) rfl rfl rfl rfl (fun b34 w35 M36 => ?_)
  try dsimp only [Value.cells] at M36
  refine wpT_st0 M36 1 (cs U8 (Sh.nx a)) inf_key rfl rfl rfl rfl (by go_simp) (by go_simp) (by simp [ha, hb, hR, hC]) (by simp [ha, hb, hR, hC]) (by simp [go_sem]) rfl (fun w37 M38 => ?_)
  dsimp only [List.set] at M38
  refine wpT_st0 M38 0 (cs U8 (Sh.ms a)) inf_key rfl rfl rfl rfl (by go_simp) (by go_simp) (by simp [ha, hb, hR, hC]) (by simp [ha, hb, hR, hC]) (by simp [go_sem]) rfl (fun w39 M40 => ?_)
  dsimp only [List.set] at M40
  dsimp only [wpT]
  try simp only [Act.put, List.setIfInBounds_toArray, List.set_cons_succ, List.set_cons_zero]
  go_upto_region 6 with fail
  refine wp_region_lin (.op 0 (.op 1 (.op 2 (.op 3 (.op 4 (.op 5 (.op 6 (.op 7 (.op 8 .done))))))))) (by rfl) ?_
  refine wpT_ld0 33 Tryd.underlying25 rfl inf_key (w.heap.size) (cs U8 a) rfl rfl rfl (by go_simp) (M40.row (by simp)) (by simp [ha, hb, hR, hC]) rfl ?_
  refine wpT_callv 34 M40 (v := .tuple #[.agg (cs U8 (Sh.nx a)), .agg (cs U8 (Sh.ms a))]) rfl rfl rfl (by go_simp) (rstep_any w39 a (by simp [ha, hb, hR, hC])) (fun w41 M42 => ?_)
  refine wpT_valp 32 (v := .tuple #[.agg (cs U8 (Sh.nx a)), .agg (cs U8 (Sh.ms a))]) rfl rfl rfl (by go_simp) ?_
  refine wpT_valp 35 (v := .agg (cs U8 (Sh.nx a))) rfl rfl rfl (by go_simp) ?_
  try simp only [Act.put, List.setIfInBounds_toArray, List.set_cons_succ, List.set_cons_zero]
  refine wpT_valp 36 (v := .agg (cs U8 (Sh.ms a))) rfl rfl rfl (by go_simp) ?_
  refine wpT_new (z := .agg (cs U8 (zs 32))) 11 M42 (by kernel_rfl) (by decide) rfl rfl rfl rfl (fun b43 w44 M45 => ?_)
  try dsimp only [Value.cells] at M45
  refine wpT_new (z := .agg (cs U8 (zs 32))) 12 M45 (by kernel_rfl) (by decide) rfl rfl rfl rfl (fun b46 w47 M48 => ?_)
  try dsimp only [Value.cells] at M48
  refine wpT_st0 M48 1 (cs U8 (Sh.nx a)) inf_key rfl rfl rfl rfl (by go_simp) (by go_simp) (by simp [ha, hb, hR, hC]) (by simp [ha, hb, hR, hC]) (by simp [go_sem]) rfl (fun w49 M50 => ?_)
  dsimp only [List.set] at M50
  refine wpT_st0 M50 0 (cs U8 (Sh.ms a)) inf_key rfl rfl rfl rfl (by go_simp) (by go_simp) (by simp [ha, hb, hR, hC]) (by simp [ha, hb, hR, hC]) (by simp [go_sem]) rfl (fun w51 M52 => ?_)
  dsimp only [List.set] at M52
  dsimp only [wpT]
  try simp only [Act.put, List.setIfInBounds_toArray, List.set_cons_succ, List.set_cons_zero]
  go_upto_region 7 with fail
  refine wp_region_lin (.op 0 (.op 1 (.op 2 (.op 3 (.op 4 (.op 5 (.op 6 (.op 7 (.op 8 (.op 9 (.op 10 (.op 11 (.op 12 (.op 13 (.op 14 (.op 15 (.op 16 (.op 17 (.op 18 .done))))))))))))))))))) (by rfl) ?_
  refine wpT_ld0 37 Tryd.underlying25 rfl inf_key (b7) (cs U8 R) rfl rfl rfl (by go_simp) (M52.row (by simp)) (by simp [ha, hb, hR, hC]) rfl ?_
  refine wpT_ld0 38 Tryd.underlying25 rfl inf_key (b19) (cs U8 R) rfl rfl rfl (by go_simp) (M52.row (by simp)) (by simp [ha, hb, hR, hC]) rfl ?_
  refine wpT_valp 39 (v := .bool true) rfl rfl rfl (by have q := eqL w51 R (by simp [ha, hb, hR, hC]); go_simp) ?_
  refine wpT_valp 40 (v := .bool true) rfl rfl rfl (by go_simp) ?_
  try simp only [Act.put, List.setIfInBounds_toArray, List.set_cons_succ, List.set_cons_zero]
  refine wpT_ld0 41 Tryd.underlying25 rfl inf_key (b10) (cs U8 C) rfl rfl rfl (by go_simp) (M52.row (by simp)) (by simp [ha, hb, hR, hC]) (by simp [Region.wanted, yielded, Act.put]) ?_
  refine wpT_ld0 42 Tryd.underlying25 rfl inf_key (b22) (cs U8 C) rfl rfl rfl (by go_simp) (M52.row (by simp)) (by simp [ha, hb, hR, hC]) (by simp [Region.wanted, yielded, Act.put]) ?_
  refine wpT_valp 43 (v := .bool true) rfl rfl (by simp [Region.wanted, yielded, Act.put]) (by have q := eqL w51 C (by simp [ha, hb, hR, hC]); go_simp) ?_
  refine wpT_valp 44 (v := .bool true) rfl rfl rfl (by go_simp) ?_
  refine wpT_valp 45 (v := .bool true) rfl rfl rfl (by go_simp) ?_
  try simp only [Act.put, List.setIfInBounds_toArray, List.set_cons_succ, List.set_cons_zero]
  refine wpT_ld0 46 Tryd.underlying25 rfl inf_key (b31) (cs U8 (Sh.nx a)) rfl rfl rfl (by go_simp) (M52.row (by simp)) (by simp [ha, hb, hR, hC]) (by simp [Region.wanted, yielded, Act.put]) ?_
  refine wpT_ld0 47 Tryd.underlying25 rfl inf_key (b43) (cs U8 (Sh.nx a)) rfl rfl rfl (by go_simp) (M52.row (by simp)) (by simp [ha, hb, hR, hC]) (by simp [Region.wanted, yielded, Act.put]) ?_
  refine wpT_valp 48 (v := .bool true) rfl rfl (by simp [Region.wanted, yielded, Act.put]) (by have q := eqL w51 (Sh.nx a) (by simp [ha, hb, hR, hC]); go_simp) ?_
  refine wpT_valp 49 (v := .bool true) rfl rfl rfl (by go_simp) ?_
  refine wpT_valp 50 (v := .bool true) rfl rfl rfl (by go_simp) ?_
  try simp only [Act.put, List.setIfInBounds_toArray, List.set_cons_succ, List.set_cons_zero]
  refine wpT_ld0 51 Tryd.underlying25 rfl inf_key (b34) (cs U8 (Sh.ms a)) rfl rfl rfl (by go_simp) (M52.row (by simp)) (by simp [ha, hb, hR, hC]) (by simp [Region.wanted, yielded, Act.put]) ?_
  refine wpT_ld0 52 Tryd.underlying25 rfl inf_key (b46) (cs U8 (Sh.ms a)) rfl rfl rfl (by go_simp) (M52.row (by simp)) (by simp [ha, hb, hR, hC]) (by simp [Region.wanted, yielded, Act.put]) ?_
  refine wpT_valp 53 (v := .bool true) rfl rfl (by simp [Region.wanted, yielded, Act.put]) (by have q := eqL w51 (Sh.ms a) (by simp [ha, hb, hR, hC]); go_simp) ?_
  refine wpT_valp 54 (v := .bool true) rfl rfl rfl (by go_simp) ?_
  refine wpT_valp 4 (v := .bool true) rfl rfl rfl (by go_simp) ?_
  dsimp only [wpT]
  try simp only [Act.put, List.setIfInBounds_toArray, List.set_cons_succ, List.set_cons_zero]
  go_wp2_with fail
  go_ret
  exact ⟨rfl, M52.end_⟩
end Go.Proofs.YtocledgjejlolaaDoor
