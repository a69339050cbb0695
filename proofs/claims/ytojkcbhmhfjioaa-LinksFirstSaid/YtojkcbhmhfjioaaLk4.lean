/-
  Package links: Take, Twice, Turn, Len; links that no call made; own work.
-/
import Derived.Test.YtojkcbhmhfjioaaLk3
set_option linter.unusedSimpArgs false
set_option linter.unusedVariables false
namespace Go.Proofs.Ytojkcbhmhfjioaa
open Go.RowKit Lk
theorem sv_itm {w : World} {L : List It} {n g o c i : Nat} {x : It} (h : SV w (.slice (some ⟨g, o, none⟩) n c) n (fl eI L)) (hx : L[i]? = some x) : exLoad Try.prog 72 (.pointer (some ⟨g, o + i * 2, none⟩)) w = .ok (.value (.agg (ITR x.too (.slice (some ⟨x.g, 0, none⟩) 736 x.c)))) w :=
  sv_load eI_len Try.underlying72 rfl inf_itm (by decide) h hx _ rfl
theorem sv_itv {w : World} {L : List It} {n g o c i : Nat} {x : It} (h : SV w (.slice (some ⟨g, o, none⟩) n c) n (fl eI L)) (hx : L[i]? = some x) : w.cell? ⟨g, o + i * 2 + 1, none⟩ = some (.slice (some ⟨x.g, 0, none⟩) 736 x.c) := by
  rw [sv_cell eI_len h hx (j := 1) (by decide)]; rfl
theorem sv_itt {w : World} {L : List It} {n g o c i : Nat} {x : It} (h : SV w (.slice (some ⟨g, o, none⟩) n c) n (fl eI L)) (hx : L[i]? = some x) : w.cell? ⟨g, o + i * 2, none⟩ = some (.int .i64 x.too) := by
  have := sv_cell eI_len h hx (j := 0) (by decide)
  rw [Nat.add_zero] at this; rw [this]; rfl
theorem ow_some {w : World} {B : Nat} {v : Value} {L : List It} (h : Ow w B 2 v L.length (fl eI L)) (h0 : 0 < L.length) : ∃ g c, v = .slice (some ⟨g, 0, none⟩) L.length c := by
  rcases h.2 with ⟨a, h1, h2⟩ | ⟨g, cap, cur, T, h1, _⟩
  · omega
  · exact ⟨g, cap + 1, h1⟩
theorem map_getD {L : List It} {i : Nat} {x : It} (h : L[i]? = some x) (d : Pa) : (L.map It.ab).getD i d = (x.too, x.l) := by
  rw [List.getD_eq_getElem?_getD, List.getElem?_map, h]; rfl
theorem map_erase {L : List It} (i : Nat) : (L.eraseIdx i).map It.ab = (L.map It.ab).eraseIdx i := by
  rw [eraseIdx_td, eraseIdx_td, List.map_append, List.map_take, List.map_drop]
set_option maxRecDepth 100000
attribute [local irreducible] STR RSR wpT
set_option maxHeartbeats 4000000 in
theorem ltake_c (w : World) (B b : Nat) (room : Int) (L : List It) (v : Value) (R : LO w B b room L v) (hrm : 0 < room) (i : Int) (h9 : L.length ≤ 5000) {M2 : List Pa} {x : Pa} {q : Int} (hres : Lk.take (L.map It.ab) i = (M2, x, q)) :
    Calls Try.prog 24 #[.pointer (some ⟨b, 0, none⟩), .int .i64 i] w (TPost w B b room v L M2 x x.2.length q) := by
  have hbw : b < w.heap.size := (R.lt b (.inl rfl)).2
  have HR := hid R
  unfold Lk.take at hres
  rw [List.length_map] at hres
  by_cases hin : 0 ≤ i ∧ i < (L.length : Int)
  · rw [if_pos hin] at hres
    have HQ := hid (show (if 0 ≤ i ∧ i < (L.length : Int) then (0 : Int) else 9) = 0 from if_pos hin)
    obtain ⟨i, rfl⟩ : ∃ k : Nat, i = k := ⟨i.toNat, by omega⟩
    rw [Int.toNat_natCast] at hres
    have hiL : i < L.length := by omega
    obtain ⟨g, c1, hv⟩ := ow_some R.ao.ow (by omega)
    obtain ⟨y, hy⟩ : ∃ y, L[i]? = some y := ⟨_, List.getElem?_eq_getElem hiL⟩
    rw [map_getD hy] at hres
    injection hres with h1 h2
    injection h2 with h2 h3
    subst h2; subst h3
    have hyL := List.mem_of_getElem? hy
    have hyl := (R.ao.pk y hyL).1
    have hyo := (R.ao.pk y hyL).2
    have hyi := List.getElem?_eq_some_iff.1 hy
    obtain ⟨m, hm⟩ : ∃ n, L.length = n := ⟨_, rfl⟩
    rw [hm] at hv
    subst hv
    have HROW : Hid (∀ w', Below w.heap.size w w' → w'.rowOf b = STR room (.slice (some ⟨g, 0, none⟩) m c1)) := hid fun w' h => (R.below h).rowOf
    have HEL : Hid (∀ w', Below w.heap.size w w' → exLoad Try.prog 72 (.pointer (some ⟨g, i * 2, none⟩)) w' = .ok (.value (.agg (ITR y.too (.slice (some ⟨y.g, 0, none⟩) 736 y.c)))) w') := hid fun w' h => by
      have := (HR.out.below h).ao.ow.sv
      rw [hm] at this
      have := sv_itm this hy
      rwa [Nat.zero_add] at this
    obtain ⟨i1, hi1⟩ : ∃ j, j = i + 1 := ⟨_, rfl⟩
    have HI1 := hid hi1
    have HI2 := hid (show IntKind.i64.wrap ((i : Int) + 1) = (i1 : Int) by rw [i64w (by omega) (by omega), hi1]; rfl)
    have HIL := hid hiL
    have HL9 := hid (show L.length ≤ 100000 by omega)
    obtain ⟨m1, hm1⟩ : ∃ j, j = L.length - 1 := ⟨_, rfl⟩
    have HM1 := hid hm1.symm
    have HSEP : Hid (∀ (c c' c'' : Array Value) (b5 x : Nat), w.heap.size ≤ b5 → obk (.slice (some ⟨g, 0, none⟩) m c1) = some x → (HF b (.slice (some ⟨g, 0, none⟩) m c1) x ∨ w.heap.size ≤ x) ∧ ∀ q ∈ [(b, c), (b5, c'), (w.heap.size, c'')], q.1 ≠ x) := hid fun c c' c'' b5 x h5 hx => by
      have h1 := HR.out.lt x (.inr (.inl hx))
      refine ⟨.inl (.inr hx), fun q hq e => ?_⟩
      simp only [List.mem_cons, List.not_mem_nil, or_false] at hq
      rcases hq with rfl | rfl | rfl
      · dsimp only at e; rw [← e] at hx; exact HR.out.ne (.inl hx)
      · dsimp only at e; omega
      · dsimp only at e; omega
    have HFIN : Hid (∀ (ua2 : Value) (wA : World), obk ua2 = obk (.slice (some ⟨g, 0, none⟩) m c1) → Ow wA B 2 ua2 (L.length - 1) (fl eI (L.eraseIdx i)) →
        ∀ (S1 : Nat → Prop) (c c' c'' : Array Value) (b5 : Nat) (H : List (Nat × Array Value)) (wz : World), w.heap.size ≤ b5 → (∀ g, S1 g → g ∈ [(b, c), (b5, c'), (w.heap.size, c'')].map (·.1)) → Mm S1 wA H wz → Mm (HF b (.slice (some ⟨g, 0, none⟩) m c1)) w H wz → (b, STR room ua2) ∈ H →
        TPost w B b room (.slice (some ⟨g, 0, none⟩) m c1) L M2 (y.too, y.l) y.l.length 0 (.returned (.tuple #[.agg (ITR y.too (.slice (some ⟨y.g, 0, none⟩) 736 y.c)), .int .i64 0])) wz) := by
      refine hid fun ua2 wA BA OA S1 c c' c'' b5 H wz h5 hS1 M1 MZ hmm => ?_
      obtain ⟨_, T, hT, hrow⟩ := MZ.own _ hmm
      have hvb : ∀ x, obk ua2 = some x → x ≠ b ∧ x < w.heap.size := fun x hx => by
        rw [BA] at hx
        exact ⟨fun e => HR.out.ne (.inl (by rw [← e]; exact hx)), (HR.out.lt x (.inr (.inl hx))).2⟩
      have hsub : List.Sublist ((L.eraseIdx i).map It.g) (L.map It.g) := (List.eraseIdx_sublist L i).map _
      have hne : ¬ AF ua2 (L.eraseIdx i) b := by
        rintro (h | h)
        · exact (hvb b h).1 rfl
        · exact HR.out.ne (.inr (hsub.subset h))
      have hLF : ∀ x, LF b ua2 (L.eraseIdx i) x → LF b (.slice (some ⟨g, 0, none⟩) m c1) L x := by
        rintro x (rfl | h | h)
        · exact .inl rfl
        · rw [BA] at h; exact .inr (.inl h)
        · exact .inr (.inr (hsub.subset h))
      refine ⟨L.eraseIdx i, ua2, (some ⟨y.g, 0, none⟩, y.c), by rw [hyl], ⟨⟨T, hT, hrow⟩, HR.out.bb, ⟨?_, fun x hx => HR.out.item MZ.fr (List.mem_of_mem_eraseIdx hx), HR.out.ao.nd.sublist hsub, fun x hx h => ?_⟩, hne⟩, by rw [map_erase, h1], MZ.fr.mono (fun _ _ h => HF.lf h), fun x hx => .inl (hLF x hx), rfl, ?_, ?_⟩
      · rw [List.length_eraseIdx_of_lt HIL.out]
        refine OA.fr M1.fr (fun x hx hs => ?_)
        have h7 := hS1 x hs
        simp only [List.map_cons, List.map_nil, List.mem_cons, List.not_mem_nil, or_false] at h7
        have h8 := hvb x hx
        rcases h7 with e | e | e
        · exact h8.1 e
        · omega
        · omega
      · rw [BA] at hx
        exact HR.out.ao.nv x hx (hsub.subset h)
      · have := (HR.out.item MZ.fr hyL).2.bs
        rw [hyl]; exact this
      · intro x hx
        simp only [Value.ownBlock, Option.some.injEq] at hx
        subst hx
        have hyg : y.g ∈ L.map It.g := List.mem_map.2 ⟨y, hyL, rfl⟩
        refine ⟨.inr (.inr hyg), ?_⟩
        rintro (h | h | h)
        · exact HR.out.ne (.inr (by rw [← h]; exact hyg))
        · rw [BA] at h; exact HR.out.ao.nv _ h hyg
        · have hnd := HR.out.ao.nd
          rw [eraseIdx_td, List.map_append, List.mem_append] at h
          have hsp : L = L.take i ++ y :: L.drop (i + 1) := by rw [← ki_drop hy, List.take_append_drop]
          rw [hsp, List.map_append, List.map_cons, List.nodup_append] at hnd
          obtain ⟨n1, n2, n3⟩ := hnd
          rw [List.nodup_cons] at n2
          rcases h with h | h
          · exact n3 _ h _ (List.mem_cons_self ..) rfl
          · exact n2.1 h
    have hlt : (i : Int) < (m : Int) := by omega
    have hi00 : (0 : Int) ≤ (i : Int) := by omega
    obtain ⟨x, hx⟩ : ∃ x, x = y := ⟨_, rfl⟩
    rw [← hx] at HFIN HEL ⊢
    clear R hy h1 hyL hyl hyo hyi hin hm hi1 hm1 hx
    have M0 := Mm.start no w
    go_enter Try.func24, Try.ntmps24
    have M2 := (M0.alloc (ITR 0 (.slice none 0 0)) 72 (by decide))
    try simp only [World.size_alloc] at M2
    go_upto_region 1 with fail
    obtain ⟨w1, hw1⟩ : ∃ w1, w1 = (w.alloc (.cells (ITR 0 (.slice none 0 0)) 72)) := ⟨_, rfl⟩
    rw [← hw1] at M2 ⊢
    clear hw1
    refine wp_region_lin (.op 0 (.op 1 (.op 2 (.op 3 .done)))) (by rfl) ?_
    refine wpT_valp 8 (v := .pointer (some ⟨b, 0, none⟩)) rfl rfl rfl (by go_simp) ?_
    refine wpT_valp 9 (v := .int .i64 i) rfl rfl rfl (by go_simp) ?_
    refine wpT_callv 10 M2 (v := .int .i64 0) rfl rfl rfl (by go_simp) (lfault_c w1 B b room L _ (HR.out.below M2.end_) hrm i HQ.out) (fun w3 M4 => ?_)
    refine wpT_valp 6 (v := .int .i64 0) rfl rfl rfl (by go_simp) ?_
    first | dsimp only [wpT] | refine wpT_fin ?_
    try simp only [Act.put, List.setIfInBounds_toArray, List.set_cons_succ, List.set_cons_zero]
    go_upto_region 2 with fail
    refine wp_region_lin (.op 0 (.op 1 .done)) (by rfl) ?_
    refine wpT_valp 11 (v := .int .i64 0) rfl rfl rfl (by go_simp) ?_
    refine wpT_valp 12 (v := .bool false) rfl rfl rfl (by go_simp) ?_
    first | dsimp only [wpT] | refine wpT_fin ?_
    try simp only [Act.put, List.setIfInBounds_toArray, List.set_cons_succ, List.set_cons_zero]
    go_upto_region 4 with fail
    refine wp_region_lin (.op 0 (.op 1 (.op 2 (.op 3 (.op 4 (.op 5 (.op 6 (.op 7 (.op 8 .done))))))))) (by rfl) ?_
    refine wpT_valp 15 (v := .pointer (some ⟨b, 0, none⟩)) rfl rfl rfl (by go_simp) ?_
    refine wpT_valp 16 (v := .pointer (some ⟨b, 0, none⟩)) rfl rfl rfl (by go_simp) ?_
    refine wpT_valp 17 (v := .pointer (some ⟨b, 1, none⟩)) rfl rfl rfl (by go_simp) ?_
    refine wpT_valp 18 (v := .slice (some ⟨g, 0, none⟩) m c1) rfl rfl rfl (by have c0 := st_c1 (HROW.out _ M4.end_); go_simp) ?_
    try simp only [Act.put, List.setIfInBounds_toArray, List.set_cons_succ, List.set_cons_zero]
    refine wpT_valp 19 (v := .int .i64 i) rfl rfl rfl (by go_simp) ?_
    refine wpT_valp 20 (v := .pointer (some ⟨g, i * 2, none⟩)) rfl rfl rfl (by go_simp) ?_
    refine wpT_ldy 21 (.pointer (some ⟨g, i * 2, none⟩)) (.agg (ITR x.too (.slice (some ⟨x.g, 0, none⟩) 736 x.c))) rfl rfl rfl (by go_simp) (HEL.out _ M4.end_) rfl ?_
    refine wpT_new (z := .agg (ITR 0 (.slice none 0 0))) 7 M4 (by kernel_rfl) (by decide) rfl rfl rfl rfl (fun b5 w6 M7 => ?_)
    try dsimp only [Value.cells] at M7
    refine wpT_st0 M7 0 (ITR x.too (.slice (some ⟨x.g, 0, none⟩) 736 x.c)) inf_itm rfl rfl rfl rfl (by go_simp) (by go_simp) (by simp [ITR_size, STR_size, RSR_size, AC6_size]) (by simp [ITR_size, STR_size, RSR_size, AC6_size]) (by simp [go_sem]) rfl (fun w8 M9 => ?_)
    dsimp only [List.set] at M9
    first | dsimp only [wpT] | refine wpT_fin ?_
    try simp only [Act.put, List.setIfInBounds_toArray, List.set_cons_succ, List.set_cons_zero]
    go_upto_region 5 with fail
    obtain ⟨Tb, hTb, hrb⟩ := (HR.out.below M9.end_).row
    have hr7 := (M9.own (b5, ITR x.too (.slice (some ⟨x.g, 0, none⟩) 736 x.c)) (by simp)).1.resolve_left (fun h => h)
    have MW := (M9.wide (S' := HF b (.slice (some ⟨g, 0, none⟩) m c1)) (fun _ h => h.elim)).more hTb hrb (.inl (.inl rfl)) (fun q hq e => by
      simp only [List.mem_cons, List.not_mem_nil, or_false] at hq
      rcases hq with rfl | rfl <;> (dsimp only at e; have := hbw; omega))
    have HOW := hid (show Ow _ B 2 (.slice (some ⟨g, 0, none⟩) m c1) L.length (fl eI L) from (HR.out.below M9.end_).ao.ow)
    refine wp_region_lin (.op 0 (.op 1 (.op 2 (.op 3 (.op 4 (.op 5 (.op 6 (.op 7 (.op 8 (.op 9 (.op 10 (.op 11 .done)))))))))))) (by rfl) ?_
    refine wpT_valp 22 (v := .pointer (some ⟨b, 0, none⟩)) rfl rfl rfl (by go_simp) ?_
    refine wpT_valp 23 (v := .pointer (some ⟨b, 0, none⟩)) rfl rfl rfl (by go_simp) ?_
    refine wpT_valp 24 (v := .pointer (some ⟨b, 0, none⟩)) rfl rfl rfl (by go_simp) ?_
    refine wpT_valp 25 (v := .pointer (some ⟨b, 1, none⟩)) rfl rfl rfl (by go_simp) ?_
    try simp only [Act.put, List.setIfInBounds_toArray, List.set_cons_succ, List.set_cons_zero]
    refine wpT_valp 26 (v := .slice (some ⟨g, 0, none⟩) m c1) rfl rfl rfl (by have c0 := st_c1 (MW.row (b := b) (c := STR room (.slice (some ⟨g, 0, none⟩) m c1)) (by simp)); go_simp) ?_
    refine wpT_valp 27 (v := .int .i64 i) rfl rfl rfl (by go_simp) ?_
    refine wpT_valp 28 (v := .int .i64 i) rfl rfl rfl (by go_simp) ?_
    refine wpT_valp 29 (v := .int .i64 i1) rfl rfl rfl (by have h := HI2.out; go_simp) ?_
    refine wpT_owd 30 MW (fun y hy => HSEP.out _ _ _ _ y (by omega) hy) rfl rfl rfl (by go_simp) (ldel_x w8 B _ L i HI1.out HOW.out HIL.out HL9.out) (fun ua2 wA OA MA BA => ?_)
    obtain ⟨S1, MB, hS1, hT1⟩ := MA.rebase
    have HFI := hid (HFIN.out ua2 wA BA OA)
    rw [HM1.out] at OA
    obtain ⟨xa, xc, rfl, _⟩ := OA.shape
    clear OA BA
    try simp only [Act.put, List.setIfInBounds_toArray, List.set_cons_succ, List.set_cons_zero]
    refine wpT_valp 31 (v := .pointer (some ⟨b, 0, none⟩)) rfl rfl rfl (by go_simp) ?_
    refine wpT_valp 32 (v := .pointer (some ⟨b, 1, none⟩)) rfl rfl rfl (by go_simp) ?_
    refine wpT_stc MB 0 (.slice xa m1 xc) (STR room (.slice xa m1 xc)) inf_sli rfl rfl rfl rfl (by go_simp) (by go_simp) (by simp [ITR_size, STR_size, RSR_size, AC6_size]) (by simp [go_sem]) (st_s1 _) rfl (fun w10 M11 => ?_)
    dsimp only [List.set] at M11
    first | dsimp only [wpT] | refine wpT_fin ?_
    try simp only [Act.put, List.setIfInBounds_toArray, List.set_cons_succ, List.set_cons_zero]
    go_upto_region 6 with fail
    refine wp_region_lin (.op 0 (.op 1 (.op 2 .done))) (by rfl) ?_
    refine wpT_ld0 33 Try.underlying72 rfl inf_itm (b5) (ITR x.too (.slice (some ⟨x.g, 0, none⟩) 736 x.c)) rfl rfl rfl (by go_simp) (M11.row (b := b5) (c := ITR x.too (.slice (some ⟨x.g, 0, none⟩) 736 x.c)) (by simp)) (by simp [ITR_size, STR_size, RSR_size, AC6_size]) rfl ?_
    refine wpT_st0 M11 2 (ITR x.too (.slice (some ⟨x.g, 0, none⟩) 736 x.c)) inf_itm rfl rfl rfl rfl (by go_simp) (by go_simp) (by simp [ITR_size, STR_size, RSR_size, AC6_size]) (by simp [ITR_size, STR_size, RSR_size, AC6_size]) (by simp [go_sem]) rfl (fun w12 M13 => ?_)
    dsimp only [List.set] at M13
    refine wpT_valp 5 (v := .int .i64 0) rfl rfl rfl (by go_simp) ?_
    first | dsimp only [wpT] | refine wpT_fin ?_
    try simp only [Act.put, List.setIfInBounds_toArray, List.set_cons_succ, List.set_cons_zero]
    go_wp2_with fail
    have r14 := M13.row (b := w.heap.size) (c := ITR x.too (.slice (some ⟨x.g, 0, none⟩) 736 x.c)) (by simp)
    refine bodyPost_ret (res_two rfl (rv_row Try.underlying72 rfl inf_itm (w.heap.size) rfl (by rw [r14]; simp [ITR_size, STR_size, RSR_size, AC6_size])) (rv_tmp _ _ rfl)) rfl ?_
    rw [r14]
    exact HFI.out _ _ _ _ _ _ _ hr7 hS1 M13 (hT1 _ _ M13) (by simp)
  · rw [if_neg hin] at hres
    injection hres with h1 h2
    injection h2 with h2 h3
    subst h1; subst h2; subst h3
    have HQ := hid (show (if 0 ≤ i ∧ i < (L.length : Int) then (0 : Int) else 9) = 9 from if_neg hin)
    clear R hin
    have M0 := Mm.start no w
    go_enter Try.func24, Try.ntmps24
    have M2 := (M0.alloc (ITR 0 (.slice none 0 0)) 72 (by decide))
    try simp only [World.size_alloc] at M2
    go_upto_region 1 with fail
    obtain ⟨w1, hw1⟩ : ∃ w1, w1 = (w.alloc (.cells (ITR 0 (.slice none 0 0)) 72)) := ⟨_, rfl⟩
    rw [← hw1] at M2 ⊢
    clear hw1
    refine wp_region_lin (.op 0 (.op 1 (.op 2 (.op 3 .done)))) (by rfl) ?_
    refine wpT_valp 8 (v := .pointer (some ⟨b, 0, none⟩)) rfl rfl rfl (by go_simp) ?_
    refine wpT_valp 9 (v := .int .i64 i) rfl rfl rfl (by go_simp) ?_
    refine wpT_callv 10 M2 (v := .int .i64 9) rfl rfl rfl (by go_simp) (lfault_c w1 B b room L _ (HR.out.below M2.end_) hrm i HQ.out) (fun w3 M4 => ?_)
    refine wpT_valp 6 (v := .int .i64 9) rfl rfl rfl (by go_simp) ?_
    first | dsimp only [wpT] | refine wpT_fin ?_
    try simp only [Act.put, List.setIfInBounds_toArray, List.set_cons_succ, List.set_cons_zero]
    go_upto_region 2 with fail
    refine wp_region_lin (.op 0 (.op 1 .done)) (by rfl) ?_
    refine wpT_valp 11 (v := .int .i64 9) rfl rfl rfl (by go_simp) ?_
    refine wpT_valp 12 (v := .bool true) rfl rfl rfl (by go_simp) ?_
    first | dsimp only [wpT] | refine wpT_fin ?_
    try simp only [Act.put, List.setIfInBounds_toArray, List.set_cons_succ, List.set_cons_zero]
    go_upto_region 3 with fail
    refine wp_region_lin (.op 0 (.op 1 (.op 2 (.op 3 .done)))) (by rfl) ?_
    refine wpT_valL 13 (v := .agg (ITR 0 (.slice none 0 0))) rfl rfl rfl (by have q := xb_itm0 w3; go_simp) ?_
    refine wpT_valp 14 (v := .int .i64 9) rfl rfl rfl (by go_simp) ?_
    refine wpT_st0 M4 0 (ITR 0 (.slice none 0 0)) inf_itm rfl rfl rfl rfl (by go_simp) (by go_simp) (by simp [ITR_size, STR_size, RSR_size, AC6_size]) (by simp [ITR_size, STR_size, RSR_size, AC6_size]) (by simp [go_sem]) rfl (fun w5 M6 => ?_)
    dsimp only [List.set] at M6
    refine wpT_valp 5 (v := .int .i64 9) rfl rfl rfl (by go_simp) ?_
    first | dsimp only [wpT] | refine wpT_fin ?_
    try simp only [Act.put, List.setIfInBounds_toArray, List.set_cons_succ, List.set_cons_zero]
    go_wp2_with fail
    have r7 := M6.row (b := w.heap.size) (c := ITR 0 (.slice none 0 0)) (by simp)
    refine bodyPost_ret (res_two rfl (rv_row Try.underlying72 rfl inf_itm (w.heap.size) rfl (by rw [r7]; simp [ITR_size, STR_size, RSR_size, AC6_size])) (rv_tmp _ _ rfl)) rfl ?_
    rw [r7]
    exact TPost.same HR.out M6.end_
set_option maxHeartbeats 4000000 in
theorem ltwice_c (w : World) (B b : Nat) (room : Int) (L : List It) (v : Value) (R : LO w B b room L v) (hrm : 0 < room) (i : Int) (h9 : L.length ≤ 5000) {M2 : List Pa} {q : Int} (hres : Lk.twice room.toNat (L.map It.ab) i = (M2, q)) :
    Calls Try.prog 29 #[.pointer (some ⟨b, 0, none⟩), .int .i64 i] w (LPost w B b room v L (M2, q)) := by
  have HR := hid R
  have hrm0 : 0 ≤ room := by omega
  unfold Lk.twice at hres
  rw [List.length_map] at hres
  by_cases hin : 0 ≤ i ∧ i < (L.length : Int)
  · rw [if_pos hin] at hres
    have HQ := hid (show (if 0 ≤ i ∧ i < (L.length : Int) then (0 : Int) else 9) = 0 from if_pos hin)
    obtain ⟨i, rfl⟩ : ∃ k : Nat, i = k := ⟨i.toNat, by omega⟩
    rw [Int.toNat_natCast] at hres
    obtain ⟨g, c1, hv⟩ := ow_some R.ao.ow (by omega)
    obtain ⟨x, hy⟩ : ∃ y, L[i]? = some y := ⟨_, List.getElem?_eq_getElem (by omega)⟩
    rw [map_getD hy] at hres
    have HRES := hid hres
    have hyL := List.mem_of_getElem? hy
    have HLX := hid (R.ao.pk x hyL).1
    obtain ⟨m, hm⟩ : ∃ n, L.length = n := ⟨_, rfl⟩
    rw [hm] at hv
    subst hv
    have HROW : Hid (∀ w', Below w.heap.size w w' → w'.rowOf b = STR room (.slice (some ⟨g, 0, none⟩) m c1)) := hid fun w' h => (R.below h).rowOf
    have HBX : Hid (∀ w', Below w.heap.size w w' → BS w' (.slice (some ⟨x.g, 0, none⟩) 736 x.c) x.l) := hid fun w' h => ((HR.out.below h).ao.pk x hyL).2.bs
    have HEL : Hid (∀ w', Below w.heap.size w w' → exLoad Try.prog 72 (.pointer (some ⟨g, i * 2, none⟩)) w' = .ok (.value (.agg (ITR x.too (.slice (some ⟨x.g, 0, none⟩) 736 x.c)))) w') := hid fun w' h => by
      have := (HR.out.below h).ao.ow.sv
      rw [hm] at this
      have := sv_itm this hy
      rwa [Nat.zero_add] at this
    have hlt : (i : Int) < (m : Int) := by omega
    have hi00 : (0 : Int) ≤ (i : Int) := by omega
    clear R hy hyL hin hm hres
    have M0 := Mm.start no w
    go_enter Try.func29, Try.ntmps29
    go_upto_region 1 with fail
    refine wp_region_lin (.op 0 (.op 1 (.op 2 (.op 3 .done)))) (by rfl) ?_
    refine wpT_valp 6 (v := .pointer (some ⟨b, 0, none⟩)) rfl rfl rfl (by go_simp) ?_
    refine wpT_valp 7 (v := .int .i64 i) rfl rfl rfl (by go_simp) ?_
    refine wpT_callv 8 M0 (v := .int .i64 0) rfl rfl rfl (by go_simp) (lfault_c w B b room L _ (HR.out.below M0.end_) hrm i HQ.out) (fun w1 M2 => ?_)
    refine wpT_valp 5 (v := .int .i64 0) rfl rfl rfl (by go_simp) ?_
    first | dsimp only [wpT] | refine wpT_fin ?_
    try simp only [Act.put, List.setIfInBounds_toArray, List.set_cons_succ, List.set_cons_zero]
    go_upto_region 2 with fail
    refine wp_region_lin (.op 0 (.op 1 .done)) (by rfl) ?_
    refine wpT_valp 9 (v := .int .i64 0) rfl rfl rfl (by go_simp) ?_
    refine wpT_valp 10 (v := .bool false) rfl rfl rfl (by go_simp) ?_
    first | dsimp only [wpT] | refine wpT_fin ?_
    try simp only [Act.put, List.setIfInBounds_toArray, List.set_cons_succ, List.set_cons_zero]
    go_upto_region 4 with fail
    refine wp_region_lin (.op 0 (.op 1 (.op 2 (.op 3 (.op 4 (.op 5 (.op 6 (.op 7 (.op 8 (.op 9 .done)))))))))) (by rfl) ?_
    refine wpT_valp 12 (v := .pointer (some ⟨b, 0, none⟩)) rfl rfl rfl (by go_simp) ?_
    refine wpT_valp 13 (v := .pointer (some ⟨b, 0, none⟩)) rfl rfl rfl (by go_simp) ?_
    refine wpT_valp 14 (v := .pointer (some ⟨b, 0, none⟩)) rfl rfl rfl (by go_simp) ?_
    refine wpT_valp 15 (v := .pointer (some ⟨b, 1, none⟩)) rfl rfl rfl (by go_simp) ?_
    try simp only [Act.put, List.setIfInBounds_toArray, List.set_cons_succ, List.set_cons_zero]
    refine wpT_valp 16 (v := .slice (some ⟨g, 0, none⟩) m c1) rfl rfl rfl (by have c0 := st_c1 (HROW.out _ M2.end_); go_simp) ?_
    refine wpT_valp 17 (v := .int .i64 i) rfl rfl rfl (by go_simp) ?_
    refine wpT_valp 18 (v := .pointer (some ⟨g, i * 2, none⟩)) rfl rfl rfl (by go_simp) ?_
    refine wpT_ldy 19 (.pointer (some ⟨g, i * 2, none⟩)) (.agg (ITR x.too (.slice (some ⟨x.g, 0, none⟩) 736 x.c))) rfl rfl rfl (by go_simp) (HEL.out _ M2.end_) rfl ?_
    have HB1 := hid (M2).end_
    refine wpT_last (V := .int .i64 q) 20 rfl rfl rfl (by go_simp) (behind_c w1 B b room L _ (HR.out.below M2.end_) hrm0 x.too _ x.l (HBX.out _ M2.end_) HLX.out h9 HRES.out) (fun e w' h => h.ret) (fun wl ZL => ?_)
    try simp only [Act.put, List.setIfInBounds_toArray, List.set_cons_succ, List.set_cons_zero]
    refine wpT_valp 4 (v := .int .i64 q) rfl rfl rfl (by go_simp) ?_
    first | dsimp only [wpT] | refine wpT_fin ?_
    try simp only [Act.put, List.setIfInBounds_toArray, List.set_cons_succ, List.set_cons_zero]
    go_wp2_with fail
    go_ret
    exact LPost.trans HR.out HB1.out ZL
  · rw [if_neg hin] at hres
    injection hres with h1 h2
    subst h1; subst h2
    have HQ := hid (show (if 0 ≤ i ∧ i < (L.length : Int) then (0 : Int) else 9) = 9 from if_neg hin)
    clear R hin
    have M0 := Mm.start no w
    go_enter Try.func29, Try.ntmps29
    go_upto_region 1 with fail
    refine wp_region_lin (.op 0 (.op 1 (.op 2 (.op 3 .done)))) (by rfl) ?_
    refine wpT_valp 6 (v := .pointer (some ⟨b, 0, none⟩)) rfl rfl rfl (by go_simp) ?_
    refine wpT_valp 7 (v := .int .i64 i) rfl rfl rfl (by go_simp) ?_
    refine wpT_callv 8 M0 (v := .int .i64 9) rfl rfl rfl (by go_simp) (lfault_c w B b room L _ (HR.out.below M0.end_) hrm i HQ.out) (fun w1 M2 => ?_)
    refine wpT_valp 5 (v := .int .i64 9) rfl rfl rfl (by go_simp) ?_
    first | dsimp only [wpT] | refine wpT_fin ?_
    try simp only [Act.put, List.setIfInBounds_toArray, List.set_cons_succ, List.set_cons_zero]
    go_upto_region 2 with fail
    refine wp_region_lin (.op 0 (.op 1 .done)) (by rfl) ?_
    refine wpT_valp 9 (v := .int .i64 9) rfl rfl rfl (by go_simp) ?_
    refine wpT_valp 10 (v := .bool true) rfl rfl rfl (by go_simp) ?_
    first | dsimp only [wpT] | refine wpT_fin ?_
    try simp only [Act.put, List.setIfInBounds_toArray, List.set_cons_succ, List.set_cons_zero]
    go_upto_region 3 with fail
    refine wp_region_lin (.op 0 (.op 1 .done)) (by rfl) ?_
    refine wpT_valp 11 (v := .int .i64 9) rfl rfl rfl (by go_simp) ?_
    refine wpT_valp 4 (v := .int .i64 9) rfl rfl rfl (by go_simp) ?_
    first | dsimp only [wpT] | refine wpT_fin ?_
    try simp only [Act.put, List.setIfInBounds_toArray, List.set_cons_succ, List.set_cons_zero]
    go_wp2_with fail
    go_ret
    exact LPost.same HR.out M2.end_ _
theorem mem_set_cases {L : List It} {i : Nat} {x y z : It} (hy : L[i]? = some y) (hz : z ∈ L.set i x) (hnd : (L.map It.g).Nodup) : z = x ∨ (z ∈ L ∧ z.g ≠ y.g) := by
  have hiL := (List.getElem?_eq_some_iff.1 hy).1
  rw [List.mem_iff_getElem?] at hz
  obtain ⟨j, hj⟩ := hz
  rw [List.getElem?_set] at hj
  by_cases e : i = j
  · rw [if_pos e, if_pos (by omega)] at hj
    injection hj with hj; exact .inl hj.symm
  · rw [if_neg e] at hj
    refine .inr ⟨List.mem_of_getElem? hj, fun h => e ?_⟩
    have n1 : (L.map It.g)[i]? = some y.g := by rw [List.getElem?_map, hy]; rfl
    have n2 : (L.map It.g)[j]? = some y.g := by rw [List.getElem?_map, hj, ← h]; rfl
    have hjL := (List.getElem?_eq_some_iff.1 n2).1
    have hil := (List.getElem?_eq_some_iff.1 n1).1
    rw [List.getElem?_eq_getElem hil] at n1
    rw [List.getElem?_eq_getElem hjL] at n2
    injection n1 with n1; injection n2 with n2
    exact (List.getElem_inj hnd).1 (by rw [n1, n2])
set_option maxHeartbeats 4000000 in
theorem lturn_c (w : World) (B b : Nat) (room : Int) (L : List It) (v : Value) (R : LO w B b room L v) (hrm : 0 < room) (i at_ : Int) (bb : BitVec 8) {M2 : List Pa} {q : Int} (hres : Lk.turn (L.map It.ab) i at_ bb = (M2, q)) :
    Calls Try.prog 31 #[.pointer (some ⟨b, 0, none⟩), .int .i64 i, .int .i64 at_, U8 bb] w (LPost w B b room v L (M2, q)) := by
  have HR := hid R
  unfold Lk.turn at hres
  rw [List.length_map] at hres
  by_cases hin : 0 ≤ i ∧ i < (L.length : Int)
  · rw [if_pos hin] at hres
    have HQ := hid (show (if 0 ≤ i ∧ i < (L.length : Int) then (0 : Int) else 9) = 0 from if_pos hin)
    by_cases c1 : at_ < 0
    · rw [if_pos (.inl c1)] at hres
      injection hres with h1 h2
      subst h1; subst h2
      clear R hin
      have M0 := Mm.start no w
      go_enter Try.func31, Try.ntmps31
      go_upto_region 1 with fail
      refine wp_region_lin (.op 0 (.op 1 (.op 2 (.op 3 .done)))) (by rfl) ?_
      refine wpT_valp 10 (v := .pointer (some ⟨b, 0, none⟩)) rfl rfl rfl (by go_simp) ?_
      refine wpT_valp 11 (v := .int .i64 i) rfl rfl rfl (by go_simp) ?_
      refine wpT_callv 12 M0 (v := .int .i64 0) rfl rfl rfl (by go_simp) (lfault_c w B b room L _ (HR.out.below M0.end_) hrm i HQ.out) (fun w1 M2 => ?_)
      refine wpT_valp 9 (v := .int .i64 0) rfl rfl rfl (by go_simp) ?_
      first | dsimp only [wpT] | refine wpT_fin ?_
      try simp only [Act.put, List.setIfInBounds_toArray, List.set_cons_succ, List.set_cons_zero]
      go_upto_region 2 with fail
      refine wp_region_lin (.op 0 (.op 1 .done)) (by rfl) ?_
      refine wpT_valp 13 (v := .int .i64 0) rfl rfl rfl (by go_simp) ?_
      refine wpT_valp 14 (v := .bool false) rfl rfl rfl (by go_simp) ?_
      first | dsimp only [wpT] | refine wpT_fin ?_
      try simp only [Act.put, List.setIfInBounds_toArray, List.set_cons_succ, List.set_cons_zero]
      go_upto_region 4 with fail
      refine wp_region_lin (.op 0 (.op 1 (.op 2 (.op 3 (.op 4 (.op 5 .done)))))) (by rfl) ?_
      refine wpT_valp 16 (v := .int .i64 at_) rfl rfl rfl (by go_simp) ?_
      refine wpT_valp 17 (v := .bool true) rfl rfl rfl (by go_simp) ?_
      refine wpT_valp 18 (v := .bool true) rfl rfl rfl (by go_simp) ?_
      refine wpT_unx 19 rfl rfl (by simp [Region.wanted, yielded, Act.put]) ?_
      try simp only [Act.put, List.setIfInBounds_toArray, List.set_cons_succ, List.set_cons_zero]
      refine wpT_unx 20 rfl rfl (by simp [Region.wanted, yielded, Act.put]) ?_
      try simp only [Act.put, List.setIfInBounds_toArray, List.set_cons_succ, List.set_cons_zero]
      refine wpT_valp 21 (v := .bool true) rfl rfl rfl (by go_simp) ?_
      first | dsimp only [wpT] | refine wpT_fin ?_
      try simp only [Act.put, List.setIfInBounds_toArray, List.set_cons_succ, List.set_cons_zero]
      go_upto_region 5 with fail
      refine wp_region_lin (.op 0 .done) (by rfl) ?_
      refine wpT_valp 8 (v := .int .i64 2) rfl rfl rfl (by go_simp) ?_
      first | dsimp only [wpT] | refine wpT_fin ?_
      try simp only [Act.put, List.setIfInBounds_toArray, List.set_cons_succ, List.set_cons_zero]
      go_wp2_with fail
      go_ret
      exact LPost.same HR.out M2.end_ _
    by_cases c2 : 736 ≤ at_
    · rw [if_pos (.inr c2)] at hres
      injection hres with h1 h2
      subst h1; subst h2
      clear R hin
      have M0 := Mm.start no w
      go_enter Try.func31, Try.ntmps31
      go_upto_region 1 with fail
      refine wp_region_lin (.op 0 (.op 1 (.op 2 (.op 3 .done)))) (by rfl) ?_
      refine wpT_valp 10 (v := .pointer (some ⟨b, 0, none⟩)) rfl rfl rfl (by go_simp) ?_
      refine wpT_valp 11 (v := .int .i64 i) rfl rfl rfl (by go_simp) ?_
      refine wpT_callv 12 M0 (v := .int .i64 0) rfl rfl rfl (by go_simp) (lfault_c w B b room L _ (HR.out.below M0.end_) hrm i HQ.out) (fun w1 M2 => ?_)
      refine wpT_valp 9 (v := .int .i64 0) rfl rfl rfl (by go_simp) ?_
      first | dsimp only [wpT] | refine wpT_fin ?_
      try simp only [Act.put, List.setIfInBounds_toArray, List.set_cons_succ, List.set_cons_zero]
      go_upto_region 2 with fail
      refine wp_region_lin (.op 0 (.op 1 .done)) (by rfl) ?_
      refine wpT_valp 13 (v := .int .i64 0) rfl rfl rfl (by go_simp) ?_
      refine wpT_valp 14 (v := .bool false) rfl rfl rfl (by go_simp) ?_
      first | dsimp only [wpT] | refine wpT_fin ?_
      try simp only [Act.put, List.setIfInBounds_toArray, List.set_cons_succ, List.set_cons_zero]
      go_upto_region 4 with fail
      refine wp_region_lin (.op 0 (.op 1 (.op 2 (.op 3 (.op 4 (.op 5 .done)))))) (by rfl) ?_
      refine wpT_valp 16 (v := .int .i64 at_) rfl rfl rfl (by go_simp) ?_
      refine wpT_valp 17 (v := .bool false) rfl rfl rfl (by go_simp) ?_
      refine wpT_valp 18 (v := .bool false) rfl rfl rfl (by go_simp) ?_
      refine wpT_valp 19 (v := .int .i64 at_) rfl rfl (by simp [Region.wanted, yielded, Act.put]) (by go_simp) ?_
      try simp only [Act.put, List.setIfInBounds_toArray, List.set_cons_succ, List.set_cons_zero]
      refine wpT_valp 20 (v := .bool true) rfl rfl (by simp [Region.wanted, yielded, Act.put]) (by go_simp) ?_
      refine wpT_valp 21 (v := .bool true) rfl rfl rfl (by go_simp) ?_
      first | dsimp only [wpT] | refine wpT_fin ?_
      try simp only [Act.put, List.setIfInBounds_toArray, List.set_cons_succ, List.set_cons_zero]
      go_upto_region 5 with fail
      refine wp_region_lin (.op 0 .done) (by rfl) ?_
      refine wpT_valp 8 (v := .int .i64 2) rfl rfl rfl (by go_simp) ?_
      first | dsimp only [wpT] | refine wpT_fin ?_
      try simp only [Act.put, List.setIfInBounds_toArray, List.set_cons_succ, List.set_cons_zero]
      go_wp2_with fail
      go_ret
      exact LPost.same HR.out M2.end_ _
    rw [if_neg (by omega)] at hres
    obtain ⟨k, rfl⟩ : ∃ k : Nat, at_ = k := ⟨at_.toNat, by omega⟩
    obtain ⟨i, rfl⟩ : ∃ k : Nat, i = k := ⟨i.toNat, by omega⟩
    rw [Int.toNat_natCast, Int.toNat_natCast] at hres
    obtain ⟨g, c1, hv⟩ := ow_some R.ao.ow (by omega)
    obtain ⟨x, hy⟩ : ∃ y, L[i]? = some y := ⟨_, List.getElem?_eq_getElem (by omega)⟩
    rw [map_getD hy] at hres
    injection hres with h1 h2
    subst h2
    have hyL := List.mem_of_getElem? hy
    have HLX := hid (R.ao.pk x hyL).1
    have HK := hid (show k < 736 by omega)
    obtain ⟨p, hp⟩ : ∃ p, p = x.l.getD k 0 := ⟨_, rfl⟩
    have HCB : Hid (∀ w', Below w.heap.size w w' → w'.cell? ⟨x.g, k, none⟩ = some (U8 p)) := hid fun w' h => by
      rw [hp]; exact bs_cell0 ((HR.out.below h).ao.pk x hyL).2.bs k (by rw [HLX.out]; exact HK.out)
    have HOB : Hid (∀ w', Below w.heap.size w w' → OB w' B (.slice (some ⟨x.g, 0, none⟩) 736 x.c) x.l) := hid fun w' h => ((HR.out.below h).ao.pk x hyL).2
    obtain ⟨m, hm⟩ : ∃ n, L.length = n := ⟨_, rfl⟩
    rw [hm] at hv
    subst hv
    have HROW : Hid (∀ w', Below w.heap.size w w' → w'.rowOf b = STR room (.slice (some ⟨g, 0, none⟩) m c1)) := hid fun w' h => (R.below h).rowOf
    have HCV : Hid (∀ w', Below w.heap.size w w' → w'.cell? ⟨g, i * 2 + 1, none⟩ = some (.slice (some ⟨x.g, 0, none⟩) 736 x.c)) := hid fun w' h => by
      have := (HR.out.below h).ao.ow.sv
      rw [hm] at this
      have := sv_itv this hy
      rwa [Nat.zero_add] at this
    have HFIN : Hid (∀ w', Below w.heap.size w w' → OB (w'.setRow x.g ((w'.rowOf x.g).setIfInBounds k (U8 (p ^^^ bb)))) B (.slice (some ⟨x.g, 0, none⟩) 736 x.c) (x.l.set k (p ^^^ bb)) →
        LPost w B b room (.slice (some ⟨g, 0, none⟩) m c1) L (M2, 0) (.returned (.int .i64 0)) (w'.setRow x.g ((w'.rowOf x.g).setIfInBounds k (U8 (p ^^^ bb))))) := by
      refine hid fun w' hb hset => ?_
      have R1 := HR.out.below hb
      have hxg : x.g ∈ L.map It.g := List.mem_map.2 ⟨x, hyL, rfl⟩
      obtain ⟨wz, hwz⟩ : ∃ wz, wz = w'.setRow x.g ((w'.rowOf x.g).setIfInBounds k (U8 (p ^^^ bb))) := ⟨_, rfl⟩
      rw [← hwz] at hset ⊢
      have hF : Fr (fun y => y = x.g) w' wz := by rw [hwz]; exact Fr.setRow (Fr.refl (fun y => y = x.g) w') (.inl rfl) _
      have hb' : b ≠ x.g := fun e => R1.ne (.inr (by rw [e]; exact hxg))
      have hv' : ∀ y, obk (.slice (some ⟨g, 0, none⟩) m c1) = some y → y ≠ x.g := fun y hy e => R1.ao.nv y hy (by rw [e]; exact hxg)
      have hgm : (L.set i ⟨x.too, x.g, x.c, x.l.set k (p ^^^ bb)⟩).map It.g = L.map It.g := by
        rw [List.map_set]
        apply List.ext_getElem?
        intro j
        rw [List.getElem?_set]
        by_cases e : i = j
        · subst e
          have : i < (L.map It.g).length := by rw [List.length_map]; exact (List.getElem?_eq_some_iff.1 hy).1
          rw [if_pos rfl, if_pos this, List.getElem?_map, hy]; rfl
        · rw [if_neg e]
      have hfl : fl eI (L.set i ⟨x.too, x.g, x.c, x.l.set k (p ^^^ bb)⟩) = fl eI L := by
        have hiL := (List.getElem?_eq_some_iff.1 hy).1
        rw [List.set_eq_take_append_cons_drop, if_pos hiL]
        conv => rhs; rw [← List.take_append_drop i L, ki_drop hy]
        rw [fl_append, fl_append, fl_cons, fl_cons]; rfl
      obtain ⟨T, hT, hrow⟩ := R1.row
      have hAF : ∀ y, AF (.slice (some ⟨g, 0, none⟩) m c1) (L.set i ⟨x.too, x.g, x.c, x.l.set k (p ^^^ bb)⟩) y → AF (.slice (some ⟨g, 0, none⟩) m c1) L y := fun y h => h.imp id (fun h => by rw [hgm] at h; exact h)
      refine ⟨L.set i ⟨x.too, x.g, x.c, x.l.set k (p ^^^ bb)⟩, .slice (some ⟨g, 0, none⟩) m c1, rfl, ⟨⟨T, hT, (hF.block b (Array.getElem?_eq_some_iff.1 hrow).1 hb').trans hrow⟩, R1.bb, ⟨?_, fun z hz => ?_, by rw [hgm]; exact R1.ao.nd, fun y h1 h2 => by rw [hgm] at h2; exact R1.ao.nv y h1 h2⟩, fun h => R1.ne (hAF b h)⟩, ?_, (Fr.of_below hb).trans (hF.mono (fun y _ h => .inl (by rw [h]; exact .inr (.inr hxg)))), fun y h => .inl (h.imp id (hAF y))⟩
      · rw [hfl, List.length_set]
        exact R1.ao.ow.fr hF (fun y hy => hv' y hy)
      · rcases mem_set_cases hy hz R1.ao.nd with rfl | ⟨h1, h2⟩
        · exact ⟨by simp [HLX.out], hset⟩
        · exact ⟨(R1.ao.pk z h1).1, (R1.ao.pk z h1).2.fr' hF (fun y hy => by
            simp only [It.v, Value.ownBlock, Option.some.injEq] at hy; subst hy; exact h2)⟩
      · rw [List.map_set, ← h1]
        simp only [It.ab, Lk.turnB, hp]
    have hlt : (i : Int) < (m : Int) := by omega
    have hi00 : (0 : Int) ≤ (i : Int) := by omega
    have hk0 : (0 : Int) ≤ (k : Int) := by omega
    have hk1 : (k : Int) < 736 := by omega
    clear R hy hyL hin hm h1 hp
    have M0 := Mm.start no w
    go_enter Try.func31, Try.ntmps31
    go_upto_region 1 with fail
    refine wp_region_lin (.op 0 (.op 1 (.op 2 (.op 3 .done)))) (by rfl) ?_
    refine wpT_valp 10 (v := .pointer (some ⟨b, 0, none⟩)) rfl rfl rfl (by go_simp) ?_
    refine wpT_valp 11 (v := .int .i64 i) rfl rfl rfl (by go_simp) ?_
    refine wpT_callv 12 M0 (v := .int .i64 0) rfl rfl rfl (by go_simp) (lfault_c w B b room L _ (HR.out.below M0.end_) hrm i HQ.out) (fun w1 M2 => ?_)
    refine wpT_valp 9 (v := .int .i64 0) rfl rfl rfl (by go_simp) ?_
    first | dsimp only [wpT] | refine wpT_fin ?_
    try simp only [Act.put, List.setIfInBounds_toArray, List.set_cons_succ, List.set_cons_zero]
    go_upto_region 2 with fail
    refine wp_region_lin (.op 0 (.op 1 .done)) (by rfl) ?_
    refine wpT_valp 13 (v := .int .i64 0) rfl rfl rfl (by go_simp) ?_
    refine wpT_valp 14 (v := .bool false) rfl rfl rfl (by go_simp) ?_
    first | dsimp only [wpT] | refine wpT_fin ?_
    try simp only [Act.put, List.setIfInBounds_toArray, List.set_cons_succ, List.set_cons_zero]
    go_upto_region 4 with fail
    refine wp_region_lin (.op 0 (.op 1 (.op 2 (.op 3 (.op 4 (.op 5 .done)))))) (by rfl) ?_
    refine wpT_valp 16 (v := .int .i64 k) rfl rfl rfl (by go_simp) ?_
    refine wpT_valp 17 (v := .bool false) rfl rfl rfl (by go_simp) ?_
    refine wpT_valp 18 (v := .bool false) rfl rfl rfl (by go_simp) ?_
    refine wpT_valp 19 (v := .int .i64 k) rfl rfl (by simp [Region.wanted, yielded, Act.put]) (by go_simp) ?_
    try simp only [Act.put, List.setIfInBounds_toArray, List.set_cons_succ, List.set_cons_zero]
    refine wpT_valp 20 (v := .bool false) rfl rfl (by simp [Region.wanted, yielded, Act.put]) (by go_simp) ?_
    refine wpT_valp 21 (v := .bool false) rfl rfl rfl (by go_simp) ?_
    first | dsimp only [wpT] | refine wpT_fin ?_
    try simp only [Act.put, List.setIfInBounds_toArray, List.set_cons_succ, List.set_cons_zero]
    go_upto_region 6 with fail
    refine wp_region_lin (.op 0 (.op 1 (.op 2 (.op 3 (.op 4 (.op 5 (.op 6 (.op 7 (.op 8 (.op 9 (.op 10 (.op 11 (.op 12 (.op 13 (.op 14 .done))))))))))))))) (by rfl) ?_
    refine wpT_valp 22 (v := .pointer (some ⟨b, 0, none⟩)) rfl rfl rfl (by go_simp) ?_
    refine wpT_valp 23 (v := .pointer (some ⟨b, 0, none⟩)) rfl rfl rfl (by go_simp) ?_
    refine wpT_valp 24 (v := .pointer (some ⟨b, 1, none⟩)) rfl rfl rfl (by go_simp) ?_
    refine wpT_valp 25 (v := .slice (some ⟨g, 0, none⟩) m c1) rfl rfl rfl (by have c0 := st_c1 (HROW.out _ M2.end_); go_simp) ?_
    try simp only [Act.put, List.setIfInBounds_toArray, List.set_cons_succ, List.set_cons_zero]
    refine wpT_valp 26 (v := .int .i64 i) rfl rfl rfl (by go_simp) ?_
    refine wpT_valp 27 (v := .pointer (some ⟨g, i * 2, none⟩)) rfl rfl rfl (by go_simp) ?_
    refine wpT_valp 28 (v := .pointer (some ⟨g, i * 2 + 1, none⟩)) rfl rfl rfl (by go_simp) ?_
    refine wpT_valp 29 (v := .slice (some ⟨x.g, 0, none⟩) 736 x.c) rfl rfl rfl (by have c0 := HCV.out _ M2.end_; go_simp) ?_
    refine wpT_valp 30 (v := .int .i64 k) rfl rfl rfl (by go_simp) ?_
    try simp only [Act.put, List.setIfInBounds_toArray, List.set_cons_succ, List.set_cons_zero]
    refine wpT_valp 31 (v := .pointer (some ⟨x.g, k, none⟩)) rfl rfl rfl (by go_simp) ?_
    refine wpT_valp 32 (v := U8 p) rfl rfl rfl (by have c0 := HCB.out _ M2.end_; go_simp) ?_
    refine wpT_valp 33 (v := U8 bb) rfl rfl rfl (by go_simp) ?_
    refine wpT_valp 34 (v := U8 (p ^^^ bb)) rfl rfl rfl (by go_simp) ?_
    refine wpT_valp 35 (v := .pointer (some ⟨x.g, k, none⟩)) rfl rfl rfl (by go_simp) ?_
    try simp only [Act.put, List.setIfInBounds_toArray, List.set_cons_succ, List.set_cons_zero]
    obtain ⟨f1, f2, hset⟩ := OB.setc (HOB.out _ M2.end_) HLX.out k HK.out (p ^^^ bb)
    refine wpT_stb (U8 (p ^^^ bb)) inf_u8 rfl rfl rfl (by go_simp) (by go_simp) f2 (by simp [go_sem]) f1 rfl ?_
    have HF3 := hid (HFIN.out _ M2.end_ hset)
    clear hset f1 f2
    obtain ⟨wT, hwT⟩ : ∃ wT, wT = w1.setRow x.g ((w1.rowOf x.g).setIfInBounds k (U8 (p ^^^ bb))) := ⟨_, rfl⟩
    rw [← hwT] at HF3 ⊢
    clear hwT
    first | dsimp only [wpT] | refine wpT_fin ?_
    try simp only [Act.put, List.setIfInBounds_toArray, List.set_cons_succ, List.set_cons_zero]
    go_upto_region 7 with fail
    refine wp_region_lin (.op 0 .done) (by rfl) ?_
    refine wpT_valp 8 (v := .int .i64 0) rfl rfl rfl (by go_simp) ?_
    first | dsimp only [wpT] | refine wpT_fin ?_
    try simp only [Act.put, List.setIfInBounds_toArray, List.set_cons_succ, List.set_cons_zero]
    go_wp2_with fail
    go_ret
    exact HF3.out
  · rw [if_neg hin] at hres
    injection hres with h1 h2
    subst h1; subst h2
    have HQ := hid (show (if 0 ≤ i ∧ i < (L.length : Int) then (0 : Int) else 9) = 9 from if_neg hin)
    clear R hin
    have M0 := Mm.start no w
    go_enter Try.func31, Try.ntmps31
    go_upto_region 1 with fail
    refine wp_region_lin (.op 0 (.op 1 (.op 2 (.op 3 .done)))) (by rfl) ?_
    refine wpT_valp 10 (v := .pointer (some ⟨b, 0, none⟩)) rfl rfl rfl (by go_simp) ?_
    refine wpT_valp 11 (v := .int .i64 i) rfl rfl rfl (by go_simp) ?_
    refine wpT_callv 12 M0 (v := .int .i64 9) rfl rfl rfl (by go_simp) (lfault_c w B b room L _ (HR.out.below M0.end_) hrm i HQ.out) (fun w1 M2 => ?_)
    refine wpT_valp 9 (v := .int .i64 9) rfl rfl rfl (by go_simp) ?_
    first | dsimp only [wpT] | refine wpT_fin ?_
    try simp only [Act.put, List.setIfInBounds_toArray, List.set_cons_succ, List.set_cons_zero]
    go_upto_region 2 with fail
    refine wp_region_lin (.op 0 (.op 1 .done)) (by rfl) ?_
    refine wpT_valp 13 (v := .int .i64 9) rfl rfl rfl (by go_simp) ?_
    refine wpT_valp 14 (v := .bool true) rfl rfl rfl (by go_simp) ?_
    first | dsimp only [wpT] | refine wpT_fin ?_
    try simp only [Act.put, List.setIfInBounds_toArray, List.set_cons_succ, List.set_cons_zero]
    go_upto_region 3 with fail
    refine wp_region_lin (.op 0 (.op 1 .done)) (by rfl) ?_
    refine wpT_valp 15 (v := .int .i64 9) rfl rfl rfl (by go_simp) ?_
    refine wpT_valp 8 (v := .int .i64 9) rfl rfl rfl (by go_simp) ?_
    first | dsimp only [wpT] | refine wpT_fin ?_
    try simp only [Act.put, List.setIfInBounds_toArray, List.set_cons_succ, List.set_cons_zero]
    go_wp2_with fail
    go_ret
    exact LPost.same HR.out M2.end_ _
set_option maxHeartbeats 4000000 in
theorem llen_c (w : World) (B b : Nat) (room : Int) (L : List It) (v : Value) (R : LO w B b room L v) {m : Nat} (hm : L.length = m) :
    Calls Try.prog 36 #[.pointer (some ⟨b, 0, none⟩)] w fun e w' => e = .returned (.int .i64 m) ∧ Below w.heap.size w w' := by
  have HROW : Hid (∀ w', Below w.heap.size w w' → w'.rowOf b = STR room v) := hid fun w' h => (R.below h).rowOf
  obtain ⟨va, vc, hv, _⟩ := R.ao.ow.shape
  rw [hm] at hv
  subst hv
  clear R hm
  have M0 := Mm.start no w
  go_enter Try.func36, Try.ntmps36
  go_upto_region 1 with fail
  refine wp_region_lin (.op 0 (.op 1 .done)) (by rfl) ?_
  refine wpT_valp 3 (v := .pointer (some ⟨b, 0, none⟩)) rfl rfl rfl (by go_simp) ?_
  refine wpT_valp 4 (v := .bool false) rfl rfl rfl (by go_simp) ?_
  first | dsimp only [wpT] | refine wpT_fin ?_
  try simp only [Act.put, List.setIfInBounds_toArray, List.set_cons_succ, List.set_cons_zero]
  go_upto_region 3 with fail
  refine wp_region_lin (.op 0 (.op 1 (.op 2 (.op 3 (.op 4 (.op 5 .done)))))) (by rfl) ?_
  refine wpT_valp 5 (v := .pointer (some ⟨b, 0, none⟩)) rfl rfl rfl (by go_simp) ?_
  refine wpT_valp 6 (v := .pointer (some ⟨b, 0, none⟩)) rfl rfl rfl (by go_simp) ?_
  refine wpT_valp 7 (v := .pointer (some ⟨b, 1, none⟩)) rfl rfl rfl (by go_simp) ?_
  refine wpT_valp 8 (v := .slice va m vc) rfl rfl rfl (by have c0 := st_c1 (HROW.out _ M0.end_); go_simp) ?_
  try simp only [Act.put, List.setIfInBounds_toArray, List.set_cons_succ, List.set_cons_zero]
  refine wpT_valp 9 (v := .int .i64 m) rfl rfl rfl (by go_simp) ?_
  refine wpT_valp 2 (v := .int .i64 m) rfl rfl rfl (by go_simp) ?_
  first | dsimp only [wpT] | refine wpT_fin ?_
  try simp only [Act.put, List.setIfInBounds_toArray, List.set_cons_succ, List.set_cons_zero]
  go_wp2_with fail
  go_ret
  exact ⟨rfl, M0.end_⟩
set_option maxHeartbeats 4000000 in
theorem ltake_b (w : World) (q : Value) (hq : BadL w q) (i : Int) :
    Calls Try.prog 24 #[q, .int .i64 i] w fun e w' => e = .returned (.tuple #[.agg (ITR 0 (.slice none 0 0)), .int .i64 1]) ∧ Below w.heap.size w w' := by
  have HQB := hid hq
  rcases hq with rfl | ⟨b, rfl, hrow, hb⟩
  ·
    have M0 := Mm.start no w
    go_enter Try.func24, Try.ntmps24
    have M2 := (M0.alloc (ITR 0 (.slice none 0 0)) 72 (by decide))
    try simp only [World.size_alloc] at M2
    go_upto_region 1 with fail
    obtain ⟨w1, hw1⟩ : ∃ w1, w1 = (w.alloc (.cells (ITR 0 (.slice none 0 0)) 72)) := ⟨_, rfl⟩
    rw [← hw1] at M2 ⊢
    clear hw1
    refine wp_region_lin (.op 0 (.op 1 (.op 2 (.op 3 .done)))) (by rfl) ?_
    refine wpT_valp 8 (v := .pointer none) rfl rfl rfl (by go_simp) ?_
    refine wpT_valp 9 (v := .int .i64 i) rfl rfl rfl (by go_simp) ?_
    refine wpT_callv 10 M2 (v := .int .i64 1) rfl rfl rfl (by go_simp) (lfault_b w1 _ (HQB.out.below M2.end_) i) (fun w3 M4 => ?_)
    refine wpT_valp 6 (v := .int .i64 1) rfl rfl rfl (by go_simp) ?_
    first | dsimp only [wpT] | refine wpT_fin ?_
    try simp only [Act.put, List.setIfInBounds_toArray, List.set_cons_succ, List.set_cons_zero]
    go_upto_region 2 with fail
    refine wp_region_lin (.op 0 (.op 1 .done)) (by rfl) ?_
    refine wpT_valp 11 (v := .int .i64 1) rfl rfl rfl (by go_simp) ?_
    refine wpT_valp 12 (v := .bool true) rfl rfl rfl (by go_simp) ?_
    first | dsimp only [wpT] | refine wpT_fin ?_
    try simp only [Act.put, List.setIfInBounds_toArray, List.set_cons_succ, List.set_cons_zero]
    go_upto_region 3 with fail
    refine wp_region_lin (.op 0 (.op 1 (.op 2 (.op 3 .done)))) (by rfl) ?_
    refine wpT_valL 13 (v := .agg (ITR 0 (.slice none 0 0))) rfl rfl rfl (by have q := xb_itm0 w3; go_simp) ?_
    refine wpT_valp 14 (v := .int .i64 1) rfl rfl rfl (by go_simp) ?_
    refine wpT_st0 M4 0 (ITR 0 (.slice none 0 0)) inf_itm rfl rfl rfl rfl (by go_simp) (by go_simp) (by simp [ITR_size, STR_size, RSR_size, AC6_size]) (by simp [ITR_size, STR_size, RSR_size, AC6_size]) (by simp [go_sem]) rfl (fun w5 M6 => ?_)
    dsimp only [List.set] at M6
    refine wpT_valp 5 (v := .int .i64 1) rfl rfl rfl (by go_simp) ?_
    first | dsimp only [wpT] | refine wpT_fin ?_
    try simp only [Act.put, List.setIfInBounds_toArray, List.set_cons_succ, List.set_cons_zero]
    go_wp2_with fail
    have r7 := M6.row (b := w.heap.size) (c := ITR 0 (.slice none 0 0)) (by simp)
    refine bodyPost_ret (res_two rfl (rv_row Try.underlying72 rfl inf_itm (w.heap.size) rfl (by rw [r7]; simp [ITR_size, STR_size, RSR_size, AC6_size])) (rv_tmp _ _ rfl)) rfl ?_
    rw [r7]
    exact ⟨rfl, M6.end_⟩
  · have HROW : Hid (∀ w', Below w.heap.size w w' → w'.rowOf b = STR 0 (.slice none 0 0)) := hid fun w' h => (below_row h hb).trans hrow
    clear hrow
    have M0 := Mm.start no w
    go_enter Try.func24, Try.ntmps24
    have M2 := (M0.alloc (ITR 0 (.slice none 0 0)) 72 (by decide))
    try simp only [World.size_alloc] at M2
    go_upto_region 1 with fail
    obtain ⟨w1, hw1⟩ : ∃ w1, w1 = (w.alloc (.cells (ITR 0 (.slice none 0 0)) 72)) := ⟨_, rfl⟩
    rw [← hw1] at M2 ⊢
    clear hw1
    refine wp_region_lin (.op 0 (.op 1 (.op 2 (.op 3 .done)))) (by rfl) ?_
    refine wpT_valp 8 (v := .pointer (some ⟨b, 0, none⟩)) rfl rfl rfl (by go_simp) ?_
    refine wpT_valp 9 (v := .int .i64 i) rfl rfl rfl (by go_simp) ?_
    refine wpT_callv 10 M2 (v := .int .i64 1) rfl rfl rfl (by go_simp) (lfault_b w1 _ (HQB.out.below M2.end_) i) (fun w3 M4 => ?_)
    refine wpT_valp 6 (v := .int .i64 1) rfl rfl rfl (by go_simp) ?_
    first | dsimp only [wpT] | refine wpT_fin ?_
    try simp only [Act.put, List.setIfInBounds_toArray, List.set_cons_succ, List.set_cons_zero]
    go_upto_region 2 with fail
    refine wp_region_lin (.op 0 (.op 1 .done)) (by rfl) ?_
    refine wpT_valp 11 (v := .int .i64 1) rfl rfl rfl (by go_simp) ?_
    refine wpT_valp 12 (v := .bool true) rfl rfl rfl (by go_simp) ?_
    first | dsimp only [wpT] | refine wpT_fin ?_
    try simp only [Act.put, List.setIfInBounds_toArray, List.set_cons_succ, List.set_cons_zero]
    go_upto_region 3 with fail
    refine wp_region_lin (.op 0 (.op 1 (.op 2 (.op 3 .done)))) (by rfl) ?_
    refine wpT_valL 13 (v := .agg (ITR 0 (.slice none 0 0))) rfl rfl rfl (by have q := xb_itm0 w3; go_simp) ?_
    refine wpT_valp 14 (v := .int .i64 1) rfl rfl rfl (by go_simp) ?_
    refine wpT_st0 M4 0 (ITR 0 (.slice none 0 0)) inf_itm rfl rfl rfl rfl (by go_simp) (by go_simp) (by simp [ITR_size, STR_size, RSR_size, AC6_size]) (by simp [ITR_size, STR_size, RSR_size, AC6_size]) (by simp [go_sem]) rfl (fun w5 M6 => ?_)
    dsimp only [List.set] at M6
    refine wpT_valp 5 (v := .int .i64 1) rfl rfl rfl (by go_simp) ?_
    first | dsimp only [wpT] | refine wpT_fin ?_
    try simp only [Act.put, List.setIfInBounds_toArray, List.set_cons_succ, List.set_cons_zero]
    go_wp2_with fail
    have r7 := M6.row (b := w.heap.size) (c := ITR 0 (.slice none 0 0)) (by simp)
    refine bodyPost_ret (res_two rfl (rv_row Try.underlying72 rfl inf_itm (w.heap.size) rfl (by rw [r7]; simp [ITR_size, STR_size, RSR_size, AC6_size])) (rv_tmp _ _ rfl)) rfl ?_
    rw [r7]
    exact ⟨rfl, M6.end_⟩
set_option maxHeartbeats 4000000 in
theorem ltwice_b (w : World) (q : Value) (hq : BadL w q) (i : Int) :
    Calls Try.prog 29 #[q, .int .i64 i] w fun e w' => e = .returned (.int .i64 1) ∧ Below w.heap.size w w' := by
  have HQB := hid hq
  rcases hq with rfl | ⟨b, rfl, hrow, hb⟩
  ·
    have M0 := Mm.start no w
    go_enter Try.func29, Try.ntmps29
    go_upto_region 1 with fail
    refine wp_region_lin (.op 0 (.op 1 (.op 2 (.op 3 .done)))) (by rfl) ?_
    refine wpT_valp 6 (v := .pointer none) rfl rfl rfl (by go_simp) ?_
    refine wpT_valp 7 (v := .int .i64 i) rfl rfl rfl (by go_simp) ?_
    refine wpT_callv 8 M0 (v := .int .i64 1) rfl rfl rfl (by go_simp) (lfault_b w _ (HQB.out.below M0.end_) i) (fun w1 M2 => ?_)
    refine wpT_valp 5 (v := .int .i64 1) rfl rfl rfl (by go_simp) ?_
    first | dsimp only [wpT] | refine wpT_fin ?_
    try simp only [Act.put, List.setIfInBounds_toArray, List.set_cons_succ, List.set_cons_zero]
    go_upto_region 2 with fail
    refine wp_region_lin (.op 0 (.op 1 .done)) (by rfl) ?_
    refine wpT_valp 9 (v := .int .i64 1) rfl rfl rfl (by go_simp) ?_
    refine wpT_valp 10 (v := .bool true) rfl rfl rfl (by go_simp) ?_
    first | dsimp only [wpT] | refine wpT_fin ?_
    try simp only [Act.put, List.setIfInBounds_toArray, List.set_cons_succ, List.set_cons_zero]
    go_upto_region 3 with fail
    refine wp_region_lin (.op 0 (.op 1 .done)) (by rfl) ?_
    refine wpT_valp 11 (v := .int .i64 1) rfl rfl rfl (by go_simp) ?_
    refine wpT_valp 4 (v := .int .i64 1) rfl rfl rfl (by go_simp) ?_
    first | dsimp only [wpT] | refine wpT_fin ?_
    try simp only [Act.put, List.setIfInBounds_toArray, List.set_cons_succ, List.set_cons_zero]
    go_wp2_with fail
    go_ret
    exact ⟨rfl, M2.end_⟩
  · have HROW : Hid (∀ w', Below w.heap.size w w' → w'.rowOf b = STR 0 (.slice none 0 0)) := hid fun w' h => (below_row h hb).trans hrow
    clear hrow
    have M0 := Mm.start no w
    go_enter Try.func29, Try.ntmps29
    go_upto_region 1 with fail
    refine wp_region_lin (.op 0 (.op 1 (.op 2 (.op 3 .done)))) (by rfl) ?_
    refine wpT_valp 6 (v := .pointer (some ⟨b, 0, none⟩)) rfl rfl rfl (by go_simp) ?_
    refine wpT_valp 7 (v := .int .i64 i) rfl rfl rfl (by go_simp) ?_
    refine wpT_callv 8 M0 (v := .int .i64 1) rfl rfl rfl (by go_simp) (lfault_b w _ (HQB.out.below M0.end_) i) (fun w1 M2 => ?_)
    refine wpT_valp 5 (v := .int .i64 1) rfl rfl rfl (by go_simp) ?_
    first | dsimp only [wpT] | refine wpT_fin ?_
    try simp only [Act.put, List.setIfInBounds_toArray, List.set_cons_succ, List.set_cons_zero]
    go_upto_region 2 with fail
    refine wp_region_lin (.op 0 (.op 1 .done)) (by rfl) ?_
    refine wpT_valp 9 (v := .int .i64 1) rfl rfl rfl (by go_simp) ?_
    refine wpT_valp 10 (v := .bool true) rfl rfl rfl (by go_simp) ?_
    first | dsimp only [wpT] | refine wpT_fin ?_
    try simp only [Act.put, List.setIfInBounds_toArray, List.set_cons_succ, List.set_cons_zero]
    go_upto_region 3 with fail
    refine wp_region_lin (.op 0 (.op 1 .done)) (by rfl) ?_
    refine wpT_valp 11 (v := .int .i64 1) rfl rfl rfl (by go_simp) ?_
    refine wpT_valp 4 (v := .int .i64 1) rfl rfl rfl (by go_simp) ?_
    first | dsimp only [wpT] | refine wpT_fin ?_
    try simp only [Act.put, List.setIfInBounds_toArray, List.set_cons_succ, List.set_cons_zero]
    go_wp2_with fail
    go_ret
    exact ⟨rfl, M2.end_⟩
set_option maxHeartbeats 4000000 in
theorem lturn_b (w : World) (q : Value) (hq : BadL w q) (i at_ : Int) (bb : Value) :
    Calls Try.prog 31 #[q, .int .i64 i, .int .i64 at_, bb] w fun e w' => e = .returned (.int .i64 1) ∧ Below w.heap.size w w' := by
  have HQB := hid hq
  rcases hq with rfl | ⟨b, rfl, hrow, hb⟩
  ·
    have M0 := Mm.start no w
    go_enter Try.func31, Try.ntmps31
    go_upto_region 1 with fail
    refine wp_region_lin (.op 0 (.op 1 (.op 2 (.op 3 .done)))) (by rfl) ?_
    refine wpT_valp 10 (v := .pointer none) rfl rfl rfl (by go_simp) ?_
    refine wpT_valp 11 (v := .int .i64 i) rfl rfl rfl (by go_simp) ?_
    refine wpT_callv 12 M0 (v := .int .i64 1) rfl rfl rfl (by go_simp) (lfault_b w _ (HQB.out.below M0.end_) i) (fun w1 M2 => ?_)
    refine wpT_valp 9 (v := .int .i64 1) rfl rfl rfl (by go_simp) ?_
    first | dsimp only [wpT] | refine wpT_fin ?_
    try simp only [Act.put, List.setIfInBounds_toArray, List.set_cons_succ, List.set_cons_zero]
    go_upto_region 2 with fail
    refine wp_region_lin (.op 0 (.op 1 .done)) (by rfl) ?_
    refine wpT_valp 13 (v := .int .i64 1) rfl rfl rfl (by go_simp) ?_
    refine wpT_valp 14 (v := .bool true) rfl rfl rfl (by go_simp) ?_
    first | dsimp only [wpT] | refine wpT_fin ?_
    try simp only [Act.put, List.setIfInBounds_toArray, List.set_cons_succ, List.set_cons_zero]
    go_upto_region 3 with fail
    refine wp_region_lin (.op 0 (.op 1 .done)) (by rfl) ?_
    refine wpT_valp 15 (v := .int .i64 1) rfl rfl rfl (by go_simp) ?_
    refine wpT_valp 8 (v := .int .i64 1) rfl rfl rfl (by go_simp) ?_
    first | dsimp only [wpT] | refine wpT_fin ?_
    try simp only [Act.put, List.setIfInBounds_toArray, List.set_cons_succ, List.set_cons_zero]
    go_wp2_with fail
    go_ret
    exact ⟨rfl, M2.end_⟩
  · have HROW : Hid (∀ w', Below w.heap.size w w' → w'.rowOf b = STR 0 (.slice none 0 0)) := hid fun w' h => (below_row h hb).trans hrow
    clear hrow
    have M0 := Mm.start no w
    go_enter Try.func31, Try.ntmps31
    go_upto_region 1 with fail
    refine wp_region_lin (.op 0 (.op 1 (.op 2 (.op 3 .done)))) (by rfl) ?_
    refine wpT_valp 10 (v := .pointer (some ⟨b, 0, none⟩)) rfl rfl rfl (by go_simp) ?_
    refine wpT_valp 11 (v := .int .i64 i) rfl rfl rfl (by go_simp) ?_
    refine wpT_callv 12 M0 (v := .int .i64 1) rfl rfl rfl (by go_simp) (lfault_b w _ (HQB.out.below M0.end_) i) (fun w1 M2 => ?_)
    refine wpT_valp 9 (v := .int .i64 1) rfl rfl rfl (by go_simp) ?_
    first | dsimp only [wpT] | refine wpT_fin ?_
    try simp only [Act.put, List.setIfInBounds_toArray, List.set_cons_succ, List.set_cons_zero]
    go_upto_region 2 with fail
    refine wp_region_lin (.op 0 (.op 1 .done)) (by rfl) ?_
    refine wpT_valp 13 (v := .int .i64 1) rfl rfl rfl (by go_simp) ?_
    refine wpT_valp 14 (v := .bool true) rfl rfl rfl (by go_simp) ?_
    first | dsimp only [wpT] | refine wpT_fin ?_
    try simp only [Act.put, List.setIfInBounds_toArray, List.set_cons_succ, List.set_cons_zero]
    go_upto_region 3 with fail
    refine wp_region_lin (.op 0 (.op 1 .done)) (by rfl) ?_
    refine wpT_valp 15 (v := .int .i64 1) rfl rfl rfl (by go_simp) ?_
    refine wpT_valp 8 (v := .int .i64 1) rfl rfl rfl (by go_simp) ?_
    first | dsimp only [wpT] | refine wpT_fin ?_
    try simp only [Act.put, List.setIfInBounds_toArray, List.set_cons_succ, List.set_cons_zero]
    go_wp2_with fail
    go_ret
    exact ⟨rfl, M2.end_⟩
set_option maxHeartbeats 4000000 in
theorem llen_b (w : World) (q : Value) (hq : BadL w q)  :
    Calls Try.prog 36 #[q] w fun e w' => e = .returned (.int .i64 0) ∧ Below w.heap.size w w' := by
  have HQB := hid hq
  rcases hq with rfl | ⟨b, rfl, hrow, hb⟩
  ·
    have M0 := Mm.start no w
    go_enter Try.func36, Try.ntmps36
    go_upto_region 1 with fail
    refine wp_region_lin (.op 0 (.op 1 .done)) (by rfl) ?_
    refine wpT_valp 3 (v := .pointer none) rfl rfl rfl (by go_simp) ?_
    refine wpT_valp 4 (v := .bool true) rfl rfl rfl (by go_simp) ?_
    first | dsimp only [wpT] | refine wpT_fin ?_
    try simp only [Act.put, List.setIfInBounds_toArray, List.set_cons_succ, List.set_cons_zero]
    go_upto_region 2 with fail
    refine wp_region_lin (.op 0 .done) (by rfl) ?_
    refine wpT_valp 2 (v := .int .i64 0) rfl rfl rfl (by go_simp) ?_
    first | dsimp only [wpT] | refine wpT_fin ?_
    try simp only [Act.put, List.setIfInBounds_toArray, List.set_cons_succ, List.set_cons_zero]
    go_wp2_with fail
    go_ret
    exact ⟨rfl, M0.end_⟩
  · have HROW : Hid (∀ w', Below w.heap.size w w' → w'.rowOf b = STR 0 (.slice none 0 0)) := hid fun w' h => (below_row h hb).trans hrow
    clear hrow
    have M0 := Mm.start no w
    go_enter Try.func36, Try.ntmps36
    go_upto_region 1 with fail
    refine wp_region_lin (.op 0 (.op 1 .done)) (by rfl) ?_
    refine wpT_valp 3 (v := .pointer (some ⟨b, 0, none⟩)) rfl rfl rfl (by go_simp) ?_
    refine wpT_valp 4 (v := .bool false) rfl rfl rfl (by go_simp) ?_
    first | dsimp only [wpT] | refine wpT_fin ?_
    try simp only [Act.put, List.setIfInBounds_toArray, List.set_cons_succ, List.set_cons_zero]
    go_upto_region 3 with fail
    refine wp_region_lin (.op 0 (.op 1 (.op 2 (.op 3 (.op 4 (.op 5 .done)))))) (by rfl) ?_
    refine wpT_valp 5 (v := .pointer (some ⟨b, 0, none⟩)) rfl rfl rfl (by go_simp) ?_
    refine wpT_valp 6 (v := .pointer (some ⟨b, 0, none⟩)) rfl rfl rfl (by go_simp) ?_
    refine wpT_valp 7 (v := .pointer (some ⟨b, 1, none⟩)) rfl rfl rfl (by go_simp) ?_
    refine wpT_valp 8 (v := .slice none 0 0) rfl rfl rfl (by have c0 := st_c1 (HROW.out _ M0.end_); go_simp) ?_
    try simp only [Act.put, List.setIfInBounds_toArray, List.set_cons_succ, List.set_cons_zero]
    refine wpT_valp 9 (v := .int .i64 0) rfl rfl rfl (by go_simp) ?_
    refine wpT_valp 2 (v := .int .i64 0) rfl rfl rfl (by go_simp) ?_
    first | dsimp only [wpT] | refine wpT_fin ?_
    try simp only [Act.put, List.setIfInBounds_toArray, List.set_cons_succ, List.set_cons_zero]
    go_wp2_with fail
    go_ret
    exact ⟨rfl, M0.end_⟩
set_option maxHeartbeats 4000000 in
theorem lput_b (w : World) (q : Value) (hq : BadL w q) (too : Int) (ua : Option Addr) (un uc : Nat) :
    Calls Try.prog 34 #[q, .agg (ITR too (.slice ua un uc))] w fun e w' => e = .returned (.int .i64 1) ∧ Below w.heap.size w w' := by
  have HQB := hid hq
  rcases hq with rfl | ⟨b, rfl, hrow, hb⟩
  ·
    have M0 := Mm.start no w
    go_enter Try.func34, Try.ntmps34
    have M2 := (M0.alloc (ITR too (.slice ua un uc)) 72 (by decide))
    try simp only [World.size_alloc] at M2
    go_upto_region 1 with fail
    obtain ⟨w1, hw1⟩ : ∃ w1, w1 = (w.alloc (.cells (ITR too (.slice ua un uc)) 72)) := ⟨_, rfl⟩
    rw [← hw1] at M2 ⊢
    clear hw1
    refine wp_region_lin (.op 0 (.op 1 (.op 2 (.op 3 (.op 4 (.op 5 (.op 6 (.op 7 (.op 8 (.op 9 .done)))))))))) (by rfl) ?_
    refine wpT_valp 6 (v := .pointer none) rfl rfl rfl (by go_simp) ?_
    refine wpT_valp 7 (v := .bool true) rfl rfl rfl (by go_simp) ?_
    refine wpT_valp 8 (v := .bool true) rfl rfl rfl (by go_simp) ?_
    refine wpT_unx 9 rfl rfl (by simp [Region.wanted, yielded, Act.put]) ?_
    try simp only [Act.put, List.setIfInBounds_toArray, List.set_cons_succ, List.set_cons_zero]
    refine wpT_unx 10 rfl rfl (by simp [Region.wanted, yielded, Act.put]) ?_
    try simp only [Act.put, List.setIfInBounds_toArray, List.set_cons_succ, List.set_cons_zero]
    refine wpT_unx 11 rfl rfl (by simp [Region.wanted, yielded, Act.put]) ?_
    try simp only [Act.put, List.setIfInBounds_toArray, List.set_cons_succ, List.set_cons_zero]
    refine wpT_unx 12 rfl rfl (by simp [Region.wanted, yielded, Act.put]) ?_
    try simp only [Act.put, List.setIfInBounds_toArray, List.set_cons_succ, List.set_cons_zero]
    refine wpT_unx 13 rfl rfl (by simp [Region.wanted, yielded, Act.put]) ?_
    try simp only [Act.put, List.setIfInBounds_toArray, List.set_cons_succ, List.set_cons_zero]
    refine wpT_valp 14 (v := .bool true) rfl rfl rfl (by go_simp) ?_
    refine wpT_valp 5 (v := .bool true) rfl rfl rfl (by go_simp) ?_
    first | dsimp only [wpT] | refine wpT_fin ?_
    try simp only [Act.put, List.setIfInBounds_toArray, List.set_cons_succ, List.set_cons_zero]
    go_upto_region 2 with fail
    refine wp_region_lin (.op 0 .done) (by rfl) ?_
    refine wpT_valp 4 (v := .int .i64 1) rfl rfl rfl (by go_simp) ?_
    first | dsimp only [wpT] | refine wpT_fin ?_
    try simp only [Act.put, List.setIfInBounds_toArray, List.set_cons_succ, List.set_cons_zero]
    go_wp2_with fail
    go_ret
    exact ⟨rfl, M2.end_⟩
  · have HROW : Hid (∀ w', Below w.heap.size w w' → w'.rowOf b = STR 0 (.slice none 0 0)) := hid fun w' h => (below_row h hb).trans hrow
    clear hrow
    have M0 := Mm.start no w
    go_enter Try.func34, Try.ntmps34
    have M2 := (M0.alloc (ITR too (.slice ua un uc)) 72 (by decide))
    try simp only [World.size_alloc] at M2
    go_upto_region 1 with fail
    obtain ⟨w1, hw1⟩ : ∃ w1, w1 = (w.alloc (.cells (ITR too (.slice ua un uc)) 72)) := ⟨_, rfl⟩
    rw [← hw1] at M2 ⊢
    clear hw1
    refine wp_region_lin (.op 0 (.op 1 (.op 2 (.op 3 (.op 4 (.op 5 (.op 6 (.op 7 (.op 8 (.op 9 .done)))))))))) (by rfl) ?_
    refine wpT_valp 6 (v := .pointer (some ⟨b, 0, none⟩)) rfl rfl rfl (by go_simp) ?_
    refine wpT_valp 7 (v := .bool false) rfl rfl rfl (by go_simp) ?_
    refine wpT_valp 8 (v := .bool false) rfl rfl rfl (by go_simp) ?_
    refine wpT_valp 9 (v := .pointer (some ⟨b, 0, none⟩)) rfl rfl (by simp [Region.wanted, yielded, Act.put]) (by go_simp) ?_
    try simp only [Act.put, List.setIfInBounds_toArray, List.set_cons_succ, List.set_cons_zero]
    refine wpT_valp 10 (v := .pointer (some ⟨b, 0, none⟩)) rfl rfl (by simp [Region.wanted, yielded, Act.put]) (by go_simp) ?_
    refine wpT_valp 11 (v := .pointer (some ⟨b, 0, none⟩)) rfl rfl (by simp [Region.wanted, yielded, Act.put]) (by go_simp) ?_
    refine wpT_valp 12 (v := .int .i64 0) rfl rfl (by simp [Region.wanted, yielded, Act.put]) (by have c0 := st_c0 (HROW.out _ M2.end_); go_simp) ?_
    refine wpT_valp 13 (v := .bool true) rfl rfl (by simp [Region.wanted, yielded, Act.put]) (by go_simp) ?_
    refine wpT_valp 14 (v := .bool true) rfl rfl rfl (by go_simp) ?_
    try simp only [Act.put, List.setIfInBounds_toArray, List.set_cons_succ, List.set_cons_zero]
    refine wpT_valp 5 (v := .bool true) rfl rfl rfl (by go_simp) ?_
    first | dsimp only [wpT] | refine wpT_fin ?_
    try simp only [Act.put, List.setIfInBounds_toArray, List.set_cons_succ, List.set_cons_zero]
    go_upto_region 2 with fail
    refine wp_region_lin (.op 0 .done) (by rfl) ?_
    refine wpT_valp 4 (v := .int .i64 1) rfl rfl rfl (by go_simp) ?_
    first | dsimp only [wpT] | refine wpT_fin ?_
    try simp only [Act.put, List.setIfInBounds_toArray, List.set_cons_succ, List.set_cons_zero]
    go_wp2_with fail
    go_ret
    exact ⟨rfl, M2.end_⟩
end Go.Proofs.Ytojkcbhmhfjioaa
