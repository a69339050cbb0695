/-
  Law 14: EpochFew; own work.
-/
import Derived.Test.YtgclegdgngldoaaDoorL14d
set_option linter.unusedSimpArgs false
set_option linter.unusedVariables false
namespace Go.Proofs.YtgclegdgngldoaaDoor
open Go.RowKit Fp
attribute [local irreducible] ESL EPS ROR ACT
set_option maxRecDepth 100000 in
set_option maxHeartbeats 8000000 in
theorem EpochFew_w (w : World) (k : L8) (x0 : Int) (va : Value) (acts : List (Int × Int)) (hT : KT w ∧ 0 < w.heap.size) (hk : k.length = 32) (hv : SV w va acts.length (fl eA acts)) (har : ∀ p ∈ acts, 0 ≤ p.1 ∧ p.1 < 256) :
    Calls Tryd.prog 7 #[.agg (cs U8 k), .int .i64 x0, va] w fun e w' => e = .returned (.bool true) ∧ Below w.heap.size w w' := by
  have HT := hid hT
  by_cases hx0 : 0 ≤ x0 ∧ x0 ≤ 1099511627776
  case neg =>
    have HCK := hid (decide_eq_false hx0)
    obtain ⟨x, hxx⟩ : ∃ x, x = x0 := ⟨_, rfl⟩
    rw [← hxx] at hx0 HCK ⊢
    have hx := hx0
    clear hT hxx hx0
    have M0 := Mm.start no w
    go_enter Tryd.func7, Tryd.ntmps7
    have M2 := (M0.alloc (cs U8 k) 23 (by decide))
    try simp only [World.size_alloc] at M2
    go_upto_region 1 with fail
    obtain ⟨w1, hw1⟩ : ∃ w1, w1 = (w.alloc (.cells (cs U8 k) 23)) := ⟨_, rfl⟩
    rw [← hw1] at M2 ⊢
    clear hw1
    refine wp_region_lin (.op 0 (.op 1 .done)) (by rfl) ?_
    refine wpT_callv 15 M2 (v := .bool true) rfl rfl rfl (by go_simp) (alive14_v HT.out M2.end_) (fun w3 M4 => ?_)
    refine wpT_valp 16 (v := .bool false) rfl rfl rfl (by go_simp) ?_
    dsimp only [wpT]
    try simp only [Act.put, List.setIfInBounds_toArray, List.set_cons_succ, List.set_cons_zero]
    go_upto_region 3 with fail
    refine wp_region_lin (.op 0 (.op 1 (.op 2 (.op 3 .done)))) (by rfl) ?_
    refine wpT_ld0 17 Tryd.underlying23 rfl inf_key (w.heap.size) (cs U8 k) rfl rfl rfl (by go_simp) (M4.row (b := w.heap.size) (c := cs U8 k) (by simp)) (by simp [hk, ROR_size, EPS_size, ACT_size, Ep.pub_len]) rfl ?_
    refine wpT_valp 18 (v := .int .i64 x) rfl rfl rfl (by go_simp) ?_
    refine wpT_callv 19 M4 (v := .pointer none) rfl rfl rfl (by go_simp) (new_bad w3 k x hk hx) (fun w5 M6 => ?_)
    refine wpT_valp 7 (v := .pointer none) rfl rfl rfl (by go_simp) ?_
    dsimp only [wpT]
    try simp only [Act.put, List.setIfInBounds_toArray, List.set_cons_succ, List.set_cons_zero]
    go_upto_region 4 with fail
    refine wp_region_lin (.op 0 (.op 1 .done)) (by rfl) ?_
    refine wpT_valp 20 (v := .pointer none) rfl rfl rfl (by go_simp) ?_
    refine wpT_valp 21 (v := .bool true) rfl rfl rfl (by go_simp) ?_
    dsimp only [wpT]
    try simp only [Act.put, List.setIfInBounds_toArray, List.set_cons_succ, List.set_cons_zero]
    go_upto_region 5 with fail
    refine wp_region_lin (.op 0 (.op 1 (.op 2 (.op 3 .done)))) (by rfl) ?_
    refine wpT_valp 22 (v := .int .i64 x) rfl rfl rfl (by go_simp) ?_
    refine wpT_callv 23 M6 (v := .bool false) rfl rfl rfl (by go_simp) (clock_b w5 _ HCK.out) (fun w7 M8 => ?_)
    refine wpT_valp 24 (v := .bool true) rfl rfl rfl (by go_simp) ?_
    refine wpT_valp 6 (v := .bool true) rfl rfl rfl (by go_simp) ?_
    dsimp only [wpT]
    try simp only [Act.put, List.setIfInBounds_toArray, List.set_cons_succ, List.set_cons_zero]
    go_wp2_with fail
    go_ret
    exact ⟨rfl, M8.end_⟩
  case pos =>
    obtain ⟨x, rfl⟩ : ∃ x : Nat, x0 = x := ⟨x0.toNat, by omega⟩
    have hx : x ≤ 1099511627776 := by omega
    have HT3 := hid (show KT w ∧ 0 < w.heap.size ∧ w.heap.size ≤ w.heap.size from ⟨hT.1, hT.2, Nat.le_refl _⟩)
    obtain ⟨n0, hn0⟩ : ∃ n, acts.length = n := ⟨_, rfl⟩
    rw [hn0] at hv
    obtain ⟨aa, ca, rfl, hca, hcm, _⟩ := id hv
    have hn0m : n0 ≤ 9223372036854775807 := by unfold maxLen at hcm; omega
    have HV0 := hid hv
    have HAR := hid har
    clear hT hv har hca hcm hx0
    have M0 := Mm.start no w
    go_enter Tryd.func7, Tryd.ntmps7
    have M2 := (M0.alloc (cs U8 k) 23 (by decide))
    try simp only [World.size_alloc] at M2
    go_upto_region 1 with fail
    obtain ⟨w1, hw1⟩ : ∃ w1, w1 = (w.alloc (.cells (cs U8 k) 23)) := ⟨_, rfl⟩
    rw [← hw1] at M2 ⊢
    clear hw1
    refine wp_region_lin (.op 0 (.op 1 .done)) (by rfl) ?_
    refine wpT_callv 15 M2 (v := .bool true) rfl rfl rfl (by go_simp) (alive14_v HT.out M2.end_) (fun w3 M4 => ?_)
    refine wpT_valp 16 (v := .bool false) rfl rfl rfl (by go_simp) ?_
    dsimp only [wpT]
    try simp only [Act.put, List.setIfInBounds_toArray, List.set_cons_succ, List.set_cons_zero]
    go_upto_region 3 with fail
    refine wp_region_lin (.op 0 (.op 1 (.op 2 (.op 3 .done)))) (by rfl) ?_
    refine wpT_ld0 17 Tryd.underlying23 rfl inf_key (w.heap.size) (cs U8 k) rfl rfl rfl (by go_simp) (M4.row (b := w.heap.size) (c := cs U8 k) (by simp)) (by simp [hk, ROR_size, EPS_size, ACT_size, Ep.pub_len]) rfl ?_
    refine wpT_valp 18 (v := .int .i64 x) rfl rfl rfl (by go_simp) ?_
    refine wpT_ronew (t' := x) (n' := 1) 19 M4 rfl rfl rfl (by go_simp) (new_v HT.out M4.end_ hk x x rfl hx) rfl (fun gb g0 c0 cu0 wg0 hgb R0 Mg0 => ?_)
    refine wpT_valp 7 (v := .pointer (some ⟨gb, 0, none⟩)) rfl rfl rfl (by go_simp) ?_
    dsimp only [wpT]
    try simp only [Act.put, List.setIfInBounds_toArray, List.set_cons_succ, List.set_cons_zero]
    go_upto_region 4 with fail
    refine wp_region_lin (.op 0 (.op 1 .done)) (by rfl) ?_
    refine wpT_valp 20 (v := .pointer (some ⟨gb, 0, none⟩)) rfl rfl rfl (by go_simp) ?_
    refine wpT_valp 21 (v := .bool false) rfl rfl rfl (by go_simp) ?_
    dsimp only [wpT]
    try simp only [Act.put, List.setIfInBounds_toArray, List.set_cons_succ, List.set_cons_zero]
    go_upto_region 6 with fail
    refine wp_region_lin (.op 0 (.op 1 (.op 2 .done))) (by rfl) ?_
    refine wpT_valp 25 (v := .int .i64 x) rfl rfl rfl (by go_simp) ?_
    refine wpT_valp 8 (v := .int .i64 x) rfl rfl rfl (by go_simp) ?_
    refine wpT_valp 9 (v := .int .i64 0) rfl rfl rfl (by go_simp) ?_
    dsimp only [wpT]
    try simp only [Act.put, List.setIfInBounds_toArray, List.set_cons_succ, List.set_cons_zero]
    go_upto_region 7 with fail
    refine wp_region_lin (.op 0 .done) (by rfl) ?_
    refine wpT_valp 10 (v := .int .i64 0) rfl rfl rfl (by go_simp) ?_
    dsimp only [wpT]
    try simp only [Act.put, List.setIfInBounds_toArray, List.set_cons_succ, List.set_cons_zero]
    go_wp2_with fail
    go_loopw [8, 9, 10] (fun x8 x9 x10 wr => ∃ (i g c : Nat) (cur : Array Value) (hg n : Nat) (L : List Ep.Sl) (t : Nat), i ≤ 40 ∧ x10 = .int .i64 i ∧ x8 = .int .i64 t ∧ x9 = .int .i64 hg ∧ Rw w.heap.size 67 (.slice (some ⟨g, 0, none⟩) n c) n (fl (e67 k) L) g c cur ∧ L.length = n ∧ Ep.Good L t ∧ hg = Ep.gen0 L ∧ Ep.gen0 L ≤ i ∧
      Mm no w [(g, cur), (gb, ROR k (.slice (some ⟨g, 0, none⟩) n c) t), (w.heap.size, cs U8 k)] wr) (fun _ _ x _ => 40 - (intOf x).toNat)
    case atStart => exact ⟨0, g0, c0, cu0, 0, 1, [⟨0, x⟩], x, by omega, rfl, rfl, rfl, R0, rfl, .one hx, rfl, Nat.le_refl _, Mg0⟩
    case round =>
      clear Mg0 R0
      obtain ⟨i, g, c, cur, hg, n, L, t, hi, rfl, rfl, rfl, R, hn, G, hhg, hgi, M⟩ := hrel
      by_cases hin : i < n0
      case neg =>
        have hlt : ¬ (i : Int) < (n0 : Int) := by omega
        go_wp2_with fail
        go_ret
        exact ⟨rfl, M.end_⟩
      case pos =>
        have hlt : (i : Int) < (n0 : Int) := by omega
        by_cases h40 : i < 40
        case neg =>
          have h40' : ¬ (i : Int) < 40 := by omega
          go_wp2_with fail
          go_ret
          exact ⟨rfl, M.end_⟩
        case pos =>
          have h40' : (i : Int) < 40 := by omega
          have hi0 : (0 : Int) ≤ (i : Int) := by omega
          obtain ⟨ga, oa, ca', hee⟩ := sv_some eA_len (by decide) HV0.out (by omega)
          injection hee with e1 e2 e3
          subst e1; subst e3
          have HV := HV0
          obtain ⟨pq, hpq⟩ : ∃ p, acts[i]? = some p := ⟨_, List.getElem?_eq_getElem (by omega)⟩
          obtain ⟨q, e⟩ := pq
          have hqr := HAR.out _ (List.mem_of_getElem? hpq)
          have HEA : Hid (∀ w', Below w.heap.size w w' → exLoad Tryd.prog 52 (.pointer (some ⟨ga, oa + i * 2, none⟩)) w' = .ok (.value (.agg (ACT q e))) w') := hid fun w' h =>
            sv_load eA_len Tryd.underlying52 rfl inf_act (by decide) (SV.below HV.out h) hpq (ACT q e) rfl
          obtain ⟨rq, hrq⟩ : ∃ r, r = q % 4 := ⟨_, rfl⟩
          have HRQ2 := hid hrq.symm
          have HRQ1 := hid (show q.tmod 4 = rq by rw [Int.tmod_eq_emod_of_nonneg hqr.1, hrq])
          clear hpq hqr hrq
          obtain ⟨a, ha, hga, hma⟩ := G.hd
          have HA := hid ha
          have H9 := hid (show L.length ≤ 900 by have := G.len; omega)
          have hnl := G.len
          rw [hn] at hnl
          have hgb1 : a.gen ≤ 1000000 := by omega
          have htop := G.top
          by_cases hkind : rq = 1
          · by_cases hlate : (t : Int) ≤ e ∧ 0 ≤ e ∧ e ≤ 1099511627776
            · obtain ⟨m, rfl⟩ : ∃ m : Nat, e = m := ⟨e.toNat, by omega⟩
              have htm : t ≤ m := by omega
              have hmm : m ≤ 1099511627776 := by omega
              obtain ⟨Ln, hLn⟩ : ∃ L, ([⟨a.gen + 1, m⟩] : List Ep.Sl) = L := ⟨_, rfl⟩
              have HLN := hid hLn
              obtain ⟨nn, hnn⟩ : ∃ n, Ln.length = n := ⟨_, rfl⟩
              have GN : Ep.Good Ln m := by rw [← hLn]; exact .one (by omega)
              have hgen : Ep.gen0 Ln = Ep.gen0 L + 1 := by rw [← hLn, hga]; rfl
              have HGI := hid (show Ep.gen0 Ln ≤ i + 1 by omega)
              have hnn2 := GN.len
              rw [hnn] at hnn2
              obtain ⟨a1, ha1, hga1, hma1⟩ := GN.hd
              have HEa1 := hid ha1
              have HNL := hid hnn
              have HGD := hid GN
              have HGG := hid hga1.symm
              have HFIN := hid GN.fins
              have hk1 : ¬ (nn : Int) < 1 := by omega
              have hk2 : ¬ (2 : Int) < (nn : Int) := by omega
              have hgz : ¬ (a1.gen : Int) < (hg : Int) := by omega
              have hn00 : (0 : Int) < (nn : Int) := by omega
              have hn01 : 0 < nn := by omega
              have hn02 : ¬ nn = 0 := by omega
              have HMC := hid (show (hg : Int) = (a1.gen : Int) ∨ (hg : Int) < (a1.gen : Int) by omega)
              have hgbd : a1.gen ≤ 1000000 := by have := HGI.out; omega
              have HHG := hid hhg
              clear hhg hga hga1
              clear ha hLn hlate
              by_cases h2n : nn = 2
              · skip
                obtain ⟨a1', bb, e1, hb1, hab⟩ := GN.snd (by rw [hnn]; exact h2n)
                rw [ha1] at e1
                injection e1 with e1
                subst e1
                have HEbb := hid hb1
                have HB1 := hid (show IntKind.i64.wrap ((a1.gen : Int) - 1) = (bb.gen : Int) by rw [i64w _ (by omega) (by omega)]; omega)
                have h2z : (nn : Int) = 2 := by omega
                have h1z : (1 : Int) < (nn : Int) := by omega
                clear hab
                clear GN hnn ha1 hb1
                go_upto_region 10 with fail
                refine wp_region_lin (.op 0 (.op 1 (.op 2 (.op 3 (.op 4 (.op 5 .done)))))) (by rfl) ?_
                refine wpT_valp 36 (v := .slice (some ⟨ga, oa, none⟩) n0 ca) rfl rfl rfl (by go_simp) ?_
                refine wpT_valp 37 (v := .int .i64 i) rfl rfl rfl (by go_simp) ?_
                refine wpT_valp 38 (v := .pointer (some ⟨ga, oa + i * 2, none⟩)) rfl rfl rfl (by go_simp) ?_
                refine wpT_ldy 39 (.pointer (some ⟨ga, oa + i * 2, none⟩)) (.agg (ACT q m)) rfl rfl rfl (by go_simp) (HEA.out _ M.end_) rfl ?_
                try simp only [Act.put, List.setIfInBounds_toArray, List.set_cons_succ, List.set_cons_zero]
                refine wpT_new (z := .agg (ACT 0 0)) 11 M (by kernel_rfl) (by decide) rfl rfl rfl rfl (fun b1 w2 M3 => ?_)
                try dsimp only [Value.cells] at M3
                refine wpT_st0 M3 0 (ACT q m) inf_act rfl rfl rfl rfl (by go_simp) (by go_simp) (by simp [hk, ROR_size, EPS_size, ACT_size, Ep.pub_len]) (by simp [hk, ROR_size, EPS_size, ACT_size, Ep.pub_len]) (by simp [go_sem]) rfl (fun w4 M5 => ?_)
                dsimp only [List.set] at M5
                dsimp only [wpT]
                try simp only [Act.put, List.setIfInBounds_toArray, List.set_cons_succ, List.set_cons_zero]
                go_upto_region 11 with fail
                refine wp_region_lin (.op 0 (.op 1 (.op 2 (.op 3 .done)))) (by rfl) ?_
                refine wpT_valp 40 (v := .pointer (some ⟨b1, 0, none⟩)) rfl rfl rfl (by go_simp) ?_
                refine wpT_valp 41 (v := .int .u8 q) rfl rfl rfl (by have c0 := act_c0 (M5.row (b := b1) (c := ACT q m) (by simp)); go_simp) ?_
                refine wpT_valp 42 (v := .int .u8 rq) rfl rfl rfl (by have h := HRQ1.out; have h2 := HRQ2.out; go_simp) ?_
                refine wpT_valp 43 (v := .bool true) rfl rfl rfl (by go_simp) ?_
                dsimp only [wpT]
                try simp only [Act.put, List.setIfInBounds_toArray, List.set_cons_succ, List.set_cons_zero]
                go_upto_region 12 with fail
                refine wp_region_lin (.op 0 (.op 1 (.op 2 (.op 3 (.op 4 .done))))) (by rfl) ?_
                refine wpT_valp 44 (v := .pointer (some ⟨gb, 0, none⟩)) rfl rfl rfl (by go_simp) ?_
                refine wpT_valp 45 (v := .pointer (some ⟨b1, 1, none⟩)) rfl rfl rfl (by go_simp) ?_
                refine wpT_valp 46 (v := .int .i64 m) rfl rfl rfl (by have c0 := act_c1 (M5.row (b := b1) (c := ACT q m) (by simp)); go_simp) ?_
                refine wpT_ro (t' := m) (n' := nn) 47 M5 [(b1, ACT q m)] [(w.heap.size, cs U8 k)] rfl rfl R rfl rfl rfl (by go_simp) (restart_v (ro_at (b := gb) (t := t) M5 (A := [(b1, ACT q m)]) (C := [(w.heap.size, cs U8 k)]) rfl R hn hgb hk (by omega)) HT3.out M5.end_ H9.out m _ rfl (by omega) (by omega) a HA.out (by omega) HLN.out) HNL.out (fun gn cn cun wgn Rn Mgn => ?_)
                try simp only [Act.put, List.setIfInBounds_toArray, List.set_cons_succ, List.set_cons_zero]
                refine wpT_valp 48 (v := .bool true) rfl rfl rfl (by go_simp) ?_
                dsimp only [wpT]
                try simp only [Act.put, List.setIfInBounds_toArray, List.set_cons_succ, List.set_cons_zero]
                go_upto_region 13 with fail
                refine wp_region_lin (.op 0 (.op 1 (.op 2 .done))) (by rfl) ?_
                refine wpT_valp 49 (v := .pointer (some ⟨b1, 1, none⟩)) rfl rfl rfl (by go_simp) ?_
                refine wpT_valp 50 (v := .int .i64 m) rfl rfl rfl (by have c0 := act_c1 (Mgn.row (b := b1) (c := ACT q m) (by simp)); go_simp) ?_
                refine wpT_valp 8 (v := .int .i64 m) rfl rfl rfl (by go_simp) ?_
                dsimp only [wpT]
                try simp only [Act.put, List.setIfInBounds_toArray, List.set_cons_succ, List.set_cons_zero]
                go_upto_region 17 with fail
                have MM := Mgn.sub (H' := [(gn, cun), (gb, ROR k (.slice (some ⟨gn, 0, none⟩) nn cn) m), (w.heap.size, cs U8 k)]) (by simp)
                refine wp_region_lin (.op 0 (.op 1 (.op 2 .done))) (by rfl) ?_
                refine wpT_valp 66 (v := .pointer (some ⟨gb, 0, none⟩)) rfl rfl rfl (by go_simp) ?_
                refine wpT_ownr 67 MM rfl rfl rfl (by go_simp) (open_ep (n := nn) (ro_at (b := gb) (t := m) MM (A := []) (C := [(w.heap.size, cs U8 k)]) rfl Rn HNL.out hgb hk (by omega)) (by omega) HNL.out) (by omega) (fun gu cv curu wgu Ru Mgu => ?_)
                refine wpT_valp 12 (v := .slice (some ⟨gu, 0, none⟩) nn cv) rfl rfl rfl (by go_simp) ?_
                dsimp only [wpT]
                try simp only [Act.put, List.setIfInBounds_toArray, List.set_cons_succ, List.set_cons_zero]
                go_upto_region 18 with fail
                refine wp_region_seq 33 [68, 69, 70, 71, 72, 73, 74, 75, 76, 77, 78, 79, 80, 81, 82, 83, 84, 85, 86, 87, 88, 89, 90, 91, 92, 93, 94, 95, 96, 97, 98, 99, 100] [] [] [] (.done) (Mm no w _) (by kernel_rfl) (by kernel_rfl) (by kernel_rfl) (fun d _ _ _ _ h => by cases d <;> exact h) (by rfl) Mgu.size (fun _ _ h k => h.sf k) Mgu ?_
                simp only [List.take_succ_cons, List.take_zero]
                refine SeqA.pure (.slice (some ⟨gu, 0, none⟩) nn cv) (fun w' => by go_simp) rfl rfl ?_
                refine SeqA.pure (.int .i64 nn) (fun w' => by go_simp) rfl rfl ?_
                refine SeqA.pure (.bool false) (fun w' => by go_simp) rfl rfl ?_
                refine SeqA.pure (.bool false) (fun w' => by go_simp) rfl rfl ?_
                refine SeqA.pure (.slice (some ⟨gu, 0, none⟩) nn cv) (fun w' => by go_simp) rfl (by simp [Region.wanted, yielded, Act.put]) ?_
                simp only [Act.put, List.setIfInBounds_toArray, List.set_cons_succ, List.set_cons_zero]
                refine SeqA.pure (.int .i64 nn) (fun w' => by go_simp) rfl (by simp [Region.wanted, yielded, Act.put]) ?_
                refine SeqA.pure (.bool false) (fun w' => by go_simp) rfl (by simp [Region.wanted, yielded, Act.put]) ?_
                refine SeqA.pure (.bool false) (fun w' => by go_simp) rfl rfl ?_
                refine SeqA.pure (.bool false) (fun w' => by go_simp) rfl rfl ?_
                refine SeqA.pure (.slice (some ⟨gu, 0, none⟩) nn cv) (fun w' => by go_simp) rfl (by simp [Region.wanted, yielded, Act.put]) ?_
                refine SeqA.pure (.pointer (some ⟨gu, 0, none⟩)) (fun w' => by go_simp) rfl (by simp [Region.wanted, yielded, Act.put]) ?_
                simp only [Act.put, List.setIfInBounds_toArray, List.set_cons_succ, List.set_cons_zero]
                refine SeqA.pure (.pointer (some ⟨gu, 0, none⟩)) (fun w' => by go_simp) rfl (by simp [Region.wanted, yielded, Act.put]) ?_
                refine SeqA.read (.int .i64 a1.gen) (fun w' M => by have c0 := c66 Ru M (by simp) HNL.out 0 (a := a1) HEa1.out (by decide) (e66_0 k _); simp at c0; go_simp) rfl (by simp [Region.wanted, yielded, Act.put]) ?_
                refine SeqA.pure (.int .i64 hg) (fun w' => by go_simp) rfl (by simp [Region.wanted, yielded, Act.put]) ?_
                refine SeqA.pure (.bool false) (fun w' => by go_simp) rfl (by simp [Region.wanted, yielded, Act.put]) ?_
                refine SeqA.pure (.bool false) (fun w' => by go_simp) rfl rfl ?_
                refine SeqA.pure (.bool false) (fun w' => by go_simp) rfl rfl ?_
                simp only [Act.put, List.setIfInBounds_toArray, List.set_cons_succ, List.set_cons_zero]
                refine SeqA.pure (.slice (some ⟨gu, 0, none⟩) nn cv) (fun w' => by go_simp) rfl (by simp [Region.wanted, yielded, Act.put]) ?_
                refine SeqA.pure (.int .i64 nn) (fun w' => by go_simp) rfl (by simp [Region.wanted, yielded, Act.put]) ?_
                refine SeqA.pure (.bool true) (fun w' => by go_simp) rfl (by simp [Region.wanted, yielded, Act.put]) ?_
                refine SeqA.pure (.bool true) (fun w' => by go_simp) rfl (by simp [Region.wanted, yielded, Act.put]) ?_
                refine SeqA.pure (.slice (some ⟨gu, 0, none⟩) nn cv) (fun w' => by go_simp) rfl (by simp [Region.wanted, yielded, Act.put]) ?_
                refine SeqA.pure (.pointer (some ⟨gu, 66, none⟩)) (fun w' => by go_simp) rfl (by simp [Region.wanted, yielded, Act.put]) ?_
                simp only [Act.put, List.setIfInBounds_toArray, List.set_cons_succ, List.set_cons_zero]
                refine SeqA.pure (.pointer (some ⟨gu, 66, none⟩)) (fun w' => by go_simp) rfl (by simp [Region.wanted, yielded, Act.put]) ?_
                refine SeqA.read (.int .i64 bb.gen) (fun w' M => by have c0 := c66 Ru M (by simp) HNL.out 1 (a := bb) HEbb.out (by decide) (e66_0 k _); simp at c0; go_simp) rfl (by simp [Region.wanted, yielded, Act.put]) ?_
                refine SeqA.pure (.slice (some ⟨gu, 0, none⟩) nn cv) (fun w' => by go_simp) rfl (by simp [Region.wanted, yielded, Act.put]) ?_
                refine SeqA.pure (.pointer (some ⟨gu, 0, none⟩)) (fun w' => by go_simp) rfl (by simp [Region.wanted, yielded, Act.put]) ?_
                refine SeqA.pure (.pointer (some ⟨gu, 0, none⟩)) (fun w' => by go_simp) rfl (by simp [Region.wanted, yielded, Act.put]) ?_
                refine SeqA.read (.int .i64 a1.gen) (fun w' M => by have c0 := c66 Ru M (by simp) HNL.out 0 (a := a1) HEa1.out (by decide) (e66_0 k _); simp at c0; go_simp) rfl (by simp [Region.wanted, yielded, Act.put]) ?_
                simp only [Act.put, List.setIfInBounds_toArray, List.set_cons_succ, List.set_cons_zero]
                refine SeqA.pure (.int .i64 bb.gen) (fun w' => by have h := HB1.out; go_simp) rfl (by simp [Region.wanted, yielded, Act.put]) ?_
                refine SeqA.pure (.bool false) (fun w' => by go_simp) rfl (by simp [Region.wanted, yielded, Act.put]) ?_
                refine SeqA.pure (.bool false) (fun w' => by go_simp) rfl (by simp [Region.wanted, yielded, Act.put]) ?_
                refine SeqA.pure (.bool false) (fun w' => by go_simp) rfl rfl ?_
                refine SeqA.nil (fun w6 M7 hz => ?_)
                show wpT _ _ _ _ _ _
                simp only [Act.put, List.setIfInBounds_toArray, List.set_cons_succ, List.set_cons_zero]
                dsimp only [wpT]
                go_upto_region 20 with fail
                refine wp_region_lin (.op 0 (.op 1 (.op 2 .done))) (by rfl) ?_
                refine wpT_valp 101 (v := .slice (some ⟨gu, 0, none⟩) nn cv) rfl rfl rfl (by go_simp) ?_
                refine wpT_valp 102 (v := .int .i64 nn) rfl rfl rfl (by go_simp) ?_
                refine wpT_valp 103 (v := .int .i64 0) rfl rfl rfl (by go_simp) ?_
                dsimp only [wpT]
                try simp only [Act.put, List.setIfInBounds_toArray, List.set_cons_succ, List.set_cons_zero]
                go_wp2_with fail
                go_loopw [103] (fun y wq => ∃ j : Nat, j ≤ nn ∧ y = .int .i64 j ∧ Mm no w [(gu, curu), (gn, cun), (gb, ROR k (.slice (some ⟨gn, 0, none⟩) nn cn) m), (w.heap.size, cs U8 k)] wq) (fun y _ => nn - (intOf y).toNat)
                case atStart => exact ⟨0, by omega, rfl, M7⟩
                case round =>
                  clear M7
                  obtain ⟨j, hj, rfl, MJ⟩ := hrel
                  by_cases hjn : j < nn
                  · have hlt : (j : Int) < (nn : Int) := by omega
                    have hj0 : (0 : Int) ≤ (j : Int) := by omega
                    obtain ⟨s, hs⟩ : ∃ s, Ln[j]? = some s := ⟨_, List.getElem?_eq_getElem (by rw [HNL.out]; exact hjn)⟩
                    have HEL := el66 (S := no) (w0 := w) Ru HNL.out hs
                    have hfin := HFIN.out s (List.mem_of_getElem? hs)
                    have hfz : ¬ ((Ep.fin s.made : Nat) : Int) ≤ (m : Int) := by omega
                    clear hs
                    go_upto_region 22 with fail
                    refine wp_region_lin (.op 0 (.op 1 (.op 2 (.op 3 .done)))) (by rfl) ?_
                    refine wpT_valp 105 (v := .pointer (some ⟨gu, j * 66, none⟩)) rfl rfl rfl (by go_simp) ?_
                    refine wpT_ldy 106 (.pointer (some ⟨gu, j * 66, none⟩)) (.agg (EPS k s)) rfl rfl rfl (by go_simp) (HEL.out _ _ MJ (by simp)) rfl ?_
                    refine wpT_new (z := .agg (ZPS)) 14 MJ (by kernel_rfl) (by decide) rfl rfl rfl rfl (fun b8 w9 M10 => ?_)
                    try dsimp only [Value.cells] at M10
                    refine wpT_st0 M10 0 (EPS k s) inf_eps rfl rfl rfl rfl (by go_simp) (by go_simp) (by simp [hk, ROR_size, EPS_size, ACT_size, Ep.pub_len]) (by simp [hk, ROR_size, EPS_size, ACT_size, Ep.pub_len]) (by simp [go_sem]) rfl (fun w11 M12 => ?_)
                    dsimp only [List.set] at M12
                    dsimp only [wpT]
                    try simp only [Act.put, List.setIfInBounds_toArray, List.set_cons_succ, List.set_cons_zero]
                    go_upto_region 23 with fail
                    refine wp_region_lin (.op 0 (.op 1 (.op 2 (.op 3 .done)))) (by rfl) ?_
                    refine wpT_valp 107 (v := .pointer (some ⟨b8, 1, none⟩)) rfl rfl rfl (by go_simp) ?_
                    refine wpT_valp 108 (v := .int .i64 (Ep.fin s.made)) rfl rfl rfl (by have c0 := eps_c1 (M12.row (b := b8) (c := EPS k s) (by simp)); go_simp) ?_
                    refine wpT_valp 109 (v := .int .i64 m) rfl rfl rfl (by go_simp) ?_
                    refine wpT_valp 110 (v := .bool false) rfl rfl rfl (by go_simp) ?_
                    dsimp only [wpT]
                    try simp only [Act.put, List.setIfInBounds_toArray, List.set_cons_succ, List.set_cons_zero]
                    go_wp2_with fail
                    go_roundw
                    case rel => exact ⟨j + 1, by omega, by simp, M12.sub (by simp)⟩
                    case measure => simp only [intOf]; omega
                  · obtain rfl : nn = j := by omega
                    go_upto_region 26 with fail
                    refine wp_region_lin (.op 0 (.op 1 (.op 2 (.op 3 (.op 4 .done))))) (by rfl) ?_
                    refine wpT_valp 112 (v := .slice (some ⟨gu, 0, none⟩) nn cv) rfl rfl rfl (by go_simp) ?_
                    refine wpT_valp 113 (v := .pointer (some ⟨gu, 0, none⟩)) rfl rfl rfl (by go_simp) ?_
                    refine wpT_valp 114 (v := .pointer (some ⟨gu, 0, none⟩)) rfl rfl rfl (by go_simp) ?_
                    refine wpT_valp 115 (v := .int .i64 a1.gen) rfl rfl rfl (by have c0 := c66 Ru MJ (by simp) HNL.out 0 (a := a1) HEa1.out (by decide) (e66_0 k _); simp at c0; go_simp) ?_
                    try simp only [Act.put, List.setIfInBounds_toArray, List.set_cons_succ, List.set_cons_zero]
                    refine wpT_valp 9 (v := .int .i64 a1.gen) rfl rfl rfl (by go_simp) ?_
                    dsimp only [wpT]
                    try simp only [Act.put, List.setIfInBounds_toArray, List.set_cons_succ, List.set_cons_zero]
                    go_wp2_with fail
                    go_roundw
                    case rel => exact ⟨i + 1, _, _, _, a1.gen, _, Ln, m, by omega, by simp, rfl, rfl, Rn, HNL.out, HGD.out, HGG.out, by have := HGI.out; omega, MJ.sub (by simp)⟩
                    case measure => simp only [intOf]; omega
              · have h2z : ¬ (nn : Int) = 2 := by omega
                clear GN hnn ha1
                go_upto_region 10 with fail
                refine wp_region_lin (.op 0 (.op 1 (.op 2 (.op 3 (.op 4 (.op 5 .done)))))) (by rfl) ?_
                refine wpT_valp 36 (v := .slice (some ⟨ga, oa, none⟩) n0 ca) rfl rfl rfl (by go_simp) ?_
                refine wpT_valp 37 (v := .int .i64 i) rfl rfl rfl (by go_simp) ?_
                refine wpT_valp 38 (v := .pointer (some ⟨ga, oa + i * 2, none⟩)) rfl rfl rfl (by go_simp) ?_
                refine wpT_ldy 39 (.pointer (some ⟨ga, oa + i * 2, none⟩)) (.agg (ACT q m)) rfl rfl rfl (by go_simp) (HEA.out _ M.end_) rfl ?_
                try simp only [Act.put, List.setIfInBounds_toArray, List.set_cons_succ, List.set_cons_zero]
                refine wpT_new (z := .agg (ACT 0 0)) 11 M (by kernel_rfl) (by decide) rfl rfl rfl rfl (fun b1 w2 M3 => ?_)
                try dsimp only [Value.cells] at M3
                refine wpT_st0 M3 0 (ACT q m) inf_act rfl rfl rfl rfl (by go_simp) (by go_simp) (by simp [hk, ROR_size, EPS_size, ACT_size, Ep.pub_len]) (by simp [hk, ROR_size, EPS_size, ACT_size, Ep.pub_len]) (by simp [go_sem]) rfl (fun w4 M5 => ?_)
                dsimp only [List.set] at M5
                dsimp only [wpT]
                try simp only [Act.put, List.setIfInBounds_toArray, List.set_cons_succ, List.set_cons_zero]
                go_upto_region 11 with fail
                refine wp_region_lin (.op 0 (.op 1 (.op 2 (.op 3 .done)))) (by rfl) ?_
                refine wpT_valp 40 (v := .pointer (some ⟨b1, 0, none⟩)) rfl rfl rfl (by go_simp) ?_
                refine wpT_valp 41 (v := .int .u8 q) rfl rfl rfl (by have c0 := act_c0 (M5.row (b := b1) (c := ACT q m) (by simp)); go_simp) ?_
                refine wpT_valp 42 (v := .int .u8 rq) rfl rfl rfl (by have h := HRQ1.out; have h2 := HRQ2.out; go_simp) ?_
                refine wpT_valp 43 (v := .bool true) rfl rfl rfl (by go_simp) ?_
                dsimp only [wpT]
                try simp only [Act.put, List.setIfInBounds_toArray, List.set_cons_succ, List.set_cons_zero]
                go_upto_region 12 with fail
                refine wp_region_lin (.op 0 (.op 1 (.op 2 (.op 3 (.op 4 .done))))) (by rfl) ?_
                refine wpT_valp 44 (v := .pointer (some ⟨gb, 0, none⟩)) rfl rfl rfl (by go_simp) ?_
                refine wpT_valp 45 (v := .pointer (some ⟨b1, 1, none⟩)) rfl rfl rfl (by go_simp) ?_
                refine wpT_valp 46 (v := .int .i64 m) rfl rfl rfl (by have c0 := act_c1 (M5.row (b := b1) (c := ACT q m) (by simp)); go_simp) ?_
                refine wpT_ro (t' := m) (n' := nn) 47 M5 [(b1, ACT q m)] [(w.heap.size, cs U8 k)] rfl rfl R rfl rfl rfl (by go_simp) (restart_v (ro_at (b := gb) (t := t) M5 (A := [(b1, ACT q m)]) (C := [(w.heap.size, cs U8 k)]) rfl R hn hgb hk (by omega)) HT3.out M5.end_ H9.out m _ rfl (by omega) (by omega) a HA.out (by omega) HLN.out) HNL.out (fun gn cn cun wgn Rn Mgn => ?_)
                try simp only [Act.put, List.setIfInBounds_toArray, List.set_cons_succ, List.set_cons_zero]
                refine wpT_valp 48 (v := .bool true) rfl rfl rfl (by go_simp) ?_
                dsimp only [wpT]
                try simp only [Act.put, List.setIfInBounds_toArray, List.set_cons_succ, List.set_cons_zero]
                go_upto_region 13 with fail
                refine wp_region_lin (.op 0 (.op 1 (.op 2 .done))) (by rfl) ?_
                refine wpT_valp 49 (v := .pointer (some ⟨b1, 1, none⟩)) rfl rfl rfl (by go_simp) ?_
                refine wpT_valp 50 (v := .int .i64 m) rfl rfl rfl (by have c0 := act_c1 (Mgn.row (b := b1) (c := ACT q m) (by simp)); go_simp) ?_
                refine wpT_valp 8 (v := .int .i64 m) rfl rfl rfl (by go_simp) ?_
                dsimp only [wpT]
                try simp only [Act.put, List.setIfInBounds_toArray, List.set_cons_succ, List.set_cons_zero]
                go_upto_region 17 with fail
                have MM := Mgn.sub (H' := [(gn, cun), (gb, ROR k (.slice (some ⟨gn, 0, none⟩) nn cn) m), (w.heap.size, cs U8 k)]) (by simp)
                refine wp_region_lin (.op 0 (.op 1 (.op 2 .done))) (by rfl) ?_
                refine wpT_valp 66 (v := .pointer (some ⟨gb, 0, none⟩)) rfl rfl rfl (by go_simp) ?_
                refine wpT_ownr 67 MM rfl rfl rfl (by go_simp) (open_ep (n := nn) (ro_at (b := gb) (t := m) MM (A := []) (C := [(w.heap.size, cs U8 k)]) rfl Rn HNL.out hgb hk (by omega)) (by omega) HNL.out) (by omega) (fun gu cv curu wgu Ru Mgu => ?_)
                refine wpT_valp 12 (v := .slice (some ⟨gu, 0, none⟩) nn cv) rfl rfl rfl (by go_simp) ?_
                dsimp only [wpT]
                try simp only [Act.put, List.setIfInBounds_toArray, List.set_cons_succ, List.set_cons_zero]
                go_upto_region 18 with fail
                refine wp_region_seq 33 [68, 69, 70, 71, 72, 73, 74, 75, 76, 77, 78, 79, 80, 81, 82, 83, 84, 85, 86, 87, 88, 89, 90, 91, 92, 93, 94, 95, 96, 97, 98, 99, 100] [] [] [] (.done) (Mm no w _) (by kernel_rfl) (by kernel_rfl) (by kernel_rfl) (fun d _ _ _ _ h => by cases d <;> exact h) (by rfl) Mgu.size (fun _ _ h k => h.sf k) Mgu ?_
                simp only [List.take_succ_cons, List.take_zero]
                refine SeqA.pure (.slice (some ⟨gu, 0, none⟩) nn cv) (fun w' => by go_simp) rfl rfl ?_
                refine SeqA.pure (.int .i64 nn) (fun w' => by go_simp) rfl rfl ?_
                refine SeqA.pure (.bool false) (fun w' => by go_simp) rfl rfl ?_
                refine SeqA.pure (.bool false) (fun w' => by go_simp) rfl rfl ?_
                refine SeqA.pure (.slice (some ⟨gu, 0, none⟩) nn cv) (fun w' => by go_simp) rfl (by simp [Region.wanted, yielded, Act.put]) ?_
                simp only [Act.put, List.setIfInBounds_toArray, List.set_cons_succ, List.set_cons_zero]
                refine SeqA.pure (.int .i64 nn) (fun w' => by go_simp) rfl (by simp [Region.wanted, yielded, Act.put]) ?_
                refine SeqA.pure (.bool false) (fun w' => by go_simp) rfl (by simp [Region.wanted, yielded, Act.put]) ?_
                refine SeqA.pure (.bool false) (fun w' => by go_simp) rfl rfl ?_
                refine SeqA.pure (.bool false) (fun w' => by go_simp) rfl rfl ?_
                refine SeqA.pure (.slice (some ⟨gu, 0, none⟩) nn cv) (fun w' => by go_simp) rfl (by simp [Region.wanted, yielded, Act.put]) ?_
                refine SeqA.pure (.pointer (some ⟨gu, 0, none⟩)) (fun w' => by go_simp) rfl (by simp [Region.wanted, yielded, Act.put]) ?_
                simp only [Act.put, List.setIfInBounds_toArray, List.set_cons_succ, List.set_cons_zero]
                refine SeqA.pure (.pointer (some ⟨gu, 0, none⟩)) (fun w' => by go_simp) rfl (by simp [Region.wanted, yielded, Act.put]) ?_
                refine SeqA.read (.int .i64 a1.gen) (fun w' M => by have c0 := c66 Ru M (by simp) HNL.out 0 (a := a1) HEa1.out (by decide) (e66_0 k _); simp at c0; go_simp) rfl (by simp [Region.wanted, yielded, Act.put]) ?_
                refine SeqA.pure (.int .i64 hg) (fun w' => by go_simp) rfl (by simp [Region.wanted, yielded, Act.put]) ?_
                refine SeqA.pure (.bool false) (fun w' => by go_simp) rfl (by simp [Region.wanted, yielded, Act.put]) ?_
                refine SeqA.pure (.bool false) (fun w' => by go_simp) rfl rfl ?_
                refine SeqA.pure (.bool false) (fun w' => by go_simp) rfl rfl ?_
                simp only [Act.put, List.setIfInBounds_toArray, List.set_cons_succ, List.set_cons_zero]
                refine SeqA.pure (.slice (some ⟨gu, 0, none⟩) nn cv) (fun w' => by go_simp) rfl (by simp [Region.wanted, yielded, Act.put]) ?_
                refine SeqA.pure (.int .i64 nn) (fun w' => by go_simp) rfl (by simp [Region.wanted, yielded, Act.put]) ?_
                refine SeqA.pure (.bool false) (fun w' => by go_simp) rfl (by simp [Region.wanted, yielded, Act.put]) ?_
                refine SeqA.pure (.bool false) (fun w' => by go_simp) rfl (by simp [Region.wanted, yielded, Act.put]) ?_
                refine SeqA.skip rfl (by simp [Region.wanted, yielded, Act.put]) ?_ rfl
                refine SeqA.skip rfl (by simp [Region.wanted, yielded, Act.put]) ?_ rfl
                simp only [Act.put, List.setIfInBounds_toArray, List.set_cons_succ, List.set_cons_zero]
                refine SeqA.skip rfl (by simp [Region.wanted, yielded, Act.put]) ?_ rfl
                refine SeqA.skip rfl (by simp [Region.wanted, yielded, Act.put]) ?_ rfl
                refine SeqA.skip rfl (by simp [Region.wanted, yielded, Act.put]) ?_ rfl
                refine SeqA.skip rfl (by simp [Region.wanted, yielded, Act.put]) ?_ rfl
                refine SeqA.skip rfl (by simp [Region.wanted, yielded, Act.put]) ?_ rfl
                refine SeqA.skip rfl (by simp [Region.wanted, yielded, Act.put]) ?_ rfl
                simp only [Act.put, List.setIfInBounds_toArray, List.set_cons_succ, List.set_cons_zero]
                refine SeqA.skip rfl (by simp [Region.wanted, yielded, Act.put]) ?_ rfl
                refine SeqA.skip rfl (by simp [Region.wanted, yielded, Act.put]) ?_ rfl
                refine SeqA.pure (.bool false) (fun w' => by go_simp) rfl (by simp [Region.wanted, yielded, Act.put]) ?_
                refine SeqA.pure (.bool false) (fun w' => by go_simp) rfl rfl ?_
                refine SeqA.nil (fun w6 M7 hz => ?_)
                show wpT _ _ _ _ _ _
                simp only [Act.put, List.setIfInBounds_toArray, List.set_cons_succ, List.set_cons_zero]
                dsimp only [wpT]
                go_upto_region 20 with fail
                refine wp_region_lin (.op 0 (.op 1 (.op 2 .done))) (by rfl) ?_
                refine wpT_valp 101 (v := .slice (some ⟨gu, 0, none⟩) nn cv) rfl rfl rfl (by go_simp) ?_
                refine wpT_valp 102 (v := .int .i64 nn) rfl rfl rfl (by go_simp) ?_
                refine wpT_valp 103 (v := .int .i64 0) rfl rfl rfl (by go_simp) ?_
                dsimp only [wpT]
                try simp only [Act.put, List.setIfInBounds_toArray, List.set_cons_succ, List.set_cons_zero]
                go_wp2_with fail
                go_loopw [103] (fun y wq => ∃ j : Nat, j ≤ nn ∧ y = .int .i64 j ∧ Mm no w [(gu, curu), (gn, cun), (gb, ROR k (.slice (some ⟨gn, 0, none⟩) nn cn) m), (w.heap.size, cs U8 k)] wq) (fun y _ => nn - (intOf y).toNat)
                case atStart => exact ⟨0, by omega, rfl, M7⟩
                case round =>
                  clear M7
                  obtain ⟨j, hj, rfl, MJ⟩ := hrel
                  by_cases hjn : j < nn
                  · have hlt : (j : Int) < (nn : Int) := by omega
                    have hj0 : (0 : Int) ≤ (j : Int) := by omega
                    obtain ⟨s, hs⟩ : ∃ s, Ln[j]? = some s := ⟨_, List.getElem?_eq_getElem (by rw [HNL.out]; exact hjn)⟩
                    have HEL := el66 (S := no) (w0 := w) Ru HNL.out hs
                    have hfin := HFIN.out s (List.mem_of_getElem? hs)
                    have hfz : ¬ ((Ep.fin s.made : Nat) : Int) ≤ (m : Int) := by omega
                    clear hs
                    go_upto_region 22 with fail
                    refine wp_region_lin (.op 0 (.op 1 (.op 2 (.op 3 .done)))) (by rfl) ?_
                    refine wpT_valp 105 (v := .pointer (some ⟨gu, j * 66, none⟩)) rfl rfl rfl (by go_simp) ?_
                    refine wpT_ldy 106 (.pointer (some ⟨gu, j * 66, none⟩)) (.agg (EPS k s)) rfl rfl rfl (by go_simp) (HEL.out _ _ MJ (by simp)) rfl ?_
                    refine wpT_new (z := .agg (ZPS)) 14 MJ (by kernel_rfl) (by decide) rfl rfl rfl rfl (fun b8 w9 M10 => ?_)
                    try dsimp only [Value.cells] at M10
                    refine wpT_st0 M10 0 (EPS k s) inf_eps rfl rfl rfl rfl (by go_simp) (by go_simp) (by simp [hk, ROR_size, EPS_size, ACT_size, Ep.pub_len]) (by simp [hk, ROR_size, EPS_size, ACT_size, Ep.pub_len]) (by simp [go_sem]) rfl (fun w11 M12 => ?_)
                    dsimp only [List.set] at M12
                    dsimp only [wpT]
                    try simp only [Act.put, List.setIfInBounds_toArray, List.set_cons_succ, List.set_cons_zero]
                    go_upto_region 23 with fail
                    refine wp_region_lin (.op 0 (.op 1 (.op 2 (.op 3 .done)))) (by rfl) ?_
                    refine wpT_valp 107 (v := .pointer (some ⟨b8, 1, none⟩)) rfl rfl rfl (by go_simp) ?_
                    refine wpT_valp 108 (v := .int .i64 (Ep.fin s.made)) rfl rfl rfl (by have c0 := eps_c1 (M12.row (b := b8) (c := EPS k s) (by simp)); go_simp) ?_
                    refine wpT_valp 109 (v := .int .i64 m) rfl rfl rfl (by go_simp) ?_
                    refine wpT_valp 110 (v := .bool false) rfl rfl rfl (by go_simp) ?_
                    dsimp only [wpT]
                    try simp only [Act.put, List.setIfInBounds_toArray, List.set_cons_succ, List.set_cons_zero]
                    go_wp2_with fail
                    go_roundw
                    case rel => exact ⟨j + 1, by omega, by simp, M12.sub (by simp)⟩
                    case measure => simp only [intOf]; omega
                  · obtain rfl : nn = j := by omega
                    go_upto_region 26 with fail
                    refine wp_region_lin (.op 0 (.op 1 (.op 2 (.op 3 (.op 4 .done))))) (by rfl) ?_
                    refine wpT_valp 112 (v := .slice (some ⟨gu, 0, none⟩) nn cv) rfl rfl rfl (by go_simp) ?_
                    refine wpT_valp 113 (v := .pointer (some ⟨gu, 0, none⟩)) rfl rfl rfl (by go_simp) ?_
                    refine wpT_valp 114 (v := .pointer (some ⟨gu, 0, none⟩)) rfl rfl rfl (by go_simp) ?_
                    refine wpT_valp 115 (v := .int .i64 a1.gen) rfl rfl rfl (by have c0 := c66 Ru MJ (by simp) HNL.out 0 (a := a1) HEa1.out (by decide) (e66_0 k _); simp at c0; go_simp) ?_
                    try simp only [Act.put, List.setIfInBounds_toArray, List.set_cons_succ, List.set_cons_zero]
                    refine wpT_valp 9 (v := .int .i64 a1.gen) rfl rfl rfl (by go_simp) ?_
                    dsimp only [wpT]
                    try simp only [Act.put, List.setIfInBounds_toArray, List.set_cons_succ, List.set_cons_zero]
                    go_wp2_with fail
                    go_roundw
                    case rel => exact ⟨i + 1, _, _, _, a1.gen, _, Ln, m, by omega, by simp, rfl, rfl, Rn, HNL.out, HGD.out, HGG.out, by have := HGI.out; omega, MJ.sub (by simp)⟩
                    case measure => simp only [intOf]; omega
            · have HNO := hid hlate
              obtain ⟨Ln, hLn⟩ : ∃ Ln, Ln = L := ⟨_, rfl⟩
              have hnn := hn
              have GN := G
              have HGI := hid (show Ep.gen0 L ≤ i + 1 by omega)
              have hnn2 := GN.len
              rw [hnn] at hnn2
              obtain ⟨a1, ha1, hga1, hma1⟩ := GN.hd
              have HEa1 := hid ha1
              have HNL := hid hnn
              have HGD := hid GN
              have HGG := hid hga1.symm
              have HFIN := hid GN.fins
              have hk1 : ¬ (n : Int) < 1 := by omega
              have hk2 : ¬ (2 : Int) < (n : Int) := by omega
              have hgz : ¬ (a1.gen : Int) < (hg : Int) := by omega
              have hn00 : (0 : Int) < (n : Int) := by omega
              have hn01 : 0 < n := by omega
              have hn02 : ¬ n = 0 := by omega
              have HMC := hid (show (hg : Int) = (a1.gen : Int) ∨ (hg : Int) < (a1.gen : Int) by omega)
              have hgbd : a1.gen ≤ 1000000 := by have := HGI.out; omega
              have HHG := hid hhg
              clear hhg hga hga1
              clear ha hLn hlate
              by_cases h2n : n = 2
              · skip
                obtain ⟨a1', bb, e1, hb1, hab⟩ := GN.snd (by rw [hnn]; exact h2n)
                rw [ha1] at e1
                injection e1 with e1
                subst e1
                have HEbb := hid hb1
                have HB1 := hid (show IntKind.i64.wrap ((a1.gen : Int) - 1) = (bb.gen : Int) by rw [i64w _ (by omega) (by omega)]; omega)
                have h2z : (n : Int) = 2 := by omega
                have h1z : (1 : Int) < (n : Int) := by omega
                clear hab
                clear GN hnn ha1 hb1
                go_upto_region 10 with fail
                refine wp_region_lin (.op 0 (.op 1 (.op 2 (.op 3 (.op 4 (.op 5 .done)))))) (by rfl) ?_
                refine wpT_valp 36 (v := .slice (some ⟨ga, oa, none⟩) n0 ca) rfl rfl rfl (by go_simp) ?_
                refine wpT_valp 37 (v := .int .i64 i) rfl rfl rfl (by go_simp) ?_
                refine wpT_valp 38 (v := .pointer (some ⟨ga, oa + i * 2, none⟩)) rfl rfl rfl (by go_simp) ?_
                refine wpT_ldy 39 (.pointer (some ⟨ga, oa + i * 2, none⟩)) (.agg (ACT q e)) rfl rfl rfl (by go_simp) (HEA.out _ M.end_) rfl ?_
                try simp only [Act.put, List.setIfInBounds_toArray, List.set_cons_succ, List.set_cons_zero]
                refine wpT_new (z := .agg (ACT 0 0)) 11 M (by kernel_rfl) (by decide) rfl rfl rfl rfl (fun b1 w2 M3 => ?_)
                try dsimp only [Value.cells] at M3
                refine wpT_st0 M3 0 (ACT q e) inf_act rfl rfl rfl rfl (by go_simp) (by go_simp) (by simp [hk, ROR_size, EPS_size, ACT_size, Ep.pub_len]) (by simp [hk, ROR_size, EPS_size, ACT_size, Ep.pub_len]) (by simp [go_sem]) rfl (fun w4 M5 => ?_)
                dsimp only [List.set] at M5
                dsimp only [wpT]
                try simp only [Act.put, List.setIfInBounds_toArray, List.set_cons_succ, List.set_cons_zero]
                go_upto_region 11 with fail
                refine wp_region_lin (.op 0 (.op 1 (.op 2 (.op 3 .done)))) (by rfl) ?_
                refine wpT_valp 40 (v := .pointer (some ⟨b1, 0, none⟩)) rfl rfl rfl (by go_simp) ?_
                refine wpT_valp 41 (v := .int .u8 q) rfl rfl rfl (by have c0 := act_c0 (M5.row (b := b1) (c := ACT q e) (by simp)); go_simp) ?_
                refine wpT_valp 42 (v := .int .u8 rq) rfl rfl rfl (by have h := HRQ1.out; have h2 := HRQ2.out; go_simp) ?_
                refine wpT_valp 43 (v := .bool true) rfl rfl rfl (by go_simp) ?_
                dsimp only [wpT]
                try simp only [Act.put, List.setIfInBounds_toArray, List.set_cons_succ, List.set_cons_zero]
                go_upto_region 12 with fail
                refine wp_region_lin (.op 0 (.op 1 (.op 2 (.op 3 (.op 4 .done))))) (by rfl) ?_
                refine wpT_valp 44 (v := .pointer (some ⟨gb, 0, none⟩)) rfl rfl rfl (by go_simp) ?_
                refine wpT_valp 45 (v := .pointer (some ⟨b1, 1, none⟩)) rfl rfl rfl (by go_simp) ?_
                refine wpT_valp 46 (v := .int .i64 e) rfl rfl rfl (by have c0 := act_c1 (M5.row (b := b1) (c := ACT q e) (by simp)); go_simp) ?_
                refine wpT_callv 47 M5 (v := .int .i64 2) rfl rfl rfl (by go_simp) (restart_old w4 _ gb k L t _ (ro_at (b := gb) (t := t) M5 (A := [(b1, ACT q e)]) (C := [(w.heap.size, cs U8 k)]) rfl R hn hgb hk (by omega)) e HNO.out) (fun w6 M7 => ?_)
                try simp only [Act.put, List.setIfInBounds_toArray, List.set_cons_succ, List.set_cons_zero]
                refine wpT_valp 48 (v := .bool false) rfl rfl rfl (by go_simp) ?_
                dsimp only [wpT]
                try simp only [Act.put, List.setIfInBounds_toArray, List.set_cons_succ, List.set_cons_zero]
                go_upto_region 17 with fail
                have MM := M7.sub (H' := [(g, cur), (gb, ROR k (.slice (some ⟨g, 0, none⟩) n c) t), (w.heap.size, cs U8 k)]) (by simp)
                refine wp_region_lin (.op 0 (.op 1 (.op 2 .done))) (by rfl) ?_
                refine wpT_valp 66 (v := .pointer (some ⟨gb, 0, none⟩)) rfl rfl rfl (by go_simp) ?_
                refine wpT_ownr 67 MM rfl rfl rfl (by go_simp) (open_ep (n := n) (ro_at (b := gb) (t := t) MM (A := []) (C := [(w.heap.size, cs U8 k)]) rfl R hn hgb hk (by omega)) (by omega) HNL.out) (by omega) (fun gu cv curu wgu Ru Mgu => ?_)
                refine wpT_valp 12 (v := .slice (some ⟨gu, 0, none⟩) n cv) rfl rfl rfl (by go_simp) ?_
                dsimp only [wpT]
                try simp only [Act.put, List.setIfInBounds_toArray, List.set_cons_succ, List.set_cons_zero]
                go_upto_region 18 with fail
                refine wp_region_seq 33 [68, 69, 70, 71, 72, 73, 74, 75, 76, 77, 78, 79, 80, 81, 82, 83, 84, 85, 86, 87, 88, 89, 90, 91, 92, 93, 94, 95, 96, 97, 98, 99, 100] [] [] [] (.done) (Mm no w _) (by kernel_rfl) (by kernel_rfl) (by kernel_rfl) (fun d _ _ _ _ h => by cases d <;> exact h) (by rfl) Mgu.size (fun _ _ h k => h.sf k) Mgu ?_
                simp only [List.take_succ_cons, List.take_zero]
                refine SeqA.pure (.slice (some ⟨gu, 0, none⟩) n cv) (fun w' => by go_simp) rfl rfl ?_
                refine SeqA.pure (.int .i64 n) (fun w' => by go_simp) rfl rfl ?_
                refine SeqA.pure (.bool false) (fun w' => by go_simp) rfl rfl ?_
                refine SeqA.pure (.bool false) (fun w' => by go_simp) rfl rfl ?_
                refine SeqA.pure (.slice (some ⟨gu, 0, none⟩) n cv) (fun w' => by go_simp) rfl (by simp [Region.wanted, yielded, Act.put]) ?_
                simp only [Act.put, List.setIfInBounds_toArray, List.set_cons_succ, List.set_cons_zero]
                refine SeqA.pure (.int .i64 n) (fun w' => by go_simp) rfl (by simp [Region.wanted, yielded, Act.put]) ?_
                refine SeqA.pure (.bool false) (fun w' => by go_simp) rfl (by simp [Region.wanted, yielded, Act.put]) ?_
                refine SeqA.pure (.bool false) (fun w' => by go_simp) rfl rfl ?_
                refine SeqA.pure (.bool false) (fun w' => by go_simp) rfl rfl ?_
                refine SeqA.pure (.slice (some ⟨gu, 0, none⟩) n cv) (fun w' => by go_simp) rfl (by simp [Region.wanted, yielded, Act.put]) ?_
                refine SeqA.pure (.pointer (some ⟨gu, 0, none⟩)) (fun w' => by go_simp) rfl (by simp [Region.wanted, yielded, Act.put]) ?_
                simp only [Act.put, List.setIfInBounds_toArray, List.set_cons_succ, List.set_cons_zero]
                refine SeqA.pure (.pointer (some ⟨gu, 0, none⟩)) (fun w' => by go_simp) rfl (by simp [Region.wanted, yielded, Act.put]) ?_
                refine SeqA.read (.int .i64 a1.gen) (fun w' M => by have c0 := c66 Ru M (by simp) HNL.out 0 (a := a1) HEa1.out (by decide) (e66_0 k _); simp at c0; go_simp) rfl (by simp [Region.wanted, yielded, Act.put]) ?_
                refine SeqA.pure (.int .i64 hg) (fun w' => by go_simp) rfl (by simp [Region.wanted, yielded, Act.put]) ?_
                refine SeqA.pure (.bool false) (fun w' => by go_simp) rfl (by simp [Region.wanted, yielded, Act.put]) ?_
                refine SeqA.pure (.bool false) (fun w' => by go_simp) rfl rfl ?_
                refine SeqA.pure (.bool false) (fun w' => by go_simp) rfl rfl ?_
                simp only [Act.put, List.setIfInBounds_toArray, List.set_cons_succ, List.set_cons_zero]
                refine SeqA.pure (.slice (some ⟨gu, 0, none⟩) n cv) (fun w' => by go_simp) rfl (by simp [Region.wanted, yielded, Act.put]) ?_
                refine SeqA.pure (.int .i64 n) (fun w' => by go_simp) rfl (by simp [Region.wanted, yielded, Act.put]) ?_
                refine SeqA.pure (.bool true) (fun w' => by go_simp) rfl (by simp [Region.wanted, yielded, Act.put]) ?_
                refine SeqA.pure (.bool true) (fun w' => by go_simp) rfl (by simp [Region.wanted, yielded, Act.put]) ?_
                refine SeqA.pure (.slice (some ⟨gu, 0, none⟩) n cv) (fun w' => by go_simp) rfl (by simp [Region.wanted, yielded, Act.put]) ?_
                refine SeqA.pure (.pointer (some ⟨gu, 66, none⟩)) (fun w' => by go_simp) rfl (by simp [Region.wanted, yielded, Act.put]) ?_
                simp only [Act.put, List.setIfInBounds_toArray, List.set_cons_succ, List.set_cons_zero]
                refine SeqA.pure (.pointer (some ⟨gu, 66, none⟩)) (fun w' => by go_simp) rfl (by simp [Region.wanted, yielded, Act.put]) ?_
                refine SeqA.read (.int .i64 bb.gen) (fun w' M => by have c0 := c66 Ru M (by simp) HNL.out 1 (a := bb) HEbb.out (by decide) (e66_0 k _); simp at c0; go_simp) rfl (by simp [Region.wanted, yielded, Act.put]) ?_
                refine SeqA.pure (.slice (some ⟨gu, 0, none⟩) n cv) (fun w' => by go_simp) rfl (by simp [Region.wanted, yielded, Act.put]) ?_
                refine SeqA.pure (.pointer (some ⟨gu, 0, none⟩)) (fun w' => by go_simp) rfl (by simp [Region.wanted, yielded, Act.put]) ?_
                refine SeqA.pure (.pointer (some ⟨gu, 0, none⟩)) (fun w' => by go_simp) rfl (by simp [Region.wanted, yielded, Act.put]) ?_
                refine SeqA.read (.int .i64 a1.gen) (fun w' M => by have c0 := c66 Ru M (by simp) HNL.out 0 (a := a1) HEa1.out (by decide) (e66_0 k _); simp at c0; go_simp) rfl (by simp [Region.wanted, yielded, Act.put]) ?_
                simp only [Act.put, List.setIfInBounds_toArray, List.set_cons_succ, List.set_cons_zero]
                refine SeqA.pure (.int .i64 bb.gen) (fun w' => by have h := HB1.out; go_simp) rfl (by simp [Region.wanted, yielded, Act.put]) ?_
                refine SeqA.pure (.bool false) (fun w' => by go_simp) rfl (by simp [Region.wanted, yielded, Act.put]) ?_
                refine SeqA.pure (.bool false) (fun w' => by go_simp) rfl (by simp [Region.wanted, yielded, Act.put]) ?_
                refine SeqA.pure (.bool false) (fun w' => by go_simp) rfl rfl ?_
                refine SeqA.nil (fun w8 M9 hz => ?_)
                show wpT _ _ _ _ _ _
                simp only [Act.put, List.setIfInBounds_toArray, List.set_cons_succ, List.set_cons_zero]
                dsimp only [wpT]
                go_upto_region 20 with fail
                refine wp_region_lin (.op 0 (.op 1 (.op 2 .done))) (by rfl) ?_
                refine wpT_valp 101 (v := .slice (some ⟨gu, 0, none⟩) n cv) rfl rfl rfl (by go_simp) ?_
                refine wpT_valp 102 (v := .int .i64 n) rfl rfl rfl (by go_simp) ?_
                refine wpT_valp 103 (v := .int .i64 0) rfl rfl rfl (by go_simp) ?_
                dsimp only [wpT]
                try simp only [Act.put, List.setIfInBounds_toArray, List.set_cons_succ, List.set_cons_zero]
                go_wp2_with fail
                go_loopw [103] (fun y wq => ∃ j : Nat, j ≤ n ∧ y = .int .i64 j ∧ Mm no w [(gu, curu), (g, cur), (gb, ROR k (.slice (some ⟨g, 0, none⟩) n c) t), (w.heap.size, cs U8 k)] wq) (fun y _ => n - (intOf y).toNat)
                case atStart => exact ⟨0, by omega, rfl, M9⟩
                case round =>
                  clear M9
                  obtain ⟨j, hj, rfl, MJ⟩ := hrel
                  by_cases hjn : j < n
                  · have hlt : (j : Int) < (n : Int) := by omega
                    have hj0 : (0 : Int) ≤ (j : Int) := by omega
                    obtain ⟨s, hs⟩ : ∃ s, L[j]? = some s := ⟨_, List.getElem?_eq_getElem (by rw [HNL.out]; exact hjn)⟩
                    have HEL := el66 (S := no) (w0 := w) Ru HNL.out hs
                    have hfin := HFIN.out s (List.mem_of_getElem? hs)
                    have hfz : ¬ ((Ep.fin s.made : Nat) : Int) ≤ (t : Int) := by omega
                    clear hs
                    go_upto_region 22 with fail
                    refine wp_region_lin (.op 0 (.op 1 (.op 2 (.op 3 .done)))) (by rfl) ?_
                    refine wpT_valp 105 (v := .pointer (some ⟨gu, j * 66, none⟩)) rfl rfl rfl (by go_simp) ?_
                    refine wpT_ldy 106 (.pointer (some ⟨gu, j * 66, none⟩)) (.agg (EPS k s)) rfl rfl rfl (by go_simp) (HEL.out _ _ MJ (by simp)) rfl ?_
                    refine wpT_new (z := .agg (ZPS)) 14 MJ (by kernel_rfl) (by decide) rfl rfl rfl rfl (fun b10 w11 M12 => ?_)
                    try dsimp only [Value.cells] at M12
                    refine wpT_st0 M12 0 (EPS k s) inf_eps rfl rfl rfl rfl (by go_simp) (by go_simp) (by simp [hk, ROR_size, EPS_size, ACT_size, Ep.pub_len]) (by simp [hk, ROR_size, EPS_size, ACT_size, Ep.pub_len]) (by simp [go_sem]) rfl (fun w13 M14 => ?_)
                    dsimp only [List.set] at M14
                    dsimp only [wpT]
                    try simp only [Act.put, List.setIfInBounds_toArray, List.set_cons_succ, List.set_cons_zero]
                    go_upto_region 23 with fail
                    refine wp_region_lin (.op 0 (.op 1 (.op 2 (.op 3 .done)))) (by rfl) ?_
                    refine wpT_valp 107 (v := .pointer (some ⟨b10, 1, none⟩)) rfl rfl rfl (by go_simp) ?_
                    refine wpT_valp 108 (v := .int .i64 (Ep.fin s.made)) rfl rfl rfl (by have c0 := eps_c1 (M14.row (b := b10) (c := EPS k s) (by simp)); go_simp) ?_
                    refine wpT_valp 109 (v := .int .i64 t) rfl rfl rfl (by go_simp) ?_
                    refine wpT_valp 110 (v := .bool false) rfl rfl rfl (by go_simp) ?_
                    dsimp only [wpT]
                    try simp only [Act.put, List.setIfInBounds_toArray, List.set_cons_succ, List.set_cons_zero]
                    go_wp2_with fail
                    go_roundw
                    case rel => exact ⟨j + 1, by omega, by simp, M14.sub (by simp)⟩
                    case measure => simp only [intOf]; omega
                  · obtain rfl : n = j := by omega
                    go_upto_region 26 with fail
                    refine wp_region_lin (.op 0 (.op 1 (.op 2 (.op 3 (.op 4 .done))))) (by rfl) ?_
                    refine wpT_valp 112 (v := .slice (some ⟨gu, 0, none⟩) n cv) rfl rfl rfl (by go_simp) ?_
                    refine wpT_valp 113 (v := .pointer (some ⟨gu, 0, none⟩)) rfl rfl rfl (by go_simp) ?_
                    refine wpT_valp 114 (v := .pointer (some ⟨gu, 0, none⟩)) rfl rfl rfl (by go_simp) ?_
                    refine wpT_valp 115 (v := .int .i64 a1.gen) rfl rfl rfl (by have c0 := c66 Ru MJ (by simp) HNL.out 0 (a := a1) HEa1.out (by decide) (e66_0 k _); simp at c0; go_simp) ?_
                    try simp only [Act.put, List.setIfInBounds_toArray, List.set_cons_succ, List.set_cons_zero]
                    refine wpT_valp 9 (v := .int .i64 a1.gen) rfl rfl rfl (by go_simp) ?_
                    dsimp only [wpT]
                    try simp only [Act.put, List.setIfInBounds_toArray, List.set_cons_succ, List.set_cons_zero]
                    go_wp2_with fail
                    go_roundw
                    case rel => exact ⟨i + 1, _, _, _, a1.gen, _, L, t, by omega, by simp, rfl, rfl, R, HNL.out, HGD.out, HGG.out, by have := HGI.out; omega, MJ.sub (by simp)⟩
                    case measure => simp only [intOf]; omega
              · have h2z : ¬ (n : Int) = 2 := by omega
                clear GN hnn ha1
                go_upto_region 10 with fail
                refine wp_region_lin (.op 0 (.op 1 (.op 2 (.op 3 (.op 4 (.op 5 .done)))))) (by rfl) ?_
                refine wpT_valp 36 (v := .slice (some ⟨ga, oa, none⟩) n0 ca) rfl rfl rfl (by go_simp) ?_
                refine wpT_valp 37 (v := .int .i64 i) rfl rfl rfl (by go_simp) ?_
                refine wpT_valp 38 (v := .pointer (some ⟨ga, oa + i * 2, none⟩)) rfl rfl rfl (by go_simp) ?_
                refine wpT_ldy 39 (.pointer (some ⟨ga, oa + i * 2, none⟩)) (.agg (ACT q e)) rfl rfl rfl (by go_simp) (HEA.out _ M.end_) rfl ?_
                try simp only [Act.put, List.setIfInBounds_toArray, List.set_cons_succ, List.set_cons_zero]
                refine wpT_new (z := .agg (ACT 0 0)) 11 M (by kernel_rfl) (by decide) rfl rfl rfl rfl (fun b1 w2 M3 => ?_)
                try dsimp only [Value.cells] at M3
                refine wpT_st0 M3 0 (ACT q e) inf_act rfl rfl rfl rfl (by go_simp) (by go_simp) (by simp [hk, ROR_size, EPS_size, ACT_size, Ep.pub_len]) (by simp [hk, ROR_size, EPS_size, ACT_size, Ep.pub_len]) (by simp [go_sem]) rfl (fun w4 M5 => ?_)
                dsimp only [List.set] at M5
                dsimp only [wpT]
                try simp only [Act.put, List.setIfInBounds_toArray, List.set_cons_succ, List.set_cons_zero]
                go_upto_region 11 with fail
                refine wp_region_lin (.op 0 (.op 1 (.op 2 (.op 3 .done)))) (by rfl) ?_
                refine wpT_valp 40 (v := .pointer (some ⟨b1, 0, none⟩)) rfl rfl rfl (by go_simp) ?_
                refine wpT_valp 41 (v := .int .u8 q) rfl rfl rfl (by have c0 := act_c0 (M5.row (b := b1) (c := ACT q e) (by simp)); go_simp) ?_
                refine wpT_valp 42 (v := .int .u8 rq) rfl rfl rfl (by have h := HRQ1.out; have h2 := HRQ2.out; go_simp) ?_
                refine wpT_valp 43 (v := .bool true) rfl rfl rfl (by go_simp) ?_
                dsimp only [wpT]
                try simp only [Act.put, List.setIfInBounds_toArray, List.set_cons_succ, List.set_cons_zero]
                go_upto_region 12 with fail
                refine wp_region_lin (.op 0 (.op 1 (.op 2 (.op 3 (.op 4 .done))))) (by rfl) ?_
                refine wpT_valp 44 (v := .pointer (some ⟨gb, 0, none⟩)) rfl rfl rfl (by go_simp) ?_
                refine wpT_valp 45 (v := .pointer (some ⟨b1, 1, none⟩)) rfl rfl rfl (by go_simp) ?_
                refine wpT_valp 46 (v := .int .i64 e) rfl rfl rfl (by have c0 := act_c1 (M5.row (b := b1) (c := ACT q e) (by simp)); go_simp) ?_
                refine wpT_callv 47 M5 (v := .int .i64 2) rfl rfl rfl (by go_simp) (restart_old w4 _ gb k L t _ (ro_at (b := gb) (t := t) M5 (A := [(b1, ACT q e)]) (C := [(w.heap.size, cs U8 k)]) rfl R hn hgb hk (by omega)) e HNO.out) (fun w6 M7 => ?_)
                try simp only [Act.put, List.setIfInBounds_toArray, List.set_cons_succ, List.set_cons_zero]
                refine wpT_valp 48 (v := .bool false) rfl rfl rfl (by go_simp) ?_
                dsimp only [wpT]
                try simp only [Act.put, List.setIfInBounds_toArray, List.set_cons_succ, List.set_cons_zero]
                go_upto_region 17 with fail
                have MM := M7.sub (H' := [(g, cur), (gb, ROR k (.slice (some ⟨g, 0, none⟩) n c) t), (w.heap.size, cs U8 k)]) (by simp)
                refine wp_region_lin (.op 0 (.op 1 (.op 2 .done))) (by rfl) ?_
                refine wpT_valp 66 (v := .pointer (some ⟨gb, 0, none⟩)) rfl rfl rfl (by go_simp) ?_
                refine wpT_ownr 67 MM rfl rfl rfl (by go_simp) (open_ep (n := n) (ro_at (b := gb) (t := t) MM (A := []) (C := [(w.heap.size, cs U8 k)]) rfl R hn hgb hk (by omega)) (by omega) HNL.out) (by omega) (fun gu cv curu wgu Ru Mgu => ?_)
                refine wpT_valp 12 (v := .slice (some ⟨gu, 0, none⟩) n cv) rfl rfl rfl (by go_simp) ?_
                dsimp only [wpT]
                try simp only [Act.put, List.setIfInBounds_toArray, List.set_cons_succ, List.set_cons_zero]
                go_upto_region 18 with fail
                refine wp_region_seq 33 [68, 69, 70, 71, 72, 73, 74, 75, 76, 77, 78, 79, 80, 81, 82, 83, 84, 85, 86, 87, 88, 89, 90, 91, 92, 93, 94, 95, 96, 97, 98, 99, 100] [] [] [] (.done) (Mm no w _) (by kernel_rfl) (by kernel_rfl) (by kernel_rfl) (fun d _ _ _ _ h => by cases d <;> exact h) (by rfl) Mgu.size (fun _ _ h k => h.sf k) Mgu ?_
                simp only [List.take_succ_cons, List.take_zero]
                refine SeqA.pure (.slice (some ⟨gu, 0, none⟩) n cv) (fun w' => by go_simp) rfl rfl ?_
                refine SeqA.pure (.int .i64 n) (fun w' => by go_simp) rfl rfl ?_
                refine SeqA.pure (.bool false) (fun w' => by go_simp) rfl rfl ?_
                refine SeqA.pure (.bool false) (fun w' => by go_simp) rfl rfl ?_
                refine SeqA.pure (.slice (some ⟨gu, 0, none⟩) n cv) (fun w' => by go_simp) rfl (by simp [Region.wanted, yielded, Act.put]) ?_
                simp only [Act.put, List.setIfInBounds_toArray, List.set_cons_succ, List.set_cons_zero]
                refine SeqA.pure (.int .i64 n) (fun w' => by go_simp) rfl (by simp [Region.wanted, yielded, Act.put]) ?_
                refine SeqA.pure (.bool false) (fun w' => by go_simp) rfl (by simp [Region.wanted, yielded, Act.put]) ?_
                refine SeqA.pure (.bool false) (fun w' => by go_simp) rfl rfl ?_
                refine SeqA.pure (.bool false) (fun w' => by go_simp) rfl rfl ?_
                refine SeqA.pure (.slice (some ⟨gu, 0, none⟩) n cv) (fun w' => by go_simp) rfl (by simp [Region.wanted, yielded, Act.put]) ?_
                refine SeqA.pure (.pointer (some ⟨gu, 0, none⟩)) (fun w' => by go_simp) rfl (by simp [Region.wanted, yielded, Act.put]) ?_
                simp only [Act.put, List.setIfInBounds_toArray, List.set_cons_succ, List.set_cons_zero]
                refine SeqA.pure (.pointer (some ⟨gu, 0, none⟩)) (fun w' => by go_simp) rfl (by simp [Region.wanted, yielded, Act.put]) ?_
                refine SeqA.read (.int .i64 a1.gen) (fun w' M => by have c0 := c66 Ru M (by simp) HNL.out 0 (a := a1) HEa1.out (by decide) (e66_0 k _); simp at c0; go_simp) rfl (by simp [Region.wanted, yielded, Act.put]) ?_
                refine SeqA.pure (.int .i64 hg) (fun w' => by go_simp) rfl (by simp [Region.wanted, yielded, Act.put]) ?_
                refine SeqA.pure (.bool false) (fun w' => by go_simp) rfl (by simp [Region.wanted, yielded, Act.put]) ?_
                refine SeqA.pure (.bool false) (fun w' => by go_simp) rfl rfl ?_
                refine SeqA.pure (.bool false) (fun w' => by go_simp) rfl rfl ?_
                simp only [Act.put, List.setIfInBounds_toArray, List.set_cons_succ, List.set_cons_zero]
                refine SeqA.pure (.slice (some ⟨gu, 0, none⟩) n cv) (fun w' => by go_simp) rfl (by simp [Region.wanted, yielded, Act.put]) ?_
                refine SeqA.pure (.int .i64 n) (fun w' => by go_simp) rfl (by simp [Region.wanted, yielded, Act.put]) ?_
                refine SeqA.pure (.bool false) (fun w' => by go_simp) rfl (by simp [Region.wanted, yielded, Act.put]) ?_
                refine SeqA.pure (.bool false) (fun w' => by go_simp) rfl (by simp [Region.wanted, yielded, Act.put]) ?_
                refine SeqA.skip rfl (by simp [Region.wanted, yielded, Act.put]) ?_ rfl
                refine SeqA.skip rfl (by simp [Region.wanted, yielded, Act.put]) ?_ rfl
                simp only [Act.put, List.setIfInBounds_toArray, List.set_cons_succ, List.set_cons_zero]
                refine SeqA.skip rfl (by simp [Region.wanted, yielded, Act.put]) ?_ rfl
                refine SeqA.skip rfl (by simp [Region.wanted, yielded, Act.put]) ?_ rfl
                refine SeqA.skip rfl (by simp [Region.wanted, yielded, Act.put]) ?_ rfl
                refine SeqA.skip rfl (by simp [Region.wanted, yielded, Act.put]) ?_ rfl
                refine SeqA.skip rfl (by simp [Region.wanted, yielded, Act.put]) ?_ rfl
                refine SeqA.skip rfl (by simp [Region.wanted, yielded, Act.put]) ?_ rfl
                simp only [Act.put, List.setIfInBounds_toArray, List.set_cons_succ, List.set_cons_zero]
                refine SeqA.skip rfl (by simp [Region.wanted, yielded, Act.put]) ?_ rfl
                refine SeqA.skip rfl (by simp [Region.wanted, yielded, Act.put]) ?_ rfl
                refine SeqA.pure (.bool false) (fun w' => by go_simp) rfl (by simp [Region.wanted, yielded, Act.put]) ?_
                refine SeqA.pure (.bool false) (fun w' => by go_simp) rfl rfl ?_
                refine SeqA.nil (fun w8 M9 hz => ?_)
                show wpT _ _ _ _ _ _
                simp only [Act.put, List.setIfInBounds_toArray, List.set_cons_succ, List.set_cons_zero]
                dsimp only [wpT]
                go_upto_region 20 with fail
                refine wp_region_lin (.op 0 (.op 1 (.op 2 .done))) (by rfl) ?_
                refine wpT_valp 101 (v := .slice (some ⟨gu, 0, none⟩) n cv) rfl rfl rfl (by go_simp) ?_
                refine wpT_valp 102 (v := .int .i64 n) rfl rfl rfl (by go_simp) ?_
                refine wpT_valp 103 (v := .int .i64 0) rfl rfl rfl (by go_simp) ?_
                dsimp only [wpT]
                try simp only [Act.put, List.setIfInBounds_toArray, List.set_cons_succ, List.set_cons_zero]
                go_wp2_with fail
                go_loopw [103] (fun y wq => ∃ j : Nat, j ≤ n ∧ y = .int .i64 j ∧ Mm no w [(gu, curu), (g, cur), (gb, ROR k (.slice (some ⟨g, 0, none⟩) n c) t), (w.heap.size, cs U8 k)] wq) (fun y _ => n - (intOf y).toNat)
                case atStart => exact ⟨0, by omega, rfl, M9⟩
                case round =>
                  clear M9
                  obtain ⟨j, hj, rfl, MJ⟩ := hrel
                  by_cases hjn : j < n
                  · have hlt : (j : Int) < (n : Int) := by omega
                    have hj0 : (0 : Int) ≤ (j : Int) := by omega
                    obtain ⟨s, hs⟩ : ∃ s, L[j]? = some s := ⟨_, List.getElem?_eq_getElem (by rw [HNL.out]; exact hjn)⟩
                    have HEL := el66 (S := no) (w0 := w) Ru HNL.out hs
                    have hfin := HFIN.out s (List.mem_of_getElem? hs)
                    have hfz : ¬ ((Ep.fin s.made : Nat) : Int) ≤ (t : Int) := by omega
                    clear hs
                    go_upto_region 22 with fail
                    refine wp_region_lin (.op 0 (.op 1 (.op 2 (.op 3 .done)))) (by rfl) ?_
                    refine wpT_valp 105 (v := .pointer (some ⟨gu, j * 66, none⟩)) rfl rfl rfl (by go_simp) ?_
                    refine wpT_ldy 106 (.pointer (some ⟨gu, j * 66, none⟩)) (.agg (EPS k s)) rfl rfl rfl (by go_simp) (HEL.out _ _ MJ (by simp)) rfl ?_
                    refine wpT_new (z := .agg (ZPS)) 14 MJ (by kernel_rfl) (by decide) rfl rfl rfl rfl (fun b10 w11 M12 => ?_)
                    try dsimp only [Value.cells] at M12
                    refine wpT_st0 M12 0 (EPS k s) inf_eps rfl rfl rfl rfl (by go_simp) (by go_simp) (by simp [hk, ROR_size, EPS_size, ACT_size, Ep.pub_len]) (by simp [hk, ROR_size, EPS_size, ACT_size, Ep.pub_len]) (by simp [go_sem]) rfl (fun w13 M14 => ?_)
                    dsimp only [List.set] at M14
                    dsimp only [wpT]
                    try simp only [Act.put, List.setIfInBounds_toArray, List.set_cons_succ, List.set_cons_zero]
                    go_upto_region 23 with fail
                    refine wp_region_lin (.op 0 (.op 1 (.op 2 (.op 3 .done)))) (by rfl) ?_
                    refine wpT_valp 107 (v := .pointer (some ⟨b10, 1, none⟩)) rfl rfl rfl (by go_simp) ?_
                    refine wpT_valp 108 (v := .int .i64 (Ep.fin s.made)) rfl rfl rfl (by have c0 := eps_c1 (M14.row (b := b10) (c := EPS k s) (by simp)); go_simp) ?_
                    refine wpT_valp 109 (v := .int .i64 t) rfl rfl rfl (by go_simp) ?_
                    refine wpT_valp 110 (v := .bool false) rfl rfl rfl (by go_simp) ?_
                    dsimp only [wpT]
                    try simp only [Act.put, List.setIfInBounds_toArray, List.set_cons_succ, List.set_cons_zero]
                    go_wp2_with fail
                    go_roundw
                    case rel => exact ⟨j + 1, by omega, by simp, M14.sub (by simp)⟩
                    case measure => simp only [intOf]; omega
                  · obtain rfl : n = j := by omega
                    go_upto_region 26 with fail
                    refine wp_region_lin (.op 0 (.op 1 (.op 2 (.op 3 (.op 4 .done))))) (by rfl) ?_
                    refine wpT_valp 112 (v := .slice (some ⟨gu, 0, none⟩) n cv) rfl rfl rfl (by go_simp) ?_
                    refine wpT_valp 113 (v := .pointer (some ⟨gu, 0, none⟩)) rfl rfl rfl (by go_simp) ?_
                    refine wpT_valp 114 (v := .pointer (some ⟨gu, 0, none⟩)) rfl rfl rfl (by go_simp) ?_
                    refine wpT_valp 115 (v := .int .i64 a1.gen) rfl rfl rfl (by have c0 := c66 Ru MJ (by simp) HNL.out 0 (a := a1) HEa1.out (by decide) (e66_0 k _); simp at c0; go_simp) ?_
                    try simp only [Act.put, List.setIfInBounds_toArray, List.set_cons_succ, List.set_cons_zero]
                    refine wpT_valp 9 (v := .int .i64 a1.gen) rfl rfl rfl (by go_simp) ?_
                    dsimp only [wpT]
                    try simp only [Act.put, List.setIfInBounds_toArray, List.set_cons_succ, List.set_cons_zero]
                    go_wp2_with fail
                    go_roundw
                    case rel => exact ⟨i + 1, _, _, _, a1.gen, _, L, t, by omega, by simp, rfl, rfl, R, HNL.out, HGD.out, HGG.out, by have := HGI.out; omega, MJ.sub (by simp)⟩
                    case measure => simp only [intOf]; omega
          · by_cases hlate : (t : Int) ≤ e
            · by_cases hck : 0 ≤ e ∧ e ≤ 1099511627776
              · have HCK := hid (decide_eq_true hck)
                obtain ⟨m, rfl⟩ : ∃ m : Nat, e = m := ⟨e.toNat, by omega⟩
                have htm : t ≤ m := by omega
                have hmm : m ≤ 1099511627776 := by omega
                obtain ⟨GN, hgen⟩ := G.tick htm (by omega)
                obtain ⟨Ln, hLn⟩ : ∃ L', Ep.tick L m = L' := ⟨_, rfl⟩
                rw [hLn] at GN hgen
                have HLN := hid hLn
                obtain ⟨sl, hsl, hslg⟩ := GN.la
                have HSL := hid hsl
                obtain ⟨nn, hnn⟩ : ∃ n, Ln.length = n := ⟨_, rfl⟩
                have HGI := hid (show Ep.gen0 Ln ≤ i + 1 by omega)
                have hnn2 := GN.len
                rw [hnn] at hnn2
                obtain ⟨a1, ha1, hga1, hma1⟩ := GN.hd
                have HEa1 := hid ha1
                have HNL := hid hnn
                have HGD := hid GN
                have HGG := hid hga1.symm
                have HFIN := hid GN.fins
                have hk1 : ¬ (nn : Int) < 1 := by omega
                have hk2 : ¬ (2 : Int) < (nn : Int) := by omega
                have hgz : ¬ (a1.gen : Int) < (hg : Int) := by omega
                have hn00 : (0 : Int) < (nn : Int) := by omega
                have hn01 : 0 < nn := by omega
                have hn02 : ¬ nn = 0 := by omega
                have HMC := hid (show (hg : Int) = (a1.gen : Int) ∨ (hg : Int) < (a1.gen : Int) by omega)
                have hgbd : a1.gen ≤ 1000000 := by have := HGI.out; omega
                have HHG := hid hhg
                clear hhg hga hga1
                clear ha hLn hsl
                by_cases h2n : nn = 2
                · skip
                  obtain ⟨a1', bb, e1, hb1, hab⟩ := GN.snd (by rw [hnn]; exact h2n)
                  rw [ha1] at e1
                  injection e1 with e1
                  subst e1
                  have HEbb := hid hb1
                  have HB1 := hid (show IntKind.i64.wrap ((a1.gen : Int) - 1) = (bb.gen : Int) by rw [i64w _ (by omega) (by omega)]; omega)
                  have h2z : (nn : Int) = 2 := by omega
                  have h1z : (1 : Int) < (nn : Int) := by omega
                  clear hab
                  clear GN hnn ha1 hb1
                  go_upto_region 10 with fail
                  refine wp_region_lin (.op 0 (.op 1 (.op 2 (.op 3 (.op 4 (.op 5 .done)))))) (by rfl) ?_
                  refine wpT_valp 36 (v := .slice (some ⟨ga, oa, none⟩) n0 ca) rfl rfl rfl (by go_simp) ?_
                  refine wpT_valp 37 (v := .int .i64 i) rfl rfl rfl (by go_simp) ?_
                  refine wpT_valp 38 (v := .pointer (some ⟨ga, oa + i * 2, none⟩)) rfl rfl rfl (by go_simp) ?_
                  refine wpT_ldy 39 (.pointer (some ⟨ga, oa + i * 2, none⟩)) (.agg (ACT q m)) rfl rfl rfl (by go_simp) (HEA.out _ M.end_) rfl ?_
                  try simp only [Act.put, List.setIfInBounds_toArray, List.set_cons_succ, List.set_cons_zero]
                  refine wpT_new (z := .agg (ACT 0 0)) 11 M (by kernel_rfl) (by decide) rfl rfl rfl rfl (fun b1 w2 M3 => ?_)
                  try dsimp only [Value.cells] at M3
                  refine wpT_st0 M3 0 (ACT q m) inf_act rfl rfl rfl rfl (by go_simp) (by go_simp) (by simp [hk, ROR_size, EPS_size, ACT_size, Ep.pub_len]) (by simp [hk, ROR_size, EPS_size, ACT_size, Ep.pub_len]) (by simp [go_sem]) rfl (fun w4 M5 => ?_)
                  dsimp only [List.set] at M5
                  dsimp only [wpT]
                  try simp only [Act.put, List.setIfInBounds_toArray, List.set_cons_succ, List.set_cons_zero]
                  go_upto_region 11 with fail
                  refine wp_region_lin (.op 0 (.op 1 (.op 2 (.op 3 .done)))) (by rfl) ?_
                  refine wpT_valp 40 (v := .pointer (some ⟨b1, 0, none⟩)) rfl rfl rfl (by go_simp) ?_
                  refine wpT_valp 41 (v := .int .u8 q) rfl rfl rfl (by have c0 := act_c0 (M5.row (b := b1) (c := ACT q m) (by simp)); go_simp) ?_
                  refine wpT_valp 42 (v := .int .u8 rq) rfl rfl rfl (by have h := HRQ1.out; have h2 := HRQ2.out; go_simp) ?_
                  refine wpT_valp 43 (v := .bool false) rfl rfl rfl (by go_simp) ?_
                  dsimp only [wpT]
                  try simp only [Act.put, List.setIfInBounds_toArray, List.set_cons_succ, List.set_cons_zero]
                  go_upto_region 14 with fail
                  refine wp_region_lin (.op 0 (.op 1 (.op 2 (.op 3 (.op 4 (.op 5 (.op 6 (.op 7 (.op 8 .done))))))))) (by rfl) ?_
                  refine wpT_valp 51 (v := .pointer (some ⟨b1, 1, none⟩)) rfl rfl rfl (by go_simp) ?_
                  refine wpT_valp 52 (v := .int .i64 m) rfl rfl rfl (by have c0 := act_c1 (M5.row (b := b1) (c := ACT q m) (by simp)); go_simp) ?_
                  refine wpT_valp 53 (v := .int .i64 t) rfl rfl rfl (by go_simp) ?_
                  refine wpT_valp 54 (v := .bool true) rfl rfl rfl (by go_simp) ?_
                  try simp only [Act.put, List.setIfInBounds_toArray, List.set_cons_succ, List.set_cons_zero]
                  refine wpT_valp 55 (v := .bool true) rfl rfl rfl (by go_simp) ?_
                  refine wpT_valp 56 (v := .pointer (some ⟨b1, 1, none⟩)) rfl rfl (by simp [Region.wanted, yielded, Act.put]) (by go_simp) ?_
                  refine wpT_valp 57 (v := .int .i64 m) rfl rfl (by simp [Region.wanted, yielded, Act.put]) (by have c0 := act_c1 (M5.row (b := b1) (c := ACT q m) (by simp)); go_simp) ?_
                  refine wpT_callv 58 M5 (v := .bool true) rfl rfl (by simp [Region.wanted, yielded, Act.put]) (by go_simp) (clock_b w4 _ HCK.out) (fun w6 M7 => ?_)
                  refine wpT_valp 59 (v := .bool true) rfl rfl rfl (by go_simp) ?_
                  dsimp only [wpT]
                  try simp only [Act.put, List.setIfInBounds_toArray, List.set_cons_succ, List.set_cons_zero]
                  go_upto_region 15 with fail
                  refine wp_region_lin (.op 0 (.op 1 (.op 2 (.op 3 .done)))) (by rfl) ?_
                  refine wpT_valp 60 (v := .pointer (some ⟨gb, 0, none⟩)) rfl rfl rfl (by go_simp) ?_
                  refine wpT_valp 61 (v := .pointer (some ⟨b1, 1, none⟩)) rfl rfl rfl (by go_simp) ?_
                  refine wpT_valp 62 (v := .int .i64 m) rfl rfl rfl (by have c0 := act_c1 (M7.row (b := b1) (c := ACT q m) (by simp)); go_simp) ?_
                  refine wpT_ro (t' := m) (n' := nn) 63 M7 [(b1, ACT q m)] [(w.heap.size, cs U8 k)] rfl rfl R rfl rfl rfl (by go_simp) (tick_v (ro_at (b := gb) (t := t) M7 (A := [(b1, ACT q m)]) (C := [(w.heap.size, cs U8 k)]) rfl R hn hgb hk (by omega)) HT3.out M7.end_ H9.out m _ rfl (by omega) (by omega) a HA.out (by omega) (by omega) HLN.out sl HSL.out _ rfl) HNL.out (fun gn cn cun wgn Rn Mgn => ?_)
                  dsimp only [wpT]
                  try simp only [Act.put, List.setIfInBounds_toArray, List.set_cons_succ, List.set_cons_zero]
                  go_upto_region 16 with fail
                  refine wp_region_lin (.op 0 (.op 1 (.op 2 .done))) (by rfl) ?_
                  refine wpT_valp 64 (v := .pointer (some ⟨b1, 1, none⟩)) rfl rfl rfl (by go_simp) ?_
                  refine wpT_valp 65 (v := .int .i64 m) rfl rfl rfl (by have c0 := act_c1 (Mgn.row (b := b1) (c := ACT q m) (by simp)); go_simp) ?_
                  refine wpT_valp 8 (v := .int .i64 m) rfl rfl rfl (by go_simp) ?_
                  dsimp only [wpT]
                  try simp only [Act.put, List.setIfInBounds_toArray, List.set_cons_succ, List.set_cons_zero]
                  go_upto_region 17 with fail
                  have MM := Mgn.sub (H' := [(gn, cun), (gb, ROR k (.slice (some ⟨gn, 0, none⟩) nn cn) m), (w.heap.size, cs U8 k)]) (by simp)
                  refine wp_region_lin (.op 0 (.op 1 (.op 2 .done))) (by rfl) ?_
                  refine wpT_valp 66 (v := .pointer (some ⟨gb, 0, none⟩)) rfl rfl rfl (by go_simp) ?_
                  refine wpT_ownr 67 MM rfl rfl rfl (by go_simp) (open_ep (n := nn) (ro_at (b := gb) (t := m) MM (A := []) (C := [(w.heap.size, cs U8 k)]) rfl Rn HNL.out hgb hk (by omega)) (by omega) HNL.out) (by omega) (fun gu cv curu wgu Ru Mgu => ?_)
                  refine wpT_valp 12 (v := .slice (some ⟨gu, 0, none⟩) nn cv) rfl rfl rfl (by go_simp) ?_
                  dsimp only [wpT]
                  try simp only [Act.put, List.setIfInBounds_toArray, List.set_cons_succ, List.set_cons_zero]
                  go_upto_region 18 with fail
                  refine wp_region_seq 33 [68, 69, 70, 71, 72, 73, 74, 75, 76, 77, 78, 79, 80, 81, 82, 83, 84, 85, 86, 87, 88, 89, 90, 91, 92, 93, 94, 95, 96, 97, 98, 99, 100] [] [] [] (.done) (Mm no w _) (by kernel_rfl) (by kernel_rfl) (by kernel_rfl) (fun d _ _ _ _ h => by cases d <;> exact h) (by rfl) Mgu.size (fun _ _ h k => h.sf k) Mgu ?_
                  simp only [List.take_succ_cons, List.take_zero]
                  refine SeqA.pure (.slice (some ⟨gu, 0, none⟩) nn cv) (fun w' => by go_simp) rfl rfl ?_
                  refine SeqA.pure (.int .i64 nn) (fun w' => by go_simp) rfl rfl ?_
                  refine SeqA.pure (.bool false) (fun w' => by go_simp) rfl rfl ?_
                  refine SeqA.pure (.bool false) (fun w' => by go_simp) rfl rfl ?_
                  refine SeqA.pure (.slice (some ⟨gu, 0, none⟩) nn cv) (fun w' => by go_simp) rfl (by simp [Region.wanted, yielded, Act.put]) ?_
                  simp only [Act.put, List.setIfInBounds_toArray, List.set_cons_succ, List.set_cons_zero]
                  refine SeqA.pure (.int .i64 nn) (fun w' => by go_simp) rfl (by simp [Region.wanted, yielded, Act.put]) ?_
                  refine SeqA.pure (.bool false) (fun w' => by go_simp) rfl (by simp [Region.wanted, yielded, Act.put]) ?_
                  refine SeqA.pure (.bool false) (fun w' => by go_simp) rfl rfl ?_
                  refine SeqA.pure (.bool false) (fun w' => by go_simp) rfl rfl ?_
                  refine SeqA.pure (.slice (some ⟨gu, 0, none⟩) nn cv) (fun w' => by go_simp) rfl (by simp [Region.wanted, yielded, Act.put]) ?_
                  refine SeqA.pure (.pointer (some ⟨gu, 0, none⟩)) (fun w' => by go_simp) rfl (by simp [Region.wanted, yielded, Act.put]) ?_
                  simp only [Act.put, List.setIfInBounds_toArray, List.set_cons_succ, List.set_cons_zero]
                  refine SeqA.pure (.pointer (some ⟨gu, 0, none⟩)) (fun w' => by go_simp) rfl (by simp [Region.wanted, yielded, Act.put]) ?_
                  refine SeqA.read (.int .i64 a1.gen) (fun w' M => by have c0 := c66 Ru M (by simp) HNL.out 0 (a := a1) HEa1.out (by decide) (e66_0 k _); simp at c0; go_simp) rfl (by simp [Region.wanted, yielded, Act.put]) ?_
                  refine SeqA.pure (.int .i64 hg) (fun w' => by go_simp) rfl (by simp [Region.wanted, yielded, Act.put]) ?_
                  refine SeqA.pure (.bool false) (fun w' => by go_simp) rfl (by simp [Region.wanted, yielded, Act.put]) ?_
                  refine SeqA.pure (.bool false) (fun w' => by go_simp) rfl rfl ?_
                  refine SeqA.pure (.bool false) (fun w' => by go_simp) rfl rfl ?_
                  simp only [Act.put, List.setIfInBounds_toArray, List.set_cons_succ, List.set_cons_zero]
                  refine SeqA.pure (.slice (some ⟨gu, 0, none⟩) nn cv) (fun w' => by go_simp) rfl (by simp [Region.wanted, yielded, Act.put]) ?_
                  refine SeqA.pure (.int .i64 nn) (fun w' => by go_simp) rfl (by simp [Region.wanted, yielded, Act.put]) ?_
                  refine SeqA.pure (.bool true) (fun w' => by go_simp) rfl (by simp [Region.wanted, yielded, Act.put]) ?_
                  refine SeqA.pure (.bool true) (fun w' => by go_simp) rfl (by simp [Region.wanted, yielded, Act.put]) ?_
                  refine SeqA.pure (.slice (some ⟨gu, 0, none⟩) nn cv) (fun w' => by go_simp) rfl (by simp [Region.wanted, yielded, Act.put]) ?_
                  refine SeqA.pure (.pointer (some ⟨gu, 66, none⟩)) (fun w' => by go_simp) rfl (by simp [Region.wanted, yielded, Act.put]) ?_
                  simp only [Act.put, List.setIfInBounds_toArray, List.set_cons_succ, List.set_cons_zero]
                  refine SeqA.pure (.pointer (some ⟨gu, 66, none⟩)) (fun w' => by go_simp) rfl (by simp [Region.wanted, yielded, Act.put]) ?_
                  refine SeqA.read (.int .i64 bb.gen) (fun w' M => by have c0 := c66 Ru M (by simp) HNL.out 1 (a := bb) HEbb.out (by decide) (e66_0 k _); simp at c0; go_simp) rfl (by simp [Region.wanted, yielded, Act.put]) ?_
                  refine SeqA.pure (.slice (some ⟨gu, 0, none⟩) nn cv) (fun w' => by go_simp) rfl (by simp [Region.wanted, yielded, Act.put]) ?_
                  refine SeqA.pure (.pointer (some ⟨gu, 0, none⟩)) (fun w' => by go_simp) rfl (by simp [Region.wanted, yielded, Act.put]) ?_
                  refine SeqA.pure (.pointer (some ⟨gu, 0, none⟩)) (fun w' => by go_simp) rfl (by simp [Region.wanted, yielded, Act.put]) ?_
                  refine SeqA.read (.int .i64 a1.gen) (fun w' M => by have c0 := c66 Ru M (by simp) HNL.out 0 (a := a1) HEa1.out (by decide) (e66_0 k _); simp at c0; go_simp) rfl (by simp [Region.wanted, yielded, Act.put]) ?_
                  simp only [Act.put, List.setIfInBounds_toArray, List.set_cons_succ, List.set_cons_zero]
                  refine SeqA.pure (.int .i64 bb.gen) (fun w' => by have h := HB1.out; go_simp) rfl (by simp [Region.wanted, yielded, Act.put]) ?_
                  refine SeqA.pure (.bool false) (fun w' => by go_simp) rfl (by simp [Region.wanted, yielded, Act.put]) ?_
                  refine SeqA.pure (.bool false) (fun w' => by go_simp) rfl (by simp [Region.wanted, yielded, Act.put]) ?_
                  refine SeqA.pure (.bool false) (fun w' => by go_simp) rfl rfl ?_
                  refine SeqA.nil (fun w8 M9 hz => ?_)
                  show wpT _ _ _ _ _ _
                  simp only [Act.put, List.setIfInBounds_toArray, List.set_cons_succ, List.set_cons_zero]
                  dsimp only [wpT]
                  go_upto_region 20 with fail
                  refine wp_region_lin (.op 0 (.op 1 (.op 2 .done))) (by rfl) ?_
                  refine wpT_valp 101 (v := .slice (some ⟨gu, 0, none⟩) nn cv) rfl rfl rfl (by go_simp) ?_
                  refine wpT_valp 102 (v := .int .i64 nn) rfl rfl rfl (by go_simp) ?_
                  refine wpT_valp 103 (v := .int .i64 0) rfl rfl rfl (by go_simp) ?_
                  dsimp only [wpT]
                  try simp only [Act.put, List.setIfInBounds_toArray, List.set_cons_succ, List.set_cons_zero]
                  go_wp2_with fail
                  go_loopw [103] (fun y wq => ∃ j : Nat, j ≤ nn ∧ y = .int .i64 j ∧ Mm no w [(gu, curu), (gn, cun), (gb, ROR k (.slice (some ⟨gn, 0, none⟩) nn cn) m), (w.heap.size, cs U8 k)] wq) (fun y _ => nn - (intOf y).toNat)
                  case atStart => exact ⟨0, by omega, rfl, M9⟩
                  case round =>
                    clear M9
                    obtain ⟨j, hj, rfl, MJ⟩ := hrel
                    by_cases hjn : j < nn
                    · have hlt : (j : Int) < (nn : Int) := by omega
                      have hj0 : (0 : Int) ≤ (j : Int) := by omega
                      obtain ⟨s, hs⟩ : ∃ s, Ln[j]? = some s := ⟨_, List.getElem?_eq_getElem (by rw [HNL.out]; exact hjn)⟩
                      have HEL := el66 (S := no) (w0 := w) Ru HNL.out hs
                      have hfin := HFIN.out s (List.mem_of_getElem? hs)
                      have hfz : ¬ ((Ep.fin s.made : Nat) : Int) ≤ (m : Int) := by omega
                      clear hs
                      go_upto_region 22 with fail
                      refine wp_region_lin (.op 0 (.op 1 (.op 2 (.op 3 .done)))) (by rfl) ?_
                      refine wpT_valp 105 (v := .pointer (some ⟨gu, j * 66, none⟩)) rfl rfl rfl (by go_simp) ?_
                      refine wpT_ldy 106 (.pointer (some ⟨gu, j * 66, none⟩)) (.agg (EPS k s)) rfl rfl rfl (by go_simp) (HEL.out _ _ MJ (by simp)) rfl ?_
                      refine wpT_new (z := .agg (ZPS)) 14 MJ (by kernel_rfl) (by decide) rfl rfl rfl rfl (fun b10 w11 M12 => ?_)
                      try dsimp only [Value.cells] at M12
                      refine wpT_st0 M12 0 (EPS k s) inf_eps rfl rfl rfl rfl (by go_simp) (by go_simp) (by simp [hk, ROR_size, EPS_size, ACT_size, Ep.pub_len]) (by simp [hk, ROR_size, EPS_size, ACT_size, Ep.pub_len]) (by simp [go_sem]) rfl (fun w13 M14 => ?_)
                      dsimp only [List.set] at M14
                      dsimp only [wpT]
                      try simp only [Act.put, List.setIfInBounds_toArray, List.set_cons_succ, List.set_cons_zero]
                      go_upto_region 23 with fail
                      refine wp_region_lin (.op 0 (.op 1 (.op 2 (.op 3 .done)))) (by rfl) ?_
                      refine wpT_valp 107 (v := .pointer (some ⟨b10, 1, none⟩)) rfl rfl rfl (by go_simp) ?_
                      refine wpT_valp 108 (v := .int .i64 (Ep.fin s.made)) rfl rfl rfl (by have c0 := eps_c1 (M14.row (b := b10) (c := EPS k s) (by simp)); go_simp) ?_
                      refine wpT_valp 109 (v := .int .i64 m) rfl rfl rfl (by go_simp) ?_
                      refine wpT_valp 110 (v := .bool false) rfl rfl rfl (by go_simp) ?_
                      dsimp only [wpT]
                      try simp only [Act.put, List.setIfInBounds_toArray, List.set_cons_succ, List.set_cons_zero]
                      go_wp2_with fail
                      go_roundw
                      case rel => exact ⟨j + 1, by omega, by simp, M14.sub (by simp)⟩
                      case measure => simp only [intOf]; omega
                    · obtain rfl : nn = j := by omega
                      go_upto_region 26 with fail
                      refine wp_region_lin (.op 0 (.op 1 (.op 2 (.op 3 (.op 4 .done))))) (by rfl) ?_
                      refine wpT_valp 112 (v := .slice (some ⟨gu, 0, none⟩) nn cv) rfl rfl rfl (by go_simp) ?_
                      refine wpT_valp 113 (v := .pointer (some ⟨gu, 0, none⟩)) rfl rfl rfl (by go_simp) ?_
                      refine wpT_valp 114 (v := .pointer (some ⟨gu, 0, none⟩)) rfl rfl rfl (by go_simp) ?_
                      refine wpT_valp 115 (v := .int .i64 a1.gen) rfl rfl rfl (by have c0 := c66 Ru MJ (by simp) HNL.out 0 (a := a1) HEa1.out (by decide) (e66_0 k _); simp at c0; go_simp) ?_
                      try simp only [Act.put, List.setIfInBounds_toArray, List.set_cons_succ, List.set_cons_zero]
                      refine wpT_valp 9 (v := .int .i64 a1.gen) rfl rfl rfl (by go_simp) ?_
                      dsimp only [wpT]
                      try simp only [Act.put, List.setIfInBounds_toArray, List.set_cons_succ, List.set_cons_zero]
                      go_wp2_with fail
                      go_roundw
                      case rel => exact ⟨i + 1, _, _, _, a1.gen, _, Ln, m, by omega, by simp, rfl, rfl, Rn, HNL.out, HGD.out, HGG.out, by have := HGI.out; omega, MJ.sub (by simp)⟩
                      case measure => simp only [intOf]; omega
                · have h2z : ¬ (nn : Int) = 2 := by omega
                  clear GN hnn ha1
                  go_upto_region 10 with fail
                  refine wp_region_lin (.op 0 (.op 1 (.op 2 (.op 3 (.op 4 (.op 5 .done)))))) (by rfl) ?_
                  refine wpT_valp 36 (v := .slice (some ⟨ga, oa, none⟩) n0 ca) rfl rfl rfl (by go_simp) ?_
                  refine wpT_valp 37 (v := .int .i64 i) rfl rfl rfl (by go_simp) ?_
                  refine wpT_valp 38 (v := .pointer (some ⟨ga, oa + i * 2, none⟩)) rfl rfl rfl (by go_simp) ?_
                  refine wpT_ldy 39 (.pointer (some ⟨ga, oa + i * 2, none⟩)) (.agg (ACT q m)) rfl rfl rfl (by go_simp) (HEA.out _ M.end_) rfl ?_
                  try simp only [Act.put, List.setIfInBounds_toArray, List.set_cons_succ, List.set_cons_zero]
                  refine wpT_new (z := .agg (ACT 0 0)) 11 M (by kernel_rfl) (by decide) rfl rfl rfl rfl (fun b1 w2 M3 => ?_)
                  try dsimp only [Value.cells] at M3
                  refine wpT_st0 M3 0 (ACT q m) inf_act rfl rfl rfl rfl (by go_simp) (by go_simp) (by simp [hk, ROR_size, EPS_size, ACT_size, Ep.pub_len]) (by simp [hk, ROR_size, EPS_size, ACT_size, Ep.pub_len]) (by simp [go_sem]) rfl (fun w4 M5 => ?_)
                  dsimp only [List.set] at M5
                  dsimp only [wpT]
                  try simp only [Act.put, List.setIfInBounds_toArray, List.set_cons_succ, List.set_cons_zero]
                  go_upto_region 11 with fail
                  refine wp_region_lin (.op 0 (.op 1 (.op 2 (.op 3 .done)))) (by rfl) ?_
                  refine wpT_valp 40 (v := .pointer (some ⟨b1, 0, none⟩)) rfl rfl rfl (by go_simp) ?_
                  refine wpT_valp 41 (v := .int .u8 q) rfl rfl rfl (by have c0 := act_c0 (M5.row (b := b1) (c := ACT q m) (by simp)); go_simp) ?_
                  refine wpT_valp 42 (v := .int .u8 rq) rfl rfl rfl (by have h := HRQ1.out; have h2 := HRQ2.out; go_simp) ?_
                  refine wpT_valp 43 (v := .bool false) rfl rfl rfl (by go_simp) ?_
                  dsimp only [wpT]
                  try simp only [Act.put, List.setIfInBounds_toArray, List.set_cons_succ, List.set_cons_zero]
                  go_upto_region 14 with fail
                  refine wp_region_lin (.op 0 (.op 1 (.op 2 (.op 3 (.op 4 (.op 5 (.op 6 (.op 7 (.op 8 .done))))))))) (by rfl) ?_
                  refine wpT_valp 51 (v := .pointer (some ⟨b1, 1, none⟩)) rfl rfl rfl (by go_simp) ?_
                  refine wpT_valp 52 (v := .int .i64 m) rfl rfl rfl (by have c0 := act_c1 (M5.row (b := b1) (c := ACT q m) (by simp)); go_simp) ?_
                  refine wpT_valp 53 (v := .int .i64 t) rfl rfl rfl (by go_simp) ?_
                  refine wpT_valp 54 (v := .bool true) rfl rfl rfl (by go_simp) ?_
                  try simp only [Act.put, List.setIfInBounds_toArray, List.set_cons_succ, List.set_cons_zero]
                  refine wpT_valp 55 (v := .bool true) rfl rfl rfl (by go_simp) ?_
                  refine wpT_valp 56 (v := .pointer (some ⟨b1, 1, none⟩)) rfl rfl (by simp [Region.wanted, yielded, Act.put]) (by go_simp) ?_
                  refine wpT_valp 57 (v := .int .i64 m) rfl rfl (by simp [Region.wanted, yielded, Act.put]) (by have c0 := act_c1 (M5.row (b := b1) (c := ACT q m) (by simp)); go_simp) ?_
                  refine wpT_callv 58 M5 (v := .bool true) rfl rfl (by simp [Region.wanted, yielded, Act.put]) (by go_simp) (clock_b w4 _ HCK.out) (fun w6 M7 => ?_)
                  refine wpT_valp 59 (v := .bool true) rfl rfl rfl (by go_simp) ?_
                  dsimp only [wpT]
                  try simp only [Act.put, List.setIfInBounds_toArray, List.set_cons_succ, List.set_cons_zero]
                  go_upto_region 15 with fail
                  refine wp_region_lin (.op 0 (.op 1 (.op 2 (.op 3 .done)))) (by rfl) ?_
                  refine wpT_valp 60 (v := .pointer (some ⟨gb, 0, none⟩)) rfl rfl rfl (by go_simp) ?_
                  refine wpT_valp 61 (v := .pointer (some ⟨b1, 1, none⟩)) rfl rfl rfl (by go_simp) ?_
                  refine wpT_valp 62 (v := .int .i64 m) rfl rfl rfl (by have c0 := act_c1 (M7.row (b := b1) (c := ACT q m) (by simp)); go_simp) ?_
                  refine wpT_ro (t' := m) (n' := nn) 63 M7 [(b1, ACT q m)] [(w.heap.size, cs U8 k)] rfl rfl R rfl rfl rfl (by go_simp) (tick_v (ro_at (b := gb) (t := t) M7 (A := [(b1, ACT q m)]) (C := [(w.heap.size, cs U8 k)]) rfl R hn hgb hk (by omega)) HT3.out M7.end_ H9.out m _ rfl (by omega) (by omega) a HA.out (by omega) (by omega) HLN.out sl HSL.out _ rfl) HNL.out (fun gn cn cun wgn Rn Mgn => ?_)
                  dsimp only [wpT]
                  try simp only [Act.put, List.setIfInBounds_toArray, List.set_cons_succ, List.set_cons_zero]
                  go_upto_region 16 with fail
                  refine wp_region_lin (.op 0 (.op 1 (.op 2 .done))) (by rfl) ?_
                  refine wpT_valp 64 (v := .pointer (some ⟨b1, 1, none⟩)) rfl rfl rfl (by go_simp) ?_
                  refine wpT_valp 65 (v := .int .i64 m) rfl rfl rfl (by have c0 := act_c1 (Mgn.row (b := b1) (c := ACT q m) (by simp)); go_simp) ?_
                  refine wpT_valp 8 (v := .int .i64 m) rfl rfl rfl (by go_simp) ?_
                  dsimp only [wpT]
                  try simp only [Act.put, List.setIfInBounds_toArray, List.set_cons_succ, List.set_cons_zero]
                  go_upto_region 17 with fail
                  have MM := Mgn.sub (H' := [(gn, cun), (gb, ROR k (.slice (some ⟨gn, 0, none⟩) nn cn) m), (w.heap.size, cs U8 k)]) (by simp)
                  refine wp_region_lin (.op 0 (.op 1 (.op 2 .done))) (by rfl) ?_
                  refine wpT_valp 66 (v := .pointer (some ⟨gb, 0, none⟩)) rfl rfl rfl (by go_simp) ?_
                  refine wpT_ownr 67 MM rfl rfl rfl (by go_simp) (open_ep (n := nn) (ro_at (b := gb) (t := m) MM (A := []) (C := [(w.heap.size, cs U8 k)]) rfl Rn HNL.out hgb hk (by omega)) (by omega) HNL.out) (by omega) (fun gu cv curu wgu Ru Mgu => ?_)
                  refine wpT_valp 12 (v := .slice (some ⟨gu, 0, none⟩) nn cv) rfl rfl rfl (by go_simp) ?_
                  dsimp only [wpT]
                  try simp only [Act.put, List.setIfInBounds_toArray, List.set_cons_succ, List.set_cons_zero]
                  go_upto_region 18 with fail
                  refine wp_region_seq 33 [68, 69, 70, 71, 72, 73, 74, 75, 76, 77, 78, 79, 80, 81, 82, 83, 84, 85, 86, 87, 88, 89, 90, 91, 92, 93, 94, 95, 96, 97, 98, 99, 100] [] [] [] (.done) (Mm no w _) (by kernel_rfl) (by kernel_rfl) (by kernel_rfl) (fun d _ _ _ _ h => by cases d <;> exact h) (by rfl) Mgu.size (fun _ _ h k => h.sf k) Mgu ?_
                  simp only [List.take_succ_cons, List.take_zero]
                  refine SeqA.pure (.slice (some ⟨gu, 0, none⟩) nn cv) (fun w' => by go_simp) rfl rfl ?_
                  refine SeqA.pure (.int .i64 nn) (fun w' => by go_simp) rfl rfl ?_
                  refine SeqA.pure (.bool false) (fun w' => by go_simp) rfl rfl ?_
                  refine SeqA.pure (.bool false) (fun w' => by go_simp) rfl rfl ?_
                  refine SeqA.pure (.slice (some ⟨gu, 0, none⟩) nn cv) (fun w' => by go_simp) rfl (by simp [Region.wanted, yielded, Act.put]) ?_
                  simp only [Act.put, List.setIfInBounds_toArray, List.set_cons_succ, List.set_cons_zero]
                  refine SeqA.pure (.int .i64 nn) (fun w' => by go_simp) rfl (by simp [Region.wanted, yielded, Act.put]) ?_
                  refine SeqA.pure (.bool false) (fun w' => by go_simp) rfl (by simp [Region.wanted, yielded, Act.put]) ?_
                  refine SeqA.pure (.bool false) (fun w' => by go_simp) rfl rfl ?_
                  refine SeqA.pure (.bool false) (fun w' => by go_simp) rfl rfl ?_
                  refine SeqA.pure (.slice (some ⟨gu, 0, none⟩) nn cv) (fun w' => by go_simp) rfl (by simp [Region.wanted, yielded, Act.put]) ?_
                  refine SeqA.pure (.pointer (some ⟨gu, 0, none⟩)) (fun w' => by go_simp) rfl (by simp [Region.wanted, yielded, Act.put]) ?_
                  simp only [Act.put, List.setIfInBounds_toArray, List.set_cons_succ, List.set_cons_zero]
                  refine SeqA.pure (.pointer (some ⟨gu, 0, none⟩)) (fun w' => by go_simp) rfl (by simp [Region.wanted, yielded, Act.put]) ?_
                  refine SeqA.read (.int .i64 a1.gen) (fun w' M => by have c0 := c66 Ru M (by simp) HNL.out 0 (a := a1) HEa1.out (by decide) (e66_0 k _); simp at c0; go_simp) rfl (by simp [Region.wanted, yielded, Act.put]) ?_
                  refine SeqA.pure (.int .i64 hg) (fun w' => by go_simp) rfl (by simp [Region.wanted, yielded, Act.put]) ?_
                  refine SeqA.pure (.bool false) (fun w' => by go_simp) rfl (by simp [Region.wanted, yielded, Act.put]) ?_
                  refine SeqA.pure (.bool false) (fun w' => by go_simp) rfl rfl ?_
                  refine SeqA.pure (.bool false) (fun w' => by go_simp) rfl rfl ?_
                  simp only [Act.put, List.setIfInBounds_toArray, List.set_cons_succ, List.set_cons_zero]
                  refine SeqA.pure (.slice (some ⟨gu, 0, none⟩) nn cv) (fun w' => by go_simp) rfl (by simp [Region.wanted, yielded, Act.put]) ?_
                  refine SeqA.pure (.int .i64 nn) (fun w' => by go_simp) rfl (by simp [Region.wanted, yielded, Act.put]) ?_
                  refine SeqA.pure (.bool false) (fun w' => by go_simp) rfl (by simp [Region.wanted, yielded, Act.put]) ?_
                  refine SeqA.pure (.bool false) (fun w' => by go_simp) rfl (by simp [Region.wanted, yielded, Act.put]) ?_
                  refine SeqA.skip rfl (by simp [Region.wanted, yielded, Act.put]) ?_ rfl
                  refine SeqA.skip rfl (by simp [Region.wanted, yielded, Act.put]) ?_ rfl
                  simp only [Act.put, List.setIfInBounds_toArray, List.set_cons_succ, List.set_cons_zero]
                  refine SeqA.skip rfl (by simp [Region.wanted, yielded, Act.put]) ?_ rfl
                  refine SeqA.skip rfl (by simp [Region.wanted, yielded, Act.put]) ?_ rfl
                  refine SeqA.skip rfl (by simp [Region.wanted, yielded, Act.put]) ?_ rfl
                  refine SeqA.skip rfl (by simp [Region.wanted, yielded, Act.put]) ?_ rfl
                  refine SeqA.skip rfl (by simp [Region.wanted, yielded, Act.put]) ?_ rfl
                  refine SeqA.skip rfl (by simp [Region.wanted, yielded, Act.put]) ?_ rfl
                  simp only [Act.put, List.setIfInBounds_toArray, List.set_cons_succ, List.set_cons_zero]
                  refine SeqA.skip rfl (by simp [Region.wanted, yielded, Act.put]) ?_ rfl
                  refine SeqA.skip rfl (by simp [Region.wanted, yielded, Act.put]) ?_ rfl
                  refine SeqA.pure (.bool false) (fun w' => by go_simp) rfl (by simp [Region.wanted, yielded, Act.put]) ?_
                  refine SeqA.pure (.bool false) (fun w' => by go_simp) rfl rfl ?_
                  refine SeqA.nil (fun w8 M9 hz => ?_)
                  show wpT _ _ _ _ _ _
                  simp only [Act.put, List.setIfInBounds_toArray, List.set_cons_succ, List.set_cons_zero]
                  dsimp only [wpT]
                  go_upto_region 20 with fail
                  refine wp_region_lin (.op 0 (.op 1 (.op 2 .done))) (by rfl) ?_
                  refine wpT_valp 101 (v := .slice (some ⟨gu, 0, none⟩) nn cv) rfl rfl rfl (by go_simp) ?_
                  refine wpT_valp 102 (v := .int .i64 nn) rfl rfl rfl (by go_simp) ?_
                  refine wpT_valp 103 (v := .int .i64 0) rfl rfl rfl (by go_simp) ?_
                  dsimp only [wpT]
                  try simp only [Act.put, List.setIfInBounds_toArray, List.set_cons_succ, List.set_cons_zero]
                  go_wp2_with fail
                  go_loopw [103] (fun y wq => ∃ j : Nat, j ≤ nn ∧ y = .int .i64 j ∧ Mm no w [(gu, curu), (gn, cun), (gb, ROR k (.slice (some ⟨gn, 0, none⟩) nn cn) m), (w.heap.size, cs U8 k)] wq) (fun y _ => nn - (intOf y).toNat)
                  case atStart => exact ⟨0, by omega, rfl, M9⟩
                  case round =>
                    clear M9
                    obtain ⟨j, hj, rfl, MJ⟩ := hrel
                    by_cases hjn : j < nn
                    · have hlt : (j : Int) < (nn : Int) := by omega
                      have hj0 : (0 : Int) ≤ (j : Int) := by omega
                      obtain ⟨s, hs⟩ : ∃ s, Ln[j]? = some s := ⟨_, List.getElem?_eq_getElem (by rw [HNL.out]; exact hjn)⟩
                      have HEL := el66 (S := no) (w0 := w) Ru HNL.out hs
                      have hfin := HFIN.out s (List.mem_of_getElem? hs)
                      have hfz : ¬ ((Ep.fin s.made : Nat) : Int) ≤ (m : Int) := by omega
                      clear hs
                      go_upto_region 22 with fail
                      refine wp_region_lin (.op 0 (.op 1 (.op 2 (.op 3 .done)))) (by rfl) ?_
                      refine wpT_valp 105 (v := .pointer (some ⟨gu, j * 66, none⟩)) rfl rfl rfl (by go_simp) ?_
                      refine wpT_ldy 106 (.pointer (some ⟨gu, j * 66, none⟩)) (.agg (EPS k s)) rfl rfl rfl (by go_simp) (HEL.out _ _ MJ (by simp)) rfl ?_
                      refine wpT_new (z := .agg (ZPS)) 14 MJ (by kernel_rfl) (by decide) rfl rfl rfl rfl (fun b10 w11 M12 => ?_)
                      try dsimp only [Value.cells] at M12
                      refine wpT_st0 M12 0 (EPS k s) inf_eps rfl rfl rfl rfl (by go_simp) (by go_simp) (by simp [hk, ROR_size, EPS_size, ACT_size, Ep.pub_len]) (by simp [hk, ROR_size, EPS_size, ACT_size, Ep.pub_len]) (by simp [go_sem]) rfl (fun w13 M14 => ?_)
                      dsimp only [List.set] at M14
                      dsimp only [wpT]
                      try simp only [Act.put, List.setIfInBounds_toArray, List.set_cons_succ, List.set_cons_zero]
                      go_upto_region 23 with fail
                      refine wp_region_lin (.op 0 (.op 1 (.op 2 (.op 3 .done)))) (by rfl) ?_
                      refine wpT_valp 107 (v := .pointer (some ⟨b10, 1, none⟩)) rfl rfl rfl (by go_simp) ?_
                      refine wpT_valp 108 (v := .int .i64 (Ep.fin s.made)) rfl rfl rfl (by have c0 := eps_c1 (M14.row (b := b10) (c := EPS k s) (by simp)); go_simp) ?_
                      refine wpT_valp 109 (v := .int .i64 m) rfl rfl rfl (by go_simp) ?_
                      refine wpT_valp 110 (v := .bool false) rfl rfl rfl (by go_simp) ?_
                      dsimp only [wpT]
                      try simp only [Act.put, List.setIfInBounds_toArray, List.set_cons_succ, List.set_cons_zero]
                      go_wp2_with fail
                      go_roundw
                      case rel => exact ⟨j + 1, by omega, by simp, M14.sub (by simp)⟩
                      case measure => simp only [intOf]; omega
                    · obtain rfl : nn = j := by omega
                      go_upto_region 26 with fail
                      refine wp_region_lin (.op 0 (.op 1 (.op 2 (.op 3 (.op 4 .done))))) (by rfl) ?_
                      refine wpT_valp 112 (v := .slice (some ⟨gu, 0, none⟩) nn cv) rfl rfl rfl (by go_simp) ?_
                      refine wpT_valp 113 (v := .pointer (some ⟨gu, 0, none⟩)) rfl rfl rfl (by go_simp) ?_
                      refine wpT_valp 114 (v := .pointer (some ⟨gu, 0, none⟩)) rfl rfl rfl (by go_simp) ?_
                      refine wpT_valp 115 (v := .int .i64 a1.gen) rfl rfl rfl (by have c0 := c66 Ru MJ (by simp) HNL.out 0 (a := a1) HEa1.out (by decide) (e66_0 k _); simp at c0; go_simp) ?_
                      try simp only [Act.put, List.setIfInBounds_toArray, List.set_cons_succ, List.set_cons_zero]
                      refine wpT_valp 9 (v := .int .i64 a1.gen) rfl rfl rfl (by go_simp) ?_
                      dsimp only [wpT]
                      try simp only [Act.put, List.setIfInBounds_toArray, List.set_cons_succ, List.set_cons_zero]
                      go_wp2_with fail
                      go_roundw
                      case rel => exact ⟨i + 1, _, _, _, a1.gen, _, Ln, m, by omega, by simp, rfl, rfl, Rn, HNL.out, HGD.out, HGG.out, by have := HGI.out; omega, MJ.sub (by simp)⟩
                      case measure => simp only [intOf]; omega
              · have HCK := hid (decide_eq_false hck)
                have hnn := hn
                have GN := G
                have HGI := hid (show Ep.gen0 L ≤ i + 1 by omega)
                have hnn2 := GN.len
                rw [hnn] at hnn2
                obtain ⟨a1, ha1, hga1, hma1⟩ := GN.hd
                have HEa1 := hid ha1
                have HNL := hid hnn
                have HGD := hid GN
                have HGG := hid hga1.symm
                have HFIN := hid GN.fins
                have hk1 : ¬ (n : Int) < 1 := by omega
                have hk2 : ¬ (2 : Int) < (n : Int) := by omega
                have hgz : ¬ (a1.gen : Int) < (hg : Int) := by omega
                have hn00 : (0 : Int) < (n : Int) := by omega
                have hn01 : 0 < n := by omega
                have hn02 : ¬ n = 0 := by omega
                have HMC := hid (show (hg : Int) = (a1.gen : Int) ∨ (hg : Int) < (a1.gen : Int) by omega)
                have hgbd : a1.gen ≤ 1000000 := by have := HGI.out; omega
                have HHG := hid hhg
                clear hhg hga hga1
                clear ha hck
                by_cases h2n : n = 2
                · skip
                  obtain ⟨a1', bb, e1, hb1, hab⟩ := GN.snd (by rw [hnn]; exact h2n)
                  rw [ha1] at e1
                  injection e1 with e1
                  subst e1
                  have HEbb := hid hb1
                  have HB1 := hid (show IntKind.i64.wrap ((a1.gen : Int) - 1) = (bb.gen : Int) by rw [i64w _ (by omega) (by omega)]; omega)
                  have h2z : (n : Int) = 2 := by omega
                  have h1z : (1 : Int) < (n : Int) := by omega
                  clear hab
                  clear GN hnn ha1 hb1
                  go_upto_region 10 with fail
                  refine wp_region_lin (.op 0 (.op 1 (.op 2 (.op 3 (.op 4 (.op 5 .done)))))) (by rfl) ?_
                  refine wpT_valp 36 (v := .slice (some ⟨ga, oa, none⟩) n0 ca) rfl rfl rfl (by go_simp) ?_
                  refine wpT_valp 37 (v := .int .i64 i) rfl rfl rfl (by go_simp) ?_
                  refine wpT_valp 38 (v := .pointer (some ⟨ga, oa + i * 2, none⟩)) rfl rfl rfl (by go_simp) ?_
                  refine wpT_ldy 39 (.pointer (some ⟨ga, oa + i * 2, none⟩)) (.agg (ACT q e)) rfl rfl rfl (by go_simp) (HEA.out _ M.end_) rfl ?_
                  try simp only [Act.put, List.setIfInBounds_toArray, List.set_cons_succ, List.set_cons_zero]
                  refine wpT_new (z := .agg (ACT 0 0)) 11 M (by kernel_rfl) (by decide) rfl rfl rfl rfl (fun b1 w2 M3 => ?_)
                  try dsimp only [Value.cells] at M3
                  refine wpT_st0 M3 0 (ACT q e) inf_act rfl rfl rfl rfl (by go_simp) (by go_simp) (by simp [hk, ROR_size, EPS_size, ACT_size, Ep.pub_len]) (by simp [hk, ROR_size, EPS_size, ACT_size, Ep.pub_len]) (by simp [go_sem]) rfl (fun w4 M5 => ?_)
                  dsimp only [List.set] at M5
                  dsimp only [wpT]
                  try simp only [Act.put, List.setIfInBounds_toArray, List.set_cons_succ, List.set_cons_zero]
                  go_upto_region 11 with fail
                  refine wp_region_lin (.op 0 (.op 1 (.op 2 (.op 3 .done)))) (by rfl) ?_
                  refine wpT_valp 40 (v := .pointer (some ⟨b1, 0, none⟩)) rfl rfl rfl (by go_simp) ?_
                  refine wpT_valp 41 (v := .int .u8 q) rfl rfl rfl (by have c0 := act_c0 (M5.row (b := b1) (c := ACT q e) (by simp)); go_simp) ?_
                  refine wpT_valp 42 (v := .int .u8 rq) rfl rfl rfl (by have h := HRQ1.out; have h2 := HRQ2.out; go_simp) ?_
                  refine wpT_valp 43 (v := .bool false) rfl rfl rfl (by go_simp) ?_
                  dsimp only [wpT]
                  try simp only [Act.put, List.setIfInBounds_toArray, List.set_cons_succ, List.set_cons_zero]
                  go_upto_region 14 with fail
                  refine wp_region_lin (.op 0 (.op 1 (.op 2 (.op 3 (.op 4 (.op 5 (.op 6 (.op 7 (.op 8 .done))))))))) (by rfl) ?_
                  refine wpT_valp 51 (v := .pointer (some ⟨b1, 1, none⟩)) rfl rfl rfl (by go_simp) ?_
                  refine wpT_valp 52 (v := .int .i64 e) rfl rfl rfl (by have c0 := act_c1 (M5.row (b := b1) (c := ACT q e) (by simp)); go_simp) ?_
                  refine wpT_valp 53 (v := .int .i64 t) rfl rfl rfl (by go_simp) ?_
                  refine wpT_valp 54 (v := .bool true) rfl rfl rfl (by go_simp) ?_
                  try simp only [Act.put, List.setIfInBounds_toArray, List.set_cons_succ, List.set_cons_zero]
                  refine wpT_valp 55 (v := .bool true) rfl rfl rfl (by go_simp) ?_
                  refine wpT_valp 56 (v := .pointer (some ⟨b1, 1, none⟩)) rfl rfl (by simp [Region.wanted, yielded, Act.put]) (by go_simp) ?_
                  refine wpT_valp 57 (v := .int .i64 e) rfl rfl (by simp [Region.wanted, yielded, Act.put]) (by have c0 := act_c1 (M5.row (b := b1) (c := ACT q e) (by simp)); go_simp) ?_
                  refine wpT_callv 58 M5 (v := .bool false) rfl rfl (by simp [Region.wanted, yielded, Act.put]) (by go_simp) (clock_b w4 _ HCK.out) (fun w6 M7 => ?_)
                  refine wpT_valp 59 (v := .bool false) rfl rfl rfl (by go_simp) ?_
                  dsimp only [wpT]
                  try simp only [Act.put, List.setIfInBounds_toArray, List.set_cons_succ, List.set_cons_zero]
                  go_upto_region 17 with fail
                  have MM := M7.sub (H' := [(g, cur), (gb, ROR k (.slice (some ⟨g, 0, none⟩) n c) t), (w.heap.size, cs U8 k)]) (by simp)
                  refine wp_region_lin (.op 0 (.op 1 (.op 2 .done))) (by rfl) ?_
                  refine wpT_valp 66 (v := .pointer (some ⟨gb, 0, none⟩)) rfl rfl rfl (by go_simp) ?_
                  refine wpT_ownr 67 MM rfl rfl rfl (by go_simp) (open_ep (n := n) (ro_at (b := gb) (t := t) MM (A := []) (C := [(w.heap.size, cs U8 k)]) rfl R hn hgb hk (by omega)) (by omega) HNL.out) (by omega) (fun gu cv curu wgu Ru Mgu => ?_)
                  refine wpT_valp 12 (v := .slice (some ⟨gu, 0, none⟩) n cv) rfl rfl rfl (by go_simp) ?_
                  dsimp only [wpT]
                  try simp only [Act.put, List.setIfInBounds_toArray, List.set_cons_succ, List.set_cons_zero]
                  go_upto_region 18 with fail
                  refine wp_region_seq 33 [68, 69, 70, 71, 72, 73, 74, 75, 76, 77, 78, 79, 80, 81, 82, 83, 84, 85, 86, 87, 88, 89, 90, 91, 92, 93, 94, 95, 96, 97, 98, 99, 100] [] [] [] (.done) (Mm no w _) (by kernel_rfl) (by kernel_rfl) (by kernel_rfl) (fun d _ _ _ _ h => by cases d <;> exact h) (by rfl) Mgu.size (fun _ _ h k => h.sf k) Mgu ?_
                  simp only [List.take_succ_cons, List.take_zero]
                  refine SeqA.pure (.slice (some ⟨gu, 0, none⟩) n cv) (fun w' => by go_simp) rfl rfl ?_
                  refine SeqA.pure (.int .i64 n) (fun w' => by go_simp) rfl rfl ?_
                  refine SeqA.pure (.bool false) (fun w' => by go_simp) rfl rfl ?_
                  refine SeqA.pure (.bool false) (fun w' => by go_simp) rfl rfl ?_
                  refine SeqA.pure (.slice (some ⟨gu, 0, none⟩) n cv) (fun w' => by go_simp) rfl (by simp [Region.wanted, yielded, Act.put]) ?_
                  simp only [Act.put, List.setIfInBounds_toArray, List.set_cons_succ, List.set_cons_zero]
                  refine SeqA.pure (.int .i64 n) (fun w' => by go_simp) rfl (by simp [Region.wanted, yielded, Act.put]) ?_
                  refine SeqA.pure (.bool false) (fun w' => by go_simp) rfl (by simp [Region.wanted, yielded, Act.put]) ?_
                  refine SeqA.pure (.bool false) (fun w' => by go_simp) rfl rfl ?_
                  refine SeqA.pure (.bool false) (fun w' => by go_simp) rfl rfl ?_
                  refine SeqA.pure (.slice (some ⟨gu, 0, none⟩) n cv) (fun w' => by go_simp) rfl (by simp [Region.wanted, yielded, Act.put]) ?_
                  refine SeqA.pure (.pointer (some ⟨gu, 0, none⟩)) (fun w' => by go_simp) rfl (by simp [Region.wanted, yielded, Act.put]) ?_
                  simp only [Act.put, List.setIfInBounds_toArray, List.set_cons_succ, List.set_cons_zero]
                  refine SeqA.pure (.pointer (some ⟨gu, 0, none⟩)) (fun w' => by go_simp) rfl (by simp [Region.wanted, yielded, Act.put]) ?_
                  refine SeqA.read (.int .i64 a1.gen) (fun w' M => by have c0 := c66 Ru M (by simp) HNL.out 0 (a := a1) HEa1.out (by decide) (e66_0 k _); simp at c0; go_simp) rfl (by simp [Region.wanted, yielded, Act.put]) ?_
                  refine SeqA.pure (.int .i64 hg) (fun w' => by go_simp) rfl (by simp [Region.wanted, yielded, Act.put]) ?_
                  refine SeqA.pure (.bool false) (fun w' => by go_simp) rfl (by simp [Region.wanted, yielded, Act.put]) ?_
                  refine SeqA.pure (.bool false) (fun w' => by go_simp) rfl rfl ?_
                  refine SeqA.pure (.bool false) (fun w' => by go_simp) rfl rfl ?_
                  simp only [Act.put, List.setIfInBounds_toArray, List.set_cons_succ, List.set_cons_zero]
                  refine SeqA.pure (.slice (some ⟨gu, 0, none⟩) n cv) (fun w' => by go_simp) rfl (by simp [Region.wanted, yielded, Act.put]) ?_
                  refine SeqA.pure (.int .i64 n) (fun w' => by go_simp) rfl (by simp [Region.wanted, yielded, Act.put]) ?_
                  refine SeqA.pure (.bool true) (fun w' => by go_simp) rfl (by simp [Region.wanted, yielded, Act.put]) ?_
                  refine SeqA.pure (.bool true) (fun w' => by go_simp) rfl (by simp [Region.wanted, yielded, Act.put]) ?_
                  refine SeqA.pure (.slice (some ⟨gu, 0, none⟩) n cv) (fun w' => by go_simp) rfl (by simp [Region.wanted, yielded, Act.put]) ?_
                  refine SeqA.pure (.pointer (some ⟨gu, 66, none⟩)) (fun w' => by go_simp) rfl (by simp [Region.wanted, yielded, Act.put]) ?_
                  simp only [Act.put, List.setIfInBounds_toArray, List.set_cons_succ, List.set_cons_zero]
                  refine SeqA.pure (.pointer (some ⟨gu, 66, none⟩)) (fun w' => by go_simp) rfl (by simp [Region.wanted, yielded, Act.put]) ?_
                  refine SeqA.read (.int .i64 bb.gen) (fun w' M => by have c0 := c66 Ru M (by simp) HNL.out 1 (a := bb) HEbb.out (by decide) (e66_0 k _); simp at c0; go_simp) rfl (by simp [Region.wanted, yielded, Act.put]) ?_
                  refine SeqA.pure (.slice (some ⟨gu, 0, none⟩) n cv) (fun w' => by go_simp) rfl (by simp [Region.wanted, yielded, Act.put]) ?_
                  refine SeqA.pure (.pointer (some ⟨gu, 0, none⟩)) (fun w' => by go_simp) rfl (by simp [Region.wanted, yielded, Act.put]) ?_
                  refine SeqA.pure (.pointer (some ⟨gu, 0, none⟩)) (fun w' => by go_simp) rfl (by simp [Region.wanted, yielded, Act.put]) ?_
                  refine SeqA.read (.int .i64 a1.gen) (fun w' M => by have c0 := c66 Ru M (by simp) HNL.out 0 (a := a1) HEa1.out (by decide) (e66_0 k _); simp at c0; go_simp) rfl (by simp [Region.wanted, yielded, Act.put]) ?_
                  simp only [Act.put, List.setIfInBounds_toArray, List.set_cons_succ, List.set_cons_zero]
                  refine SeqA.pure (.int .i64 bb.gen) (fun w' => by have h := HB1.out; go_simp) rfl (by simp [Region.wanted, yielded, Act.put]) ?_
                  refine SeqA.pure (.bool false) (fun w' => by go_simp) rfl (by simp [Region.wanted, yielded, Act.put]) ?_
                  refine SeqA.pure (.bool false) (fun w' => by go_simp) rfl (by simp [Region.wanted, yielded, Act.put]) ?_
                  refine SeqA.pure (.bool false) (fun w' => by go_simp) rfl rfl ?_
                  refine SeqA.nil (fun w8 M9 hz => ?_)
                  show wpT _ _ _ _ _ _
                  simp only [Act.put, List.setIfInBounds_toArray, List.set_cons_succ, List.set_cons_zero]
                  dsimp only [wpT]
                  go_upto_region 20 with fail
                  refine wp_region_lin (.op 0 (.op 1 (.op 2 .done))) (by rfl) ?_
                  refine wpT_valp 101 (v := .slice (some ⟨gu, 0, none⟩) n cv) rfl rfl rfl (by go_simp) ?_
                  refine wpT_valp 102 (v := .int .i64 n) rfl rfl rfl (by go_simp) ?_
                  refine wpT_valp 103 (v := .int .i64 0) rfl rfl rfl (by go_simp) ?_
                  dsimp only [wpT]
                  try simp only [Act.put, List.setIfInBounds_toArray, List.set_cons_succ, List.set_cons_zero]
                  go_wp2_with fail
                  go_loopw [103] (fun y wq => ∃ j : Nat, j ≤ n ∧ y = .int .i64 j ∧ Mm no w [(gu, curu), (g, cur), (gb, ROR k (.slice (some ⟨g, 0, none⟩) n c) t), (w.heap.size, cs U8 k)] wq) (fun y _ => n - (intOf y).toNat)
                  case atStart => exact ⟨0, by omega, rfl, M9⟩
                  case round =>
                    clear M9
                    obtain ⟨j, hj, rfl, MJ⟩ := hrel
                    by_cases hjn : j < n
                    · have hlt : (j : Int) < (n : Int) := by omega
                      have hj0 : (0 : Int) ≤ (j : Int) := by omega
                      obtain ⟨s, hs⟩ : ∃ s, L[j]? = some s := ⟨_, List.getElem?_eq_getElem (by rw [HNL.out]; exact hjn)⟩
                      have HEL := el66 (S := no) (w0 := w) Ru HNL.out hs
                      have hfin := HFIN.out s (List.mem_of_getElem? hs)
                      have hfz : ¬ ((Ep.fin s.made : Nat) : Int) ≤ (t : Int) := by omega
                      clear hs
                      go_upto_region 22 with fail
                      refine wp_region_lin (.op 0 (.op 1 (.op 2 (.op 3 .done)))) (by rfl) ?_
                      refine wpT_valp 105 (v := .pointer (some ⟨gu, j * 66, none⟩)) rfl rfl rfl (by go_simp) ?_
                      refine wpT_ldy 106 (.pointer (some ⟨gu, j * 66, none⟩)) (.agg (EPS k s)) rfl rfl rfl (by go_simp) (HEL.out _ _ MJ (by simp)) rfl ?_
                      refine wpT_new (z := .agg (ZPS)) 14 MJ (by kernel_rfl) (by decide) rfl rfl rfl rfl (fun b10 w11 M12 => ?_)
                      try dsimp only [Value.cells] at M12
                      refine wpT_st0 M12 0 (EPS k s) inf_eps rfl rfl rfl rfl (by go_simp) (by go_simp) (by simp [hk, ROR_size, EPS_size, ACT_size, Ep.pub_len]) (by simp [hk, ROR_size, EPS_size, ACT_size, Ep.pub_len]) (by simp [go_sem]) rfl (fun w13 M14 => ?_)
                      dsimp only [List.set] at M14
                      dsimp only [wpT]
                      try simp only [Act.put, List.setIfInBounds_toArray, List.set_cons_succ, List.set_cons_zero]
                      go_upto_region 23 with fail
                      refine wp_region_lin (.op 0 (.op 1 (.op 2 (.op 3 .done)))) (by rfl) ?_
                      refine wpT_valp 107 (v := .pointer (some ⟨b10, 1, none⟩)) rfl rfl rfl (by go_simp) ?_
                      refine wpT_valp 108 (v := .int .i64 (Ep.fin s.made)) rfl rfl rfl (by have c0 := eps_c1 (M14.row (b := b10) (c := EPS k s) (by simp)); go_simp) ?_
                      refine wpT_valp 109 (v := .int .i64 t) rfl rfl rfl (by go_simp) ?_
                      refine wpT_valp 110 (v := .bool false) rfl rfl rfl (by go_simp) ?_
                      dsimp only [wpT]
                      try simp only [Act.put, List.setIfInBounds_toArray, List.set_cons_succ, List.set_cons_zero]
                      go_wp2_with fail
                      go_roundw
                      case rel => exact ⟨j + 1, by omega, by simp, M14.sub (by simp)⟩
                      case measure => simp only [intOf]; omega
                    · obtain rfl : n = j := by omega
                      go_upto_region 26 with fail
                      refine wp_region_lin (.op 0 (.op 1 (.op 2 (.op 3 (.op 4 .done))))) (by rfl) ?_
                      refine wpT_valp 112 (v := .slice (some ⟨gu, 0, none⟩) n cv) rfl rfl rfl (by go_simp) ?_
                      refine wpT_valp 113 (v := .pointer (some ⟨gu, 0, none⟩)) rfl rfl rfl (by go_simp) ?_
                      refine wpT_valp 114 (v := .pointer (some ⟨gu, 0, none⟩)) rfl rfl rfl (by go_simp) ?_
                      refine wpT_valp 115 (v := .int .i64 a1.gen) rfl rfl rfl (by have c0 := c66 Ru MJ (by simp) HNL.out 0 (a := a1) HEa1.out (by decide) (e66_0 k _); simp at c0; go_simp) ?_
                      try simp only [Act.put, List.setIfInBounds_toArray, List.set_cons_succ, List.set_cons_zero]
                      refine wpT_valp 9 (v := .int .i64 a1.gen) rfl rfl rfl (by go_simp) ?_
                      dsimp only [wpT]
                      try simp only [Act.put, List.setIfInBounds_toArray, List.set_cons_succ, List.set_cons_zero]
                      go_wp2_with fail
                      go_roundw
                      case rel => exact ⟨i + 1, _, _, _, a1.gen, _, L, t, by omega, by simp, rfl, rfl, R, HNL.out, HGD.out, HGG.out, by have := HGI.out; omega, MJ.sub (by simp)⟩
                      case measure => simp only [intOf]; omega
                · have h2z : ¬ (n : Int) = 2 := by omega
                  clear GN hnn ha1
                  go_upto_region 10 with fail
                  refine wp_region_lin (.op 0 (.op 1 (.op 2 (.op 3 (.op 4 (.op 5 .done)))))) (by rfl) ?_
                  refine wpT_valp 36 (v := .slice (some ⟨ga, oa, none⟩) n0 ca) rfl rfl rfl (by go_simp) ?_
                  refine wpT_valp 37 (v := .int .i64 i) rfl rfl rfl (by go_simp) ?_
                  refine wpT_valp 38 (v := .pointer (some ⟨ga, oa + i * 2, none⟩)) rfl rfl rfl (by go_simp) ?_
                  refine wpT_ldy 39 (.pointer (some ⟨ga, oa + i * 2, none⟩)) (.agg (ACT q e)) rfl rfl rfl (by go_simp) (HEA.out _ M.end_) rfl ?_
                  try simp only [Act.put, List.setIfInBounds_toArray, List.set_cons_succ, List.set_cons_zero]
                  refine wpT_new (z := .agg (ACT 0 0)) 11 M (by kernel_rfl) (by decide) rfl rfl rfl rfl (fun b1 w2 M3 => ?_)
                  try dsimp only [Value.cells] at M3
                  refine wpT_st0 M3 0 (ACT q e) inf_act rfl rfl rfl rfl (by go_simp) (by go_simp) (by simp [hk, ROR_size, EPS_size, ACT_size, Ep.pub_len]) (by simp [hk, ROR_size, EPS_size, ACT_size, Ep.pub_len]) (by simp [go_sem]) rfl (fun w4 M5 => ?_)
                  dsimp only [List.set] at M5
                  dsimp only [wpT]
                  try simp only [Act.put, List.setIfInBounds_toArray, List.set_cons_succ, List.set_cons_zero]
                  go_upto_region 11 with fail
                  refine wp_region_lin (.op 0 (.op 1 (.op 2 (.op 3 .done)))) (by rfl) ?_
                  refine wpT_valp 40 (v := .pointer (some ⟨b1, 0, none⟩)) rfl rfl rfl (by go_simp) ?_
                  refine wpT_valp 41 (v := .int .u8 q) rfl rfl rfl (by have c0 := act_c0 (M5.row (b := b1) (c := ACT q e) (by simp)); go_simp) ?_
                  refine wpT_valp 42 (v := .int .u8 rq) rfl rfl rfl (by have h := HRQ1.out; have h2 := HRQ2.out; go_simp) ?_
                  refine wpT_valp 43 (v := .bool false) rfl rfl rfl (by go_simp) ?_
                  dsimp only [wpT]
                  try simp only [Act.put, List.setIfInBounds_toArray, List.set_cons_succ, List.set_cons_zero]
                  go_upto_region 14 with fail
                  refine wp_region_lin (.op 0 (.op 1 (.op 2 (.op 3 (.op 4 (.op 5 (.op 6 (.op 7 (.op 8 .done))))))))) (by rfl) ?_
                  refine wpT_valp 51 (v := .pointer (some ⟨b1, 1, none⟩)) rfl rfl rfl (by go_simp) ?_
                  refine wpT_valp 52 (v := .int .i64 e) rfl rfl rfl (by have c0 := act_c1 (M5.row (b := b1) (c := ACT q e) (by simp)); go_simp) ?_
                  refine wpT_valp 53 (v := .int .i64 t) rfl rfl rfl (by go_simp) ?_
                  refine wpT_valp 54 (v := .bool true) rfl rfl rfl (by go_simp) ?_
                  try simp only [Act.put, List.setIfInBounds_toArray, List.set_cons_succ, List.set_cons_zero]
                  refine wpT_valp 55 (v := .bool true) rfl rfl rfl (by go_simp) ?_
                  refine wpT_valp 56 (v := .pointer (some ⟨b1, 1, none⟩)) rfl rfl (by simp [Region.wanted, yielded, Act.put]) (by go_simp) ?_
                  refine wpT_valp 57 (v := .int .i64 e) rfl rfl (by simp [Region.wanted, yielded, Act.put]) (by have c0 := act_c1 (M5.row (b := b1) (c := ACT q e) (by simp)); go_simp) ?_
                  refine wpT_callv 58 M5 (v := .bool false) rfl rfl (by simp [Region.wanted, yielded, Act.put]) (by go_simp) (clock_b w4 _ HCK.out) (fun w6 M7 => ?_)
                  refine wpT_valp 59 (v := .bool false) rfl rfl rfl (by go_simp) ?_
                  dsimp only [wpT]
                  try simp only [Act.put, List.setIfInBounds_toArray, List.set_cons_succ, List.set_cons_zero]
                  go_upto_region 17 with fail
                  have MM := M7.sub (H' := [(g, cur), (gb, ROR k (.slice (some ⟨g, 0, none⟩) n c) t), (w.heap.size, cs U8 k)]) (by simp)
                  refine wp_region_lin (.op 0 (.op 1 (.op 2 .done))) (by rfl) ?_
                  refine wpT_valp 66 (v := .pointer (some ⟨gb, 0, none⟩)) rfl rfl rfl (by go_simp) ?_
                  refine wpT_ownr 67 MM rfl rfl rfl (by go_simp) (open_ep (n := n) (ro_at (b := gb) (t := t) MM (A := []) (C := [(w.heap.size, cs U8 k)]) rfl R hn hgb hk (by omega)) (by omega) HNL.out) (by omega) (fun gu cv curu wgu Ru Mgu => ?_)
                  refine wpT_valp 12 (v := .slice (some ⟨gu, 0, none⟩) n cv) rfl rfl rfl (by go_simp) ?_
                  dsimp only [wpT]
                  try simp only [Act.put, List.setIfInBounds_toArray, List.set_cons_succ, List.set_cons_zero]
                  go_upto_region 18 with fail
                  refine wp_region_seq 33 [68, 69, 70, 71, 72, 73, 74, 75, 76, 77, 78, 79, 80, 81, 82, 83, 84, 85, 86, 87, 88, 89, 90, 91, 92, 93, 94, 95, 96, 97, 98, 99, 100] [] [] [] (.done) (Mm no w _) (by kernel_rfl) (by kernel_rfl) (by kernel_rfl) (fun d _ _ _ _ h => by cases d <;> exact h) (by rfl) Mgu.size (fun _ _ h k => h.sf k) Mgu ?_
                  simp only [List.take_succ_cons, List.take_zero]
                  refine SeqA.pure (.slice (some ⟨gu, 0, none⟩) n cv) (fun w' => by go_simp) rfl rfl ?_
                  refine SeqA.pure (.int .i64 n) (fun w' => by go_simp) rfl rfl ?_
                  refine SeqA.pure (.bool false) (fun w' => by go_simp) rfl rfl ?_
                  refine SeqA.pure (.bool false) (fun w' => by go_simp) rfl rfl ?_
                  refine SeqA.pure (.slice (some ⟨gu, 0, none⟩) n cv) (fun w' => by go_simp) rfl (by simp [Region.wanted, yielded, Act.put]) ?_
                  simp only [Act.put, List.setIfInBounds_toArray, List.set_cons_succ, List.set_cons_zero]
                  refine SeqA.pure (.int .i64 n) (fun w' => by go_simp) rfl (by simp [Region.wanted, yielded, Act.put]) ?_
                  refine SeqA.pure (.bool false) (fun w' => by go_simp) rfl (by simp [Region.wanted, yielded, Act.put]) ?_
                  refine SeqA.pure (.bool false) (fun w' => by go_simp) rfl rfl ?_
                  refine SeqA.pure (.bool false) (fun w' => by go_simp) rfl rfl ?_
                  refine SeqA.pure (.slice (some ⟨gu, 0, none⟩) n cv) (fun w' => by go_simp) rfl (by simp [Region.wanted, yielded, Act.put]) ?_
                  refine SeqA.pure (.pointer (some ⟨gu, 0, none⟩)) (fun w' => by go_simp) rfl (by simp [Region.wanted, yielded, Act.put]) ?_
                  simp only [Act.put, List.setIfInBounds_toArray, List.set_cons_succ, List.set_cons_zero]
                  refine SeqA.pure (.pointer (some ⟨gu, 0, none⟩)) (fun w' => by go_simp) rfl (by simp [Region.wanted, yielded, Act.put]) ?_
                  refine SeqA.read (.int .i64 a1.gen) (fun w' M => by have c0 := c66 Ru M (by simp) HNL.out 0 (a := a1) HEa1.out (by decide) (e66_0 k _); simp at c0; go_simp) rfl (by simp [Region.wanted, yielded, Act.put]) ?_
                  refine SeqA.pure (.int .i64 hg) (fun w' => by go_simp) rfl (by simp [Region.wanted, yielded, Act.put]) ?_
                  refine SeqA.pure (.bool false) (fun w' => by go_simp) rfl (by simp [Region.wanted, yielded, Act.put]) ?_
                  refine SeqA.pure (.bool false) (fun w' => by go_simp) rfl rfl ?_
                  refine SeqA.pure (.bool false) (fun w' => by go_simp) rfl rfl ?_
                  simp only [Act.put, List.setIfInBounds_toArray, List.set_cons_succ, List.set_cons_zero]
                  refine SeqA.pure (.slice (some ⟨gu, 0, none⟩) n cv) (fun w' => by go_simp) rfl (by simp [Region.wanted, yielded, Act.put]) ?_
                  refine SeqA.pure (.int .i64 n) (fun w' => by go_simp) rfl (by simp [Region.wanted, yielded, Act.put]) ?_
                  refine SeqA.pure (.bool false) (fun w' => by go_simp) rfl (by simp [Region.wanted, yielded, Act.put]) ?_
                  refine SeqA.pure (.bool false) (fun w' => by go_simp) rfl (by simp [Region.wanted, yielded, Act.put]) ?_
                  refine SeqA.skip rfl (by simp [Region.wanted, yielded, Act.put]) ?_ rfl
                  refine SeqA.skip rfl (by simp [Region.wanted, yielded, Act.put]) ?_ rfl
                  simp only [Act.put, List.setIfInBounds_toArray, List.set_cons_succ, List.set_cons_zero]
                  refine SeqA.skip rfl (by simp [Region.wanted, yielded, Act.put]) ?_ rfl
                  refine SeqA.skip rfl (by simp [Region.wanted, yielded, Act.put]) ?_ rfl
                  refine SeqA.skip rfl (by simp [Region.wanted, yielded, Act.put]) ?_ rfl
                  refine SeqA.skip rfl (by simp [Region.wanted, yielded, Act.put]) ?_ rfl
                  refine SeqA.skip rfl (by simp [Region.wanted, yielded, Act.put]) ?_ rfl
                  refine SeqA.skip rfl (by simp [Region.wanted, yielded, Act.put]) ?_ rfl
                  simp only [Act.put, List.setIfInBounds_toArray, List.set_cons_succ, List.set_cons_zero]
                  refine SeqA.skip rfl (by simp [Region.wanted, yielded, Act.put]) ?_ rfl
                  refine SeqA.skip rfl (by simp [Region.wanted, yielded, Act.put]) ?_ rfl
                  refine SeqA.pure (.bool false) (fun w' => by go_simp) rfl (by simp [Region.wanted, yielded, Act.put]) ?_
                  refine SeqA.pure (.bool false) (fun w' => by go_simp) rfl rfl ?_
                  refine SeqA.nil (fun w8 M9 hz => ?_)
                  show wpT _ _ _ _ _ _
                  simp only [Act.put, List.setIfInBounds_toArray, List.set_cons_succ, List.set_cons_zero]
                  dsimp only [wpT]
                  go_upto_region 20 with fail
                  refine wp_region_lin (.op 0 (.op 1 (.op 2 .done))) (by rfl) ?_
                  refine wpT_valp 101 (v := .slice (some ⟨gu, 0, none⟩) n cv) rfl rfl rfl (by go_simp) ?_
                  refine wpT_valp 102 (v := .int .i64 n) rfl rfl rfl (by go_simp) ?_
                  refine wpT_valp 103 (v := .int .i64 0) rfl rfl rfl (by go_simp) ?_
                  dsimp only [wpT]
                  try simp only [Act.put, List.setIfInBounds_toArray, List.set_cons_succ, List.set_cons_zero]
                  go_wp2_with fail
                  go_loopw [103] (fun y wq => ∃ j : Nat, j ≤ n ∧ y = .int .i64 j ∧ Mm no w [(gu, curu), (g, cur), (gb, ROR k (.slice (some ⟨g, 0, none⟩) n c) t), (w.heap.size, cs U8 k)] wq) (fun y _ => n - (intOf y).toNat)
                  case atStart => exact ⟨0, by omega, rfl, M9⟩
                  case round =>
                    clear M9
                    obtain ⟨j, hj, rfl, MJ⟩ := hrel
                    by_cases hjn : j < n
                    · have hlt : (j : Int) < (n : Int) := by omega
                      have hj0 : (0 : Int) ≤ (j : Int) := by omega
                      obtain ⟨s, hs⟩ : ∃ s, L[j]? = some s := ⟨_, List.getElem?_eq_getElem (by rw [HNL.out]; exact hjn)⟩
                      have HEL := el66 (S := no) (w0 := w) Ru HNL.out hs
                      have hfin := HFIN.out s (List.mem_of_getElem? hs)
                      have hfz : ¬ ((Ep.fin s.made : Nat) : Int) ≤ (t : Int) := by omega
                      clear hs
                      go_upto_region 22 with fail
                      refine wp_region_lin (.op 0 (.op 1 (.op 2 (.op 3 .done)))) (by rfl) ?_
                      refine wpT_valp 105 (v := .pointer (some ⟨gu, j * 66, none⟩)) rfl rfl rfl (by go_simp) ?_
                      refine wpT_ldy 106 (.pointer (some ⟨gu, j * 66, none⟩)) (.agg (EPS k s)) rfl rfl rfl (by go_simp) (HEL.out _ _ MJ (by simp)) rfl ?_
                      refine wpT_new (z := .agg (ZPS)) 14 MJ (by kernel_rfl) (by decide) rfl rfl rfl rfl (fun b10 w11 M12 => ?_)
                      try dsimp only [Value.cells] at M12
                      refine wpT_st0 M12 0 (EPS k s) inf_eps rfl rfl rfl rfl (by go_simp) (by go_simp) (by simp [hk, ROR_size, EPS_size, ACT_size, Ep.pub_len]) (by simp [hk, ROR_size, EPS_size, ACT_size, Ep.pub_len]) (by simp [go_sem]) rfl (fun w13 M14 => ?_)
                      dsimp only [List.set] at M14
                      dsimp only [wpT]
                      try simp only [Act.put, List.setIfInBounds_toArray, List.set_cons_succ, List.set_cons_zero]
                      go_upto_region 23 with fail
                      refine wp_region_lin (.op 0 (.op 1 (.op 2 (.op 3 .done)))) (by rfl) ?_
                      refine wpT_valp 107 (v := .pointer (some ⟨b10, 1, none⟩)) rfl rfl rfl (by go_simp) ?_
                      refine wpT_valp 108 (v := .int .i64 (Ep.fin s.made)) rfl rfl rfl (by have c0 := eps_c1 (M14.row (b := b10) (c := EPS k s) (by simp)); go_simp) ?_
                      refine wpT_valp 109 (v := .int .i64 t) rfl rfl rfl (by go_simp) ?_
                      refine wpT_valp 110 (v := .bool false) rfl rfl rfl (by go_simp) ?_
                      dsimp only [wpT]
                      try simp only [Act.put, List.setIfInBounds_toArray, List.set_cons_succ, List.set_cons_zero]
                      go_wp2_with fail
                      go_roundw
                      case rel => exact ⟨j + 1, by omega, by simp, M14.sub (by simp)⟩
                      case measure => simp only [intOf]; omega
                    · obtain rfl : n = j := by omega
                      go_upto_region 26 with fail
                      refine wp_region_lin (.op 0 (.op 1 (.op 2 (.op 3 (.op 4 .done))))) (by rfl) ?_
                      refine wpT_valp 112 (v := .slice (some ⟨gu, 0, none⟩) n cv) rfl rfl rfl (by go_simp) ?_
                      refine wpT_valp 113 (v := .pointer (some ⟨gu, 0, none⟩)) rfl rfl rfl (by go_simp) ?_
                      refine wpT_valp 114 (v := .pointer (some ⟨gu, 0, none⟩)) rfl rfl rfl (by go_simp) ?_
                      refine wpT_valp 115 (v := .int .i64 a1.gen) rfl rfl rfl (by have c0 := c66 Ru MJ (by simp) HNL.out 0 (a := a1) HEa1.out (by decide) (e66_0 k _); simp at c0; go_simp) ?_
                      try simp only [Act.put, List.setIfInBounds_toArray, List.set_cons_succ, List.set_cons_zero]
                      refine wpT_valp 9 (v := .int .i64 a1.gen) rfl rfl rfl (by go_simp) ?_
                      dsimp only [wpT]
                      try simp only [Act.put, List.setIfInBounds_toArray, List.set_cons_succ, List.set_cons_zero]
                      go_wp2_with fail
                      go_roundw
                      case rel => exact ⟨i + 1, _, _, _, a1.gen, _, L, t, by omega, by simp, rfl, rfl, R, HNL.out, HGD.out, HGG.out, by have := HGI.out; omega, MJ.sub (by simp)⟩
                      case measure => simp only [intOf]; omega
            · have hnn := hn
              have GN := G
              have HGI := hid (show Ep.gen0 L ≤ i + 1 by omega)
              have hnn2 := GN.len
              rw [hnn] at hnn2
              obtain ⟨a1, ha1, hga1, hma1⟩ := GN.hd
              have HEa1 := hid ha1
              have HNL := hid hnn
              have HGD := hid GN
              have HGG := hid hga1.symm
              have HFIN := hid GN.fins
              have hk1 : ¬ (n : Int) < 1 := by omega
              have hk2 : ¬ (2 : Int) < (n : Int) := by omega
              have hgz : ¬ (a1.gen : Int) < (hg : Int) := by omega
              have hn00 : (0 : Int) < (n : Int) := by omega
              have hn01 : 0 < n := by omega
              have hn02 : ¬ n = 0 := by omega
              have HMC := hid (show (hg : Int) = (a1.gen : Int) ∨ (hg : Int) < (a1.gen : Int) by omega)
              have hgbd : a1.gen ≤ 1000000 := by have := HGI.out; omega
              have HHG := hid hhg
              clear hhg hga hga1
              clear ha
              by_cases h2n : n = 2
              · skip
                obtain ⟨a1', bb, e1, hb1, hab⟩ := GN.snd (by rw [hnn]; exact h2n)
                rw [ha1] at e1
                injection e1 with e1
                subst e1
                have HEbb := hid hb1
                have HB1 := hid (show IntKind.i64.wrap ((a1.gen : Int) - 1) = (bb.gen : Int) by rw [i64w _ (by omega) (by omega)]; omega)
                have h2z : (n : Int) = 2 := by omega
                have h1z : (1 : Int) < (n : Int) := by omega
                clear hab
                clear GN hnn ha1 hb1
                go_upto_region 10 with fail
                refine wp_region_lin (.op 0 (.op 1 (.op 2 (.op 3 (.op 4 (.op 5 .done)))))) (by rfl) ?_
                refine wpT_valp 36 (v := .slice (some ⟨ga, oa, none⟩) n0 ca) rfl rfl rfl (by go_simp) ?_
                refine wpT_valp 37 (v := .int .i64 i) rfl rfl rfl (by go_simp) ?_
                refine wpT_valp 38 (v := .pointer (some ⟨ga, oa + i * 2, none⟩)) rfl rfl rfl (by go_simp) ?_
                refine wpT_ldy 39 (.pointer (some ⟨ga, oa + i * 2, none⟩)) (.agg (ACT q e)) rfl rfl rfl (by go_simp) (HEA.out _ M.end_) rfl ?_
                try simp only [Act.put, List.setIfInBounds_toArray, List.set_cons_succ, List.set_cons_zero]
                refine wpT_new (z := .agg (ACT 0 0)) 11 M (by kernel_rfl) (by decide) rfl rfl rfl rfl (fun b1 w2 M3 => ?_)
                try dsimp only [Value.cells] at M3
                refine wpT_st0 M3 0 (ACT q e) inf_act rfl rfl rfl rfl (by go_simp) (by go_simp) (by simp [hk, ROR_size, EPS_size, ACT_size, Ep.pub_len]) (by simp [hk, ROR_size, EPS_size, ACT_size, Ep.pub_len]) (by simp [go_sem]) rfl (fun w4 M5 => ?_)
                dsimp only [List.set] at M5
                dsimp only [wpT]
                try simp only [Act.put, List.setIfInBounds_toArray, List.set_cons_succ, List.set_cons_zero]
                go_upto_region 11 with fail
                refine wp_region_lin (.op 0 (.op 1 (.op 2 (.op 3 .done)))) (by rfl) ?_
                refine wpT_valp 40 (v := .pointer (some ⟨b1, 0, none⟩)) rfl rfl rfl (by go_simp) ?_
                refine wpT_valp 41 (v := .int .u8 q) rfl rfl rfl (by have c0 := act_c0 (M5.row (b := b1) (c := ACT q e) (by simp)); go_simp) ?_
                refine wpT_valp 42 (v := .int .u8 rq) rfl rfl rfl (by have h := HRQ1.out; have h2 := HRQ2.out; go_simp) ?_
                refine wpT_valp 43 (v := .bool false) rfl rfl rfl (by go_simp) ?_
                dsimp only [wpT]
                try simp only [Act.put, List.setIfInBounds_toArray, List.set_cons_succ, List.set_cons_zero]
                go_upto_region 14 with fail
                refine wp_region_lin (.op 0 (.op 1 (.op 2 (.op 3 (.op 4 (.op 5 (.op 6 (.op 7 (.op 8 .done))))))))) (by rfl) ?_
                refine wpT_valp 51 (v := .pointer (some ⟨b1, 1, none⟩)) rfl rfl rfl (by go_simp) ?_
                refine wpT_valp 52 (v := .int .i64 e) rfl rfl rfl (by have c0 := act_c1 (M5.row (b := b1) (c := ACT q e) (by simp)); go_simp) ?_
                refine wpT_valp 53 (v := .int .i64 t) rfl rfl rfl (by go_simp) ?_
                refine wpT_valp 54 (v := .bool false) rfl rfl rfl (by go_simp) ?_
                try simp only [Act.put, List.setIfInBounds_toArray, List.set_cons_succ, List.set_cons_zero]
                refine wpT_valp 55 (v := .bool false) rfl rfl rfl (by go_simp) ?_
                refine wpT_unx 56 rfl rfl (by simp [Region.wanted, yielded, Act.put]) ?_
                refine wpT_unx 57 rfl rfl (by simp [Region.wanted, yielded, Act.put]) ?_
                refine wpT_unx 58 rfl rfl (by simp [Region.wanted, yielded, Act.put]) ?_
                refine wpT_valp 59 (v := .bool false) rfl rfl rfl (by go_simp) ?_
                dsimp only [wpT]
                try simp only [Act.put, List.setIfInBounds_toArray, List.set_cons_succ, List.set_cons_zero]
                go_upto_region 17 with fail
                have MM := M5.sub (H' := [(g, cur), (gb, ROR k (.slice (some ⟨g, 0, none⟩) n c) t), (w.heap.size, cs U8 k)]) (by simp)
                refine wp_region_lin (.op 0 (.op 1 (.op 2 .done))) (by rfl) ?_
                refine wpT_valp 66 (v := .pointer (some ⟨gb, 0, none⟩)) rfl rfl rfl (by go_simp) ?_
                refine wpT_ownr 67 MM rfl rfl rfl (by go_simp) (open_ep (n := n) (ro_at (b := gb) (t := t) MM (A := []) (C := [(w.heap.size, cs U8 k)]) rfl R hn hgb hk (by omega)) (by omega) HNL.out) (by omega) (fun gu cv curu wgu Ru Mgu => ?_)
                refine wpT_valp 12 (v := .slice (some ⟨gu, 0, none⟩) n cv) rfl rfl rfl (by go_simp) ?_
                dsimp only [wpT]
                try simp only [Act.put, List.setIfInBounds_toArray, List.set_cons_succ, List.set_cons_zero]
                go_upto_region 18 with fail
                refine wp_region_seq 33 [68, 69, 70, 71, 72, 73, 74, 75, 76, 77, 78, 79, 80, 81, 82, 83, 84, 85, 86, 87, 88, 89, 90, 91, 92, 93, 94, 95, 96, 97, 98, 99, 100] [] [] [] (.done) (Mm no w _) (by kernel_rfl) (by kernel_rfl) (by kernel_rfl) (fun d _ _ _ _ h => by cases d <;> exact h) (by rfl) Mgu.size (fun _ _ h k => h.sf k) Mgu ?_
                simp only [List.take_succ_cons, List.take_zero]
                refine SeqA.pure (.slice (some ⟨gu, 0, none⟩) n cv) (fun w' => by go_simp) rfl rfl ?_
                refine SeqA.pure (.int .i64 n) (fun w' => by go_simp) rfl rfl ?_
                refine SeqA.pure (.bool false) (fun w' => by go_simp) rfl rfl ?_
                refine SeqA.pure (.bool false) (fun w' => by go_simp) rfl rfl ?_
                refine SeqA.pure (.slice (some ⟨gu, 0, none⟩) n cv) (fun w' => by go_simp) rfl (by simp [Region.wanted, yielded, Act.put]) ?_
                simp only [Act.put, List.setIfInBounds_toArray, List.set_cons_succ, List.set_cons_zero]
                refine SeqA.pure (.int .i64 n) (fun w' => by go_simp) rfl (by simp [Region.wanted, yielded, Act.put]) ?_
                refine SeqA.pure (.bool false) (fun w' => by go_simp) rfl (by simp [Region.wanted, yielded, Act.put]) ?_
                refine SeqA.pure (.bool false) (fun w' => by go_simp) rfl rfl ?_
                refine SeqA.pure (.bool false) (fun w' => by go_simp) rfl rfl ?_
                refine SeqA.pure (.slice (some ⟨gu, 0, none⟩) n cv) (fun w' => by go_simp) rfl (by simp [Region.wanted, yielded, Act.put]) ?_
                refine SeqA.pure (.pointer (some ⟨gu, 0, none⟩)) (fun w' => by go_simp) rfl (by simp [Region.wanted, yielded, Act.put]) ?_
                simp only [Act.put, List.setIfInBounds_toArray, List.set_cons_succ, List.set_cons_zero]
                refine SeqA.pure (.pointer (some ⟨gu, 0, none⟩)) (fun w' => by go_simp) rfl (by simp [Region.wanted, yielded, Act.put]) ?_
                refine SeqA.read (.int .i64 a1.gen) (fun w' M => by have c0 := c66 Ru M (by simp) HNL.out 0 (a := a1) HEa1.out (by decide) (e66_0 k _); simp at c0; go_simp) rfl (by simp [Region.wanted, yielded, Act.put]) ?_
                refine SeqA.pure (.int .i64 hg) (fun w' => by go_simp) rfl (by simp [Region.wanted, yielded, Act.put]) ?_
                refine SeqA.pure (.bool false) (fun w' => by go_simp) rfl (by simp [Region.wanted, yielded, Act.put]) ?_
                refine SeqA.pure (.bool false) (fun w' => by go_simp) rfl rfl ?_
                refine SeqA.pure (.bool false) (fun w' => by go_simp) rfl rfl ?_
                simp only [Act.put, List.setIfInBounds_toArray, List.set_cons_succ, List.set_cons_zero]
                refine SeqA.pure (.slice (some ⟨gu, 0, none⟩) n cv) (fun w' => by go_simp) rfl (by simp [Region.wanted, yielded, Act.put]) ?_
                refine SeqA.pure (.int .i64 n) (fun w' => by go_simp) rfl (by simp [Region.wanted, yielded, Act.put]) ?_
                refine SeqA.pure (.bool true) (fun w' => by go_simp) rfl (by simp [Region.wanted, yielded, Act.put]) ?_
                refine SeqA.pure (.bool true) (fun w' => by go_simp) rfl (by simp [Region.wanted, yielded, Act.put]) ?_
                refine SeqA.pure (.slice (some ⟨gu, 0, none⟩) n cv) (fun w' => by go_simp) rfl (by simp [Region.wanted, yielded, Act.put]) ?_
                refine SeqA.pure (.pointer (some ⟨gu, 66, none⟩)) (fun w' => by go_simp) rfl (by simp [Region.wanted, yielded, Act.put]) ?_
                simp only [Act.put, List.setIfInBounds_toArray, List.set_cons_succ, List.set_cons_zero]
                refine SeqA.pure (.pointer (some ⟨gu, 66, none⟩)) (fun w' => by go_simp) rfl (by simp [Region.wanted, yielded, Act.put]) ?_
                refine SeqA.read (.int .i64 bb.gen) (fun w' M => by have c0 := c66 Ru M (by simp) HNL.out 1 (a := bb) HEbb.out (by decide) (e66_0 k _); simp at c0; go_simp) rfl (by simp [Region.wanted, yielded, Act.put]) ?_
                refine SeqA.pure (.slice (some ⟨gu, 0, none⟩) n cv) (fun w' => by go_simp) rfl (by simp [Region.wanted, yielded, Act.put]) ?_
                refine SeqA.pure (.pointer (some ⟨gu, 0, none⟩)) (fun w' => by go_simp) rfl (by simp [Region.wanted, yielded, Act.put]) ?_
                refine SeqA.pure (.pointer (some ⟨gu, 0, none⟩)) (fun w' => by go_simp) rfl (by simp [Region.wanted, yielded, Act.put]) ?_
                refine SeqA.read (.int .i64 a1.gen) (fun w' M => by have c0 := c66 Ru M (by simp) HNL.out 0 (a := a1) HEa1.out (by decide) (e66_0 k _); simp at c0; go_simp) rfl (by simp [Region.wanted, yielded, Act.put]) ?_
                simp only [Act.put, List.setIfInBounds_toArray, List.set_cons_succ, List.set_cons_zero]
                refine SeqA.pure (.int .i64 bb.gen) (fun w' => by have h := HB1.out; go_simp) rfl (by simp [Region.wanted, yielded, Act.put]) ?_
                refine SeqA.pure (.bool false) (fun w' => by go_simp) rfl (by simp [Region.wanted, yielded, Act.put]) ?_
                refine SeqA.pure (.bool false) (fun w' => by go_simp) rfl (by simp [Region.wanted, yielded, Act.put]) ?_
                refine SeqA.pure (.bool false) (fun w' => by go_simp) rfl rfl ?_
                refine SeqA.nil (fun w6 M7 hz => ?_)
                show wpT _ _ _ _ _ _
                simp only [Act.put, List.setIfInBounds_toArray, List.set_cons_succ, List.set_cons_zero]
                dsimp only [wpT]
                go_upto_region 20 with fail
                refine wp_region_lin (.op 0 (.op 1 (.op 2 .done))) (by rfl) ?_
                refine wpT_valp 101 (v := .slice (some ⟨gu, 0, none⟩) n cv) rfl rfl rfl (by go_simp) ?_
                refine wpT_valp 102 (v := .int .i64 n) rfl rfl rfl (by go_simp) ?_
                refine wpT_valp 103 (v := .int .i64 0) rfl rfl rfl (by go_simp) ?_
                dsimp only [wpT]
                try simp only [Act.put, List.setIfInBounds_toArray, List.set_cons_succ, List.set_cons_zero]
                go_wp2_with fail
                go_loopw [103] (fun y wq => ∃ j : Nat, j ≤ n ∧ y = .int .i64 j ∧ Mm no w [(gu, curu), (g, cur), (gb, ROR k (.slice (some ⟨g, 0, none⟩) n c) t), (w.heap.size, cs U8 k)] wq) (fun y _ => n - (intOf y).toNat)
                case atStart => exact ⟨0, by omega, rfl, M7⟩
                case round =>
                  clear M7
                  obtain ⟨j, hj, rfl, MJ⟩ := hrel
                  by_cases hjn : j < n
                  · have hlt : (j : Int) < (n : Int) := by omega
                    have hj0 : (0 : Int) ≤ (j : Int) := by omega
                    obtain ⟨s, hs⟩ : ∃ s, L[j]? = some s := ⟨_, List.getElem?_eq_getElem (by rw [HNL.out]; exact hjn)⟩
                    have HEL := el66 (S := no) (w0 := w) Ru HNL.out hs
                    have hfin := HFIN.out s (List.mem_of_getElem? hs)
                    have hfz : ¬ ((Ep.fin s.made : Nat) : Int) ≤ (t : Int) := by omega
                    clear hs
                    go_upto_region 22 with fail
                    refine wp_region_lin (.op 0 (.op 1 (.op 2 (.op 3 .done)))) (by rfl) ?_
                    refine wpT_valp 105 (v := .pointer (some ⟨gu, j * 66, none⟩)) rfl rfl rfl (by go_simp) ?_
                    refine wpT_ldy 106 (.pointer (some ⟨gu, j * 66, none⟩)) (.agg (EPS k s)) rfl rfl rfl (by go_simp) (HEL.out _ _ MJ (by simp)) rfl ?_
                    refine wpT_new (z := .agg (ZPS)) 14 MJ (by kernel_rfl) (by decide) rfl rfl rfl rfl (fun b8 w9 M10 => ?_)
                    try dsimp only [Value.cells] at M10
                    refine wpT_st0 M10 0 (EPS k s) inf_eps rfl rfl rfl rfl (by go_simp) (by go_simp) (by simp [hk, ROR_size, EPS_size, ACT_size, Ep.pub_len]) (by simp [hk, ROR_size, EPS_size, ACT_size, Ep.pub_len]) (by simp [go_sem]) rfl (fun w11 M12 => ?_)
                    dsimp only [List.set] at M12
                    dsimp only [wpT]
                    try simp only [Act.put, List.setIfInBounds_toArray, List.set_cons_succ, List.set_cons_zero]
                    go_upto_region 23 with fail
                    refine wp_region_lin (.op 0 (.op 1 (.op 2 (.op 3 .done)))) (by rfl) ?_
                    refine wpT_valp 107 (v := .pointer (some ⟨b8, 1, none⟩)) rfl rfl rfl (by go_simp) ?_
                    refine wpT_valp 108 (v := .int .i64 (Ep.fin s.made)) rfl rfl rfl (by have c0 := eps_c1 (M12.row (b := b8) (c := EPS k s) (by simp)); go_simp) ?_
                    refine wpT_valp 109 (v := .int .i64 t) rfl rfl rfl (by go_simp) ?_
                    refine wpT_valp 110 (v := .bool false) rfl rfl rfl (by go_simp) ?_
                    dsimp only [wpT]
                    try simp only [Act.put, List.setIfInBounds_toArray, List.set_cons_succ, List.set_cons_zero]
                    go_wp2_with fail
                    go_roundw
                    case rel => exact ⟨j + 1, by omega, by simp, M12.sub (by simp)⟩
                    case measure => simp only [intOf]; omega
                  · obtain rfl : n = j := by omega
                    go_upto_region 26 with fail
                    refine wp_region_lin (.op 0 (.op 1 (.op 2 (.op 3 (.op 4 .done))))) (by rfl) ?_
                    refine wpT_valp 112 (v := .slice (some ⟨gu, 0, none⟩) n cv) rfl rfl rfl (by go_simp) ?_
                    refine wpT_valp 113 (v := .pointer (some ⟨gu, 0, none⟩)) rfl rfl rfl (by go_simp) ?_
                    refine wpT_valp 114 (v := .pointer (some ⟨gu, 0, none⟩)) rfl rfl rfl (by go_simp) ?_
                    refine wpT_valp 115 (v := .int .i64 a1.gen) rfl rfl rfl (by have c0 := c66 Ru MJ (by simp) HNL.out 0 (a := a1) HEa1.out (by decide) (e66_0 k _); simp at c0; go_simp) ?_
                    try simp only [Act.put, List.setIfInBounds_toArray, List.set_cons_succ, List.set_cons_zero]
                    refine wpT_valp 9 (v := .int .i64 a1.gen) rfl rfl rfl (by go_simp) ?_
                    dsimp only [wpT]
                    try simp only [Act.put, List.setIfInBounds_toArray, List.set_cons_succ, List.set_cons_zero]
                    go_wp2_with fail
                    go_roundw
                    case rel => exact ⟨i + 1, _, _, _, a1.gen, _, L, t, by omega, by simp, rfl, rfl, R, HNL.out, HGD.out, HGG.out, by have := HGI.out; omega, MJ.sub (by simp)⟩
                    case measure => simp only [intOf]; omega
              · have h2z : ¬ (n : Int) = 2 := by omega
                clear GN hnn ha1
                go_upto_region 10 with fail
                refine wp_region_lin (.op 0 (.op 1 (.op 2 (.op 3 (.op 4 (.op 5 .done)))))) (by rfl) ?_
                refine wpT_valp 36 (v := .slice (some ⟨ga, oa, none⟩) n0 ca) rfl rfl rfl (by go_simp) ?_
                refine wpT_valp 37 (v := .int .i64 i) rfl rfl rfl (by go_simp) ?_
                refine wpT_valp 38 (v := .pointer (some ⟨ga, oa + i * 2, none⟩)) rfl rfl rfl (by go_simp) ?_
                refine wpT_ldy 39 (.pointer (some ⟨ga, oa + i * 2, none⟩)) (.agg (ACT q e)) rfl rfl rfl (by go_simp) (HEA.out _ M.end_) rfl ?_
                try simp only [Act.put, List.setIfInBounds_toArray, List.set_cons_succ, List.set_cons_zero]
                refine wpT_new (z := .agg (ACT 0 0)) 11 M (by kernel_rfl) (by decide) rfl rfl rfl rfl (fun b1 w2 M3 => ?_)
                try dsimp only [Value.cells] at M3
                refine wpT_st0 M3 0 (ACT q e) inf_act rfl rfl rfl rfl (by go_simp) (by go_simp) (by simp [hk, ROR_size, EPS_size, ACT_size, Ep.pub_len]) (by simp [hk, ROR_size, EPS_size, ACT_size, Ep.pub_len]) (by simp [go_sem]) rfl (fun w4 M5 => ?_)
                dsimp only [List.set] at M5
                dsimp only [wpT]
                try simp only [Act.put, List.setIfInBounds_toArray, List.set_cons_succ, List.set_cons_zero]
                go_upto_region 11 with fail
                refine wp_region_lin (.op 0 (.op 1 (.op 2 (.op 3 .done)))) (by rfl) ?_
                refine wpT_valp 40 (v := .pointer (some ⟨b1, 0, none⟩)) rfl rfl rfl (by go_simp) ?_
                refine wpT_valp 41 (v := .int .u8 q) rfl rfl rfl (by have c0 := act_c0 (M5.row (b := b1) (c := ACT q e) (by simp)); go_simp) ?_
                refine wpT_valp 42 (v := .int .u8 rq) rfl rfl rfl (by have h := HRQ1.out; have h2 := HRQ2.out; go_simp) ?_
                refine wpT_valp 43 (v := .bool false) rfl rfl rfl (by go_simp) ?_
                dsimp only [wpT]
                try simp only [Act.put, List.setIfInBounds_toArray, List.set_cons_succ, List.set_cons_zero]
                go_upto_region 14 with fail
                refine wp_region_lin (.op 0 (.op 1 (.op 2 (.op 3 (.op 4 (.op 5 (.op 6 (.op 7 (.op 8 .done))))))))) (by rfl) ?_
                refine wpT_valp 51 (v := .pointer (some ⟨b1, 1, none⟩)) rfl rfl rfl (by go_simp) ?_
                refine wpT_valp 52 (v := .int .i64 e) rfl rfl rfl (by have c0 := act_c1 (M5.row (b := b1) (c := ACT q e) (by simp)); go_simp) ?_
                refine wpT_valp 53 (v := .int .i64 t) rfl rfl rfl (by go_simp) ?_
                refine wpT_valp 54 (v := .bool false) rfl rfl rfl (by go_simp) ?_
                try simp only [Act.put, List.setIfInBounds_toArray, List.set_cons_succ, List.set_cons_zero]
                refine wpT_valp 55 (v := .bool false) rfl rfl rfl (by go_simp) ?_
                refine wpT_unx 56 rfl rfl (by simp [Region.wanted, yielded, Act.put]) ?_
                refine wpT_unx 57 rfl rfl (by simp [Region.wanted, yielded, Act.put]) ?_
                refine wpT_unx 58 rfl rfl (by simp [Region.wanted, yielded, Act.put]) ?_
                refine wpT_valp 59 (v := .bool false) rfl rfl rfl (by go_simp) ?_
                dsimp only [wpT]
                try simp only [Act.put, List.setIfInBounds_toArray, List.set_cons_succ, List.set_cons_zero]
                go_upto_region 17 with fail
                have MM := M5.sub (H' := [(g, cur), (gb, ROR k (.slice (some ⟨g, 0, none⟩) n c) t), (w.heap.size, cs U8 k)]) (by simp)
                refine wp_region_lin (.op 0 (.op 1 (.op 2 .done))) (by rfl) ?_
                refine wpT_valp 66 (v := .pointer (some ⟨gb, 0, none⟩)) rfl rfl rfl (by go_simp) ?_
                refine wpT_ownr 67 MM rfl rfl rfl (by go_simp) (open_ep (n := n) (ro_at (b := gb) (t := t) MM (A := []) (C := [(w.heap.size, cs U8 k)]) rfl R hn hgb hk (by omega)) (by omega) HNL.out) (by omega) (fun gu cv curu wgu Ru Mgu => ?_)
                refine wpT_valp 12 (v := .slice (some ⟨gu, 0, none⟩) n cv) rfl rfl rfl (by go_simp) ?_
                dsimp only [wpT]
                try simp only [Act.put, List.setIfInBounds_toArray, List.set_cons_succ, List.set_cons_zero]
                go_upto_region 18 with fail
                refine wp_region_seq 33 [68, 69, 70, 71, 72, 73, 74, 75, 76, 77, 78, 79, 80, 81, 82, 83, 84, 85, 86, 87, 88, 89, 90, 91, 92, 93, 94, 95, 96, 97, 98, 99, 100] [] [] [] (.done) (Mm no w _) (by kernel_rfl) (by kernel_rfl) (by kernel_rfl) (fun d _ _ _ _ h => by cases d <;> exact h) (by rfl) Mgu.size (fun _ _ h k => h.sf k) Mgu ?_
                simp only [List.take_succ_cons, List.take_zero]
                refine SeqA.pure (.slice (some ⟨gu, 0, none⟩) n cv) (fun w' => by go_simp) rfl rfl ?_
                refine SeqA.pure (.int .i64 n) (fun w' => by go_simp) rfl rfl ?_
                refine SeqA.pure (.bool false) (fun w' => by go_simp) rfl rfl ?_
                refine SeqA.pure (.bool false) (fun w' => by go_simp) rfl rfl ?_
                refine SeqA.pure (.slice (some ⟨gu, 0, none⟩) n cv) (fun w' => by go_simp) rfl (by simp [Region.wanted, yielded, Act.put]) ?_
                simp only [Act.put, List.setIfInBounds_toArray, List.set_cons_succ, List.set_cons_zero]
                refine SeqA.pure (.int .i64 n) (fun w' => by go_simp) rfl (by simp [Region.wanted, yielded, Act.put]) ?_
                refine SeqA.pure (.bool false) (fun w' => by go_simp) rfl (by simp [Region.wanted, yielded, Act.put]) ?_
                refine SeqA.pure (.bool false) (fun w' => by go_simp) rfl rfl ?_
                refine SeqA.pure (.bool false) (fun w' => by go_simp) rfl rfl ?_
                refine SeqA.pure (.slice (some ⟨gu, 0, none⟩) n cv) (fun w' => by go_simp) rfl (by simp [Region.wanted, yielded, Act.put]) ?_
                refine SeqA.pure (.pointer (some ⟨gu, 0, none⟩)) (fun w' => by go_simp) rfl (by simp [Region.wanted, yielded, Act.put]) ?_
                simp only [Act.put, List.setIfInBounds_toArray, List.set_cons_succ, List.set_cons_zero]
                refine SeqA.pure (.pointer (some ⟨gu, 0, none⟩)) (fun w' => by go_simp) rfl (by simp [Region.wanted, yielded, Act.put]) ?_
                refine SeqA.read (.int .i64 a1.gen) (fun w' M => by have c0 := c66 Ru M (by simp) HNL.out 0 (a := a1) HEa1.out (by decide) (e66_0 k _); simp at c0; go_simp) rfl (by simp [Region.wanted, yielded, Act.put]) ?_
                refine SeqA.pure (.int .i64 hg) (fun w' => by go_simp) rfl (by simp [Region.wanted, yielded, Act.put]) ?_
                refine SeqA.pure (.bool false) (fun w' => by go_simp) rfl (by simp [Region.wanted, yielded, Act.put]) ?_
                refine SeqA.pure (.bool false) (fun w' => by go_simp) rfl rfl ?_
                refine SeqA.pure (.bool false) (fun w' => by go_simp) rfl rfl ?_
                simp only [Act.put, List.setIfInBounds_toArray, List.set_cons_succ, List.set_cons_zero]
                refine SeqA.pure (.slice (some ⟨gu, 0, none⟩) n cv) (fun w' => by go_simp) rfl (by simp [Region.wanted, yielded, Act.put]) ?_
                refine SeqA.pure (.int .i64 n) (fun w' => by go_simp) rfl (by simp [Region.wanted, yielded, Act.put]) ?_
                refine SeqA.pure (.bool false) (fun w' => by go_simp) rfl (by simp [Region.wanted, yielded, Act.put]) ?_
                refine SeqA.pure (.bool false) (fun w' => by go_simp) rfl (by simp [Region.wanted, yielded, Act.put]) ?_
                refine SeqA.skip rfl (by simp [Region.wanted, yielded, Act.put]) ?_ rfl
                refine SeqA.skip rfl (by simp [Region.wanted, yielded, Act.put]) ?_ rfl
                simp only [Act.put, List.setIfInBounds_toArray, List.set_cons_succ, List.set_cons_zero]
                refine SeqA.skip rfl (by simp [Region.wanted, yielded, Act.put]) ?_ rfl
                refine SeqA.skip rfl (by simp [Region.wanted, yielded, Act.put]) ?_ rfl
                refine SeqA.skip rfl (by simp [Region.wanted, yielded, Act.put]) ?_ rfl
                refine SeqA.skip rfl (by simp [Region.wanted, yielded, Act.put]) ?_ rfl
                refine SeqA.skip rfl (by simp [Region.wanted, yielded, Act.put]) ?_ rfl
                refine SeqA.skip rfl (by simp [Region.wanted, yielded, Act.put]) ?_ rfl
                simp only [Act.put, List.setIfInBounds_toArray, List.set_cons_succ, List.set_cons_zero]
                refine SeqA.skip rfl (by simp [Region.wanted, yielded, Act.put]) ?_ rfl
                refine SeqA.skip rfl (by simp [Region.wanted, yielded, Act.put]) ?_ rfl
                refine SeqA.pure (.bool false) (fun w' => by go_simp) rfl (by simp [Region.wanted, yielded, Act.put]) ?_
                refine SeqA.pure (.bool false) (fun w' => by go_simp) rfl rfl ?_
                refine SeqA.nil (fun w6 M7 hz => ?_)
                show wpT _ _ _ _ _ _
                simp only [Act.put, List.setIfInBounds_toArray, List.set_cons_succ, List.set_cons_zero]
                dsimp only [wpT]
                go_upto_region 20 with fail
                refine wp_region_lin (.op 0 (.op 1 (.op 2 .done))) (by rfl) ?_
                refine wpT_valp 101 (v := .slice (some ⟨gu, 0, none⟩) n cv) rfl rfl rfl (by go_simp) ?_
                refine wpT_valp 102 (v := .int .i64 n) rfl rfl rfl (by go_simp) ?_
                refine wpT_valp 103 (v := .int .i64 0) rfl rfl rfl (by go_simp) ?_
                dsimp only [wpT]
                try simp only [Act.put, List.setIfInBounds_toArray, List.set_cons_succ, List.set_cons_zero]
                go_wp2_with fail
                go_loopw [103] (fun y wq => ∃ j : Nat, j ≤ n ∧ y = .int .i64 j ∧ Mm no w [(gu, curu), (g, cur), (gb, ROR k (.slice (some ⟨g, 0, none⟩) n c) t), (w.heap.size, cs U8 k)] wq) (fun y _ => n - (intOf y).toNat)
                case atStart => exact ⟨0, by omega, rfl, M7⟩
                case round =>
                  clear M7
                  obtain ⟨j, hj, rfl, MJ⟩ := hrel
                  by_cases hjn : j < n
                  · have hlt : (j : Int) < (n : Int) := by omega
                    have hj0 : (0 : Int) ≤ (j : Int) := by omega
                    obtain ⟨s, hs⟩ : ∃ s, L[j]? = some s := ⟨_, List.getElem?_eq_getElem (by rw [HNL.out]; exact hjn)⟩
                    have HEL := el66 (S := no) (w0 := w) Ru HNL.out hs
                    have hfin := HFIN.out s (List.mem_of_getElem? hs)
                    have hfz : ¬ ((Ep.fin s.made : Nat) : Int) ≤ (t : Int) := by omega
                    clear hs
                    go_upto_region 22 with fail
                    refine wp_region_lin (.op 0 (.op 1 (.op 2 (.op 3 .done)))) (by rfl) ?_
                    refine wpT_valp 105 (v := .pointer (some ⟨gu, j * 66, none⟩)) rfl rfl rfl (by go_simp) ?_
                    refine wpT_ldy 106 (.pointer (some ⟨gu, j * 66, none⟩)) (.agg (EPS k s)) rfl rfl rfl (by go_simp) (HEL.out _ _ MJ (by simp)) rfl ?_
                    refine wpT_new (z := .agg (ZPS)) 14 MJ (by kernel_rfl) (by decide) rfl rfl rfl rfl (fun b8 w9 M10 => ?_)
                    try dsimp only [Value.cells] at M10
                    refine wpT_st0 M10 0 (EPS k s) inf_eps rfl rfl rfl rfl (by go_simp) (by go_simp) (by simp [hk, ROR_size, EPS_size, ACT_size, Ep.pub_len]) (by simp [hk, ROR_size, EPS_size, ACT_size, Ep.pub_len]) (by simp [go_sem]) rfl (fun w11 M12 => ?_)
                    dsimp only [List.set] at M12
                    dsimp only [wpT]
                    try simp only [Act.put, List.setIfInBounds_toArray, List.set_cons_succ, List.set_cons_zero]
                    go_upto_region 23 with fail
                    refine wp_region_lin (.op 0 (.op 1 (.op 2 (.op 3 .done)))) (by rfl) ?_
                    refine wpT_valp 107 (v := .pointer (some ⟨b8, 1, none⟩)) rfl rfl rfl (by go_simp) ?_
                    refine wpT_valp 108 (v := .int .i64 (Ep.fin s.made)) rfl rfl rfl (by have c0 := eps_c1 (M12.row (b := b8) (c := EPS k s) (by simp)); go_simp) ?_
                    refine wpT_valp 109 (v := .int .i64 t) rfl rfl rfl (by go_simp) ?_
                    refine wpT_valp 110 (v := .bool false) rfl rfl rfl (by go_simp) ?_
                    dsimp only [wpT]
                    try simp only [Act.put, List.setIfInBounds_toArray, List.set_cons_succ, List.set_cons_zero]
                    go_wp2_with fail
                    go_roundw
                    case rel => exact ⟨j + 1, by omega, by simp, M12.sub (by simp)⟩
                    case measure => simp only [intOf]; omega
                  · obtain rfl : n = j := by omega
                    go_upto_region 26 with fail
                    refine wp_region_lin (.op 0 (.op 1 (.op 2 (.op 3 (.op 4 .done))))) (by rfl) ?_
                    refine wpT_valp 112 (v := .slice (some ⟨gu, 0, none⟩) n cv) rfl rfl rfl (by go_simp) ?_
                    refine wpT_valp 113 (v := .pointer (some ⟨gu, 0, none⟩)) rfl rfl rfl (by go_simp) ?_
                    refine wpT_valp 114 (v := .pointer (some ⟨gu, 0, none⟩)) rfl rfl rfl (by go_simp) ?_
                    refine wpT_valp 115 (v := .int .i64 a1.gen) rfl rfl rfl (by have c0 := c66 Ru MJ (by simp) HNL.out 0 (a := a1) HEa1.out (by decide) (e66_0 k _); simp at c0; go_simp) ?_
                    try simp only [Act.put, List.setIfInBounds_toArray, List.set_cons_succ, List.set_cons_zero]
                    refine wpT_valp 9 (v := .int .i64 a1.gen) rfl rfl rfl (by go_simp) ?_
                    dsimp only [wpT]
                    try simp only [Act.put, List.setIfInBounds_toArray, List.set_cons_succ, List.set_cons_zero]
                    go_wp2_with fail
                    go_roundw
                    case rel => exact ⟨i + 1, _, _, _, a1.gen, _, L, t, by omega, by simp, rfl, rfl, R, HNL.out, HGD.out, HGG.out, by have := HGI.out; omega, MJ.sub (by simp)⟩
                    case measure => simp only [intOf]; omega
theorem EpochFew_v (w : World) (k : List (BitVec 8)) (x0 : Int) (va : Value) {len : Nat} (acts : List (Int × Int)) (hT : KT w ∧ 0 < w.heap.size) (hk : k.length = 32) (hn : acts.length = len) (hv : SV w va len (fl eA acts)) (har : ∀ p ∈ acts, 0 ≤ p.1 ∧ p.1 < 256) :
    Calls Tryd.prog 7 #[.agg (cs U8 k), .int .i64 x0, va] w fun e w' => e = .returned (.bool true) ∧ Below w.heap.size w w' := by
  subst hn; exact EpochFew_w w k x0 va acts hT hk hv har
end Go.Proofs.YtgclegdgngldoaaDoor
