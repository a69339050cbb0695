/-
  Law 14: EpochFresh; own work.
-/
import Derived.Test.YtgclegdgngldoaaDoorL14d
set_option linter.unusedSimpArgs false
set_option linter.unusedVariables false
namespace Go.Proofs.YtgclegdgngldoaaDoor
open Go.RowKit Fp
attribute [local irreducible] ESL EPS ROR ACT
set_option maxRecDepth 100000 in
set_option maxHeartbeats 8000000 in
theorem EpochFresh_w (w : World) (k : L8) (x0 : Int) (va : Value) (acts : List (Int × Int)) (hT : KT w ∧ 0 < w.heap.size) (hk : k.length = 32) (hv : SV w va acts.length (fl eA acts)) (har : ∀ p ∈ acts, 0 ≤ p.1 ∧ p.1 < 256) :
    Calls Tryd.prog 8 #[.agg (cs U8 k), .int .i64 x0, va] w fun e w' => e = .returned (.bool true) ∧ Below w.heap.size w w' := by
  have HT := hid hT
  by_cases hx0 : 0 ≤ x0 ∧ x0 ≤ 1099511627776
  case neg =>
    have HCK := hid (decide_eq_false hx0)
    obtain ⟨x, hxx⟩ : ∃ x, x = x0 := ⟨_, rfl⟩
    rw [← hxx] at hx0 HCK ⊢
    have hx := hx0
    clear hT hxx hx0
    have M0 := Mm.start no w
    go_enter Tryd.func8, Tryd.ntmps8
    have M2 := (M0.alloc (cs U8 k) 23 (by decide))
    try simp only [World.size_alloc] at M2
    go_upto_region 1 with fail
    obtain ⟨w1, hw1⟩ : ∃ w1, w1 = (w.alloc (.cells (cs U8 k) 23)) := ⟨_, rfl⟩
    rw [← hw1] at M2 ⊢
    clear hw1
    refine wp_region_lin (.op 0 (.op 1 .done)) (by rfl) ?_
    refine wpT_callv 12 M2 (v := .bool true) rfl rfl rfl (by go_simp) (alive14_v HT.out M2.end_) (fun w3 M4 => ?_)
    refine wpT_valp 13 (v := .bool false) rfl rfl rfl (by go_simp) ?_
    dsimp only [wpT]
    try simp only [Act.put, List.setIfInBounds_toArray, List.set_cons_succ, List.set_cons_zero]
    go_upto_region 3 with fail
    refine wp_region_lin (.op 0 (.op 1 (.op 2 (.op 3 .done)))) (by rfl) ?_
    refine wpT_ld0 14 Tryd.underlying23 rfl inf_key (w.heap.size) (cs U8 k) rfl rfl rfl (by go_simp) (M4.row (b := w.heap.size) (c := cs U8 k) (by simp)) (by simp [hk, ROR_size, EPS_size, ACT_size, Ep.pub_len]) rfl ?_
    refine wpT_valp 15 (v := .int .i64 x) rfl rfl rfl (by go_simp) ?_
    refine wpT_callv 16 M4 (v := .pointer none) rfl rfl rfl (by go_simp) (new_bad w3 k x hk hx) (fun w5 M6 => ?_)
    refine wpT_valp 7 (v := .pointer none) rfl rfl rfl (by go_simp) ?_
    dsimp only [wpT]
    try simp only [Act.put, List.setIfInBounds_toArray, List.set_cons_succ, List.set_cons_zero]
    go_upto_region 4 with fail
    refine wp_region_lin (.op 0 (.op 1 .done)) (by rfl) ?_
    refine wpT_valp 17 (v := .pointer none) rfl rfl rfl (by go_simp) ?_
    refine wpT_valp 18 (v := .bool true) rfl rfl rfl (by go_simp) ?_
    dsimp only [wpT]
    try simp only [Act.put, List.setIfInBounds_toArray, List.set_cons_succ, List.set_cons_zero]
    go_upto_region 5 with fail
    refine wp_region_lin (.op 0 (.op 1 (.op 2 (.op 3 .done)))) (by rfl) ?_
    refine wpT_valp 19 (v := .int .i64 x) rfl rfl rfl (by go_simp) ?_
    refine wpT_callv 20 M6 (v := .bool false) rfl rfl rfl (by go_simp) (clock_b w5 _ HCK.out) (fun w7 M8 => ?_)
    refine wpT_valp 21 (v := .bool true) rfl rfl rfl (by go_simp) ?_
    refine wpT_valp 6 (v := .bool true) rfl rfl rfl (by go_simp) ?_
    dsimp only [wpT]
    try simp only [Act.put, List.setIfInBounds_toArray, List.set_cons_succ, List.set_cons_zero]
    go_wp2_with fail
    go_ret
    exact ⟨rfl, M8.end_⟩
  case pos =>
    obtain ⟨x, rfl⟩ : ∃ x : Nat, x0 = x := ⟨x0.toNat, by omega⟩
    have hx : x ≤ 1099511627776 := by omega
    have HT3 := hid (show KT w ∧ 0 < w.heap.size ∧ w.heap.size ≤ w.heap.size from ⟨hT.1, hT.2, Nat.le_refl _⟩)
    obtain ⟨n0, hn0⟩ : ∃ n, acts.length = n := ⟨_, rfl⟩
    rw [hn0] at hv
    obtain ⟨aa, ca, rfl, hca, hcm, _⟩ := id hv
    have hn0m : n0 ≤ 9223372036854775807 := by unfold maxLen at hcm; omega
    have HV0 := hid hv
    have HAR := hid har
    clear hT hv har hca hcm hx0
    have M0 := Mm.start no w
    go_enter Tryd.func8, Tryd.ntmps8
    have M2 := (M0.alloc (cs U8 k) 23 (by decide))
    try simp only [World.size_alloc] at M2
    go_upto_region 1 with fail
    obtain ⟨w1, hw1⟩ : ∃ w1, w1 = (w.alloc (.cells (cs U8 k) 23)) := ⟨_, rfl⟩
    rw [← hw1] at M2 ⊢
    clear hw1
    refine wp_region_lin (.op 0 (.op 1 .done)) (by rfl) ?_
    refine wpT_callv 12 M2 (v := .bool true) rfl rfl rfl (by go_simp) (alive14_v HT.out M2.end_) (fun w3 M4 => ?_)
    refine wpT_valp 13 (v := .bool false) rfl rfl rfl (by go_simp) ?_
    dsimp only [wpT]
    try simp only [Act.put, List.setIfInBounds_toArray, List.set_cons_succ, List.set_cons_zero]
    go_upto_region 3 with fail
    refine wp_region_lin (.op 0 (.op 1 (.op 2 (.op 3 .done)))) (by rfl) ?_
    refine wpT_ld0 14 Tryd.underlying23 rfl inf_key (w.heap.size) (cs U8 k) rfl rfl rfl (by go_simp) (M4.row (b := w.heap.size) (c := cs U8 k) (by simp)) (by simp [hk, ROR_size, EPS_size, ACT_size, Ep.pub_len]) rfl ?_
    refine wpT_valp 15 (v := .int .i64 x) rfl rfl rfl (by go_simp) ?_
    refine wpT_ronew (t' := x) (n' := 1) 16 M4 rfl rfl rfl (by go_simp) (new_v HT.out M4.end_ hk x x rfl hx) rfl (fun gb g0 c0 cu0 wg0 hgb R0 Mg0 => ?_)
    refine wpT_valp 7 (v := .pointer (some ⟨gb, 0, none⟩)) rfl rfl rfl (by go_simp) ?_
    dsimp only [wpT]
    try simp only [Act.put, List.setIfInBounds_toArray, List.set_cons_succ, List.set_cons_zero]
    go_upto_region 4 with fail
    refine wp_region_lin (.op 0 (.op 1 .done)) (by rfl) ?_
    refine wpT_valp 17 (v := .pointer (some ⟨gb, 0, none⟩)) rfl rfl rfl (by go_simp) ?_
    refine wpT_valp 18 (v := .bool false) rfl rfl rfl (by go_simp) ?_
    dsimp only [wpT]
    try simp only [Act.put, List.setIfInBounds_toArray, List.set_cons_succ, List.set_cons_zero]
    go_upto_region 6 with fail
    refine wp_region_lin (.op 0 .done) (by rfl) ?_
    refine wpT_valp 8 (v := .int .i64 0) rfl rfl rfl (by go_simp) ?_
    dsimp only [wpT]
    try simp only [Act.put, List.setIfInBounds_toArray, List.set_cons_succ, List.set_cons_zero]
    go_upto_region 7 with fail
    refine wp_region_lin (.op 0 .done) (by rfl) ?_
    refine wpT_valp 9 (v := .int .i64 0) rfl rfl rfl (by go_simp) ?_
    dsimp only [wpT]
    try simp only [Act.put, List.setIfInBounds_toArray, List.set_cons_succ, List.set_cons_zero]
    go_wp2_with fail
    go_loopw [8, 9] (fun x9 x10 wr => ∃ (i g c : Nat) (cur : Array Value) (hg n : Nat) (L : List Ep.Sl) (t : Nat), i ≤ 40 ∧ x10 = .int .i64 i ∧ x9 = .int .i64 hg ∧ Rw w.heap.size 67 (.slice (some ⟨g, 0, none⟩) n c) n (fl (e67 k) L) g c cur ∧ L.length = n ∧ Ep.Good L t ∧ hg = Ep.gen0 L ∧ Ep.gen0 L ≤ i ∧
      Mm no w [(g, cur), (gb, ROR k (.slice (some ⟨g, 0, none⟩) n c) t), (w.heap.size, cs U8 k)] wr) (fun _ x _ => 40 - (intOf x).toNat)
    case atStart => exact ⟨0, g0, c0, cu0, 0, 1, [⟨0, x⟩], x, by omega, rfl, rfl, R0, rfl, .one hx, rfl, Nat.le_refl _, Mg0⟩
    case round =>
      clear Mg0 R0
      obtain ⟨i, g, c, cur, hg, n, L, t, hi, rfl, rfl, R, hn, G, hhg, hgi, M⟩ := hrel
      by_cases hin : i < n0
      case neg =>
        have hlt : ¬ (i : Int) < (n0 : Int) := by omega
        go_wp2_with fail
        go_ret
        exact ⟨rfl, M.end_⟩
      case pos =>
        have hlt : (i : Int) < (n0 : Int) := by omega
        by_cases h40 : i < 40
        case neg =>
          have h40' : ¬ (i : Int) < 40 := by omega
          go_wp2_with fail
          go_ret
          exact ⟨rfl, M.end_⟩
        case pos =>
          have h40' : (i : Int) < 40 := by omega
          have hi0 : (0 : Int) ≤ (i : Int) := by omega
          obtain ⟨ga, oa, ca', hee⟩ := sv_some eA_len (by decide) HV0.out (by omega)
          injection hee with e1 e2 e3
          subst e1; subst e3
          have HV := HV0
          obtain ⟨pq, hpq⟩ : ∃ p, acts[i]? = some p := ⟨_, List.getElem?_eq_getElem (by omega)⟩
          obtain ⟨q, e⟩ := pq
          have hqr := HAR.out _ (List.mem_of_getElem? hpq)
          have HEA : Hid (∀ w', Below w.heap.size w w' → exLoad Tryd.prog 52 (.pointer (some ⟨ga, oa + i * 2, none⟩)) w' = .ok (.value (.agg (ACT q e))) w') := hid fun w' h =>
            sv_load eA_len Tryd.underlying52 rfl inf_act (by decide) (SV.below HV.out h) hpq (ACT q e) rfl
          obtain ⟨rq, hrq⟩ : ∃ r, r = q % 4 := ⟨_, rfl⟩
          have HRQ2 := hid hrq.symm
          have HRQ1 := hid (show q.tmod 4 = rq by rw [Int.tmod_eq_emod_of_nonneg hqr.1, hrq])
          clear hpq hqr hrq
          obtain ⟨a, ha, hga, hma⟩ := G.hd
          have HA := hid ha
          have H9 := hid (show L.length ≤ 900 by have := G.len; omega)
          have hnl := G.len
          rw [hn] at hnl
          have hgb1 : a.gen ≤ 1000000 := by omega
          have htop := G.top
          by_cases hlate : (t : Int) ≤ e ∧ 0 ≤ e ∧ e ≤ 1099511627776
          · obtain ⟨m, rfl⟩ : ∃ m : Nat, e = m := ⟨e.toNat, by omega⟩
            have htm : t ≤ m := by omega
            have hmm : m ≤ 1099511627776 := by omega
            by_cases hkind : rq = 1
            · obtain ⟨Ln, hLn⟩ : ∃ L, ([⟨a.gen + 1, m⟩] : List Ep.Sl) = L := ⟨_, rfl⟩
              have HLN := hid hLn
              obtain ⟨nn, hnn⟩ : ∃ n, Ln.length = n := ⟨_, rfl⟩
              have GN : Ep.Good Ln m := by rw [← hLn]; exact .one (by omega)
              have hgen : Ep.gen0 Ln = Ep.gen0 L + 1 := by rw [← hLn, hga]; rfl
              have HGI := hid (show Ep.gen0 Ln ≤ i + 1 by omega)
              have HN1z := hid (show (nn : Int) = 1 by rw [← hnn, ← hLn]; rfl)
              have hnn2 := GN.len
              rw [hnn] at hnn2
              obtain ⟨a1, ha1, hga1, hma1⟩ := GN.hd
              have HEa1 := hid ha1
              have HNL := hid hnn
              have HGD := hid GN
              have HGG := hid hga1.symm
              have HFIN := hid GN.fins
              have hk1 : ¬ (nn : Int) < 1 := by omega
              have hk2 : ¬ (2 : Int) < (nn : Int) := by omega
              have hgz : ¬ (a1.gen : Int) < (hg : Int) := by omega
              have hn00 : (0 : Int) < (nn : Int) := by omega
              have hn01 : 0 < nn := by omega
              have hn02 : ¬ nn = 0 := by omega
              have HMC := hid (show (hg : Int) = (a1.gen : Int) ∨ (hg : Int) < (a1.gen : Int) by omega)
              have hgbd : a1.gen ≤ 1000000 := by have := HGI.out; omega
              have HHG := hid hhg
              clear hhg hga hga1
              have hgz2 : ¬ (a1.gen : Int) ≤ (hg : Int) := by have h1 := HGG.out; have h2 := HHG.out; omega
              clear ha hLn hlate GN hnn ha1
              go_upto_region 10 with fail
              refine wp_region_lin (.op 0 (.op 1 (.op 2 (.op 3 (.op 4 (.op 5 .done)))))) (by rfl) ?_
              refine wpT_valp 32 (v := .slice (some ⟨ga, oa, none⟩) n0 ca) rfl rfl rfl (by go_simp) ?_
              refine wpT_valp 33 (v := .int .i64 i) rfl rfl rfl (by go_simp) ?_
              refine wpT_valp 34 (v := .pointer (some ⟨ga, oa + i * 2, none⟩)) rfl rfl rfl (by go_simp) ?_
              refine wpT_ldy 35 (.pointer (some ⟨ga, oa + i * 2, none⟩)) (.agg (ACT q m)) rfl rfl rfl (by go_simp) (HEA.out _ M.end_) rfl ?_
              try simp only [Act.put, List.setIfInBounds_toArray, List.set_cons_succ, List.set_cons_zero]
              refine wpT_new (z := .agg (ACT 0 0)) 10 M (by kernel_rfl) (by decide) rfl rfl rfl rfl (fun b1 w2 M3 => ?_)
              try dsimp only [Value.cells] at M3
              refine wpT_st0 M3 0 (ACT q m) inf_act rfl rfl rfl rfl (by go_simp) (by go_simp) (by simp [hk, ROR_size, EPS_size, ACT_size, Ep.pub_len]) (by simp [hk, ROR_size, EPS_size, ACT_size, Ep.pub_len]) (by simp [go_sem]) rfl (fun w4 M5 => ?_)
              dsimp only [List.set] at M5
              dsimp only [wpT]
              try simp only [Act.put, List.setIfInBounds_toArray, List.set_cons_succ, List.set_cons_zero]
              go_upto_region 11 with fail
              refine wp_region_lin (.op 0 (.op 1 (.op 2 (.op 3 .done)))) (by rfl) ?_
              refine wpT_valp 36 (v := .pointer (some ⟨b1, 0, none⟩)) rfl rfl rfl (by go_simp) ?_
              refine wpT_valp 37 (v := .int .u8 q) rfl rfl rfl (by have c0 := act_c0 (M5.row (b := b1) (c := ACT q m) (by simp)); go_simp) ?_
              refine wpT_valp 38 (v := .int .u8 rq) rfl rfl rfl (by have h := HRQ1.out; have h2 := HRQ2.out; go_simp) ?_
              refine wpT_valp 39 (v := .bool false) rfl rfl rfl (by go_simp) ?_
              dsimp only [wpT]
              try simp only [Act.put, List.setIfInBounds_toArray, List.set_cons_succ, List.set_cons_zero]
              go_upto_region 13 with fail
              refine wp_region_lin (.op 0 (.op 1 (.op 2 (.op 3 (.op 4 .done))))) (by rfl) ?_
              refine wpT_valp 44 (v := .pointer (some ⟨gb, 0, none⟩)) rfl rfl rfl (by go_simp) ?_
              refine wpT_valp 45 (v := .pointer (some ⟨b1, 1, none⟩)) rfl rfl rfl (by go_simp) ?_
              refine wpT_valp 46 (v := .int .i64 m) rfl rfl rfl (by have c0 := act_c1 (M5.row (b := b1) (c := ACT q m) (by simp)); go_simp) ?_
              refine wpT_ro (t' := m) (n' := nn) 47 M5 [(b1, ACT q m)] [(w.heap.size, cs U8 k)] rfl rfl R rfl rfl rfl (by go_simp) (restart_v (ro_at (b := gb) (t := t) M5 (A := [(b1, ACT q m)]) (C := [(w.heap.size, cs U8 k)]) rfl R hn hgb hk (by omega)) HT3.out M5.end_ H9.out m _ rfl (by omega) (by omega) a HA.out (by omega) HLN.out) HNL.out (fun gn cn cun wgn Rn Mgn => ?_)
              try simp only [Act.put, List.setIfInBounds_toArray, List.set_cons_succ, List.set_cons_zero]
              refine wpT_valp 48 (v := .bool true) rfl rfl rfl (by go_simp) ?_
              dsimp only [wpT]
              try simp only [Act.put, List.setIfInBounds_toArray, List.set_cons_succ, List.set_cons_zero]
              go_upto_region 14 with fail
              refine wp_region_lin (.op 0 (.op 1 (.op 2 .done))) (by rfl) ?_
              refine wpT_valp 49 (v := .pointer (some ⟨gb, 0, none⟩)) rfl rfl rfl (by go_simp) ?_
              refine wpT_ownr 50 Mgn rfl rfl rfl (by go_simp) (open_ep (n := nn) (ro_at (b := gb) (t := m) Mgn (A := []) (C := [(b1, ACT q m), (w.heap.size, cs U8 k)]) rfl Rn HNL.out hgb hk (by omega)) (by omega) HNL.out) (by omega) (fun gw cw curw wgw Rw Mgw => ?_)
              refine wpT_valp 11 (v := .slice (some ⟨gw, 0, none⟩) nn cw) rfl rfl rfl (by go_simp) ?_
              dsimp only [wpT]
              try simp only [Act.put, List.setIfInBounds_toArray, List.set_cons_succ, List.set_cons_zero]
              go_upto_region 15 with fail
              refine wp_region_lin (.op 0 (.op 1 (.op 2 (.op 3 (.op 4 (.op 5 (.op 6 (.op 7 (.op 8 (.op 9 (.op 10 .done))))))))))) (by rfl) ?_
              refine wpT_valp 51 (v := .slice (some ⟨gw, 0, none⟩) nn cw) rfl rfl rfl (by go_simp) ?_
              refine wpT_valp 52 (v := .int .i64 nn) rfl rfl rfl (by go_simp) ?_
              refine wpT_valp 53 (v := .bool false) rfl rfl rfl (by have h := HN1z.out; go_simp) ?_
              refine wpT_valp 54 (v := .bool false) rfl rfl rfl (by go_simp) ?_
              try simp only [Act.put, List.setIfInBounds_toArray, List.set_cons_succ, List.set_cons_zero]
              refine wpT_valp 55 (v := .slice (some ⟨gw, 0, none⟩) nn cw) rfl rfl (by simp [Region.wanted, yielded, Act.put]) (by go_simp) ?_
              refine wpT_valp 56 (v := .pointer (some ⟨gw, 0, none⟩)) rfl rfl (by simp [Region.wanted, yielded, Act.put]) (by go_simp) ?_
              refine wpT_valp 57 (v := .pointer (some ⟨gw, 0, none⟩)) rfl rfl (by simp [Region.wanted, yielded, Act.put]) (by go_simp) ?_
              refine wpT_valp 58 (v := .int .i64 a1.gen) rfl rfl (by simp [Region.wanted, yielded, Act.put]) (by have c0 := c66 Rw Mgw (by simp) HNL.out 0 (a := a1) HEa1.out (by decide) (e66_0 k _); simp at c0; go_simp) ?_
              refine wpT_valp 59 (v := .int .i64 hg) rfl rfl (by simp [Region.wanted, yielded, Act.put]) (by go_simp) ?_
              try simp only [Act.put, List.setIfInBounds_toArray, List.set_cons_succ, List.set_cons_zero]
              refine wpT_valp 60 (v := .bool false) rfl rfl (by simp [Region.wanted, yielded, Act.put]) (by go_simp) ?_
              refine wpT_valp 61 (v := .bool false) rfl rfl rfl (by go_simp) ?_
              dsimp only [wpT]
              try simp only [Act.put, List.setIfInBounds_toArray, List.set_cons_succ, List.set_cons_zero]
              go_upto_region 17 with fail
              refine wp_region_lin (.op 0 (.op 1 (.op 2 (.op 3 (.op 4 (.op 5 (.op 6 (.op 7 .done)))))))) (by rfl) ?_
              refine wpT_valp 62 (v := .int .i64 hg) rfl rfl rfl (by go_simp) ?_
              refine wpT_valp 63 (v := .pointer (some ⟨gb, 0, none⟩)) rfl rfl rfl (by go_simp) ?_
              refine wpT_ownr 64 Mgw rfl rfl rfl (by go_simp) (open_ep (n := nn) (ro_at (b := gb) (t := m) Mgw (A := [(gw, curw)]) (C := [(b1, ACT q m), (w.heap.size, cs U8 k)]) rfl Rn HNL.out hgb hk (by omega)) (by omega) HNL.out) (by omega) (fun gu cv curu wgu Ru Mgu => ?_)
              refine wpT_valp 65 (v := .pointer (some ⟨gu, 0, none⟩)) rfl rfl rfl (by go_simp) ?_
              try simp only [Act.put, List.setIfInBounds_toArray, List.set_cons_succ, List.set_cons_zero]
              refine wpT_valp 66 (v := .pointer (some ⟨gu, 0, none⟩)) rfl rfl rfl (by go_simp) ?_
              refine wpT_valp 67 (v := .int .i64 a1.gen) rfl rfl rfl (by have c0 := c66 Ru Mgu (by simp) HNL.out 0 (a := a1) HEa1.out (by decide) (e66_0 k _); simp at c0; go_simp) ?_
              refine wpT_valp 68 (v := .int .i64 a1.gen) rfl rfl rfl (by rcases HMC.out with h | h <;> go_simp) ?_
              refine wpT_valp 8 (v := .int .i64 a1.gen) rfl rfl rfl (by go_simp) ?_
              dsimp only [wpT]
              try simp only [Act.put, List.setIfInBounds_toArray, List.set_cons_succ, List.set_cons_zero]
              go_wp2_with fail
              go_roundw
              case rel => exact ⟨i + 1, _, _, _, a1.gen, _, Ln, m, by omega, by simp, rfl, Rn, HNL.out, HGD.out, HGG.out, by have := HGI.out; omega, Mgu.sub (by simp)⟩
              case measure => simp only [intOf]; omega
            · obtain ⟨GN, hgen⟩ := G.tick htm (by omega)
              obtain ⟨Ln, hLn⟩ : ∃ L', Ep.tick L m = L' := ⟨_, rfl⟩
              rw [hLn] at GN hgen
              have HLN := hid hLn
              obtain ⟨sl, hsl, hslg⟩ := GN.la
              have HSL := hid hsl
              obtain ⟨nn, hnn⟩ : ∃ n, Ln.length = n := ⟨_, rfl⟩
              have HGI := hid (show Ep.gen0 Ln ≤ i + 1 by omega)
              have hnn2 := GN.len
              rw [hnn] at hnn2
              obtain ⟨a1, ha1, hga1, hma1⟩ := GN.hd
              have HEa1 := hid ha1
              have HNL := hid hnn
              have HGD := hid GN
              have HGG := hid hga1.symm
              have HFIN := hid GN.fins
              have hk1 : ¬ (nn : Int) < 1 := by omega
              have hk2 : ¬ (2 : Int) < (nn : Int) := by omega
              have hgz : ¬ (a1.gen : Int) < (hg : Int) := by omega
              have hn00 : (0 : Int) < (nn : Int) := by omega
              have hn01 : 0 < nn := by omega
              have hn02 : ¬ nn = 0 := by omega
              have HMC := hid (show (hg : Int) = (a1.gen : Int) ∨ (hg : Int) < (a1.gen : Int) by omega)
              have hgbd : a1.gen ≤ 1000000 := by have := HGI.out; omega
              have HHG := hid hhg
              clear hhg hga hga1
              clear ha hLn hlate hsl GN hnn ha1
              go_upto_region 10 with fail
              refine wp_region_lin (.op 0 (.op 1 (.op 2 (.op 3 (.op 4 (.op 5 .done)))))) (by rfl) ?_
              refine wpT_valp 32 (v := .slice (some ⟨ga, oa, none⟩) n0 ca) rfl rfl rfl (by go_simp) ?_
              refine wpT_valp 33 (v := .int .i64 i) rfl rfl rfl (by go_simp) ?_
              refine wpT_valp 34 (v := .pointer (some ⟨ga, oa + i * 2, none⟩)) rfl rfl rfl (by go_simp) ?_
              refine wpT_ldy 35 (.pointer (some ⟨ga, oa + i * 2, none⟩)) (.agg (ACT q m)) rfl rfl rfl (by go_simp) (HEA.out _ M.end_) rfl ?_
              try simp only [Act.put, List.setIfInBounds_toArray, List.set_cons_succ, List.set_cons_zero]
              refine wpT_new (z := .agg (ACT 0 0)) 10 M (by kernel_rfl) (by decide) rfl rfl rfl rfl (fun b1 w2 M3 => ?_)
              try dsimp only [Value.cells] at M3
              refine wpT_st0 M3 0 (ACT q m) inf_act rfl rfl rfl rfl (by go_simp) (by go_simp) (by simp [hk, ROR_size, EPS_size, ACT_size, Ep.pub_len]) (by simp [hk, ROR_size, EPS_size, ACT_size, Ep.pub_len]) (by simp [go_sem]) rfl (fun w4 M5 => ?_)
              dsimp only [List.set] at M5
              dsimp only [wpT]
              try simp only [Act.put, List.setIfInBounds_toArray, List.set_cons_succ, List.set_cons_zero]
              go_upto_region 11 with fail
              refine wp_region_lin (.op 0 (.op 1 (.op 2 (.op 3 .done)))) (by rfl) ?_
              refine wpT_valp 36 (v := .pointer (some ⟨b1, 0, none⟩)) rfl rfl rfl (by go_simp) ?_
              refine wpT_valp 37 (v := .int .u8 q) rfl rfl rfl (by have c0 := act_c0 (M5.row (b := b1) (c := ACT q m) (by simp)); go_simp) ?_
              refine wpT_valp 38 (v := .int .u8 rq) rfl rfl rfl (by have h := HRQ1.out; have h2 := HRQ2.out; go_simp) ?_
              refine wpT_valp 39 (v := .bool true) rfl rfl rfl (by go_simp) ?_
              dsimp only [wpT]
              try simp only [Act.put, List.setIfInBounds_toArray, List.set_cons_succ, List.set_cons_zero]
              go_upto_region 12 with fail
              refine wp_region_lin (.op 0 (.op 1 (.op 2 (.op 3 .done)))) (by rfl) ?_
              refine wpT_valp 40 (v := .pointer (some ⟨gb, 0, none⟩)) rfl rfl rfl (by go_simp) ?_
              refine wpT_valp 41 (v := .pointer (some ⟨b1, 1, none⟩)) rfl rfl rfl (by go_simp) ?_
              refine wpT_valp 42 (v := .int .i64 m) rfl rfl rfl (by have c0 := act_c1 (M5.row (b := b1) (c := ACT q m) (by simp)); go_simp) ?_
              refine wpT_ro (t' := m) (n' := nn) 43 M5 [(b1, ACT q m)] [(w.heap.size, cs U8 k)] rfl rfl R rfl rfl rfl (by go_simp) (tick_v (ro_at (b := gb) (t := t) M5 (A := [(b1, ACT q m)]) (C := [(w.heap.size, cs U8 k)]) rfl R hn hgb hk (by omega)) HT3.out M5.end_ H9.out m _ rfl (by omega) (by omega) a HA.out (by omega) (by omega) HLN.out sl HSL.out _ rfl) HNL.out (fun gn cn cun wgn Rn Mgn => ?_)
              dsimp only [wpT]
              try simp only [Act.put, List.setIfInBounds_toArray, List.set_cons_succ, List.set_cons_zero]
              go_upto_region 17 with fail
              refine wp_region_lin (.op 0 (.op 1 (.op 2 (.op 3 (.op 4 (.op 5 (.op 6 (.op 7 .done)))))))) (by rfl) ?_
              refine wpT_valp 62 (v := .int .i64 hg) rfl rfl rfl (by go_simp) ?_
              refine wpT_valp 63 (v := .pointer (some ⟨gb, 0, none⟩)) rfl rfl rfl (by go_simp) ?_
              refine wpT_ownr 64 Mgn rfl rfl rfl (by go_simp) (open_ep (n := nn) (ro_at (b := gb) (t := m) Mgn (A := []) (C := [(b1, ACT q m), (w.heap.size, cs U8 k)]) rfl Rn HNL.out hgb hk (by omega)) (by omega) HNL.out) (by omega) (fun gu cv curu wgu Ru Mgu => ?_)
              refine wpT_valp 65 (v := .pointer (some ⟨gu, 0, none⟩)) rfl rfl rfl (by go_simp) ?_
              try simp only [Act.put, List.setIfInBounds_toArray, List.set_cons_succ, List.set_cons_zero]
              refine wpT_valp 66 (v := .pointer (some ⟨gu, 0, none⟩)) rfl rfl rfl (by go_simp) ?_
              refine wpT_valp 67 (v := .int .i64 a1.gen) rfl rfl rfl (by have c0 := c66 Ru Mgu (by simp) HNL.out 0 (a := a1) HEa1.out (by decide) (e66_0 k _); simp at c0; go_simp) ?_
              refine wpT_valp 68 (v := .int .i64 a1.gen) rfl rfl rfl (by rcases HMC.out with h | h <;> go_simp) ?_
              refine wpT_valp 8 (v := .int .i64 a1.gen) rfl rfl rfl (by go_simp) ?_
              dsimp only [wpT]
              try simp only [Act.put, List.setIfInBounds_toArray, List.set_cons_succ, List.set_cons_zero]
              go_wp2_with fail
              go_roundw
              case rel => exact ⟨i + 1, _, _, _, a1.gen, _, Ln, m, by omega, by simp, rfl, Rn, HNL.out, HGD.out, HGG.out, by have := HGI.out; omega, Mgu.sub (by simp)⟩
              case measure => simp only [intOf]; omega
          · have HNO := hid hlate
            have hnn := hn
            have GN := G
            have HGI := hid (show Ep.gen0 L ≤ i + 1 by omega)
            by_cases hkind : rq = 1
            · skip
              have hnn2 := GN.len
              rw [hnn] at hnn2
              obtain ⟨a1, ha1, hga1, hma1⟩ := GN.hd
              have HEa1 := hid ha1
              have HNL := hid hnn
              have HGD := hid GN
              have HGG := hid hga1.symm
              have HFIN := hid GN.fins
              have hk1 : ¬ (n : Int) < 1 := by omega
              have hk2 : ¬ (2 : Int) < (n : Int) := by omega
              have hgz : ¬ (a1.gen : Int) < (hg : Int) := by omega
              have hn00 : (0 : Int) < (n : Int) := by omega
              have hn01 : 0 < n := by omega
              have hn02 : ¬ n = 0 := by omega
              have HMC := hid (show (hg : Int) = (a1.gen : Int) ∨ (hg : Int) < (a1.gen : Int) by omega)
              have hgbd : a1.gen ≤ 1000000 := by have := HGI.out; omega
              have HHG := hid hhg
              clear hhg hga hga1
              clear ha hlate GN hnn ha1
              go_upto_region 10 with fail
              refine wp_region_lin (.op 0 (.op 1 (.op 2 (.op 3 (.op 4 (.op 5 .done)))))) (by rfl) ?_
              refine wpT_valp 32 (v := .slice (some ⟨ga, oa, none⟩) n0 ca) rfl rfl rfl (by go_simp) ?_
              refine wpT_valp 33 (v := .int .i64 i) rfl rfl rfl (by go_simp) ?_
              refine wpT_valp 34 (v := .pointer (some ⟨ga, oa + i * 2, none⟩)) rfl rfl rfl (by go_simp) ?_
              refine wpT_ldy 35 (.pointer (some ⟨ga, oa + i * 2, none⟩)) (.agg (ACT q e)) rfl rfl rfl (by go_simp) (HEA.out _ M.end_) rfl ?_
              try simp only [Act.put, List.setIfInBounds_toArray, List.set_cons_succ, List.set_cons_zero]
              refine wpT_new (z := .agg (ACT 0 0)) 10 M (by kernel_rfl) (by decide) rfl rfl rfl rfl (fun b1 w2 M3 => ?_)
              try dsimp only [Value.cells] at M3
              refine wpT_st0 M3 0 (ACT q e) inf_act rfl rfl rfl rfl (by go_simp) (by go_simp) (by simp [hk, ROR_size, EPS_size, ACT_size, Ep.pub_len]) (by simp [hk, ROR_size, EPS_size, ACT_size, Ep.pub_len]) (by simp [go_sem]) rfl (fun w4 M5 => ?_)
              dsimp only [List.set] at M5
              dsimp only [wpT]
              try simp only [Act.put, List.setIfInBounds_toArray, List.set_cons_succ, List.set_cons_zero]
              go_upto_region 11 with fail
              refine wp_region_lin (.op 0 (.op 1 (.op 2 (.op 3 .done)))) (by rfl) ?_
              refine wpT_valp 36 (v := .pointer (some ⟨b1, 0, none⟩)) rfl rfl rfl (by go_simp) ?_
              refine wpT_valp 37 (v := .int .u8 q) rfl rfl rfl (by have c0 := act_c0 (M5.row (b := b1) (c := ACT q e) (by simp)); go_simp) ?_
              refine wpT_valp 38 (v := .int .u8 rq) rfl rfl rfl (by have h := HRQ1.out; have h2 := HRQ2.out; go_simp) ?_
              refine wpT_valp 39 (v := .bool false) rfl rfl rfl (by go_simp) ?_
              dsimp only [wpT]
              try simp only [Act.put, List.setIfInBounds_toArray, List.set_cons_succ, List.set_cons_zero]
              go_upto_region 13 with fail
              refine wp_region_lin (.op 0 (.op 1 (.op 2 (.op 3 (.op 4 .done))))) (by rfl) ?_
              refine wpT_valp 44 (v := .pointer (some ⟨gb, 0, none⟩)) rfl rfl rfl (by go_simp) ?_
              refine wpT_valp 45 (v := .pointer (some ⟨b1, 1, none⟩)) rfl rfl rfl (by go_simp) ?_
              refine wpT_valp 46 (v := .int .i64 e) rfl rfl rfl (by have c0 := act_c1 (M5.row (b := b1) (c := ACT q e) (by simp)); go_simp) ?_
              refine wpT_callv 47 M5 (v := .int .i64 2) rfl rfl rfl (by go_simp) (restart_old w4 _ gb k L t _ (ro_at (b := gb) (t := t) M5 (A := [(b1, ACT q e)]) (C := [(w.heap.size, cs U8 k)]) rfl R hn hgb hk (by omega)) e HNO.out) (fun w6 M7 => ?_)
              try simp only [Act.put, List.setIfInBounds_toArray, List.set_cons_succ, List.set_cons_zero]
              refine wpT_valp 48 (v := .bool false) rfl rfl rfl (by go_simp) ?_
              dsimp only [wpT]
              try simp only [Act.put, List.setIfInBounds_toArray, List.set_cons_succ, List.set_cons_zero]
              go_upto_region 17 with fail
              refine wp_region_lin (.op 0 (.op 1 (.op 2 (.op 3 (.op 4 (.op 5 (.op 6 (.op 7 .done)))))))) (by rfl) ?_
              refine wpT_valp 62 (v := .int .i64 hg) rfl rfl rfl (by go_simp) ?_
              refine wpT_valp 63 (v := .pointer (some ⟨gb, 0, none⟩)) rfl rfl rfl (by go_simp) ?_
              refine wpT_ownr 64 M7 rfl rfl rfl (by go_simp) (open_ep (n := n) (ro_at (b := gb) (t := t) M7 (A := [(b1, ACT q e)]) (C := [(w.heap.size, cs U8 k)]) rfl R hn hgb hk (by omega)) (by omega) HNL.out) (by omega) (fun gu cv curu wgu Ru Mgu => ?_)
              refine wpT_valp 65 (v := .pointer (some ⟨gu, 0, none⟩)) rfl rfl rfl (by go_simp) ?_
              try simp only [Act.put, List.setIfInBounds_toArray, List.set_cons_succ, List.set_cons_zero]
              refine wpT_valp 66 (v := .pointer (some ⟨gu, 0, none⟩)) rfl rfl rfl (by go_simp) ?_
              refine wpT_valp 67 (v := .int .i64 a1.gen) rfl rfl rfl (by have c0 := c66 Ru Mgu (by simp) HNL.out 0 (a := a1) HEa1.out (by decide) (e66_0 k _); simp at c0; go_simp) ?_
              refine wpT_valp 68 (v := .int .i64 a1.gen) rfl rfl rfl (by rcases HMC.out with h | h <;> go_simp) ?_
              refine wpT_valp 8 (v := .int .i64 a1.gen) rfl rfl rfl (by go_simp) ?_
              dsimp only [wpT]
              try simp only [Act.put, List.setIfInBounds_toArray, List.set_cons_succ, List.set_cons_zero]
              go_wp2_with fail
              go_roundw
              case rel => exact ⟨i + 1, _, _, _, a1.gen, _, L, t, by omega, by simp, rfl, R, HNL.out, HGD.out, HGG.out, by have := HGI.out; omega, Mgu.sub (by simp)⟩
              case measure => simp only [intOf]; omega
            · skip
              have hnn2 := GN.len
              rw [hnn] at hnn2
              obtain ⟨a1, ha1, hga1, hma1⟩ := GN.hd
              have HEa1 := hid ha1
              have HNL := hid hnn
              have HGD := hid GN
              have HGG := hid hga1.symm
              have HFIN := hid GN.fins
              have hk1 : ¬ (n : Int) < 1 := by omega
              have hk2 : ¬ (2 : Int) < (n : Int) := by omega
              have hgz : ¬ (a1.gen : Int) < (hg : Int) := by omega
              have hn00 : (0 : Int) < (n : Int) := by omega
              have hn01 : 0 < n := by omega
              have hn02 : ¬ n = 0 := by omega
              have HMC := hid (show (hg : Int) = (a1.gen : Int) ∨ (hg : Int) < (a1.gen : Int) by omega)
              have hgbd : a1.gen ≤ 1000000 := by have := HGI.out; omega
              have HHG := hid hhg
              clear hhg hga hga1
              clear ha hlate GN hnn ha1
              go_upto_region 10 with fail
              refine wp_region_lin (.op 0 (.op 1 (.op 2 (.op 3 (.op 4 (.op 5 .done)))))) (by rfl) ?_
              refine wpT_valp 32 (v := .slice (some ⟨ga, oa, none⟩) n0 ca) rfl rfl rfl (by go_simp) ?_
              refine wpT_valp 33 (v := .int .i64 i) rfl rfl rfl (by go_simp) ?_
              refine wpT_valp 34 (v := .pointer (some ⟨ga, oa + i * 2, none⟩)) rfl rfl rfl (by go_simp) ?_
              refine wpT_ldy 35 (.pointer (some ⟨ga, oa + i * 2, none⟩)) (.agg (ACT q e)) rfl rfl rfl (by go_simp) (HEA.out _ M.end_) rfl ?_
              try simp only [Act.put, List.setIfInBounds_toArray, List.set_cons_succ, List.set_cons_zero]
              refine wpT_new (z := .agg (ACT 0 0)) 10 M (by kernel_rfl) (by decide) rfl rfl rfl rfl (fun b1 w2 M3 => ?_)
              try dsimp only [Value.cells] at M3
              refine wpT_st0 M3 0 (ACT q e) inf_act rfl rfl rfl rfl (by go_simp) (by go_simp) (by simp [hk, ROR_size, EPS_size, ACT_size, Ep.pub_len]) (by simp [hk, ROR_size, EPS_size, ACT_size, Ep.pub_len]) (by simp [go_sem]) rfl (fun w4 M5 => ?_)
              dsimp only [List.set] at M5
              dsimp only [wpT]
              try simp only [Act.put, List.setIfInBounds_toArray, List.set_cons_succ, List.set_cons_zero]
              go_upto_region 11 with fail
              refine wp_region_lin (.op 0 (.op 1 (.op 2 (.op 3 .done)))) (by rfl) ?_
              refine wpT_valp 36 (v := .pointer (some ⟨b1, 0, none⟩)) rfl rfl rfl (by go_simp) ?_
              refine wpT_valp 37 (v := .int .u8 q) rfl rfl rfl (by have c0 := act_c0 (M5.row (b := b1) (c := ACT q e) (by simp)); go_simp) ?_
              refine wpT_valp 38 (v := .int .u8 rq) rfl rfl rfl (by have h := HRQ1.out; have h2 := HRQ2.out; go_simp) ?_
              refine wpT_valp 39 (v := .bool true) rfl rfl rfl (by go_simp) ?_
              dsimp only [wpT]
              try simp only [Act.put, List.setIfInBounds_toArray, List.set_cons_succ, List.set_cons_zero]
              go_upto_region 12 with fail
              refine wp_region_lin (.op 0 (.op 1 (.op 2 (.op 3 .done)))) (by rfl) ?_
              refine wpT_valp 40 (v := .pointer (some ⟨gb, 0, none⟩)) rfl rfl rfl (by go_simp) ?_
              refine wpT_valp 41 (v := .pointer (some ⟨b1, 1, none⟩)) rfl rfl rfl (by go_simp) ?_
              refine wpT_valp 42 (v := .int .i64 e) rfl rfl rfl (by have c0 := act_c1 (M5.row (b := b1) (c := ACT q e) (by simp)); go_simp) ?_
              refine wpT_callv 43 M5 (v := .int .i64 0) rfl rfl rfl (by go_simp) (tick_old w4 _ gb k L t _ (ro_at (b := gb) (t := t) M5 (A := [(b1, ACT q e)]) (C := [(w.heap.size, cs U8 k)]) rfl R hn hgb hk (by omega)) e HNO.out) (fun w6 M7 => ?_)
              dsimp only [wpT]
              try simp only [Act.put, List.setIfInBounds_toArray, List.set_cons_succ, List.set_cons_zero]
              go_upto_region 17 with fail
              refine wp_region_lin (.op 0 (.op 1 (.op 2 (.op 3 (.op 4 (.op 5 (.op 6 (.op 7 .done)))))))) (by rfl) ?_
              refine wpT_valp 62 (v := .int .i64 hg) rfl rfl rfl (by go_simp) ?_
              refine wpT_valp 63 (v := .pointer (some ⟨gb, 0, none⟩)) rfl rfl rfl (by go_simp) ?_
              refine wpT_ownr 64 M7 rfl rfl rfl (by go_simp) (open_ep (n := n) (ro_at (b := gb) (t := t) M7 (A := [(b1, ACT q e)]) (C := [(w.heap.size, cs U8 k)]) rfl R hn hgb hk (by omega)) (by omega) HNL.out) (by omega) (fun gu cv curu wgu Ru Mgu => ?_)
              refine wpT_valp 65 (v := .pointer (some ⟨gu, 0, none⟩)) rfl rfl rfl (by go_simp) ?_
              try simp only [Act.put, List.setIfInBounds_toArray, List.set_cons_succ, List.set_cons_zero]
              refine wpT_valp 66 (v := .pointer (some ⟨gu, 0, none⟩)) rfl rfl rfl (by go_simp) ?_
              refine wpT_valp 67 (v := .int .i64 a1.gen) rfl rfl rfl (by have c0 := c66 Ru Mgu (by simp) HNL.out 0 (a := a1) HEa1.out (by decide) (e66_0 k _); simp at c0; go_simp) ?_
              refine wpT_valp 68 (v := .int .i64 a1.gen) rfl rfl rfl (by rcases HMC.out with h | h <;> go_simp) ?_
              refine wpT_valp 8 (v := .int .i64 a1.gen) rfl rfl rfl (by go_simp) ?_
              dsimp only [wpT]
              try simp only [Act.put, List.setIfInBounds_toArray, List.set_cons_succ, List.set_cons_zero]
              go_wp2_with fail
              go_roundw
              case rel => exact ⟨i + 1, _, _, _, a1.gen, _, L, t, by omega, by simp, rfl, R, HNL.out, HGD.out, HGG.out, by have := HGI.out; omega, Mgu.sub (by simp)⟩
              case measure => simp only [intOf]; omega
theorem EpochFresh_v (w : World) (k : List (BitVec 8)) (x0 : Int) (va : Value) {len : Nat} (acts : List (Int × Int)) (hT : KT w ∧ 0 < w.heap.size) (hk : k.length = 32) (hn : acts.length = len) (hv : SV w va len (fl eA acts)) (har : ∀ p ∈ acts, 0 ≤ p.1 ∧ p.1 < 256) :
    Calls Tryd.prog 8 #[.agg (cs U8 k), .int .i64 x0, va] w fun e w' => e = .returned (.bool true) ∧ Below w.heap.size w w' := by
  subst hn; exact EpochFresh_w w k x0 va acts hT hk hv har
end Go.Proofs.YtgclegdgngldoaaDoor
