/-
  Law 26: LinksFirst, the walk; own work.
-/
import Derived.Test.YtojkcbhmhfjioaaLk10
set_option linter.unusedSimpArgs false
set_option linter.unusedVariables false
namespace Go.Proofs.Ytojkcbhmhfjioaa
open Go.RowKit Lk
set_option maxRecDepth 100000
attribute [local irreducible] STR RSR AC6 wpT
set_option maxHeartbeats 40000000 in
theorem LinksFirst_w (w : World) (u0 : Value) (l : B8) (hB : BS w u0 l) :
    Calls Try.prog 9 #[u0] w fun e w' => e = .returned (.bool true) ∧ Below w.heap.size w w' := by
  have HBS := hid hB
  obtain ⟨n, hn⟩ : ∃ n, l.length = n := ⟨_, rfl⟩
  have hmx : l.length ≤ 9223372036854775807 := hB.len
  obtain ⟨ua, uc, rfl, _⟩ := hB.shape' n hn
  have HN := hid hn
  have hncl : n ≤ 9223372036854775807 := by omega
  have hn0 : (0 : Int) ≤ (n : Int) := by omega
  obtain ⟨B, hB2⟩ : ∃ B, B = w.heap.size := ⟨_, rfl⟩
  have HB := hid hB2
  clear hB hB2 hn hmx
  have M0 := Mm.start no w
  go_enter Try.func9, Try.ntmps9
  go_upto_region 1 with fail
  refine wp_region_lin (.op 0 (.op 1 .done)) (by rfl) ?_
  refine wpT_callv 9 M0 (v := .bool true) rfl rfl rfl (by go_simp) (alive26_c w) (fun w1 M2 => ?_)
  refine wpT_valp 10 (v := .bool false) rfl rfl rfl (by go_simp) ?_
  first | refine wpT_fin ?_ | dsimp only [wpT]
  try simp only [Act.put, List.setIfInBounds_toArray, List.set_cons_succ, List.set_cons_zero]
  go_upto_region 3 with fail
  refine wp_region_lin (.op 0 (.op 1 .done)) (by rfl) ?_
  refine wpT_objS (U := Nat) (fun b => .pointer (some ⟨b, 0, none⟩)) (fun b => LF b (.slice none 0 0) []) (fun b w => LX w B b 200 [] ([], .slice none 0 0)) (some 11) M2 rfl rfl rfl (by go_simp) (lnew_e _ _ 200 (by rw [HB.out]; exact M2.size) (by decide) (by decide)) (fun b => LX.stb _ _ _ _ ([], .slice none 0 0)) (fun b wn Sn Mn Kn Fn => ?_)
  refine wpT_valp 3 (v := .pointer (some ⟨b, 0, none⟩)) rfl rfl rfl (by go_simp) ?_
  first | refine wpT_fin ?_ | dsimp only [wpT]
  try simp only [Act.put, List.setIfInBounds_toArray, List.set_cons_succ, List.set_cons_zero]
  go_upto_region 4 with fail
  refine wp_region_lin (.op 0 (.op 1 .done)) (by rfl) ?_
  refine wpT_valp 12 (v := .pointer (some ⟨b, 0, none⟩)) rfl rfl rfl (by go_simp) ?_
  refine wpT_valp 13 (v := .bool false) rfl rfl rfl (by go_simp) ?_
  first | refine wpT_fin ?_ | dsimp only [wpT]
  try simp only [Act.put, List.setIfInBounds_toArray, List.set_cons_succ, List.set_cons_zero]
  go_upto_region 6 with fail
  refine wp_region_lin (.op 0 .done) (by rfl) ?_
  refine wpT_valp 4 (v := .slice none 0 0) rfl rfl rfl (by go_simp) ?_
  first | refine wpT_fin ?_ | dsimp only [wpT]
  try simp only [Act.put, List.setIfInBounds_toArray, List.set_cons_succ, List.set_cons_zero]
  go_upto_region 7 with fail
  refine wp_region_lin (.op 0 .done) (by rfl) ?_
  refine wpT_valp 5 (v := .int .i64 0) rfl rfl rfl (by go_simp) ?_
  first | refine wpT_fin ?_ | dsimp only [wpT]
  try simp only [Act.put, List.setIfInBounds_toArray, List.set_cons_succ, List.set_cons_zero]
  go_wp2_with fail
  go_loopw [4, 5] (fun x4 x5 wr => ∃ (i : Nat) (M : List Pa) (u : List It × Value) (pa : Option Addr) (pc m : Nat), i ≤ n ∧ x4 = .slice pa m pc ∧ x5 = .int .i64 i ∧ Mm no w [] wr ∧ LFX wr B b M u (.slice pa m pc) m (M.map pI) ∧ (M.length = m ∧ m ≤ i)) (fun _ t _ => n - (intOf t).toNat)
  case atStart =>
    obtain ⟨hX, hM, hd⟩ := Kn _ _ Mn
    exact ⟨0, [], ([], .slice none 0 0), none, 0, 0, by omega, rfl, rfl, hM, ⟨hX, Oo.nil _ _ _ _, fun g hg => by simp [obk] at hg⟩, rfl, Nat.le_refl _⟩
  case round =>
    clear Mn Kn Fn
    obtain ⟨i, M_, u, pa, pc, m, hi, rfl, rfl, MO, X, hlm, hmi⟩ := hrel
    obtain ⟨Ml, hMl⟩ : ∃ Ml, Ml = M_ := ⟨_, rfl⟩
    subst hMl
    have HLM := hid hlm
    have F0 : ∀ g, LFG b u (.slice pa m pc) g → no g ∨ w.heap.size ≤ g := fun g hg => .inr (by have := X.b_ g hg; rw [HB.out] at this; exact this)
    have hmcl : m ≤ 9223372036854775807 := by omega
    obtain ⟨S0, M, K0⟩ := MO.keep (LFX.stb B b Ml u (.slice pa m pc) m (Ml.map pI)) X (fun q hq => by cases hq)
    clear MO X hlm
    by_cases hin : i < n
    · have hlt : (i : Int) < (n : Int) := by omega
      have hi00 : (0 : Int) ≤ (i : Int) := by omega
      by_cases h60 : i < 60
      · have hlt60 : (i : Int) < 60 := by omega
        have hml : Ml.length ≤ 60 := by have := HLM.out; omega
        obtain ⟨gu, uo, uc', e, _, hcell⟩ := HBS.out.open (by intro e; have := HN.out; rw [e] at this; simp at this; omega)
        injection e with e1 e2 e3
        subst e1
        clear e2 e3
        obtain ⟨p, hp⟩ : ∃ p, l.getD i 0 = p := ⟨_, rfl⟩
        obtain ⟨pn, hpn⟩ : ∃ q : Int, q = (p.toNat : Int) := ⟨_, rfl⟩
        have hpb : 0 ≤ pn ∧ pn ≤ 255 := by have := p.isLt; omega
        have HCB : Hid (∀ w', Below w.heap.size w w' → w'.cell? ⟨gu, uo + i, none⟩ = some (.int .u8 pn)) := hid fun w' h => by
          have hb : BS w' (.slice (some ⟨gu, uo, none⟩) n uc) l := SV.below HBS.out h
          obtain ⟨b', o', c', e, _, h3⟩ := hb.open (by intro e; have := HN.out; rw [e] at this; simp at this; omega)
          injection e with e _ _
          injection e with e
          injection e with e1 e2 _
          subst e1; subst e2
          rw [h3 i (by rw [HN.out]; exact hin), hp, hpn]; rfl
        obtain ⟨r, hr⟩ : ∃ r, pn.tmod 16 = r := ⟨_, rfl⟩
        obtain ⟨r3, hr3⟩ : ∃ r, pn.tmod 3 = r := ⟨_, rfl⟩
        have hrb : 0 ≤ r ∧ r < 16 := by rw [← hr, Int.tmod_eq_emod_of_nonneg hpb.1]; omega
        have HR16 := hid hr
        have HR3 := hid hr3
        have HRW := hid (show IntKind.i64.wrap r = r from i64w (by omega) (by omega))
        have HPUT := hid (show Lk.put (200 : Int).toNat Ml (r, zs 736) = (Ml ++ [(r, zs 736)], 0) by
          unfold Lk.put
          rw [if_neg (by rintro (h | h | h); · dsimp only at h; omega
                         · dsimp only at h; omega
                         · exact h (by simp [zs]))]
          unfold Lk.behind
          rw [if_neg (by simp; omega)])
        obtain ⟨i1, hi1⟩ : ∃ j, j = i + 1 := ⟨_, rfl⟩
        have HI1 := hid (show IntKind.i64.wrap ((i : Int) + 1) = (i1 : Int) by rw [i64w (by omega) (by omega), hi1]; rfl)
        have HII := hid hi1
        obtain ⟨m1, hm1⟩ : ∃ k, m + 1 = k := ⟨_, rfl⟩
        have HM1 := hid hm1
        have HLN1 := hid (show (Ml ++ [(r, (zs 736 : B8))]).length = m1 ∧ m1 ≤ i1 by rw [List.length_append, HLM.out]; simp; omega)
        have hm60 : m ≤ 60 := by omega
        by_cases h3 : r3 = 0
        · obtain ⟨y, M3l, hM1L⟩ : ∃ y M3l, Ml ++ [(r, (zs 736 : B8))] = y :: M3l := by
            cases Ml with
            | nil => exact ⟨_, _, rfl⟩
            | cons a t => exact ⟨_, _, rfl⟩
          have HM1L := hid hM1L
          have HTAKE := hid (show Lk.take (Ml ++ [(r, zs 736)]) 0 = (M3l, y, 0) by rw [hM1L]; simp [Lk.take])
          obtain ⟨yn, hyn⟩ : ∃ k, y.2.length = k := ⟨_, rfl⟩
          have HYN := hid hyn
          obtain ⟨m2, hm2⟩ : ∃ k, m1 - 1 = k := ⟨_, rfl⟩
          have HM2 := hid hm2
          have HM11 := hid (show 0 < m1 by omega)
          have hm11 : (1 : Int) ≤ (m1 : Int) := by omega
          have hm10 : (0 : Int) < (m1 : Int) := by omega
          have HLN3 := hid (show M3l.length = m2 ∧ m2 ≤ i1 by
            have h7 := HLN1.out
            rw [hM1L, List.length_cons] at h7
            omega)
          have hm1b : m1 ≤ 61 := by omega
          have hm1n : ¬ m1 = 0 := by omega
          clear hp hpn hr hr3 hi1 hm1 hM1L hyn hm2 hcell
          go_upto_region 8 with fail
          refine wp_region_lin (.op 0 (.op 1 (.op 2 (.op 3 (.op 4 (.op 5 (.op 6 (.op 7 .done)))))))) (by rfl) ?_
          refine wpT_valp 14 (v := .int .i64 i) rfl rfl rfl (by go_simp) ?_
          refine wpT_valp 15 (v := .slice (some ⟨gu, uo, none⟩) n uc) rfl rfl rfl (by go_simp) ?_
          refine wpT_valp 16 (v := .int .i64 n) rfl rfl rfl (by go_simp) ?_
          refine wpT_valp 17 (v := .bool true) rfl rfl rfl (by go_simp) ?_
          try simp only [Act.put, List.setIfInBounds_toArray, List.set_cons_succ, List.set_cons_zero]
          refine wpT_valp 18 (v := .bool true) rfl rfl rfl (by go_simp) ?_
          refine wpT_valp 19 (v := .int .i64 i) rfl rfl (by simp [Region.wanted, yielded, Act.put]) (by go_simp) ?_
          refine wpT_valp 20 (v := .bool true) rfl rfl (by simp [Region.wanted, yielded, Act.put]) (by go_simp) ?_
          refine wpT_valp 21 (v := .bool true) rfl rfl rfl (by go_simp) ?_
          first | refine wpT_fin ?_ | dsimp only [wpT]
          try simp only [Act.put, List.setIfInBounds_toArray, List.set_cons_succ, List.set_cons_zero]
          go_upto_region 10 with fail
          refine wp_region_lin (.op 0 (.op 1 (.op 2 (.op 3 (.op 4 (.op 5 (.op 6 .done))))))) (by rfl) ?_
          refine wpT_valp 24 (v := .slice (some ⟨gu, uo, none⟩) n uc) rfl rfl rfl (by go_simp) ?_
          refine wpT_valp 25 (v := .int .i64 i) rfl rfl rfl (by go_simp) ?_
          refine wpT_valp 26 (v := .pointer (some ⟨gu, uo + i, none⟩)) rfl rfl rfl (by go_simp) ?_
          refine wpT_valp 27 (v := .int .u8 pn) rfl rfl rfl (by have c0 := HCB.out _ (K0 _ _ M).2.1.end_; go_simp) ?_
          try simp only [Act.put, List.setIfInBounds_toArray, List.set_cons_succ, List.set_cons_zero]
          refine wpT_valp 28 (v := .int .u8 r) rfl rfl rfl (by have h := HR16.out; go_simp) ?_
          refine wpT_valp 29 (v := .int .i64 r) rfl rfl rfl (by have h := HRW.out; go_simp) ?_
          refine wpT_valp 6 (v := .int .i64 r) rfl rfl rfl (by go_simp) ?_
          first | refine wpT_fin ?_ | dsimp only [wpT]
          try simp only [Act.put, List.setIfInBounds_toArray, List.set_cons_succ, List.set_cons_zero]
          go_upto_region 11 with fail
          refine wp_region_lin (.op 0 (.op 1 (.op 2 (.op 3 (.op 4 (.op 5 .done)))))) (by rfl) ?_
          refine wpT_valp 30 (v := .pointer (some ⟨b, 0, none⟩)) rfl rfl rfl (by go_simp) ?_
          refine wpT_valp 31 (v := .int .i64 r) rfl rfl rfl (by go_simp) ?_
          refine wpT_mkz 32 736 _ _ M rfl rfl rfl rfl (by go_simp) (by go_simp) (by decide) (fun gz wz BZ Mz hz1 OZ => ?_)
          clear OZ
          refine wpT_valL 33 (v := .agg (ITR r (.slice (some ⟨gz, 0, none⟩) 736 736))) rfl rfl rfl (by have q := xb_itm2 wz r (some ⟨gz, 0, none⟩) 736 736; go_simp) ?_
          try simp only [Act.put, List.setIfInBounds_toArray, List.set_cons_succ, List.set_cons_zero]
          refine wpT_obj (U := List It × Value) (fun u1 => .int .i64 0) (fun u1 => LFG b u1 (.slice pa m pc)) (fun u1 w => LFX w B b (Ml ++ [(r, zs 736)]) u1 (.slice pa m pc) m (Ml.map pI)) (some 34) Mz K0 F0 rfl rfl rfl (by go_simp) (fun hX => hX.lift (lput_e _ hX.lx (by decide) r _ _ BZ.1 (by omega) HPUT.out)) (fun u1 => LFX.stb _ _ _ _ _ _ _) (fun u1 w1 S1 M1 K1 F1 => ?_)
          clear BZ
          refine wpT_valp 35 (v := .bool false) rfl rfl rfl (by go_simp) ?_
          first | refine wpT_fin ?_ | dsimp only [wpT]
          try simp only [Act.put, List.setIfInBounds_toArray, List.set_cons_succ, List.set_cons_zero]
          go_upto_region 13 with fail
          refine wp_region_lin (.op 0 (.op 1 (.op 2 (.op 3 (.op 4 .done))))) (by rfl) ?_
          refine wpT_valp 36 (v := .slice pa m pc) rfl rfl rfl (by go_simp) ?_
          refine wpT_valp 37 (v := .int .i64 r) rfl rfl rfl (by go_simp) ?_
          refine wpT_oneI 38 _ M1 r rfl rfl rfl (by go_simp) rfl (fun gx wgx Mgx => ?_)
          obtain ⟨hX, MO, hd⟩ := K1 _ _ Mgx
          refine wpT_oapp 39 _ _ (MO.sub (H' := []) (by simp)) elt_int (.slice pa m pc) (.slice (some ⟨gx, 0, none⟩) 1 1) m (Ml.map pI) [.int .i64 r] rfl rfl rfl rfl (by go_simp) hX.ow (by go_simp) (sv_row (MO.row (b := gx) (c := #[.int .i64 r]) (by simp)) (by unfold maxLen; decide)) rfl (by simp [Value.oneCell']) (by omega) (by have := hX.lx.Bw; omega) (fun y hy => ⟨F1 y (.inr hy), fun q hq => by cases hq⟩) (fun ua2 wA OA MA GA BA => ?_)
          have hX2 : LFX wA B b (Ml ++ [(r, zs 736)]) u1 ua2 m1 ((Ml ++ [(r, zs 736)]).map pI) := hX.app HM1.out OA GA BA
          obtain ⟨qa, qc, hqa, _⟩ := hX2.ow.shape
          subst hqa
          obtain ⟨S2, M2, K2⟩ := MA.keep (LFX.stb B b (Ml ++ [(r, zs 736)]) u1 (.slice qa m1 qc) m1 ((Ml ++ [(r, zs 736)]).map pI)) hX2 (fun q hq => by cases hq)
          have F2 : ∀ g, LFG b u1 (.slice qa m1 qc) g → no g ∨ w.heap.size ≤ g := fun g h => .inr (by have := hX2.b_ g h; rw [HB.out] at this; exact this)
          clear hX MO hd OA GA BA hX2 MA
          try simp only [Act.put, List.setIfInBounds_toArray, List.set_cons_succ, List.set_cons_zero]
          refine wpT_valp 4 (v := .slice qa m1 qc) rfl rfl rfl (by go_simp) ?_
          first | refine wpT_fin ?_ | dsimp only [wpT]
          try simp only [Act.put, List.setIfInBounds_toArray, List.set_cons_succ, List.set_cons_zero]
          go_upto_region 14 with fail
          refine wp_region_lin (.op 0 (.op 1 (.op 2 (.op 3 (.op 4 (.op 5 .done)))))) (by rfl) ?_
          refine wpT_valp 40 (v := .slice (some ⟨gu, uo, none⟩) n uc) rfl rfl rfl (by go_simp) ?_
          refine wpT_valp 41 (v := .int .i64 i) rfl rfl rfl (by go_simp) ?_
          refine wpT_valp 42 (v := .pointer (some ⟨gu, uo + i, none⟩)) rfl rfl rfl (by go_simp) ?_
          refine wpT_valp 43 (v := .int .u8 pn) rfl rfl rfl (by have c0 := HCB.out _ (K2 _ _ M2).2.1.end_; go_simp) ?_
          try simp only [Act.put, List.setIfInBounds_toArray, List.set_cons_succ, List.set_cons_zero]
          refine wpT_valp 44 (v := .int .u8 r3) rfl rfl rfl (by have h := HR3.out; go_simp) ?_
          refine wpT_valp 45 (v := .bool true) rfl rfl rfl (by go_simp) ?_
          first | refine wpT_fin ?_ | dsimp only [wpT]
          try simp only [Act.put, List.setIfInBounds_toArray, List.set_cons_succ, List.set_cons_zero]
          go_upto_region 15 with fail
          refine wp_region_lin (.op 0 (.op 1 (.op 2 (.op 3 (.op 4 (.op 5 (.op 6 (.op 7 .done)))))))) (by rfl) ?_
          refine wpT_valp 47 (v := .pointer (some ⟨b, 0, none⟩)) rfl rfl rfl (by go_simp) ?_
          refine wpT_obj (U := (List It × Value) × (Option Addr × Nat)) (fun a => .tuple #[.agg (ITR y.1 (.slice a.2.1 yn a.2.2)), .int .i64 0]) (fun a => LFG b a.1 (.slice qa m1 qc)) (fun a w => LFX w B b M3l a.1 (.slice qa m1 qc) m1 ((Ml ++ [(r, zs 736)]).map pI)) (some 48) M2 K2 F2 rfl rfl rfl (by go_simp) (fun hX => hX.lift2 (ltake_e _ hX.lx (by decide) 0 (by have := HLN1.out; omega) HTAKE.out HYN.out)) (fun a => LFX.stb _ _ _ _ _ _ _) (fun a w3 S3 M3 K3 F3 => ?_)
          obtain ⟨u3, a3⟩ := a
          dsimp only at K3 F3
          refine wpT_valp 46 (v := .tuple #[.agg (ITR y.1 (.slice a3.1 yn a3.2)), .int .i64 0]) rfl rfl rfl (by go_simp) ?_
          refine wpT_valp 49 (v := .agg (ITR y.1 (.slice a3.1 yn a3.2))) rfl rfl rfl (by go_simp) ?_
          try simp only [Act.put, List.setIfInBounds_toArray, List.set_cons_succ, List.set_cons_zero]
          refine wpT_valp 50 (v := .int .i64 0) rfl rfl rfl (by go_simp) ?_
          refine wpT_new (z := .agg (ITR 0 (.slice none 0 0))) 7 M3 (by kernel_rfl) (by decide) rfl rfl rfl rfl (fun b1 w2 M3 => ?_)
          try dsimp only [Value.cells] at M3
          refine wpT_st0 M3 0 (ITR y.1 (.slice a3.1 yn a3.2)) inf_itm rfl rfl rfl rfl (by go_simp) (by go_simp) (by simp [ITR_size, STR_size, RSR_size, AC6_size]) (by simp [ITR_size, STR_size, RSR_size, AC6_size]) (by simp [go_sem]) rfl (fun w4 M5 => ?_)
          dsimp only [List.set] at M5
          refine wpT_valp 8 (v := .int .i64 0) rfl rfl rfl (by go_simp) ?_
          first | refine wpT_fin ?_ | dsimp only [wpT]
          try simp only [Act.put, List.setIfInBounds_toArray, List.set_cons_succ, List.set_cons_zero]
          go_upto_region 16 with fail
          obtain ⟨qg, qo, qc2, hq⟩ := oo_some (K3 _ _ M5).1.ow HM11.out
          injection hq with hq1 hq2 hq3
          subst hq1
          subst hq3
          clear hq2
          obtain ⟨AD, hAD⟩ : ∃ A : Addr, (if qc = 1 then some (⟨qg, qo, none⟩ : Addr) else some ⟨qg, qo + 1, none⟩) = some A := by split <;> exact ⟨_, rfl⟩
          obtain ⟨c2, hc2⟩ : ∃ c, qc - 1 = c := ⟨_, rfl⟩
          have HAD := hid hAD
          have HC2 := hid hc2
          have HCUT : Hid (∀ v : World, Oo v B 1 (.slice (some ⟨qg, qo, none⟩) m1 qc) m1 ((Ml ++ [(r, zs 736)]).map pI) → Oo v B 1 (.slice (some AD) m2 c2) m2 (M3l.map pI) ∧ ∀ g, obk (.slice (some AD) m2 c2) = some g → obk (.slice (some ⟨qg, qo, none⟩) m1 qc) = some g) := hid fun v h => oo_cut (by rw [HM1L.out] at h; exact h) HM2.out HC2.out HAD.out
          have HC0 : Hid (∀ v : World, Oo v B 1 (.slice (some ⟨qg, qo, none⟩) m1 qc) m1 ((Ml ++ [(r, zs 736)]).map pI) → v.cell? ⟨qg, qo, none⟩ = some (.int .i64 y.1)) := hid fun v h => oo_cell0 (by rw [HM1L.out] at h; exact h)
          clear hAD hc2
          refine wp_region_seq 10 [51, 52, 53, 54, 55, 56, 57, 58, 59, 60] [] [] [] (.done) (Mm S3 w3 _) (by kernel_rfl) (by kernel_rfl) (by kernel_rfl) (fun d _ _ _ _ h => by cases d <;> exact h) (by rfl) M5.size (fun _ _ h k => h.sf k) M5 ?_
          simp only [List.take_succ_cons, List.take_zero]
          refine SeqA.pure (.int .i64 0) (fun w' => by go_simp) rfl rfl ?_
          refine SeqA.pure (.bool false) (fun w' => by go_simp) rfl rfl ?_
          refine SeqA.pure (.bool false) (fun w' => by go_simp) rfl rfl ?_
          refine SeqA.pure (.pointer (some ⟨b1, 0, none⟩)) (fun w' => by go_simp) rfl (by simp [Region.wanted, yielded, Act.put]) ?_
          refine SeqA.read (.int .i64 y.1) (fun w' M => by have c0 := it_c0 (M.row (b := b1) (c := ITR y.1 (.slice a3.1 yn a3.2)) (by simp)); go_simp) rfl (by simp [Region.wanted, yielded, Act.put]) ?_
          simp only [Act.put, List.setIfInBounds_toArray, List.set_cons_succ, List.set_cons_zero]
          refine SeqA.pure (.slice (some ⟨qg, qo, none⟩) m1 qc) (fun w' => by go_simp) rfl (by simp [Region.wanted, yielded, Act.put]) ?_
          refine SeqA.pure (.pointer (some ⟨qg, qo, none⟩)) (fun w' => by go_simp) rfl (by simp [Region.wanted, yielded, Act.put]) ?_
          refine SeqA.read (.int .i64 y.1) (fun w' M => by have c0 := HC0.out _ (K3 _ _ M).1.ow; go_simp) rfl (by simp [Region.wanted, yielded, Act.put]) ?_
          refine SeqA.pure (.bool false) (fun w' => by go_simp) rfl (by simp [Region.wanted, yielded, Act.put]) ?_
          refine SeqA.pure (.bool false) (fun w' => by go_simp) rfl rfl ?_
          refine SeqA.nil (fun w6 M7 hz => ?_)
          show wpT _ _ _ _ _ _
          simp only [Act.put, List.setIfInBounds_toArray, List.set_cons_succ, List.set_cons_zero]
          first | refine wpT_fin ?_ | dsimp only [wpT]
          go_upto_region 18 with fail
          refine wp_region_lin (.op 0 (.op 1 (.op 2 .done))) (by rfl) ?_
          refine wpT_valp 61 (v := .slice (some ⟨qg, qo, none⟩) m1 qc) rfl rfl rfl (by go_simp) ?_
          refine wpT_valp 62 (v := .slice (some AD) m2 c2) rfl rfl rfl (by have h := HAD.out; have h2 := HM2.out; have h3 := HC2.out; go_simp) ?_
          refine wpT_valp 4 (v := .slice (some AD) m2 c2) rfl rfl rfl (by go_simp) ?_
          first | refine wpT_fin ?_ | dsimp only [wpT]
          try simp only [Act.put, List.setIfInBounds_toArray, List.set_cons_succ, List.set_cons_zero]
          go_upto_region 9 with fail
          refine wp_region_lin (.op 0 (.op 1 (.op 2 .done))) (by rfl) ?_
          refine wpT_valp 22 (v := .int .i64 i) rfl rfl rfl (by go_simp) ?_
          refine wpT_valp 23 (v := .int .i64 i1) rfl rfl rfl (by have h := HI1.out; go_simp) ?_
          refine wpT_valp 5 (v := .int .i64 i1) rfl rfl rfl (by go_simp) ?_
          first | refine wpT_fin ?_ | dsimp only [wpT]
          try simp only [Act.put, List.setIfInBounds_toArray, List.set_cons_succ, List.set_cons_zero]
          go_wp2_with fail
          obtain ⟨hX, hM, hd⟩ := K3 _ _ M7
          go_roundw
          case rel => exact ⟨i1, _, _, _, _, m2, by have := HII.out; omega, rfl, rfl, hM.sub (H' := []) (by simp), hX.cut HCUT.out, HLN3.out⟩
          case measure => have := HII.out; simp only [intOf]; omega
        · clear hp hpn hr hr3 hi1 hm1 hcell
          go_upto_region 8 with fail
          refine wp_region_lin (.op 0 (.op 1 (.op 2 (.op 3 (.op 4 (.op 5 (.op 6 (.op 7 .done)))))))) (by rfl) ?_
          refine wpT_valp 14 (v := .int .i64 i) rfl rfl rfl (by go_simp) ?_
          refine wpT_valp 15 (v := .slice (some ⟨gu, uo, none⟩) n uc) rfl rfl rfl (by go_simp) ?_
          refine wpT_valp 16 (v := .int .i64 n) rfl rfl rfl (by go_simp) ?_
          refine wpT_valp 17 (v := .bool true) rfl rfl rfl (by go_simp) ?_
          try simp only [Act.put, List.setIfInBounds_toArray, List.set_cons_succ, List.set_cons_zero]
          refine wpT_valp 18 (v := .bool true) rfl rfl rfl (by go_simp) ?_
          refine wpT_valp 19 (v := .int .i64 i) rfl rfl (by simp [Region.wanted, yielded, Act.put]) (by go_simp) ?_
          refine wpT_valp 20 (v := .bool true) rfl rfl (by simp [Region.wanted, yielded, Act.put]) (by go_simp) ?_
          refine wpT_valp 21 (v := .bool true) rfl rfl rfl (by go_simp) ?_
          first | refine wpT_fin ?_ | dsimp only [wpT]
          try simp only [Act.put, List.setIfInBounds_toArray, List.set_cons_succ, List.set_cons_zero]
          go_upto_region 10 with fail
          refine wp_region_lin (.op 0 (.op 1 (.op 2 (.op 3 (.op 4 (.op 5 (.op 6 .done))))))) (by rfl) ?_
          refine wpT_valp 24 (v := .slice (some ⟨gu, uo, none⟩) n uc) rfl rfl rfl (by go_simp) ?_
          refine wpT_valp 25 (v := .int .i64 i) rfl rfl rfl (by go_simp) ?_
          refine wpT_valp 26 (v := .pointer (some ⟨gu, uo + i, none⟩)) rfl rfl rfl (by go_simp) ?_
          refine wpT_valp 27 (v := .int .u8 pn) rfl rfl rfl (by have c0 := HCB.out _ (K0 _ _ M).2.1.end_; go_simp) ?_
          try simp only [Act.put, List.setIfInBounds_toArray, List.set_cons_succ, List.set_cons_zero]
          refine wpT_valp 28 (v := .int .u8 r) rfl rfl rfl (by have h := HR16.out; go_simp) ?_
          refine wpT_valp 29 (v := .int .i64 r) rfl rfl rfl (by have h := HRW.out; go_simp) ?_
          refine wpT_valp 6 (v := .int .i64 r) rfl rfl rfl (by go_simp) ?_
          first | refine wpT_fin ?_ | dsimp only [wpT]
          try simp only [Act.put, List.setIfInBounds_toArray, List.set_cons_succ, List.set_cons_zero]
          go_upto_region 11 with fail
          refine wp_region_lin (.op 0 (.op 1 (.op 2 (.op 3 (.op 4 (.op 5 .done)))))) (by rfl) ?_
          refine wpT_valp 30 (v := .pointer (some ⟨b, 0, none⟩)) rfl rfl rfl (by go_simp) ?_
          refine wpT_valp 31 (v := .int .i64 r) rfl rfl rfl (by go_simp) ?_
          refine wpT_mkz 32 736 _ _ M rfl rfl rfl rfl (by go_simp) (by go_simp) (by decide) (fun gz wz BZ Mz hz1 OZ => ?_)
          clear OZ
          refine wpT_valL 33 (v := .agg (ITR r (.slice (some ⟨gz, 0, none⟩) 736 736))) rfl rfl rfl (by have q := xb_itm2 wz r (some ⟨gz, 0, none⟩) 736 736; go_simp) ?_
          try simp only [Act.put, List.setIfInBounds_toArray, List.set_cons_succ, List.set_cons_zero]
          refine wpT_obj (U := List It × Value) (fun u1 => .int .i64 0) (fun u1 => LFG b u1 (.slice pa m pc)) (fun u1 w => LFX w B b (Ml ++ [(r, zs 736)]) u1 (.slice pa m pc) m (Ml.map pI)) (some 34) Mz K0 F0 rfl rfl rfl (by go_simp) (fun hX => hX.lift (lput_e _ hX.lx (by decide) r _ _ BZ.1 (by omega) HPUT.out)) (fun u1 => LFX.stb _ _ _ _ _ _ _) (fun u1 w1 S1 M1 K1 F1 => ?_)
          clear BZ
          refine wpT_valp 35 (v := .bool false) rfl rfl rfl (by go_simp) ?_
          first | refine wpT_fin ?_ | dsimp only [wpT]
          try simp only [Act.put, List.setIfInBounds_toArray, List.set_cons_succ, List.set_cons_zero]
          go_upto_region 13 with fail
          refine wp_region_lin (.op 0 (.op 1 (.op 2 (.op 3 (.op 4 .done))))) (by rfl) ?_
          refine wpT_valp 36 (v := .slice pa m pc) rfl rfl rfl (by go_simp) ?_
          refine wpT_valp 37 (v := .int .i64 r) rfl rfl rfl (by go_simp) ?_
          refine wpT_oneI 38 _ M1 r rfl rfl rfl (by go_simp) rfl (fun gx wgx Mgx => ?_)
          obtain ⟨hX, MO, hd⟩ := K1 _ _ Mgx
          refine wpT_oapp 39 _ _ (MO.sub (H' := []) (by simp)) elt_int (.slice pa m pc) (.slice (some ⟨gx, 0, none⟩) 1 1) m (Ml.map pI) [.int .i64 r] rfl rfl rfl rfl (by go_simp) hX.ow (by go_simp) (sv_row (MO.row (b := gx) (c := #[.int .i64 r]) (by simp)) (by unfold maxLen; decide)) rfl (by simp [Value.oneCell']) (by omega) (by have := hX.lx.Bw; omega) (fun y hy => ⟨F1 y (.inr hy), fun q hq => by cases hq⟩) (fun ua2 wA OA MA GA BA => ?_)
          have hX2 : LFX wA B b (Ml ++ [(r, zs 736)]) u1 ua2 m1 ((Ml ++ [(r, zs 736)]).map pI) := hX.app HM1.out OA GA BA
          obtain ⟨qa, qc, hqa, _⟩ := hX2.ow.shape
          subst hqa
          obtain ⟨S2, M2, K2⟩ := MA.keep (LFX.stb B b (Ml ++ [(r, zs 736)]) u1 (.slice qa m1 qc) m1 ((Ml ++ [(r, zs 736)]).map pI)) hX2 (fun q hq => by cases hq)
          have F2 : ∀ g, LFG b u1 (.slice qa m1 qc) g → no g ∨ w.heap.size ≤ g := fun g h => .inr (by have := hX2.b_ g h; rw [HB.out] at this; exact this)
          clear hX MO hd OA GA BA hX2 MA
          try simp only [Act.put, List.setIfInBounds_toArray, List.set_cons_succ, List.set_cons_zero]
          refine wpT_valp 4 (v := .slice qa m1 qc) rfl rfl rfl (by go_simp) ?_
          first | refine wpT_fin ?_ | dsimp only [wpT]
          try simp only [Act.put, List.setIfInBounds_toArray, List.set_cons_succ, List.set_cons_zero]
          go_upto_region 14 with fail
          refine wp_region_lin (.op 0 (.op 1 (.op 2 (.op 3 (.op 4 (.op 5 .done)))))) (by rfl) ?_
          refine wpT_valp 40 (v := .slice (some ⟨gu, uo, none⟩) n uc) rfl rfl rfl (by go_simp) ?_
          refine wpT_valp 41 (v := .int .i64 i) rfl rfl rfl (by go_simp) ?_
          refine wpT_valp 42 (v := .pointer (some ⟨gu, uo + i, none⟩)) rfl rfl rfl (by go_simp) ?_
          refine wpT_valp 43 (v := .int .u8 pn) rfl rfl rfl (by have c0 := HCB.out _ (K2 _ _ M2).2.1.end_; go_simp) ?_
          try simp only [Act.put, List.setIfInBounds_toArray, List.set_cons_succ, List.set_cons_zero]
          refine wpT_valp 44 (v := .int .u8 r3) rfl rfl rfl (by have h := HR3.out; go_simp) ?_
          refine wpT_valp 45 (v := .bool false) rfl rfl rfl (by go_simp) ?_
          first | refine wpT_fin ?_ | dsimp only [wpT]
          try simp only [Act.put, List.setIfInBounds_toArray, List.set_cons_succ, List.set_cons_zero]
          go_upto_region 9 with fail
          refine wp_region_lin (.op 0 (.op 1 (.op 2 .done))) (by rfl) ?_
          refine wpT_valp 22 (v := .int .i64 i) rfl rfl rfl (by go_simp) ?_
          refine wpT_valp 23 (v := .int .i64 i1) rfl rfl rfl (by have h := HI1.out; go_simp) ?_
          refine wpT_valp 5 (v := .int .i64 i1) rfl rfl rfl (by go_simp) ?_
          first | refine wpT_fin ?_ | dsimp only [wpT]
          try simp only [Act.put, List.setIfInBounds_toArray, List.set_cons_succ, List.set_cons_zero]
          go_wp2_with fail
          obtain ⟨hX, hM, hd⟩ := K2 _ _ M2
          go_roundw
          case rel => exact ⟨i1, _, _, qa, qc, m1, by have := HII.out; omega, rfl, rfl, hM, hX, HLN1.out⟩
          case measure => have := HII.out; simp only [intOf]; omega
      · have hlt60 : ¬ (i : Int) < 60 := by omega
        go_upto_region 8 with fail
        refine wp_region_lin (.op 0 (.op 1 (.op 2 (.op 3 (.op 4 (.op 5 (.op 6 (.op 7 .done)))))))) (by rfl) ?_
        refine wpT_valp 14 (v := .int .i64 i) rfl rfl rfl (by go_simp) ?_
        refine wpT_valp 15 (v := .slice ua n uc) rfl rfl rfl (by go_simp) ?_
        refine wpT_valp 16 (v := .int .i64 n) rfl rfl rfl (by go_simp) ?_
        refine wpT_valp 17 (v := .bool true) rfl rfl rfl (by go_simp) ?_
        try simp only [Act.put, List.setIfInBounds_toArray, List.set_cons_succ, List.set_cons_zero]
        refine wpT_valp 18 (v := .bool true) rfl rfl rfl (by go_simp) ?_
        refine wpT_valp 19 (v := .int .i64 i) rfl rfl (by simp [Region.wanted, yielded, Act.put]) (by go_simp) ?_
        refine wpT_valp 20 (v := .bool false) rfl rfl (by simp [Region.wanted, yielded, Act.put]) (by go_simp) ?_
        refine wpT_valp 21 (v := .bool false) rfl rfl rfl (by go_simp) ?_
        first | refine wpT_fin ?_ | dsimp only [wpT]
        try simp only [Act.put, List.setIfInBounds_toArray, List.set_cons_succ, List.set_cons_zero]
        go_upto_region 19 with fail
        refine wp_region_lin (.op 0 (.op 1 (.op 2 (.op 3 (.op 4 (.op 5 .done)))))) (by rfl) ?_
        refine wpT_valp 63 (v := .pointer (some ⟨b, 0, none⟩)) rfl rfl rfl (by go_simp) ?_
        refine wpT_callv 64 M (v := .int .i64 m) rfl rfl rfl (by go_simp) (llen_e wr (K0 _ _ M).1.lx HLM.out) (fun w1 M2 => ?_)
        refine wpT_valp 65 (v := .slice pa m pc) rfl rfl rfl (by go_simp) ?_
        refine wpT_valp 66 (v := .int .i64 m) rfl rfl rfl (by go_simp) ?_
        try simp only [Act.put, List.setIfInBounds_toArray, List.set_cons_succ, List.set_cons_zero]
        refine wpT_valp 67 (v := .bool true) rfl rfl rfl (by go_simp) ?_
        refine wpT_valp 2 (v := .bool true) rfl rfl rfl (by go_simp) ?_
        first | refine wpT_fin ?_ | dsimp only [wpT]
        try simp only [Act.put, List.setIfInBounds_toArray, List.set_cons_succ, List.set_cons_zero]
        go_wp2_with fail
        go_ret
        exact ⟨rfl, (K0 _ _ M2).2.1.end_⟩
    · have hlt : ¬ (i : Int) < (n : Int) := by omega
      go_upto_region 8 with fail
      refine wp_region_lin (.op 0 (.op 1 (.op 2 (.op 3 (.op 4 (.op 5 (.op 6 (.op 7 .done)))))))) (by rfl) ?_
      refine wpT_valp 14 (v := .int .i64 i) rfl rfl rfl (by go_simp) ?_
      refine wpT_valp 15 (v := .slice ua n uc) rfl rfl rfl (by go_simp) ?_
      refine wpT_valp 16 (v := .int .i64 n) rfl rfl rfl (by go_simp) ?_
      refine wpT_valp 17 (v := .bool false) rfl rfl rfl (by go_simp) ?_
      try simp only [Act.put, List.setIfInBounds_toArray, List.set_cons_succ, List.set_cons_zero]
      refine wpT_valp 18 (v := .bool false) rfl rfl rfl (by go_simp) ?_
      refine wpT_unx 19 rfl rfl (by simp [Region.wanted, yielded, Act.put]) ?_
      try simp only [Act.put, List.setIfInBounds_toArray, List.set_cons_succ, List.set_cons_zero]
      refine wpT_unx 20 rfl rfl (by simp [Region.wanted, yielded, Act.put]) ?_
      try simp only [Act.put, List.setIfInBounds_toArray, List.set_cons_succ, List.set_cons_zero]
      refine wpT_valp 21 (v := .bool false) rfl rfl rfl (by go_simp) ?_
      first | refine wpT_fin ?_ | dsimp only [wpT]
      try simp only [Act.put, List.setIfInBounds_toArray, List.set_cons_succ, List.set_cons_zero]
      go_upto_region 19 with fail
      refine wp_region_lin (.op 0 (.op 1 (.op 2 (.op 3 (.op 4 (.op 5 .done)))))) (by rfl) ?_
      refine wpT_valp 63 (v := .pointer (some ⟨b, 0, none⟩)) rfl rfl rfl (by go_simp) ?_
      refine wpT_callv 64 M (v := .int .i64 m) rfl rfl rfl (by go_simp) (llen_e wr (K0 _ _ M).1.lx HLM.out) (fun w1 M2 => ?_)
      refine wpT_valp 65 (v := .slice pa m pc) rfl rfl rfl (by go_simp) ?_
      refine wpT_valp 66 (v := .int .i64 m) rfl rfl rfl (by go_simp) ?_
      try simp only [Act.put, List.setIfInBounds_toArray, List.set_cons_succ, List.set_cons_zero]
      refine wpT_valp 67 (v := .bool true) rfl rfl rfl (by go_simp) ?_
      refine wpT_valp 2 (v := .bool true) rfl rfl rfl (by go_simp) ?_
      first | refine wpT_fin ?_ | dsimp only [wpT]
      try simp only [Act.put, List.setIfInBounds_toArray, List.set_cons_succ, List.set_cons_zero]
      go_wp2_with fail
      go_ret
      exact ⟨rfl, (K0 _ _ M2).2.1.end_⟩
end Go.Proofs.Ytojkcbhmhfjioaa
