/-
  Law 17: chains that begin alike, walked; own work.
-/
import Derived.Test.YtocledgjejlolaaDoorChnD
import Derived.Test.YtocledgjejlolaaDoorRefV
import Derived.Test.YtocledgjejlolaaDoorTx
set_option linter.unusedSimpArgs false
set_option linter.unusedVariables false
namespace Go.Proofs.YtocledgjejlolaaDoor
open Go.RowKit
theorem rem17 {t : TypeId} (x : BitVec 8) : binOp .rem t (U8 x) (.int .u8 17) = pure (U8 (x % 17#8)) := by
  show Sem.pure (Value.int .u8 ((x.toNat : Int).tmod 17)) = Sem.pure (Value.int .u8 ((x % 17#8).toNat : Int))
  rw [BitVec.toNat_umod]; rfl
theorem BS.cell1 {w : World} {a : Option Addr} {n cap : Nat} {xs : List (BitVec 8)} (h : BS w (.slice a n cap) xs) {i : Nat} (hi : i < xs.length) : ∃ b o, a = some ⟨b, o, none⟩ ∧ w.cell? ⟨b, o + i, none⟩ = some (U8 (xs.getD i 0)) := by
  obtain ⟨b, o, cap', e, h1, h2⟩ := h.open (by intro e; rw [e] at hi; simp at hi)
  injection e with e1 e2 e3
  exact ⟨b, o, e1, h2 i hi⟩
theorem cell_below' {w w' : World} {b o : Nat} {v : Value} (h : w.cell? ⟨b, o, none⟩ = some v) (hb : Below w.heap.size w w') : w'.cell? ⟨b, o, none⟩ = some v := by
  rw [← h]
  rw [cell_rowOf] at h
  exact World.cell?_of_block (a := ⟨b, o, none⟩) (hb.block b (row_lt (Array.getElem?_eq_some_iff.1 h).1))
theorem wpT_valdA {P : Program} {ops : Array Oper} {Q : Exit → Act → World → Prop} {i : Nat} {t : Tr} {a : Act} {w : World} {o : Oper} : True := trivial
attribute [local irreducible] CR Sh.nx Sh.ms Sh.nxk Sh.msk k1
set_option maxRecDepth 100000 in
set_option maxHeartbeats 8000000 in
theorem ChainAlike_w (w : World) (a : List (BitVec 8)) (n : Int) (v : Value) (xs : List (BitVec 8)) (hn : 0 ≤ n ∧ n ≤ 65535) (hT : KT w) (hk0 : 0 < w.heap.size) (ha : a.length = 32) (hv : BS w v xs) :
    Calls Tryd.prog 15 #[.agg (cs U8 a), .int .u16 n, v] w fun e w' => e = .returned (.bool true) ∧ Below w.heap.size w w' := by
  have HK := hid (fun H w' (M : Mm no w H w') => kt_mm hT hk0 (fun h => h) M)
  clear hT
  have HS := hid hv
  obtain ⟨A, lc, rfl, -⟩ := hv.shape
  have hmx : xs.length ≤ 9223372036854775807 := hv.len
  clear hv
  obtain ⟨hn0, hn1⟩ := hn
  by_cases hbig : 60000 < n
  · skip
    have M0 := Mm.start no w
    go_enter Tryd.func15, Tryd.ntmps15
    have M2 := (M0.alloc (cs U8 a) 25 (by decide))
    try simp only [World.size_alloc] at M2
    go_upto_region 1 with fail
    obtain ⟨w1, hw1⟩ : ∃ w1, w1 = (w.alloc (.cells (cs U8 a) 25)) := ⟨_, rfl⟩
    rw [← hw1] at M2 ⊢
    clear hw1
    refine wp_region_lin (.op 0 (.op 1 .done)) (by rfl) ?_
    refine wpT_callv 21 M2 (v := .bool true) rfl rfl rfl (by go_simp) (alive17_any w1 (HK.out _ _ M2).1 (HK.out _ _ M2).2) (fun w3 M4 => ?_)
    refine wpT_valp 22 (v := .bool false) rfl rfl rfl (by go_simp) ?_
    dsimp only [wpT]
    try simp only [Act.put, List.setIfInBounds_toArray, List.set_cons_succ, List.set_cons_zero]
    go_upto_region 3 with fail
    go_wp2_with fail
    go_ret
    exact ⟨rfl, M4.end_⟩
  · skip
    have M0 := Mm.start no w
    go_enter Tryd.func15, Tryd.ntmps15
    have M2 := (M0.alloc (cs U8 a) 25 (by decide))
    try simp only [World.size_alloc] at M2
    go_upto_region 1 with fail
    obtain ⟨w1, hw1⟩ : ∃ w1, w1 = (w.alloc (.cells (cs U8 a) 25)) := ⟨_, rfl⟩
    rw [← hw1] at M2 ⊢
    clear hw1
    refine wp_region_lin (.op 0 (.op 1 .done)) (by rfl) ?_
    refine wpT_callv 21 M2 (v := .bool true) rfl rfl rfl (by go_simp) (alive17_any w1 (HK.out _ _ M2).1 (HK.out _ _ M2).2) (fun w3 M4 => ?_)
    refine wpT_valp 22 (v := .bool false) rfl rfl rfl (by go_simp) ?_
    dsimp only [wpT]
    try simp only [Act.put, List.setIfInBounds_toArray, List.set_cons_succ, List.set_cons_zero]
    go_upto_region 3 with fail
    have hni := i64n n (by omega) (by omega)
    go_upto_region 5 with fail
    refine wp_region_X (fun v => v.rowOf w.heap.size = cs U8 a) (.yld [0, 1, 2, 4, 5, 6] (.op 3 (.op 7 (.op 8 (.op 9 .done))))) (by kernel_rfl) (by kernel_rfl) (by kernel_rfl) (fun d _ _ _ _ h => by cases d <;> exact h) ?_
    refine wpX_yld ?_
    refine wpYJd_ld 25 Tryd.underlying25 rfl inf_key w.heap.size (cs U8 a) rfl rfl rfl (by go_simp) (fun _ h => h) (by simp [ha]) rfl ?_
    refine wpYJd_op 26 (.int .u16 n) rfl rfl rfl (fun w1 _ => by go_simp) ?_
    refine wpYJd_op 27 (.int .i64 n) rfl rfl rfl (fun w1 _ => by go_simp) ?_
    refine wpYJd_ld 29 Tryd.underlying25 rfl inf_key w.heap.size (cs U8 a) rfl rfl rfl (by go_simp) (fun _ h => h) (by simp [ha]) rfl ?_
    refine wpYJd_op 30 (.int .u16 n) rfl rfl rfl (fun w1 _ => by go_simp) ?_
    refine wpYJd_op 31 (.int .i64 n) rfl rfl rfl (fun w1 _ => by go_simp) ?_
    show wpX _ _ _ _ _ _ _
    try simp only [Act.put, List.setIfInBounds_toArray, List.set_cons_succ, List.set_cons_zero]
    have N0 := M4.drewN 1
    change wpX _ _ _ _ _ _ (w3.drewN 1)
    obtain ⟨v0, hv0⟩ : ∃ v0, v0 = w3.drewN 1 := ⟨_, rfl⟩
    rw [← hv0] at N0 ⊢
    clear hv0 M4
    refine ⟨N0.row (by simp), callX 28 rfl rfl rfl (by go_simp) (new_m v0 a n ha hn0 (by omega)) ?_⟩
    rintro e v1 ⟨ga, rfl, G1⟩
    have N1 := N0.join G1
    refine ⟨_, rfl, N1.row (by simp), callX 32 rfl rfl rfl (by go_simp) (new_m v1 a n ha hn0 (by omega)) ?_⟩
    rintro e v2 ⟨gb, rfl, G2⟩
    have N2 := N1.join G2
    refine ⟨_, rfl, N2.row (by simp), stepX (v := .pointer (some ⟨ga, 0, none⟩)) (w' := v2) 7 rfl rfl rfl (by go_simp) ?_⟩
    refine ⟨N2.row (by simp), stepX (v := .pointer (some ⟨gb, 0, none⟩)) (w' := v2) 8 rfl rfl rfl (by go_simp) ?_⟩
    refine ⟨N2.row (by simp), ?_⟩
    try simp only [Act.put, List.setIfInBounds_toArray, List.set_cons_succ, List.set_cons_zero]
    have hga : w.heap.size ≤ ga := (N2.own (ga, CR a n) (by simp)).1.resolve_left (fun h => h)
    have hgb : w.heap.size ≤ gb := (N2.own (gb, CR a n) (by simp)).1.resolve_left (fun h => h)
    have hab : ga ≠ gb := Ne.symm (N2.ne (i := 0) (j := 1) rfl rfl (by decide))
    clear N0 N1 G1 G2
    go_wp2_with fail
    go_loopw [9, 10] (fun s t wr => ∃ (i : Nat) (l : List (BitVec 8)) (m : Int), i ≤ xs.length ∧ i ≤ 40 ∧ s = .int .i64 m ∧ t = .int .i64 i ∧ l.length = 32 ∧ 0 ≤ m ∧ m ≤ 60000 + 16 * i ∧ Mm no w [(gb, CR l m), (ga, CR l m), (w.heap.size, cs U8 a)] wr) (fun _ t _ => 40 - (intOf t).toNat)
    case atStart => exact ⟨0, a, n, by omega, by omega, rfl, rfl, ha, hn0, by omega, N2⟩
    case round =>
      clear N2
      obtain ⟨i, l, m, hi, hi40, rfl, rfl, hl, h0, hm60, M⟩ := hrel
      by_cases hlt : i < xs.length ∧ i < 40
      · obtain ⟨hlt, hl40⟩ := hlt
        obtain ⟨lb, lo, rfl, hc⟩ := HS.out.cell1 hlt
        obtain ⟨x, hx⟩ : ∃ x, x = xs.getD i 0 := ⟨_, rfl⟩
        rw [← hx] at hc
        clear hx
        have HI := hid (fun H w' (M : Mm no w H w') => cell_below' hc M.end_)
        clear hc
        have hlt2 : (i : Int) < (xs.length : Int) := by omega
        have h402 : (i : Int) < 40 := by omega
        have hi0 : (0 : Int) ≤ (i : Int) := by omega
        obtain ⟨q, hq⟩ : ∃ q : Nat, q = (x % 17#8).toNat := ⟨_, rfl⟩
        have hq16 : q ≤ 16 := by rw [hq, BitVec.toNat_umod]; have := Nat.mod_lt x.toNat (show 0 < 17 by decide); have e : (17#8 : BitVec 8).toNat = 17 := rfl; rw [e]; omega
        have HQ2 := hid (show (x.toNat : Int) % 17 = (q : Int) by rw [hq, BitVec.toNat_umod]; rfl)
        clear hq
        obtain ⟨m2, hm2⟩ : ∃ m2 : Int, m2 = m + q := ⟨_, rfl⟩
        have hm65 : m2 ≤ 65535 := by omega
        have HM2 := hid (show IntKind.i64.wrap (m + (q : Int)) = m2 by rw [i64n _ (by omega) (by omega), hm2])
        go_upto_region 12 with fail
        refine wp_region_lin (.op 0 (.op 1 (.op 2 (.op 3 (.op 4 (.op 5 (.op 6 (.op 7 (.op 8 .done))))))))) (by rfl) ?_
        refine wpT_valp 51 (v := .int .i64 m) rfl rfl rfl (by go_simp) ?_
        refine wpT_valp 52 (v := .slice (some ⟨lb, lo, none⟩) xs.length lc) rfl rfl rfl (by go_simp) ?_
        refine wpT_valp 53 (v := .int .i64 i) rfl rfl rfl (by go_simp) ?_
        refine wpT_valp 54 (v := .pointer (some ⟨lb, lo + i, none⟩)) rfl rfl rfl (by go_simp) ?_
        try simp only [Act.put, List.setIfInBounds_toArray, List.set_cons_succ, List.set_cons_zero]
        refine wpT_valp 55 (v := U8 x) rfl rfl rfl (by have c0 := HI.out _ _ M; go_simp) ?_
        refine wpT_valp 56 (v := U8 (x % 17#8)) rfl rfl rfl (by have h := rem17 (t := 5) x; go_simp) ?_
        refine wpT_valp 57 (v := .int .i64 q) rfl rfl rfl (by have h := HQ2.out; go_simp) ?_
        refine wpT_valp 58 (v := .int .i64 m2) rfl rfl rfl (by have h := HM2.out; go_simp) ?_
        refine wpT_valp 9 (v := .int .i64 m2) rfl rfl rfl (by go_simp) ?_
        dsimp only [wpT]
        try simp only [Act.put, List.setIfInBounds_toArray, List.set_cons_succ, List.set_cons_zero]
        go_upto_region 13 with fail
        refine wp_region_lin (.op 0 (.op 1 (.op 2 (.op 3 (.op 4 (.op 5 (.op 6 (.op 7 .done)))))))) (by rfl) ?_
        refine wpT_valp 60 (v := .pointer (some ⟨ga, 0, none⟩)) rfl rfl rfl (by go_simp) ?_
        refine wpT_valp 61 (v := .int .i64 m2) rfl rfl rfl (by go_simp) ?_
        have hza := M.lt (b := ga) (c := CR l m) (by simp)
        have hzb := M.lt (b := gb) (c := CR l m) (by simp)
        have hzw := M.lt (b := w.heap.size) (c := cs U8 a) (by simp)
        refine wpT_calld 62 rfl rfl rfl (by go_simp) (upto_m wr ga l m m2 q (HK.out _ _ M).1 (HK.out _ _ M).2 (by omega) (M.loc' (k := 1) rfl) h0 hm2 hq16 hm65 hl) ?_
        rintro e wB ⟨v, rfl, O, NB⟩
        have M1 := M.back' (k := 1) rfl NB
        dsimp only [List.set] at M1
        obtain ⟨av, vc, rfl⟩ := O.shape q (msk_len _ _)
        refine ⟨_, rfl, ?_⟩
        refine wpT_valp 59 (v := .tuple #[.slice av q vc, .int .i64 0]) rfl rfl rfl (by go_simp) ?_
        try simp only [Act.put, List.setIfInBounds_toArray, List.set_cons_succ, List.set_cons_zero]
        refine wpT_valp 63 (v := .slice av q vc) rfl rfl rfl (by go_simp) ?_
        refine wpT_valp 64 (v := .int .i64 0) rfl rfl rfl (by go_simp) ?_
        refine wpT_valp 11 (v := .slice av q vc) rfl rfl rfl (by go_simp) ?_
        refine wpT_valp 12 (v := .int .i64 0) rfl rfl rfl (by go_simp) ?_
        dsimp only [wpT]
        try simp only [Act.put, List.setIfInBounds_toArray, List.set_cons_succ, List.set_cons_zero]
        go_wp2_with fail
        obtain ⟨S, MR, hS, hT⟩ := M1.rebase
        have hsep : ∀ g, (Value.slice av q vc).ownBlock = some g → ¬ S g := fun g hg h => by
          have h1 := (O.at_ g hg).1
          have h2 := hS g h
          simp at h2
          omega
        have HV := hid (fun H w' (M : Mm S wB H w') => (O.fr M.fr hsep).ks)
        have HI := hid (fun H w' (M : Mm S wB H w') => HI.out _ _ (hT _ _ M))
        have HK := hid (fun H w' (M : Mm S wB H w') => HK.out _ _ (hT _ _ M))
        have HT := hid hT
        have hza2 := MR.lt (b := ga) (c := CR (Sh.nxk l q) m2) (by simp)
        have hzb2 := MR.lt (b := gb) (c := CR l m) (by simp)
        have hzw2 := MR.lt (b := w.heap.size) (c := cs U8 a) (by simp)
        clear hsep O hT M1 M NB hS hza hzb hzw
        go_loopw [13, 67] (fun u t wr => ∃ k : Nat, k ≤ q ∧ t = .int .i64 k ∧ KO wr wB.heap.size u (Sh.msk l k) ∧ Mm S wB [(gb, CR (Sh.nxk l k) (m + k)), (ga, CR (Sh.nxk l q) m2), (w.heap.size, cs U8 a)] wr) (fun _ t _ => q - (intOf t).toNat)
        case atStart => exact ⟨0, Nat.zero_le _, rfl, by unfold Sh.msk; exact KO.nil _ _, by simpa [Sh.nxk] using MR⟩
        case round =>
          clear MR
          obtain ⟨k, hk, rfl, HO, M⟩ := hrel
          have hl3 := nxk_len hl k
          have hnx := hid (show Sh.nx (Sh.nxk l k) = Sh.nxk l (k + 1) by simp [Sh.nxk])
          have hms := hid (msk_succ l k)
          obtain ⟨A3, cu, rfl⟩ := HO.shape k (msk_len l k)
          have hz0 := M.size
          by_cases hltk : k < q
          · generalize hl3e : Sh.nxk l k = l3 at *
            generalize hm3e : m + (k : Int) = m3 at *
            have hltk2 : (k : Int) < (q : Int) := by omega
            have hk0' : (0 : Int) ≤ (k : Int) := by omega
            obtain ⟨S1, MR1, hS1, hT1⟩ := M.rebase
            have M := MR1
            have HK := hid (fun H w' (M : Mm S1 wr H w') => HK.out _ _ (hT1 _ _ M))
            go_upto_region 17 with fail
            refine wp_region_lin (.op 0 (.op 1 (.op 2 (.op 3 (.op 4 (.op 5 (.op 6 (.op 7 (.op 8 (.op 9 .done)))))))))) (by rfl) ?_
            refine wpT_valp 70 (v := .pointer (some ⟨gb, 0, none⟩)) rfl rfl rfl (by go_simp) ?_
            refine wpT_callm 71 M 0 (C' := CR (Sh.nx l3) (m3 + 1)) (v := .tuple #[.int .i64 m3, .agg (cs U8 (Sh.ms l3)), .int .i64 0]) rfl rfl rfl rfl (by go_simp) (next_m wr gb l3 m3 (HK.out _ _ M).1 (HK.out _ _ M).2 (by omega) (M.loc' (k := 0) rfl) (by omega) (by omega) hl3) (fun w1 M2 _ => ?_)
            dsimp only [List.set] at M2
            refine wpT_valp 69 (v := .tuple #[.int .i64 m3, .agg (cs U8 (Sh.ms l3)), .int .i64 0]) rfl rfl rfl (by go_simp) ?_
            refine wpT_valp 72 (v := .int .i64 m3) rfl rfl rfl (by go_simp) ?_
            try simp only [Act.put, List.setIfInBounds_toArray, List.set_cons_succ, List.set_cons_zero]
            refine wpT_valp 73 (v := .agg (cs U8 (Sh.ms l3))) rfl rfl rfl (by go_simp) ?_
            refine wpT_valp 74 (v := .int .i64 0) rfl rfl rfl (by go_simp) ?_
            refine wpT_new (z := .agg (cs U8 (zs 32))) 15 M2 (by kernel_rfl) (by decide) rfl rfl rfl rfl (fun b3 w4 M5 => ?_)
            try dsimp only [Value.cells] at M5
            refine wpT_valp 14 (v := .int .i64 m3) rfl rfl rfl (by go_simp) ?_
            refine wpT_st0 M5 0 (cs U8 (Sh.ms l3)) inf_key rfl rfl rfl rfl (by go_simp) (by go_simp) (by simp [ha, hl, hl3]) (by simp [ha, hl, hl3]) (by simp [go_sem]) rfl (fun w6 M7 => ?_)
            dsimp only [List.set] at M7
            try simp only [Act.put, List.setIfInBounds_toArray, List.set_cons_succ, List.set_cons_zero]
            refine wpT_valp 16 (v := .int .i64 0) rfl rfl rfl (by go_simp) ?_
            dsimp only [wpT]
            try simp only [Act.put, List.setIfInBounds_toArray, List.set_cons_succ, List.set_cons_zero]
            go_upto_region 18 with fail
            refine wp_region_lin (.op 0 (.op 1 .done)) (by rfl) ?_
            refine wpT_valp 75 (v := .int .i64 0) rfl rfl rfl (by go_simp) ?_
            refine wpT_valp 76 (v := .bool false) rfl rfl rfl (by go_simp) ?_
            dsimp only [wpT]
            try simp only [Act.put, List.setIfInBounds_toArray, List.set_cons_succ, List.set_cons_zero]
            go_upto_region 20 with fail
            have O4 := HO.fr M7.fr (fun g hg e => by
              have h1 := (HO.at_ g hg).1
              have h2 := hS1 g e
              simp at h2
              omega)
            have nb3 : ∀ g, wB.heap.size ≤ g → g < wr.heap.size → b3 ≠ g := by
              intro g h1 h2 e
              subst e
              rcases (M7.own (b3, cs U8 (Sh.ms l3)) (by simp)).1 with h | h
              · have := hS1 _ h
                simp at this
                omega
              · have : wr.heap.size ≤ b3 := h
                omega
            have MZ := hT1 _ _ M7
            clear M7 hT1
            refine wp_region_lin (.op 0 (.op 1 (.op 2 (.op 3 (.op 4 .done))))) (by rfl) ?_
            refine wpT_valp 77 (v := .slice A3 k cu) rfl rfl rfl (by go_simp) ?_
            refine wpT_ld0 78 Tryd.underlying25 rfl inf_key b3 (cs U8 (Sh.ms l3)) rfl rfl rfl (by go_simp) (MZ.row (by simp)) (by simp) rfl ?_
            have hsz := O4.at_
            refine wpT_keys1 79 _ MZ (Sh.ms l3) (by simp) rfl rfl rfl (by go_simp) rfl (fun bk w8 M8 B8 L8 => ?_)
            have O5 := O4.below B8
            refine wpT_apk 80 _ _ M8 wB.heap.size (.slice A3 k cu) (.slice (some ⟨bk, 0, none⟩) 1 1) (Sh.msk l k) (Sh.ms l3) rfl rfl rfl rfl (by go_simp) O5 (by go_simp) (by simp) (SV.key (M8.row (by simp))) (by rw [msk_len]; omega) (by have := M8.size; omega) (Nat.le_refl _) (fun g hg p hp => ?_) (fun u6 w9 O6 M6 _ _ => ?_)
            · have h1 := HO.at_ g hg
              have h2 := hsz g hg
              simp only [List.mem_cons, List.mem_singleton, List.not_mem_nil, or_false] at hp
              rcases hp with rfl | rfl | rfl | rfl | rfl
              · show bk ≠ g; omega
              · exact nb3 g h1.1 h1.2
              · show gb ≠ g; omega
              · show ga ≠ g; omega
              · show w.heap.size ≠ g; omega
            rw [← hms.out] at O6
            obtain ⟨A6, c6, rfl⟩ := O6.shape (k + 1) (msk_len l (k + 1))
            refine wpT_valp 13 (v := .slice A6 (k + 1) c6) rfl rfl rfl (by go_simp) ?_
            dsimp only [wpT]
            try simp only [Act.put, List.setIfInBounds_toArray, List.set_cons_succ, List.set_cons_zero]
            go_wp2_with fail
            go_roundw
            case rel =>
              refine ⟨k + 1, by omega, rfl, O6, ?_⟩
              rw [← hnx.out, show m + ((k + 1 : Nat) : Int) = m3 + 1 by rw [← hm3e]; omega]
              exact M6.sub ((List.sublist_cons_self _ _).trans (List.sublist_cons_self _ _))
            case measure => simp [intOf]; omega
          · have : q = k := by omega
            subst this
            rw [← hm2] at M
            obtain ⟨S2, MR2, hS2, hT2⟩ := M.rebase
            have HU := hid (fun H w' (M : Mm S2 wr H w') => (HO.fr M.fr (fun g hg e => by
              have h1 := (HO.at_ g hg).1
              have h2 := hS2 g e
              simp at h2
              omega)).ks)
            have HV := hid (fun H w' (M : Mm S2 wr H w') => HV.out _ _ (hT2 _ _ M))
            have HI := hid (fun H w' (M : Mm S2 wr H w') => HI.out _ _ (hT2 _ _ M))
            have HTT := hid (fun H w' (M : Mm S2 wr H w') => HT.out _ _ (hT2 _ _ M))
            have M := MR2
            go_upto_region 22 with fail
            refine wp_region_lin (.op 0 (.op 1 (.op 2 (.op 3 (.op 4 (.op 5 (.op 6 (.op 7 (.op 8 (.op 9 (.op 10 (.op 11 (.op 12 (.op 13 (.op 14 (.op 15 (.op 16 (.op 17 (.op 18 .done))))))))))))))))))) (by rfl) ?_
            refine wpT_valp 82 (v := .int .i64 0) rfl rfl rfl (by go_simp) ?_
            refine wpT_valp 83 (v := .bool false) rfl rfl rfl (by go_simp) ?_
            refine wpT_valp 84 (v := .bool false) rfl rfl rfl (by go_simp) ?_
            refine wpT_valp 85 (v := .slice av q vc) rfl rfl (by simp [Region.wanted, yielded, Act.put]) (by go_simp) ?_
            try simp only [Act.put, List.setIfInBounds_toArray, List.set_cons_succ, List.set_cons_zero]
            refine wpT_valp 86 (v := .int .i64 q) rfl rfl (by simp [Region.wanted, yielded, Act.put]) (by go_simp) ?_
            refine wpT_valp 87 (v := .slice (some ⟨lb, lo, none⟩) xs.length lc) rfl rfl (by simp [Region.wanted, yielded, Act.put]) (by go_simp) ?_
            refine wpT_valp 88 (v := .int .i64 i) rfl rfl (by simp [Region.wanted, yielded, Act.put]) (by go_simp) ?_
            refine wpT_valp 89 (v := .pointer (some ⟨lb, lo + i, none⟩)) rfl rfl (by simp [Region.wanted, yielded, Act.put]) (by go_simp) ?_
            refine wpT_valp 90 (v := U8 x) rfl rfl (by simp [Region.wanted, yielded, Act.put]) (by have c0 := HI.out _ _ M; go_simp) ?_
            try simp only [Act.put, List.setIfInBounds_toArray, List.set_cons_succ, List.set_cons_zero]
            refine wpT_valp 91 (v := U8 (x % 17#8)) rfl rfl (by simp [Region.wanted, yielded, Act.put]) (by have h := rem17 (t := 5) x; go_simp) ?_
            refine wpT_valp 92 (v := .int .i64 q) rfl rfl (by simp [Region.wanted, yielded, Act.put]) (by have h := HQ2.out; go_simp) ?_
            refine wpT_valp 93 (v := .bool false) rfl rfl (by simp [Region.wanted, yielded, Act.put]) (by go_simp) ?_
            refine wpT_valp 94 (v := .bool false) rfl rfl rfl (by go_simp) ?_
            refine wpT_valp 95 (v := .bool false) rfl rfl rfl (by go_simp) ?_
            try simp only [Act.put, List.setIfInBounds_toArray, List.set_cons_succ, List.set_cons_zero]
            refine wpT_valp 96 (v := .slice av q vc) rfl rfl (by simp [Region.wanted, yielded, Act.put]) (by go_simp) ?_
            refine wpT_valp 97 (v := .slice A3 q cu) rfl rfl (by simp [Region.wanted, yielded, Act.put]) (by go_simp) ?_
            refine wpT_callv 98 M (v := .bool true) rfl rfl (by simp [Region.wanted, yielded, Act.put]) (by go_simp) (same_t wr (.slice av q vc) (.slice A3 q cu) (Sh.msk l q) (HV.out _ _ M) (HU.out _ _ M)) (fun w1 M2 => ?_)
            refine wpT_valp 99 (v := .bool false) rfl rfl (by simp [Region.wanted, yielded, Act.put]) (by go_simp) ?_
            refine wpT_valp 100 (v := .bool false) rfl rfl rfl (by go_simp) ?_
            dsimp only [wpT]
            try simp only [Act.put, List.setIfInBounds_toArray, List.set_cons_succ, List.set_cons_zero]
            go_wp2_with fail
            have MZ := HTT.out _ _ M2
            go_roundw
            case rel => exact ⟨i + 1, Sh.nxk l q, m2, by omega, by omega, rfl, rfl, hl3, by omega, by omega, MZ⟩
            case measure => simp [intOf]; omega
      · have hex : ¬ ((i : Int) < (xs.length : Int)) ∨ (i : Int) < (xs.length : Int) ∧ ¬ ((i : Int) < 40) := by omega
        rcases hex with h1 | ⟨h1, h2⟩
        · go_upto_region 24 with fail
          refine wp_region_lin (.op 0 (.op 1 (.op 2 (.op 3 (.op 4 (.op 5 (.op 6 (.op 7 .done)))))))) (by rfl) ?_
          refine wpT_valp 102 (v := .pointer (some ⟨ga, 0, none⟩)) rfl rfl rfl (by go_simp) ?_
          refine wpT_callm 103 M 1 (C' := CR l m) (v := .tuple #[.agg (cs U8 l), .int .i64 m]) rfl rfl rfl rfl (by go_simp) (at_m wr ga l m (M.loc' (k := 1) rfl) (by simp [ha, hl])) (fun w1 M2 _ => ?_)
          dsimp only [List.set] at M2
          refine wpT_valp 101 (v := .tuple #[.agg (cs U8 l), .int .i64 m]) rfl rfl rfl (by go_simp) ?_
          refine wpT_valp 104 (v := .agg (cs U8 l)) rfl rfl rfl (by go_simp) ?_
          try simp only [Act.put, List.setIfInBounds_toArray, List.set_cons_succ, List.set_cons_zero]
          refine wpT_valp 105 (v := .int .i64 m) rfl rfl rfl (by go_simp) ?_
          refine wpT_new (z := .agg (cs U8 (zs 32))) 17 M2 (by kernel_rfl) (by decide) rfl rfl rfl rfl (fun b3 w4 M5 => ?_)
          try dsimp only [Value.cells] at M5
          refine wpT_st0 M5 0 (cs U8 l) inf_key rfl rfl rfl rfl (by go_simp) (by go_simp) (by simp [ha, hl]) (by simp [ha, hl]) (by simp [go_sem]) rfl (fun w6 M7 => ?_)
          dsimp only [List.set] at M7
          refine wpT_valp 18 (v := .int .i64 m) rfl rfl rfl (by go_simp) ?_
          dsimp only [wpT]
          try simp only [Act.put, List.setIfInBounds_toArray, List.set_cons_succ, List.set_cons_zero]
          go_upto_region 25 with fail
          refine wp_region_lin (.op 0 (.op 1 (.op 2 (.op 3 (.op 4 (.op 5 (.op 6 (.op 7 .done)))))))) (by rfl) ?_
          refine wpT_valp 107 (v := .pointer (some ⟨gb, 0, none⟩)) rfl rfl rfl (by go_simp) ?_
          refine wpT_callm 108 M7 1 (C' := CR l m) (v := .tuple #[.agg (cs U8 l), .int .i64 m]) rfl rfl rfl rfl (by go_simp) (at_m w6 gb l m (M7.loc' (k := 1) rfl) (by simp [ha, hl])) (fun w8 M9 _ => ?_)
          dsimp only [List.set] at M9
          refine wpT_valp 106 (v := .tuple #[.agg (cs U8 l), .int .i64 m]) rfl rfl rfl (by go_simp) ?_
          refine wpT_valp 109 (v := .agg (cs U8 l)) rfl rfl rfl (by go_simp) ?_
          try simp only [Act.put, List.setIfInBounds_toArray, List.set_cons_succ, List.set_cons_zero]
          refine wpT_valp 110 (v := .int .i64 m) rfl rfl rfl (by go_simp) ?_
          refine wpT_new (z := .agg (cs U8 (zs 32))) 19 M9 (by kernel_rfl) (by decide) rfl rfl rfl rfl (fun b10 w11 M12 => ?_)
          try dsimp only [Value.cells] at M12
          refine wpT_st0 M12 0 (cs U8 l) inf_key rfl rfl rfl rfl (by go_simp) (by go_simp) (by simp [ha, hl]) (by simp [ha, hl]) (by simp [go_sem]) rfl (fun w13 M14 => ?_)
          dsimp only [List.set] at M14
          refine wpT_valp 20 (v := .int .i64 m) rfl rfl rfl (by go_simp) ?_
          dsimp only [wpT]
          try simp only [Act.put, List.setIfInBounds_toArray, List.set_cons_succ, List.set_cons_zero]
          go_upto_region 26 with fail
          refine wp_region_lin (.op 0 (.op 1 (.op 2 (.op 3 (.op 4 (.op 5 (.op 6 (.op 7 (.op 8 (.op 9 (.op 10 (.op 11 (.op 12 (.op 13 .done)))))))))))))) (by rfl) ?_
          refine wpT_ld0 111 Tryd.underlying25 rfl inf_key (b3) (cs U8 l) rfl rfl rfl (by go_simp) (M14.row (by simp)) (by simp [ha, hl]) rfl ?_
          refine wpT_ld0 112 Tryd.underlying25 rfl inf_key (b10) (cs U8 l) rfl rfl rfl (by go_simp) (M14.row (by simp)) (by simp [ha, hl]) rfl ?_
          refine wpT_valp 113 (v := .bool true) rfl rfl rfl (by have q := eqL w13 l (by simp [ha, hl]); go_simp) ?_
          refine wpT_valp 114 (v := .bool true) rfl rfl rfl (by go_simp) ?_
          try simp only [Act.put, List.setIfInBounds_toArray, List.set_cons_succ, List.set_cons_zero]
          refine wpT_valp 115 (v := .int .i64 m) rfl rfl (by simp [Region.wanted, yielded, Act.put]) (by go_simp) ?_
          refine wpT_valp 116 (v := .int .i64 m) rfl rfl (by simp [Region.wanted, yielded, Act.put]) (by go_simp) ?_
          refine wpT_valp 117 (v := .bool true) rfl rfl (by simp [Region.wanted, yielded, Act.put]) (by go_simp) ?_
          refine wpT_valp 118 (v := .bool true) rfl rfl rfl (by go_simp) ?_
          refine wpT_valp 119 (v := .bool true) rfl rfl rfl (by go_simp) ?_
          try simp only [Act.put, List.setIfInBounds_toArray, List.set_cons_succ, List.set_cons_zero]
          refine wpT_valp 120 (v := .int .i64 m) rfl rfl (by simp [Region.wanted, yielded, Act.put]) (by go_simp) ?_
          refine wpT_valp 121 (v := .int .i64 m) rfl rfl (by simp [Region.wanted, yielded, Act.put]) (by go_simp) ?_
          refine wpT_valp 122 (v := .bool true) rfl rfl (by simp [Region.wanted, yielded, Act.put]) (by go_simp) ?_
          refine wpT_valp 123 (v := .bool true) rfl rfl rfl (by go_simp) ?_
          refine wpT_valp 6 (v := .bool true) rfl rfl rfl (by go_simp) ?_
          dsimp only [wpT]
          try simp only [Act.put, List.setIfInBounds_toArray, List.set_cons_succ, List.set_cons_zero]
          go_wp2_with fail
          go_ret
          exact ⟨rfl, M14.end_⟩
        · go_upto_region 24 with fail
          refine wp_region_lin (.op 0 (.op 1 (.op 2 (.op 3 (.op 4 (.op 5 (.op 6 (.op 7 .done)))))))) (by rfl) ?_
          refine wpT_valp 102 (v := .pointer (some ⟨ga, 0, none⟩)) rfl rfl rfl (by go_simp) ?_
          refine wpT_callm 103 M 1 (C' := CR l m) (v := .tuple #[.agg (cs U8 l), .int .i64 m]) rfl rfl rfl rfl (by go_simp) (at_m wr ga l m (M.loc' (k := 1) rfl) (by simp [ha, hl])) (fun w1 M2 _ => ?_)
          dsimp only [List.set] at M2
          refine wpT_valp 101 (v := .tuple #[.agg (cs U8 l), .int .i64 m]) rfl rfl rfl (by go_simp) ?_
          refine wpT_valp 104 (v := .agg (cs U8 l)) rfl rfl rfl (by go_simp) ?_
          try simp only [Act.put, List.setIfInBounds_toArray, List.set_cons_succ, List.set_cons_zero]
          refine wpT_valp 105 (v := .int .i64 m) rfl rfl rfl (by go_simp) ?_
          refine wpT_new (z := .agg (cs U8 (zs 32))) 17 M2 (by kernel_rfl) (by decide) rfl rfl rfl rfl (fun b3 w4 M5 => ?_)
          try dsimp only [Value.cells] at M5
          refine wpT_st0 M5 0 (cs U8 l) inf_key rfl rfl rfl rfl (by go_simp) (by go_simp) (by simp [ha, hl]) (by simp [ha, hl]) (by simp [go_sem]) rfl (fun w6 M7 => ?_)
          dsimp only [List.set] at M7
          refine wpT_valp 18 (v := .int .i64 m) rfl rfl rfl (by go_simp) ?_
          dsimp only [wpT]
          try simp only [Act.put, List.setIfInBounds_toArray, List.set_cons_succ, List.set_cons_zero]
          go_upto_region 25 with fail
          refine wp_region_lin (.op 0 (.op 1 (.op 2 (.op 3 (.op 4 (.op 5 (.op 6 (.op 7 .done)))))))) (by rfl) ?_
          refine wpT_valp 107 (v := .pointer (some ⟨gb, 0, none⟩)) rfl rfl rfl (by go_simp) ?_
          refine wpT_callm 108 M7 1 (C' := CR l m) (v := .tuple #[.agg (cs U8 l), .int .i64 m]) rfl rfl rfl rfl (by go_simp) (at_m w6 gb l m (M7.loc' (k := 1) rfl) (by simp [ha, hl])) (fun w8 M9 _ => ?_)
          dsimp only [List.set] at M9
          refine wpT_valp 106 (v := .tuple #[.agg (cs U8 l), .int .i64 m]) rfl rfl rfl (by go_simp) ?_
          refine wpT_valp 109 (v := .agg (cs U8 l)) rfl rfl rfl (by go_simp) ?_
          try simp only [Act.put, List.setIfInBounds_toArray, List.set_cons_succ, List.set_cons_zero]
          refine wpT_valp 110 (v := .int .i64 m) rfl rfl rfl (by go_simp) ?_
          refine wpT_new (z := .agg (cs U8 (zs 32))) 19 M9 (by kernel_rfl) (by decide) rfl rfl rfl rfl (fun b10 w11 M12 => ?_)
          try dsimp only [Value.cells] at M12
          refine wpT_st0 M12 0 (cs U8 l) inf_key rfl rfl rfl rfl (by go_simp) (by go_simp) (by simp [ha, hl]) (by simp [ha, hl]) (by simp [go_sem]) rfl (fun w13 M14 => ?_)
          dsimp only [List.set] at M14
          refine wpT_valp 20 (v := .int .i64 m) rfl rfl rfl (by go_simp) ?_
          dsimp only [wpT]
          try simp only [Act.put, List.setIfInBounds_toArray, List.set_cons_succ, List.set_cons_zero]
          go_upto_region 26 with fail
          refine wp_region_lin (.op 0 (.op 1 (.op 2 (.op 3 (.op 4 (.op 5 (.op 6 (.op 7 (.op 8 (.op 9 (.op 10 (.op 11 (.op 12 (.op 13 .done)))))))))))))) (by rfl) ?_
          refine wpT_ld0 111 Tryd.underlying25 rfl inf_key (b3) (cs U8 l) rfl rfl rfl (by go_simp) (M14.row (by simp)) (by simp [ha, hl]) rfl ?_
          refine wpT_ld0 112 Tryd.underlying25 rfl inf_key (b10) (cs U8 l) rfl rfl rfl (by go_simp) (M14.row (by simp)) (by simp [ha, hl]) rfl ?_
          refine wpT_valp 113 (v := .bool true) rfl rfl rfl (by have q := eqL w13 l (by simp [ha, hl]); go_simp) ?_
          refine wpT_valp 114 (v := .bool true) rfl rfl rfl (by go_simp) ?_
          try simp only [Act.put, List.setIfInBounds_toArray, List.set_cons_succ, List.set_cons_zero]
          refine wpT_valp 115 (v := .int .i64 m) rfl rfl (by simp [Region.wanted, yielded, Act.put]) (by go_simp) ?_
          refine wpT_valp 116 (v := .int .i64 m) rfl rfl (by simp [Region.wanted, yielded, Act.put]) (by go_simp) ?_
          refine wpT_valp 117 (v := .bool true) rfl rfl (by simp [Region.wanted, yielded, Act.put]) (by go_simp) ?_
          refine wpT_valp 118 (v := .bool true) rfl rfl rfl (by go_simp) ?_
          refine wpT_valp 119 (v := .bool true) rfl rfl rfl (by go_simp) ?_
          try simp only [Act.put, List.setIfInBounds_toArray, List.set_cons_succ, List.set_cons_zero]
          refine wpT_valp 120 (v := .int .i64 m) rfl rfl (by simp [Region.wanted, yielded, Act.put]) (by go_simp) ?_
          refine wpT_valp 121 (v := .int .i64 m) rfl rfl (by simp [Region.wanted, yielded, Act.put]) (by go_simp) ?_
          refine wpT_valp 122 (v := .bool true) rfl rfl (by simp [Region.wanted, yielded, Act.put]) (by go_simp) ?_
          refine wpT_valp 123 (v := .bool true) rfl rfl rfl (by go_simp) ?_
          refine wpT_valp 6 (v := .bool true) rfl rfl rfl (by go_simp) ?_
          dsimp only [wpT]
          try simp only [Act.put, List.setIfInBounds_toArray, List.set_cons_succ, List.set_cons_zero]
          go_wp2_with fail
          go_ret
          exact ⟨rfl, M14.end_⟩
end Go.Proofs.YtocledgjejlolaaDoor
