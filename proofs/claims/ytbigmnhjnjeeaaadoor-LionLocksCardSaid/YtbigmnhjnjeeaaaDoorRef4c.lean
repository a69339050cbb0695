/-
  Walks of reference 04: the tag; own work.
-/
import Derived.Test.YtbigmnhjnjeeaaaDoorRef4b
set_option linter.unusedSimpArgs false
set_option linter.unusedVariables false
namespace Go.Proofs.YtbigmnhjnjeeaaaDoor
open Go.RowKit

theorem padB_get (k : List (BitVec 8)) (x : BitVec 8) (i : Nat) (hi : i < 64) : (Sh.padB k x).getD i 0 = k.getD i 0 ^^^ x := by
  have hg : ∀ (l : List (BitVec 8)) (j : Nat), l.getD j 0 = (l[j]?).getD 0 := fun l j => List.getD_eq_getElem?_getD
  rw [hg, hg]
  unfold Sh.padB Sh.zeros
  rw [List.getElem?_map, List.getElem?_append]
  by_cases h : i < k.length
  · rw [if_pos h, List.getElem?_eq_getElem h]; rfl
  · rw [if_neg h, List.getElem?_eq_none (l := k) (by omega), List.getElem?_replicate, if_pos (by omega)]
    simp
theorem BS.getD_cell {w : World} {v : Value} {l : List (BitVec 8)} (h : BS w v l) {a : Option Addr} {n c : Nat} (e : v = .slice a n c) (i : Nat) (hi : i < l.length) : ∃ b o, a = some ⟨b, o, none⟩ ∧ w.cell? ⟨b, o + i, none⟩ = some (U8 (l.getD i 0)) := by
  obtain ⟨b, o, cap, e2, -, hc⟩ := h.open (by intro e; rw [e] at hi; simp at hi)
  rw [e] at e2
  injection e2 with e3 _ _
  exact ⟨b, o, e3, hc i hi⟩
theorem ob_pair {w w' : World} {B : Nat} {u u' v : Value} {b : List (BitVec 8)} (o : Obj) (hov : OB w B v b) (hsep : ∀ g, u.ownBlock = some g → v.ownBlock ≠ some g) (hg : (w.alloc o).grownBy w' u.ownBlock)
    (hd : u'.ownBlock = u.ownBlock ∨ u'.ownBlock = some (w.alloc o).heap.size) : OB w' B v b ∧ (∀ g, u'.ownBlock = some g → v.ownBlock ≠ some g) := by
  refine ⟨OB.kept (hov.alloc o) hg ?_, fun g h1 h2 => ?_⟩
  · cases hv : v.ownBlock with
    | none => exact .inl rfl
    | some g => exact .inr (fun e => hsep g e.symm hv)
  · rcases hd with hd | hd
    · exact hsep g (hd ▸ h1) h2
    · have h3 := (hov.lt g h2).2
      rw [h1] at hd
      injection hd with hd
      simp at hd; omega
theorem rsumD {w : World} {v : Value} {l D : List (BitVec 8)} (hD : D = Sh.sum l) (hv : BS w v l) (hn : l.length ≤ 1073741000) :
    Calls Tryd.prog 61 #[v] w fun e w' => e = .returned (.agg (cs U8 D)) ∧ Below w.heap.size w w' := by
  rw [hD]; exact rsum_any w v l hv hn
set_option maxRecDepth 100000 in
set_option maxHeartbeats 2000000 in
/-- the loop and what stands behind it -/
theorem rmac_any (w : World) (v0 v1 : Value) (k m : List (BitVec 8)) (h0 : BS w v0 k) (h1 : BS w v1 m) (hkl : k.length ≤ 1073740000) (hml : m.length ≤ 1073740000) :
    Calls Tryd.prog 47 #[v0, v1] w fun e w' => e = .returned (.agg (cs U8 (Sh.mac k m))) ∧ Below w.heap.size w w' := by
  obtain ⟨n, hn⟩ : ∃ n, n = k.length := ⟨_, rfl⟩
  obtain ⟨av, cv, rfl, hcv⟩ := h0.shape' n hn.symm
  obtain ⟨K, hK⟩ : ∃ K, K = Sh.key0 k := ⟨_, rfl⟩
  have hKl : K.length ≤ 64 := by rw [hK]; exact Sh.key0_len k
  obtain ⟨D, hD⟩ : ∃ D, D = Sh.sum (Sh.padB K 54 ++ m) := ⟨_, rfl⟩
  have hDl : D.length = 32 := by rw [hD]; rfl
  obtain ⟨E, hE⟩ : ∃ E, E = Sh.sum (Sh.padB K 92 ++ D) := ⟨_, rfl⟩
  have hEl : E.length = 32 := by rw [hE]; rfl
  have hmac : Sh.mac k m = E := by rw [hE, hD, hK]; rfl
  have hp1 : (Sh.padB K 54).length = 64 := Sh.padB_len _ _ hKl
  have hp2 : (Sh.padB K 92).length = 64 := Sh.padB_len _ _ hKl
  rw [hmac]
  have HN := hid hn; have HD := hid hD; have HE := hid hE; have HK := hid hK; have HP1 := hid hp1; have HP2 := hid hp2; have HEL := hid hEl; have HDL := hid hDl
  have ha : Below w.heap.size w (w.alloc (.cells (cs U8 (zs 32)) 23)) := (Below.refl _ _).alloc (Nat.le_refl _) _
  have hra : (w.alloc (.cells (cs U8 (zs 32)) 23)).rowOf w.heap.size = cs U8 (zs 32) := rowOf_alloc_at _ _ _ rfl
  have hfa : (w.alloc (.cells (cs U8 (zs 32)) 23)).free w.heap.size = true := free_alloc_at _ _ _ rfl
  have hsa : (w.alloc (.cells (cs U8 (zs 32)) 23)).heap.size = w.heap.size + 1 := by simp
  obtain ⟨wa, hwa⟩ : ∃ wa, wa = w.alloc (.cells (cs U8 (zs 32)) 23) := ⟨_, rfl⟩
  have HV0 : Hid (BS wa (.slice av n cv) k) := hid (by rw [hwa]; exact SV.alloc h0 _)
  have HV1 : Hid (BS wa v1 m) := hid (by rw [hwa]; exact SV.alloc h1 _)
  rw [← hwa] at ha hra hfa hsa
  have HWA := hid hwa
  have HRA := hid hra; have HFA := hid hfa
  clear hD hE hK hp1 hp2 hmac hn hwa hra hfa hEl hDl h0 h1
  by_cases h64 : (64 : Int) < n
  · obtain ⟨S, hS⟩ : ∃ S, S = Sh.sum k := ⟨_, rfl⟩
    have hSl : S.length = 32 := by rw [hS]; rfl
    have hKS : K = S := by rw [HK.out, hS]; unfold Sh.key0; rw [if_pos (by rw [← HN.out]; omega)]
    have HS := hid hS; have HKS := hid hKS; have HSL := hid hSl
    clear hS hKS hSl
    go_enter Tryd.func47, Tryd.ntmps47
    go_wp2_with fail
    rw [← HWA.out]
    with_reducible refine (rsumD HS.out HV0.out (by omega)).mono ?_
    rintro e w1 ⟨rfl, hb1⟩
    dsimp only
    go_wp2_with fail
    with_reducible refine (rbytes_any w1 S HSL.out).mono ?_
    rintro e wb ⟨uk, rfl, hok, hbb⟩
    obtain ⟨ak, ck, rfl, hck⟩ := hok.bs.shape' 32 HSL.out
    have HKN : Hid (K.length = 32) := hid (by rw [HKS.out]; exact HSL.out)
    have HVK : Hid (BS wb (.slice ak 32 ck) K) := hid (by rw [HKS.out]; exact hok.bs)
    have HBB : Hid (Below (w.heap.size + 1) wa wb) := hid (by rw [← hsa]; exact hb1.trans (hbb.mono hb1.size))
    have hzb : w.heap.size + 1 ≤ wb.heap.size := by have h1 := hb1.size; have h2 := hbb.size; omega
    clear hok hb1 hbb
    dsimp only
    go_wp2_with fail
    go_loopw [5, 6, 7, 8] (fun u v t _ wr => ∃ i : Nat, i ≤ 64 ∧ t = .int .i64 i ∧ OB wr wb.heap.size u ((Sh.padB K 54).take i) ∧ OB wr wb.heap.size v ((Sh.padB K 92).take i) ∧ (∀ g, u.ownBlock = some g → v.ownBlock ≠ some g) ∧ Below wb.heap.size wb wr) (fun _ _ t _ _ => 64 - (intOf t).toNat)
    case atStart => exact ⟨0, by omega, rfl, OB.nil _ _, OB.nil _ _, (fun g h => by cases h), Below.refl _ _⟩
    case round =>
      obtain ⟨i, hi, rfl, hou, hov, hsep, hbw⟩ := hrel
      have hz := hbw.size
      by_cases hlt : i < 64
      · have q0 : (0 : Int) ≤ i := by omega
        have q1 : (i : Int) < 64 := by omega
        have t1 := hid (take_succ_getD (Sh.padB K 54) 0 i (by rw [HP1.out]; exact hlt))
        have t2 := hid (take_succ_getD (Sh.padB K 92) 0 i (by rw [HP2.out]; exact hlt))
        have l1 : Hid (((Sh.padB K 54).take i).length + 1 ≤ 140737488355328) := hid (by simp; omega)
        have l2 : Hid (((Sh.padB K 92).take i).length + 1 ≤ 140737488355328) := hid (by simp; omega)
        obtain ⟨y, hy⟩ : ∃ y, y = K.getD i 0 := ⟨_, rfl⟩
        have g1 : Hid ((Sh.padB K 54).getD i 0 = y ^^^ 54) := hid (by rw [hy]; exact padB_get K 54 i hlt)
        have g2 : Hid ((Sh.padB K 92).getD i 0 = y ^^^ 92) := hid (by rw [hy]; exact padB_get K 92 i hlt)
        have HSEP := hid hsep
        clear hsep
        by_cases hik : i < 32
        · have HBK : BS wr (.slice ak 32 ck) K := SV.below HVK.out hbw
          obtain ⟨kb, ko, ka, hcell⟩ := HBK.getD_cell rfl i (by rw [HKN.out]; exact hik)
          rw [← hy] at hcell
          subst ka
          have q2 : (i : Int) < 32 := by omega
          clear hy HBK
          go_wp2_with (first
            | (refine wpList_apbd rfl (.tmp 27) (.tmp 30) rfl wb.heap.size _ _ ((Sh.padB K 54).take i) [(Sh.padB K 54).getD i 0] rfl (OB.alloc hou _) rfl (BS.one _ _ _ (by rw [g1.out]; rfl) _) l1.out (by simp; omega) ?_; rintro v3 w3 hown3 hg3 hd3; have hb3 : Below wb.heap.size wb w3 := ob_below1 _ hbw hou hz hg3; obtain ⟨hov3, hsep3⟩ := ob_pair _ hov HSEP.out hg3 hd3; have hz3 := hb3.size)
            | (refine wpList_apbd rfl (.tmp 32) (.tmp 35) rfl wb.heap.size _ _ ((Sh.padB K 92).take i) [(Sh.padB K 92).getD i 0] rfl (OB.alloc hov3 _) rfl (BS.one _ _ _ (by rw [g2.out]; rfl) _) l2.out (by simp; omega) ?_; rintro v4 w4 hown4 hg4 hd4; have hb4 : Below wb.heap.size wb w4 := ob_below1 _ hb3 hov3 hz3 hg4; obtain ⟨hou4, hsep4⟩ := ob_pair _ hown3 (fun g h1 h2 => hsep3 g h2 h1) hg4 hd4))
          go_roundw
          case rel => exact ⟨i + 1, by omega, by go_num, by rw [t1.out]; exact hou4, by rw [t2.out]; exact hown4, fun g h1 h2 => hsep4 g h2 h1, hb4⟩
          case measure => simp [intOf]; omega
        · have hz0 : y = 0 := by rw [hy, List.getD_eq_getElem?_getD, List.getElem?_eq_none (by rw [HKN.out]; omega)]; rfl
          have HZ0 := hid hz0
          have q2 : ¬ (i : Int) < 32 := by omega
          clear hz0 hy
          go_wp2_with (first
            | (refine wpList_apbd rfl (.tmp 27) (.tmp 30) rfl wb.heap.size _ _ ((Sh.padB K 54).take i) [(Sh.padB K 54).getD i 0] rfl (OB.alloc hou _) rfl (BS.one _ _ _ (by rw [g1.out, HZ0.out]; rfl) _) l1.out (by simp; omega) ?_; rintro v3 w3 hown3 hg3 hd3; have hb3 : Below wb.heap.size wb w3 := ob_below1 _ hbw hou hz hg3; obtain ⟨hov3, hsep3⟩ := ob_pair _ hov HSEP.out hg3 hd3; have hz3 := hb3.size)
            | (refine wpList_apbd rfl (.tmp 32) (.tmp 35) rfl wb.heap.size _ _ ((Sh.padB K 92).take i) [(Sh.padB K 92).getD i 0] rfl (OB.alloc hov3 _) rfl (BS.one _ _ _ (by rw [g2.out, HZ0.out]; rfl) _) l2.out (by simp; omega) ?_; rintro v4 w4 hown4 hg4 hd4; have hb4 : Below wb.heap.size wb w4 := ob_below1 _ hb3 hov3 hz3 hg4; obtain ⟨hou4, hsep4⟩ := ob_pair _ hown3 (fun g h1 h2 => hsep3 g h2 h1) hg4 hd4))
          go_roundw
          case rel => exact ⟨i + 1, by omega, by go_num, by rw [t1.out]; exact hou4, by rw [t2.out]; exact hown4, fun g h1 h2 => hsep4 g h2 h1, hb4⟩
          case measure => simp [intOf]; omega
      · have hi64 : i = 64 := by omega
        subst hi64
        have e1 : (Sh.padB K 54).take 64 = Sh.padB K 54 := List.take_of_length_le (by rw [HP1.out]; exact Nat.le_refl _)
        have e2 : (Sh.padB K 92).take 64 = Sh.padB K 92 := List.take_of_length_le (by rw [HP2.out]; exact Nat.le_refl _)
        rw [e1] at hou; rw [e2] at hov
        have HOU := hid hou.bs; have HOV := hid hov.bs
        clear e1 e2 hou hov
        have HM1 : Hid (BS wr v1 m) := hid (BS.below (BS.below HV1.out (by rw [hsa]; exact HBB.out)) hbw)
        go_wp2_with fail
        with_reducible refine (rjoin_any wr _ _ (Sh.padB K 54) m HOU.out HM1.out (by rw [HP1.out]; omega)).mono ?_
        rintro e w2 ⟨u2, rfl, ho2, hb2⟩
        dsimp only
        go_wp2_with fail
        with_reducible refine (rsumD HD.out ho2.bs (by rw [List.length_append, HP1.out]; omega)).mono ?_
        rintro e w3 ⟨rfl, hb3⟩
        dsimp only
        go_wp2_with fail
        with_reducible refine (rbytes_any w3 D HDL.out).mono ?_
        rintro e w4 ⟨u4, rfl, ho4, hb4⟩
        have hb24 : Below wr.heap.size wr w4 := (hb2.trans (hb3.mono hb2.size)).trans (hb4.mono (Nat.le_trans hb2.size hb3.size))
        dsimp only
        go_wp2_with fail
        with_reducible refine (rjoin_any w4 _ _ (Sh.padB K 92) D (BS.below HOV.out hb24) ho4.bs (by rw [HP2.out, HDL.out]; omega)).mono ?_
        rintro e w5 ⟨u5, rfl, ho5, hb5⟩
        dsimp only
        go_wp2_with fail
        with_reducible refine (rsumD HE.out ho5.bs (by rw [List.length_append, HP2.out, HDL.out]; omega)).mono ?_
        rintro e w6 ⟨rfl, hb6⟩
        have hb26 : Below wr.heap.size wr w6 := (hb24.trans (hb5.mono hb24.size)).trans (hb6.mono (Nat.le_trans hb24.size hb5.size))
        have HB6 := hid (HBB.out.trans ((hbw.trans (hb26.mono hz)).mono hzb))
        have r6 : w6.rowOf w.heap.size = cs U8 (zs 32) := (below_row HB6.out (by omega)).trans HRA.out
        have f6 : w6.free w.heap.size = true := (below_free HB6.out (by omega)).trans HFA.out
        have hEl := HEL.out
        clear hb2 hb3 hb4 hb5 hb6 hb24 hb26 hbw
        dsimp only
        go_wp2_with fail
        refine bodyPost_ret (res_row (b := w.heap.size) rfl Tryd.underlying23 rfl inf_key _ _ rfl ?_) rfl ?_
        · rw [rowOf_setRow_same _ f6, cs_size]; exact hEl
        · rw [rowOf_setRow_same _ f6]
          exact ⟨rfl, below_setRow' (ha.trans (HB6.out.mono (by omega))) (Nat.le_refl _) _⟩
  · have hKS : K = k := by rw [HK.out]; unfold Sh.key0; rw [if_neg (by rw [← HN.out]; omega)]
    have HKS := hid hKS
    clear hKS
    go_enter Tryd.func47, Tryd.ntmps47
    go_wp2_with fail
    rw [← HWA.out]
    obtain ⟨wb, hwb⟩ : ∃ wb, wb = wa := ⟨_, rfl⟩
    have HKN : Hid (K.length = n) := hid (by rw [HKS.out]; exact HN.out.symm)
    have HVK : Hid (BS wb (.slice av n cv) K) := hid (by rw [HKS.out, hwb]; exact HV0.out)
    have HBB : Hid (Below (w.heap.size + 1) wa wb) := hid (by rw [hwb]; exact Below.refl _ _)
    have hzb : w.heap.size + 1 ≤ wb.heap.size := by rw [hwb]; omega
    rw [← hwb]
    clear hwb
    go_loopw [5, 6, 7, 8] (fun u v t _ wr => ∃ i : Nat, i ≤ 64 ∧ t = .int .i64 i ∧ OB wr wb.heap.size u ((Sh.padB K 54).take i) ∧ OB wr wb.heap.size v ((Sh.padB K 92).take i) ∧ (∀ g, u.ownBlock = some g → v.ownBlock ≠ some g) ∧ Below wb.heap.size wb wr) (fun _ _ t _ _ => 64 - (intOf t).toNat)
    case atStart => exact ⟨0, by omega, rfl, OB.nil _ _, OB.nil _ _, (fun g h => by cases h), Below.refl _ _⟩
    case round =>
      obtain ⟨i, hi, rfl, hou, hov, hsep, hbw⟩ := hrel
      have hz := hbw.size
      by_cases hlt : i < 64
      · have q0 : (0 : Int) ≤ i := by omega
        have q1 : (i : Int) < 64 := by omega
        have t1 := hid (take_succ_getD (Sh.padB K 54) 0 i (by rw [HP1.out]; exact hlt))
        have t2 := hid (take_succ_getD (Sh.padB K 92) 0 i (by rw [HP2.out]; exact hlt))
        have l1 : Hid (((Sh.padB K 54).take i).length + 1 ≤ 140737488355328) := hid (by simp; omega)
        have l2 : Hid (((Sh.padB K 92).take i).length + 1 ≤ 140737488355328) := hid (by simp; omega)
        obtain ⟨y, hy⟩ : ∃ y, y = K.getD i 0 := ⟨_, rfl⟩
        have g1 : Hid ((Sh.padB K 54).getD i 0 = y ^^^ 54) := hid (by rw [hy]; exact padB_get K 54 i hlt)
        have g2 : Hid ((Sh.padB K 92).getD i 0 = y ^^^ 92) := hid (by rw [hy]; exact padB_get K 92 i hlt)
        have HSEP := hid hsep
        clear hsep
        by_cases hik : i < n
        · have HBK : BS wr (.slice av n cv) K := SV.below HVK.out hbw
          obtain ⟨kb, ko, ka, hcell⟩ := HBK.getD_cell rfl i (by rw [HKN.out]; exact hik)
          rw [← hy] at hcell
          subst ka
          have q2 : (i : Int) < n := by omega
          clear hy HBK
          go_wp2_with (first
            | (refine wpList_apbd rfl (.tmp 27) (.tmp 30) rfl wb.heap.size _ _ ((Sh.padB K 54).take i) [(Sh.padB K 54).getD i 0] rfl (OB.alloc hou _) rfl (BS.one _ _ _ (by rw [g1.out]; rfl) _) l1.out (by simp; omega) ?_; rintro v3 w3 hown3 hg3 hd3; have hb3 : Below wb.heap.size wb w3 := ob_below1 _ hbw hou hz hg3; obtain ⟨hov3, hsep3⟩ := ob_pair _ hov HSEP.out hg3 hd3; have hz3 := hb3.size)
            | (refine wpList_apbd rfl (.tmp 32) (.tmp 35) rfl wb.heap.size _ _ ((Sh.padB K 92).take i) [(Sh.padB K 92).getD i 0] rfl (OB.alloc hov3 _) rfl (BS.one _ _ _ (by rw [g2.out]; rfl) _) l2.out (by simp; omega) ?_; rintro v4 w4 hown4 hg4 hd4; have hb4 : Below wb.heap.size wb w4 := ob_below1 _ hb3 hov3 hz3 hg4; obtain ⟨hou4, hsep4⟩ := ob_pair _ hown3 (fun g h1 h2 => hsep3 g h2 h1) hg4 hd4))
          go_roundw
          case rel => exact ⟨i + 1, by omega, by go_num, by rw [t1.out]; exact hou4, by rw [t2.out]; exact hown4, fun g h1 h2 => hsep4 g h2 h1, hb4⟩
          case measure => simp [intOf]; omega
        · have hz0 : y = 0 := by rw [hy, List.getD_eq_getElem?_getD, List.getElem?_eq_none (by rw [HKN.out]; omega)]; rfl
          have HZ0 := hid hz0
          have q2 : ¬ (i : Int) < n := by omega
          clear hz0 hy
          go_wp2_with (first
            | (refine wpList_apbd rfl (.tmp 27) (.tmp 30) rfl wb.heap.size _ _ ((Sh.padB K 54).take i) [(Sh.padB K 54).getD i 0] rfl (OB.alloc hou _) rfl (BS.one _ _ _ (by rw [g1.out, HZ0.out]; rfl) _) l1.out (by simp; omega) ?_; rintro v3 w3 hown3 hg3 hd3; have hb3 : Below wb.heap.size wb w3 := ob_below1 _ hbw hou hz hg3; obtain ⟨hov3, hsep3⟩ := ob_pair _ hov HSEP.out hg3 hd3; have hz3 := hb3.size)
            | (refine wpList_apbd rfl (.tmp 32) (.tmp 35) rfl wb.heap.size _ _ ((Sh.padB K 92).take i) [(Sh.padB K 92).getD i 0] rfl (OB.alloc hov3 _) rfl (BS.one _ _ _ (by rw [g2.out, HZ0.out]; rfl) _) l2.out (by simp; omega) ?_; rintro v4 w4 hown4 hg4 hd4; have hb4 : Below wb.heap.size wb w4 := ob_below1 _ hb3 hov3 hz3 hg4; obtain ⟨hou4, hsep4⟩ := ob_pair _ hown3 (fun g h1 h2 => hsep3 g h2 h1) hg4 hd4))
          go_roundw
          case rel => exact ⟨i + 1, by omega, by go_num, by rw [t1.out]; exact hou4, by rw [t2.out]; exact hown4, fun g h1 h2 => hsep4 g h2 h1, hb4⟩
          case measure => simp [intOf]; omega
      · have hi64 : i = 64 := by omega
        subst hi64
        have e1 : (Sh.padB K 54).take 64 = Sh.padB K 54 := List.take_of_length_le (by rw [HP1.out]; exact Nat.le_refl _)
        have e2 : (Sh.padB K 92).take 64 = Sh.padB K 92 := List.take_of_length_le (by rw [HP2.out]; exact Nat.le_refl _)
        rw [e1] at hou; rw [e2] at hov
        have HOU := hid hou.bs; have HOV := hid hov.bs
        clear e1 e2 hou hov
        have HM1 : Hid (BS wr v1 m) := hid (BS.below (BS.below HV1.out (by rw [hsa]; exact HBB.out)) hbw)
        go_wp2_with fail
        with_reducible refine (rjoin_any wr _ _ (Sh.padB K 54) m HOU.out HM1.out (by rw [HP1.out]; omega)).mono ?_
        rintro e w2 ⟨u2, rfl, ho2, hb2⟩
        dsimp only
        go_wp2_with fail
        with_reducible refine (rsumD HD.out ho2.bs (by rw [List.length_append, HP1.out]; omega)).mono ?_
        rintro e w3 ⟨rfl, hb3⟩
        dsimp only
        go_wp2_with fail
        with_reducible refine (rbytes_any w3 D HDL.out).mono ?_
        rintro e w4 ⟨u4, rfl, ho4, hb4⟩
        have hb24 : Below wr.heap.size wr w4 := (hb2.trans (hb3.mono hb2.size)).trans (hb4.mono (Nat.le_trans hb2.size hb3.size))
        dsimp only
        go_wp2_with fail
        with_reducible refine (rjoin_any w4 _ _ (Sh.padB K 92) D (BS.below HOV.out hb24) ho4.bs (by rw [HP2.out, HDL.out]; omega)).mono ?_
        rintro e w5 ⟨u5, rfl, ho5, hb5⟩
        dsimp only
        go_wp2_with fail
        with_reducible refine (rsumD HE.out ho5.bs (by rw [List.length_append, HP2.out, HDL.out]; omega)).mono ?_
        rintro e w6 ⟨rfl, hb6⟩
        have hb26 : Below wr.heap.size wr w6 := (hb24.trans (hb5.mono hb24.size)).trans (hb6.mono (Nat.le_trans hb24.size hb5.size))
        have HB6 := hid (HBB.out.trans ((hbw.trans (hb26.mono hz)).mono hzb))
        have r6 : w6.rowOf w.heap.size = cs U8 (zs 32) := (below_row HB6.out (by omega)).trans HRA.out
        have f6 : w6.free w.heap.size = true := (below_free HB6.out (by omega)).trans HFA.out
        have hEl := HEL.out
        clear hb2 hb3 hb4 hb5 hb6 hb24 hb26 hbw
        dsimp only
        go_wp2_with fail
        refine bodyPost_ret (res_row (b := w.heap.size) rfl Tryd.underlying23 rfl inf_key _ _ rfl ?_) rfl ?_
        · rw [rowOf_setRow_same _ f6, cs_size]; exact hEl
        · rw [rowOf_setRow_same _ f6]
          exact ⟨rfl, below_setRow' (ha.trans (HB6.out.mono (by omega))) (Nat.le_refl _) _⟩
end Go.Proofs.YtbigmnhjnjeeaaaDoor
