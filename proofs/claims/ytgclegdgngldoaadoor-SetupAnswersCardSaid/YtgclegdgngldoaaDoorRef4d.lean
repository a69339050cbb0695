/-
  Walks of reference 04: the bytes of a key, bytes joined, a tag's first half; own work.
  Walks of reference 04: a tag's first half, and the tag; own work.
  Walks of reference 04: the tag; own work.
  Walk of reference 04: as many bytes as one likes; own work.
-/
import Derived.Test.YtgclegdgngldoaaDoorStr
import Derived.Test.YtgclegdgngldoaaDoorHmac1
set_option linter.unusedSimpArgs false
set_option linter.unusedVariables false
namespace Go.Proofs.YtgclegdgngldoaaDoor
open Go.RowKit

theorem row_cell {w : World} {g : Nat} {L : List (BitVec 8)} (h : w.rowOf g = cs U8 L) (i : Nat) (hi : i < L.length) : w.cell? ⟨g, i, none⟩ = some (U8 (L.getD i 0)) := by
  rw [cell_rowOf, h, cs_get_lt hi, List.getD_eq_getElem?_getD, List.getElem?_eq_getElem hi]; rfl
theorem take_succ_getD {α : Type} (l : List α) (d : α) (i : Nat) (h : i < l.length) : l.take (i + 1) = l.take i ++ [l.getD i d] := by
  rw [List.take_succ_eq_append_getElem h, List.getD_eq_getElem?_getD, List.getElem?_eq_getElem h]; rfl
set_option maxRecDepth 100000 in
set_option maxHeartbeats 1000000 in
theorem rbytes_any (w : World) (l : List (BitVec 8)) (hl : l.length = 32) :
    Calls Tryd.prog 53 #[.agg (cs U8 l)] w fun e w' => ∃ u, e = .returned u ∧ OB w' w.heap.size u l ∧ Below w.heap.size w w' := by
  have HL := hid hl
  go_enter Tryd.func53, Tryd.ntmps53
  go_wp2_with fail
  have ha : Below w.heap.size w (w.alloc (.cells (cs U8 l) 23)) := (Below.refl _ _).alloc (Nat.le_refl _) _
  have hra : (w.alloc (.cells (cs U8 l) 23)).rowOf w.heap.size = cs U8 l := rowOf_alloc_at _ _ _ rfl
  have hsa : (w.alloc (.cells (cs U8 l) 23)).heap.size = w.heap.size + 1 := by simp
  obtain ⟨wa, hwa⟩ : ∃ wa, wa = w.alloc (.cells (cs U8 l) 23) := ⟨_, rfl⟩
  rw [← hwa] at ha hra hsa
  rw [← hwa]
  have HR := hid hra
  clear hwa hra hl
  go_loopw [3, 4] (fun u t wr => ∃ i : Nat, i ≤ 32 ∧ t = .int .i64 i ∧ OB wr (w.heap.size + 1) u (l.take i) ∧ Below (w.heap.size + 1) wa wr) (fun _ t _ => 32 - (intOf t).toNat)
  case atStart => exact ⟨0, by omega, rfl, OB.nil _ _, Below.refl _ _⟩
  case round =>
    obtain ⟨i, hi, rfl, hov, hbw⟩ := hrel
    have hz := hbw.size
    by_cases hlt : i < 32
    · have k1 := row_cell ((below_row hbw (by omega)).trans HR.out) i (by rw [HL.out]; exact hlt)
      have q0 : (0 : Int) ≤ i := by omega
      have q1 : (i : Int) < 32 := by omega
      have hlen : Hid ((l.take i).length + 1 ≤ 140737488355328) := hid (by simp; omega)
      have hts := hid (take_succ_getD l 0 i (by rw [HL.out]; exact hlt))
      go_wp2_with (refine wpList_apb rfl (.tmp 9) (.tmp 13) rfl (w.heap.size + 1) _ _ (l.take i) [l.getD i 0] rfl (OB.alloc hov _) rfl (BS.one _ _ _ rfl _) hlen.out (by simp; omega) ?_; rintro v3 w4 hown3 hg3 -; have HB4 := ob_below1 _ hbw hov (by omega) hg3)
      go_roundw
      case rel => exact ⟨i + 1, by omega, by go_num, by rw [hts.out]; exact hown3, HB4⟩
      case measure => simp [intOf]; omega
    · have : i = 32 := by omega
      subst this
      have e32 : l.take 32 = l := List.take_of_length_le (by rw [HL.out]; exact Nat.le_refl _)
      rw [e32] at hov
      have HV := hid hov
      clear hov e32
      go_wp2_with fail
      go_ret
      exact ⟨_, rfl, HV.out.mono (by omega), ha.trans (hbw.mono (by omega))⟩
set_option maxRecDepth 100000 in
set_option maxHeartbeats 1000000 in
theorem rjoin_any (w : World) (v1 v2 : Value) (a b : List (BitVec 8)) (h1 : BS w v1 a) (h2 : BS w v2 b) (hn : a.length + b.length ≤ 140737488355328) :
    Calls Tryd.prog 92 #[v1, v2] w fun e w' => ∃ u, e = .returned u ∧ OB w' w.heap.size u (a ++ b) ∧ Below w.heap.size w w' := by
  have H1 := hid h1; have H2 := hid h2; have HN := hid hn
  clear h1 h2 hn
  go_enter Tryd.func92, Tryd.ntmps92
  have he : OB (w.alloc (.cells #[] 5)) w.heap.size (.slice (some ⟨w.heap.size, 0, none⟩) 0 0) [] := ⟨rfl, .inr ⟨w.heap.size, 0, #[], rfl, Nat.le_refl _, heap_new' _, Nat.le_refl _, Nat.zero_le _, rfl, rfl⟩⟩
  have hb0 : Below w.heap.size w (w.alloc (.cells #[] 5)) := (Below.refl _ _).alloc (Nat.le_refl _) _
  go_wp2_with (first
    | (refine wpList_apb rfl (.tmp 6) (.tmp 7) rfl w.heap.size _ _ [] a rfl he rfl (SV.below H1.out hb0) (by have := HN.out; simp; omega) (by simp) ?_; rintro v3 w3 hown3 hg3 -; have hb3 : Below w.heap.size w w3 := ob_below hb0 he (by simp) hg3; have hz3 := hb3.size)
    | (refine wpList_apb rfl (.tmp 9) (.tmp 10) rfl w.heap.size _ _ ([] ++ a) b rfl hown3 rfl (SV.below H2.out hb3) (by have := HN.out; simp; omega) hz3 ?_; rintro v4 w4 hown4 hg4 -; have hb4 : Below w.heap.size w w4 := ob_below hb3 hown3 hz3 hg4))
  go_ret
  exact ⟨_, rfl, by simpa using hown4, hb4⟩
end Go.Proofs.YtgclegdgngldoaaDoor
set_option linter.unusedSimpArgs false
set_option linter.unusedVariables false
namespace Go.Proofs.YtgclegdgngldoaaDoor
open Go.RowKit

/-- the first i of n bytes are there -/
def fil (l : List (BitVec 8)) (n i : Nat) : List (BitVec 8) := l.take i ++ zs (n - i)
theorem fil_len (l : List (BitVec 8)) (n i : Nat) (hl : n ≤ l.length) (hi : i ≤ n) : (fil l n i).length = n := by simp [fil]; omega
theorem fil_set (l : List (BitVec 8)) (n i : Nat) (hl : n ≤ l.length) (hi : i < n) : (fil l n i).set i (l.getD i 0) = fil l n (i + 1) := by
  have e1 : (l.take i).length = i := by simp; omega
  have e2 : (zs (n - i) : List (BitVec 8)) = 0 :: zs (n - (i + 1)) := by unfold zs; rw [show n - i = (n - (i + 1)) + 1 by omega, List.replicate_succ]
  unfold fil
  rw [List.set_append_right _ _ (by omega), e1, Nat.sub_self, e2, List.set_cons_zero, take_succ_getD l 0 i (by omega), List.append_assoc]
  rfl
theorem fil_zero (l : List (BitVec 8)) (n : Nat) : fil l n 0 = zs n := by simp [fil]
theorem fil_all (l : List (BitVec 8)) (n : Nat) : fil l n n = l.take n := by simp [fil, zs]
attribute [local irreducible] fil
end Go.Proofs.YtgclegdgngldoaaDoor
set_option linter.unusedSimpArgs false
set_option linter.unusedVariables false
namespace Go.Proofs.YtgclegdgngldoaaDoor
open Go.RowKit

theorem padB_get (k : List (BitVec 8)) (x : BitVec 8) (i : Nat) (hi : i < 64) : (Sh.padB k x).getD i 0 = k.getD i 0 ^^^ x := by
  have hg : ∀ (l : List (BitVec 8)) (j : Nat), l.getD j 0 = (l[j]?).getD 0 := fun l j => List.getD_eq_getElem?_getD
  rw [hg, hg]
  unfold Sh.padB Sh.zeros
  rw [List.getElem?_map, List.getElem?_append]
  by_cases h : i < k.length
  · rw [if_pos h, List.getElem?_eq_getElem h]; rfl
  · rw [if_neg h, List.getElem?_eq_none (l := k) (by omega), List.getElem?_replicate, if_pos (by omega)]
    simp
theorem BS.getD_cell {w : World} {v : Value} {l : List (BitVec 8)} (h : BS w v l) {a : Option Addr} {n c : Nat} (e : v = .slice a n c) (i : Nat) (hi : i < l.length) : ∃ b o, a = some ⟨b, o, none⟩ ∧ w.cell? ⟨b, o + i, none⟩ = some (U8 (l.getD i 0)) := by
  obtain ⟨b, o, cap, e2, -, hc⟩ := h.open (by intro e; rw [e] at hi; simp at hi)
  rw [e] at e2
  injection e2 with e3 _ _
  exact ⟨b, o, e3, hc i hi⟩
theorem ob_pair {w w' : World} {B : Nat} {u u' v : Value} {b : List (BitVec 8)} (o : Obj) (hov : OB w B v b) (hsep : ∀ g, u.ownBlock = some g → v.ownBlock ≠ some g) (hg : (w.alloc o).grownBy w' u.ownBlock)
    (hd : u'.ownBlock = u.ownBlock ∨ u'.ownBlock = some (w.alloc o).heap.size) : OB w' B v b ∧ (∀ g, u'.ownBlock = some g → v.ownBlock ≠ some g) := by
  refine ⟨OB.kept (hov.alloc o) hg ?_, fun g h1 h2 => ?_⟩
  · cases hv : v.ownBlock with
    | none => exact .inl rfl
    | some g => exact .inr (fun e => hsep g e.symm hv)
  · rcases hd with hd | hd
    · exact hsep g (hd ▸ h1) h2
    · have h3 := (hov.lt g h2).2
      rw [h1] at hd
      injection hd with hd
      simp at hd; omega
theorem rsumD {w : World} {v : Value} {l D : List (BitVec 8)} (hD : D = Sh.sum l) (hv : BS w v l) (hn : l.length ≤ 1073741000) :
    Calls Tryd.prog 91 #[v] w fun e w' => e = .returned (.agg (cs U8 D)) ∧ Below w.heap.size w w' := by
  rw [hD]; exact rsum_any w v l hv hn
set_option maxRecDepth 100000 in
set_option maxHeartbeats 2000000 in
/-- the loop and what stands behind it -/
theorem rmac_any (w : World) (v0 v1 : Value) (k m : List (BitVec 8)) (h0 : BS w v0 k) (h1 : BS w v1 m) (hkl : k.length ≤ 1073740000) (hml : m.length ≤ 1073740000) :
    Calls Tryd.prog 68 #[v0, v1] w fun e w' => e = .returned (.agg (cs U8 (Sh.mac k m))) ∧ Below w.heap.size w w' := by
  obtain ⟨n, hn⟩ : ∃ n, n = k.length := ⟨_, rfl⟩
  obtain ⟨av, cv, rfl, hcv⟩ := h0.shape' n hn.symm
  obtain ⟨K, hK⟩ : ∃ K, K = Sh.key0 k := ⟨_, rfl⟩
  have hKl : K.length ≤ 64 := by rw [hK]; exact Sh.key0_len k
  obtain ⟨D, hD⟩ : ∃ D, D = Sh.sum (Sh.padB K 54 ++ m) := ⟨_, rfl⟩
  have hDl : D.length = 32 := by rw [hD]; rfl
  obtain ⟨E, hE⟩ : ∃ E, E = Sh.sum (Sh.padB K 92 ++ D) := ⟨_, rfl⟩
  have hEl : E.length = 32 := by rw [hE]; rfl
  have hmac : Sh.mac k m = E := by rw [hE, hD, hK]; rfl
  have hp1 : (Sh.padB K 54).length = 64 := Sh.padB_len _ _ hKl
  have hp2 : (Sh.padB K 92).length = 64 := Sh.padB_len _ _ hKl
  rw [hmac]
  have HN := hid hn; have HD := hid hD; have HE := hid hE; have HK := hid hK; have HP1 := hid hp1; have HP2 := hid hp2; have HEL := hid hEl; have HDL := hid hDl
  have ha : Below w.heap.size w (w.alloc (.cells (cs U8 (zs 32)) 23)) := (Below.refl _ _).alloc (Nat.le_refl _) _
  have hra : (w.alloc (.cells (cs U8 (zs 32)) 23)).rowOf w.heap.size = cs U8 (zs 32) := rowOf_alloc_at _ _ _ rfl
  have hfa : (w.alloc (.cells (cs U8 (zs 32)) 23)).free w.heap.size = true := free_alloc_at _ _ _ rfl
  have hsa : (w.alloc (.cells (cs U8 (zs 32)) 23)).heap.size = w.heap.size + 1 := by simp
  obtain ⟨wa, hwa⟩ : ∃ wa, wa = w.alloc (.cells (cs U8 (zs 32)) 23) := ⟨_, rfl⟩
  have HV0 : Hid (BS wa (.slice av n cv) k) := hid (by rw [hwa]; exact SV.alloc h0 _)
  have HV1 : Hid (BS wa v1 m) := hid (by rw [hwa]; exact SV.alloc h1 _)
  rw [← hwa] at ha hra hfa hsa
  have HWA := hid hwa
  have HRA := hid hra; have HFA := hid hfa
  clear hD hE hK hp1 hp2 hmac hn hwa hra hfa hEl hDl h0 h1
  by_cases h64 : (64 : Int) < n
  · obtain ⟨S, hS⟩ : ∃ S, S = Sh.sum k := ⟨_, rfl⟩
    have hSl : S.length = 32 := by rw [hS]; rfl
    have hKS : K = S := by rw [HK.out, hS]; unfold Sh.key0; rw [if_pos (by rw [← HN.out]; omega)]
    have HS := hid hS; have HKS := hid hKS; have HSL := hid hSl
    clear hS hKS hSl
    go_enter Tryd.func68, Tryd.ntmps68
    go_wp2_with fail
    rw [← HWA.out]
    with_reducible refine (rsumD HS.out HV0.out (by omega)).mono ?_
    rintro e w1 ⟨rfl, hb1⟩
    dsimp only
    go_wp2_with fail
    with_reducible refine (rbytes_any w1 S HSL.out).mono ?_
    rintro e wb ⟨uk, rfl, hok, hbb⟩
    obtain ⟨ak, ck, rfl, hck⟩ := hok.bs.shape' 32 HSL.out
    have HKN : Hid (K.length = 32) := hid (by rw [HKS.out]; exact HSL.out)
    have HVK : Hid (BS wb (.slice ak 32 ck) K) := hid (by rw [HKS.out]; exact hok.bs)
    have HBB : Hid (Below (w.heap.size + 1) wa wb) := hid (by rw [← hsa]; exact hb1.trans (hbb.mono hb1.size))
    have hzb : w.heap.size + 1 ≤ wb.heap.size := by have h1 := hb1.size; have h2 := hbb.size; omega
    clear hok hb1 hbb
    dsimp only
    go_wp2_with fail
    go_loopw [5, 6, 7, 8] (fun u v t _ wr => ∃ i : Nat, i ≤ 64 ∧ t = .int .i64 i ∧ OB wr wb.heap.size u ((Sh.padB K 54).take i) ∧ OB wr wb.heap.size v ((Sh.padB K 92).take i) ∧ (∀ g, u.ownBlock = some g → v.ownBlock ≠ some g) ∧ Below wb.heap.size wb wr) (fun _ _ t _ _ => 64 - (intOf t).toNat)
    case atStart => exact ⟨0, by omega, rfl, OB.nil _ _, OB.nil _ _, (fun g h => by cases h), Below.refl _ _⟩
    case round =>
      obtain ⟨i, hi, rfl, hou, hov, hsep, hbw⟩ := hrel
      have hz := hbw.size
      by_cases hlt : i < 64
      · have q0 : (0 : Int) ≤ i := by omega
        have q1 : (i : Int) < 64 := by omega
        have t1 := hid (take_succ_getD (Sh.padB K 54) 0 i (by rw [HP1.out]; exact hlt))
        have t2 := hid (take_succ_getD (Sh.padB K 92) 0 i (by rw [HP2.out]; exact hlt))
        have l1 : Hid (((Sh.padB K 54).take i).length + 1 ≤ 140737488355328) := hid (by simp; omega)
        have l2 : Hid (((Sh.padB K 92).take i).length + 1 ≤ 140737488355328) := hid (by simp; omega)
        obtain ⟨y, hy⟩ : ∃ y, y = K.getD i 0 := ⟨_, rfl⟩
        have g1 : Hid ((Sh.padB K 54).getD i 0 = y ^^^ 54) := hid (by rw [hy]; exact padB_get K 54 i hlt)
        have g2 : Hid ((Sh.padB K 92).getD i 0 = y ^^^ 92) := hid (by rw [hy]; exact padB_get K 92 i hlt)
        have HSEP := hid hsep
        clear hsep
        by_cases hik : i < 32
        · have HBK : BS wr (.slice ak 32 ck) K := SV.below HVK.out hbw
          obtain ⟨kb, ko, ka, hcell⟩ := HBK.getD_cell rfl i (by rw [HKN.out]; exact hik)
          rw [← hy] at hcell
          subst ka
          have q2 : (i : Int) < 32 := by omega
          clear hy HBK
          go_wp2_with (first
            | (refine wpList_apbd rfl (.tmp 27) (.tmp 30) rfl wb.heap.size _ _ ((Sh.padB K 54).take i) [(Sh.padB K 54).getD i 0] rfl (OB.alloc hou _) rfl (BS.one _ _ _ (by rw [g1.out]; rfl) _) l1.out (by simp; omega) ?_; rintro v3 w3 hown3 hg3 hd3; have hb3 : Below wb.heap.size wb w3 := ob_below1 _ hbw hou hz hg3; obtain ⟨hov3, hsep3⟩ := ob_pair _ hov HSEP.out hg3 hd3; have hz3 := hb3.size)
            | (refine wpList_apbd rfl (.tmp 32) (.tmp 35) rfl wb.heap.size _ _ ((Sh.padB K 92).take i) [(Sh.padB K 92).getD i 0] rfl (OB.alloc hov3 _) rfl (BS.one _ _ _ (by rw [g2.out]; rfl) _) l2.out (by simp; omega) ?_; rintro v4 w4 hown4 hg4 hd4; have hb4 : Below wb.heap.size wb w4 := ob_below1 _ hb3 hov3 hz3 hg4; obtain ⟨hou4, hsep4⟩ := ob_pair _ hown3 (fun g h1 h2 => hsep3 g h2 h1) hg4 hd4))
          go_roundw
          case rel => exact ⟨i + 1, by omega, by go_num, by rw [t1.out]; exact hou4, by rw [t2.out]; exact hown4, fun g h1 h2 => hsep4 g h2 h1, hb4⟩
          case measure => simp [intOf]; omega
        · have hz0 : y = 0 := by rw [hy, List.getD_eq_getElem?_getD, List.getElem?_eq_none (by rw [HKN.out]; omega)]; rfl
          have HZ0 := hid hz0
          have q2 : ¬ (i : Int) < 32 := by omega
          clear hz0 hy
          go_wp2_with (first
            | (refine wpList_apbd rfl (.tmp 27) (.tmp 30) rfl wb.heap.size _ _ ((Sh.padB K 54).take i) [(Sh.padB K 54).getD i 0] rfl (OB.alloc hou _) rfl (BS.one _ _ _ (by rw [g1.out, HZ0.out]; rfl) _) l1.out (by simp; omega) ?_; rintro v3 w3 hown3 hg3 hd3; have hb3 : Below wb.heap.size wb w3 := ob_below1 _ hbw hou hz hg3; obtain ⟨hov3, hsep3⟩ := ob_pair _ hov HSEP.out hg3 hd3; have hz3 := hb3.size)
            | (refine wpList_apbd rfl (.tmp 32) (.tmp 35) rfl wb.heap.size _ _ ((Sh.padB K 92).take i) [(Sh.padB K 92).getD i 0] rfl (OB.alloc hov3 _) rfl (BS.one _ _ _ (by rw [g2.out, HZ0.out]; rfl) _) l2.out (by simp; omega) ?_; rintro v4 w4 hown4 hg4 hd4; have hb4 : Below wb.heap.size wb w4 := ob_below1 _ hb3 hov3 hz3 hg4; obtain ⟨hou4, hsep4⟩ := ob_pair _ hown3 (fun g h1 h2 => hsep3 g h2 h1) hg4 hd4))
          go_roundw
          case rel => exact ⟨i + 1, by omega, by go_num, by rw [t1.out]; exact hou4, by rw [t2.out]; exact hown4, fun g h1 h2 => hsep4 g h2 h1, hb4⟩
          case measure => simp [intOf]; omega
      · have hi64 : i = 64 := by omega
        subst hi64
        have e1 : (Sh.padB K 54).take 64 = Sh.padB K 54 := List.take_of_length_le (by rw [HP1.out]; exact Nat.le_refl _)
        have e2 : (Sh.padB K 92).take 64 = Sh.padB K 92 := List.take_of_length_le (by rw [HP2.out]; exact Nat.le_refl _)
        rw [e1] at hou; rw [e2] at hov
        have HOU := hid hou.bs; have HOV := hid hov.bs
        clear e1 e2 hou hov
        have HM1 : Hid (BS wr v1 m) := hid (BS.below (BS.below HV1.out (by rw [hsa]; exact HBB.out)) hbw)
        go_wp2_with fail
        with_reducible refine (rjoin_any wr _ _ (Sh.padB K 54) m HOU.out HM1.out (by rw [HP1.out]; omega)).mono ?_
        rintro e w2 ⟨u2, rfl, ho2, hb2⟩
        dsimp only
        go_wp2_with fail
        with_reducible refine (rsumD HD.out ho2.bs (by rw [List.length_append, HP1.out]; omega)).mono ?_
        rintro e w3 ⟨rfl, hb3⟩
        dsimp only
        go_wp2_with fail
        with_reducible refine (rbytes_any w3 D HDL.out).mono ?_
        rintro e w4 ⟨u4, rfl, ho4, hb4⟩
        have hb24 : Below wr.heap.size wr w4 := (hb2.trans (hb3.mono hb2.size)).trans (hb4.mono (Nat.le_trans hb2.size hb3.size))
        dsimp only
        go_wp2_with fail
        with_reducible refine (rjoin_any w4 _ _ (Sh.padB K 92) D (BS.below HOV.out hb24) ho4.bs (by rw [HP2.out, HDL.out]; omega)).mono ?_
        rintro e w5 ⟨u5, rfl, ho5, hb5⟩
        dsimp only
        go_wp2_with fail
        with_reducible refine (rsumD HE.out ho5.bs (by rw [List.length_append, HP2.out, HDL.out]; omega)).mono ?_
        rintro e w6 ⟨rfl, hb6⟩
        have hb26 : Below wr.heap.size wr w6 := (hb24.trans (hb5.mono hb24.size)).trans (hb6.mono (Nat.le_trans hb24.size hb5.size))
        have HB6 := hid (HBB.out.trans ((hbw.trans (hb26.mono hz)).mono hzb))
        have r6 : w6.rowOf w.heap.size = cs U8 (zs 32) := (below_row HB6.out (by omega)).trans HRA.out
        have f6 : w6.free w.heap.size = true := (below_free HB6.out (by omega)).trans HFA.out
        have hEl := HEL.out
        clear hb2 hb3 hb4 hb5 hb6 hb24 hb26 hbw
        dsimp only
        go_wp2_with fail
        refine bodyPost_ret (res_row (b := w.heap.size) rfl Tryd.underlying23 rfl inf_key _ _ rfl ?_) rfl ?_
        · rw [rowOf_setRow_same _ f6, cs_size]; exact hEl
        · rw [rowOf_setRow_same _ f6]
          exact ⟨rfl, below_setRow' (ha.trans (HB6.out.mono (by omega))) (Nat.le_refl _) _⟩
  · have hKS : K = k := by rw [HK.out]; unfold Sh.key0; rw [if_neg (by rw [← HN.out]; omega)]
    have HKS := hid hKS
    clear hKS
    go_enter Tryd.func68, Tryd.ntmps68
    go_wp2_with fail
    rw [← HWA.out]
    obtain ⟨wb, hwb⟩ : ∃ wb, wb = wa := ⟨_, rfl⟩
    have HKN : Hid (K.length = n) := hid (by rw [HKS.out]; exact HN.out.symm)
    have HVK : Hid (BS wb (.slice av n cv) K) := hid (by rw [HKS.out, hwb]; exact HV0.out)
    have HBB : Hid (Below (w.heap.size + 1) wa wb) := hid (by rw [hwb]; exact Below.refl _ _)
    have hzb : w.heap.size + 1 ≤ wb.heap.size := by rw [hwb]; omega
    rw [← hwb]
    clear hwb
    go_loopw [5, 6, 7, 8] (fun u v t _ wr => ∃ i : Nat, i ≤ 64 ∧ t = .int .i64 i ∧ OB wr wb.heap.size u ((Sh.padB K 54).take i) ∧ OB wr wb.heap.size v ((Sh.padB K 92).take i) ∧ (∀ g, u.ownBlock = some g → v.ownBlock ≠ some g) ∧ Below wb.heap.size wb wr) (fun _ _ t _ _ => 64 - (intOf t).toNat)
    case atStart => exact ⟨0, by omega, rfl, OB.nil _ _, OB.nil _ _, (fun g h => by cases h), Below.refl _ _⟩
    case round =>
      obtain ⟨i, hi, rfl, hou, hov, hsep, hbw⟩ := hrel
      have hz := hbw.size
      by_cases hlt : i < 64
      · have q0 : (0 : Int) ≤ i := by omega
        have q1 : (i : Int) < 64 := by omega
        have t1 := hid (take_succ_getD (Sh.padB K 54) 0 i (by rw [HP1.out]; exact hlt))
        have t2 := hid (take_succ_getD (Sh.padB K 92) 0 i (by rw [HP2.out]; exact hlt))
        have l1 : Hid (((Sh.padB K 54).take i).length + 1 ≤ 140737488355328) := hid (by simp; omega)
        have l2 : Hid (((Sh.padB K 92).take i).length + 1 ≤ 140737488355328) := hid (by simp; omega)
        obtain ⟨y, hy⟩ : ∃ y, y = K.getD i 0 := ⟨_, rfl⟩
        have g1 : Hid ((Sh.padB K 54).getD i 0 = y ^^^ 54) := hid (by rw [hy]; exact padB_get K 54 i hlt)
        have g2 : Hid ((Sh.padB K 92).getD i 0 = y ^^^ 92) := hid (by rw [hy]; exact padB_get K 92 i hlt)
        have HSEP := hid hsep
        clear hsep
        by_cases hik : i < n
        · have HBK : BS wr (.slice av n cv) K := SV.below HVK.out hbw
          obtain ⟨kb, ko, ka, hcell⟩ := HBK.getD_cell rfl i (by rw [HKN.out]; exact hik)
          rw [← hy] at hcell
          subst ka
          have q2 : (i : Int) < n := by omega
          clear hy HBK
          go_wp2_with (first
            | (refine wpList_apbd rfl (.tmp 27) (.tmp 30) rfl wb.heap.size _ _ ((Sh.padB K 54).take i) [(Sh.padB K 54).getD i 0] rfl (OB.alloc hou _) rfl (BS.one _ _ _ (by rw [g1.out]; rfl) _) l1.out (by simp; omega) ?_; rintro v3 w3 hown3 hg3 hd3; have hb3 : Below wb.heap.size wb w3 := ob_below1 _ hbw hou hz hg3; obtain ⟨hov3, hsep3⟩ := ob_pair _ hov HSEP.out hg3 hd3; have hz3 := hb3.size)
            | (refine wpList_apbd rfl (.tmp 32) (.tmp 35) rfl wb.heap.size _ _ ((Sh.padB K 92).take i) [(Sh.padB K 92).getD i 0] rfl (OB.alloc hov3 _) rfl (BS.one _ _ _ (by rw [g2.out]; rfl) _) l2.out (by simp; omega) ?_; rintro v4 w4 hown4 hg4 hd4; have hb4 : Below wb.heap.size wb w4 := ob_below1 _ hb3 hov3 hz3 hg4; obtain ⟨hou4, hsep4⟩ := ob_pair _ hown3 (fun g h1 h2 => hsep3 g h2 h1) hg4 hd4))
          go_roundw
          case rel => exact ⟨i + 1, by omega, by go_num, by rw [t1.out]; exact hou4, by rw [t2.out]; exact hown4, fun g h1 h2 => hsep4 g h2 h1, hb4⟩
          case measure => simp [intOf]; omega
        · have hz0 : y = 0 := by rw [hy, List.getD_eq_getElem?_getD, List.getElem?_eq_none (by rw [HKN.out]; omega)]; rfl
          have HZ0 := hid hz0
          have q2 : ¬ (i : Int) < n := by omega
          clear hz0 hy
          go_wp2_with (first
            | (refine wpList_apbd rfl (.tmp 27) (.tmp 30) rfl wb.heap.size _ _ ((Sh.padB K 54).take i) [(Sh.padB K 54).getD i 0] rfl (OB.alloc hou _) rfl (BS.one _ _ _ (by rw [g1.out, HZ0.out]; rfl) _) l1.out (by simp; omega) ?_; rintro v3 w3 hown3 hg3 hd3; have hb3 : Below wb.heap.size wb w3 := ob_below1 _ hbw hou hz hg3; obtain ⟨hov3, hsep3⟩ := ob_pair _ hov HSEP.out hg3 hd3; have hz3 := hb3.size)
            | (refine wpList_apbd rfl (.tmp 32) (.tmp 35) rfl wb.heap.size _ _ ((Sh.padB K 92).take i) [(Sh.padB K 92).getD i 0] rfl (OB.alloc hov3 _) rfl (BS.one _ _ _ (by rw [g2.out, HZ0.out]; rfl) _) l2.out (by simp; omega) ?_; rintro v4 w4 hown4 hg4 hd4; have hb4 : Below wb.heap.size wb w4 := ob_below1 _ hb3 hov3 hz3 hg4; obtain ⟨hou4, hsep4⟩ := ob_pair _ hown3 (fun g h1 h2 => hsep3 g h2 h1) hg4 hd4))
          go_roundw
          case rel => exact ⟨i + 1, by omega, by go_num, by rw [t1.out]; exact hou4, by rw [t2.out]; exact hown4, fun g h1 h2 => hsep4 g h2 h1, hb4⟩
          case measure => simp [intOf]; omega
      · have hi64 : i = 64 := by omega
        subst hi64
        have e1 : (Sh.padB K 54).take 64 = Sh.padB K 54 := List.take_of_length_le (by rw [HP1.out]; exact Nat.le_refl _)
        have e2 : (Sh.padB K 92).take 64 = Sh.padB K 92 := List.take_of_length_le (by rw [HP2.out]; exact Nat.le_refl _)
        rw [e1] at hou; rw [e2] at hov
        have HOU := hid hou.bs; have HOV := hid hov.bs
        clear e1 e2 hou hov
        have HM1 : Hid (BS wr v1 m) := hid (BS.below (BS.below HV1.out (by rw [hsa]; exact HBB.out)) hbw)
        go_wp2_with fail
        with_reducible refine (rjoin_any wr _ _ (Sh.padB K 54) m HOU.out HM1.out (by rw [HP1.out]; omega)).mono ?_
        rintro e w2 ⟨u2, rfl, ho2, hb2⟩
        dsimp only
        go_wp2_with fail
        with_reducible refine (rsumD HD.out ho2.bs (by rw [List.length_append, HP1.out]; omega)).mono ?_
        rintro e w3 ⟨rfl, hb3⟩
        dsimp only
        go_wp2_with fail
        with_reducible refine (rbytes_any w3 D HDL.out).mono ?_
        rintro e w4 ⟨u4, rfl, ho4, hb4⟩
        have hb24 : Below wr.heap.size wr w4 := (hb2.trans (hb3.mono hb2.size)).trans (hb4.mono (Nat.le_trans hb2.size hb3.size))
        dsimp only
        go_wp2_with fail
        with_reducible refine (rjoin_any w4 _ _ (Sh.padB K 92) D (BS.below HOV.out hb24) ho4.bs (by rw [HP2.out, HDL.out]; omega)).mono ?_
        rintro e w5 ⟨u5, rfl, ho5, hb5⟩
        dsimp only
        go_wp2_with fail
        with_reducible refine (rsumD HE.out ho5.bs (by rw [List.length_append, HP2.out, HDL.out]; omega)).mono ?_
        rintro e w6 ⟨rfl, hb6⟩
        have hb26 : Below wr.heap.size wr w6 := (hb24.trans (hb5.mono hb24.size)).trans (hb6.mono (Nat.le_trans hb24.size hb5.size))
        have HB6 := hid (HBB.out.trans ((hbw.trans (hb26.mono hz)).mono hzb))
        have r6 : w6.rowOf w.heap.size = cs U8 (zs 32) := (below_row HB6.out (by omega)).trans HRA.out
        have f6 : w6.free w.heap.size = true := (below_free HB6.out (by omega)).trans HFA.out
        have hEl := HEL.out
        clear hb2 hb3 hb4 hb5 hb6 hb24 hb26 hbw
        dsimp only
        go_wp2_with fail
        refine bodyPost_ret (res_row (b := w.heap.size) rfl Tryd.underlying23 rfl inf_key _ _ rfl ?_) rfl ?_
        · rw [rowOf_setRow_same _ f6, cs_size]; exact hEl
        · rw [rowOf_setRow_same _ f6]
          exact ⟨rfl, below_setRow' (ha.trans (HB6.out.mono (by omega))) (Nat.le_refl _) _⟩
end Go.Proofs.YtgclegdgngldoaaDoor
set_option linter.unusedSimpArgs false
set_option linter.unusedVariables false
namespace Go.Proofs.YtgclegdgngldoaaDoor
open Go.RowKit

theorem okm_len (k i : List (BitVec 8)) : ∀ n, (Sh.okm k i n).length = 32 * n
  | 0 => rfl
  | n + 1 => by
    have h : (Sh.tb k i (n + 1)).length = 32 := rfl
    rw [Sh.okm, List.length_append, okm_len k i n, h]; omega
theorem tb_len (k i : List (BitVec 8)) (n : Nat) : (Sh.tb k i n).length ≤ 32 := by
  cases n with
  | zero => exact Nat.zero_le _
  | succ n => exact Nat.le_refl 32
theorem byte_j (j : Nat) (h : j + 1 ≤ 255) : Value.int .u8 ((j : Int) + 1) = U8 (BitVec.ofNat 8 (j + 1)) := by
  unfold U8; rw [BitVec.toNat_ofNat, Nat.mod_eq_of_lt (by omega)]; rfl
theorem rmacD {w : World} {v0 v1 : Value} {k m D : List (BitVec 8)} (hD : D = Sh.mac k m) (h0 : BS w v0 k) (h1 : BS w v1 m) (hkl : k.length ≤ 1073740000) (hml : m.length ≤ 1073740000) :
    Calls Tryd.prog 68 #[v0, v1] w fun e w' => e = .returned (.agg (cs U8 D)) ∧ Below w.heap.size w w' := by
  rw [hD]; exact rmac_any w v0 v1 k m h0 h1 hkl hml
set_option maxHeartbeats 400000 in
theorem rexpand_bad (w : World) (l : List (BitVec 8)) (v : Value) (n : Int) (hn : n < 0 ∨ 8160 < n) :
    Calls Tryd.prog 74 #[.agg (cs U8 l), v, .int .i64 n] w fun e w' => e = .returned (.tuple #[.slice none 0 0, .int .i64 3]) ∧ Below w.heap.size w w' := by
  by_cases h0 : n < 0
  · go_enter Tryd.func74, Tryd.ntmps74
    go_wp2_with fail
    go_ret2
    exact ⟨rfl, (Below.refl _ _).alloc (Nat.le_refl _) _⟩
  · have h1 : 8160 < n := by omega
    go_enter Tryd.func74, Tryd.ntmps74
    go_wp2_with fail
    go_ret2
    exact ⟨rfl, (Below.refl _ _).alloc (Nat.le_refl _) _⟩
set_option maxRecDepth 100000 in
set_option maxHeartbeats 2000000 in
theorem rexpand_any (w : World) (l info : List (BitVec 8)) (v : Value) (n : Nat) (hl : l.length = 32) (hv : BS w v info) (hil : info.length ≤ 1073730000) (hn : n ≤ 8160) :
    Calls Tryd.prog 74 #[.agg (cs U8 l), v, .int .i64 n] w fun e w' => ∃ u, e = .returned (.tuple #[u, .int .i64 0]) ∧ BS w' u (Sh.expand l info n) ∧ Below w.heap.size w w' := by
  have ha : Below w.heap.size w (w.alloc (.cells (cs U8 l) 23)) := (Below.refl _ _).alloc (Nat.le_refl _) _
  have hra : (w.alloc (.cells (cs U8 l) 23)).rowOf w.heap.size = cs U8 l := rowOf_alloc_at _ _ _ rfl
  have hsa : (w.alloc (.cells (cs U8 l) 23)).heap.size = w.heap.size + 1 := by simp
  have hva : BS (w.alloc (.cells (cs U8 l) 23)) v info := hv.below ha
  obtain ⟨wa, hwa⟩ : ∃ wa, wa = w.alloc (.cells (cs U8 l) 23) := ⟨_, rfl⟩
  rw [← hwa] at ha hra hsa hva
  have HWA := hid hwa; have HRA := hid hra; have HVA := hid hva; have HL := hid hl
  clear hwa hra hva hv hl
  have n0 : ¬ (n : Int) < 0 := by omega
  have n1 : ¬ (8160 : Int) < n := by omega
  go_enter Tryd.func74, Tryd.ntmps74
  go_wp2_with fail
  rw [← HWA.out]
  go_loopw [8, 9, 10] (fun u t c wr => ∃ j : Nat, j ≤ 255 ∧ 32 * j < n + 32 ∧ c = .int .i64 ((j : Int) + 1) ∧ OB wr (w.heap.size + 1) u (Sh.okm l info j) ∧ BS wr t (Sh.tb l info j) ∧ Below (w.heap.size + 1) wa wr) (fun _ _ c _ => 300 - (intOf c).toNat)
  case atStart => exact ⟨0, by omega, by omega, rfl, OB.nil _ _, (OB.nil _ (w.heap.size + 1)).bs, Below.refl _ _⟩
  case round =>
    obtain ⟨j, hj, hjn, rfl, hou, hbt, hbw⟩ := hrel
    have hz := hbw.size
    obtain ⟨au, cu, rfl, hcu⟩ := hou.bs.shape' (32 * j) (okm_len l info j)
    by_cases hlt : 32 * j < n
    · have hj1 : j + 1 ≤ 255 := by omega
      obtain ⟨D, hD⟩ : ∃ D, D = Sh.tb l info (j + 1) := ⟨_, rfl⟩
      have hDl : D.length = 32 := by rw [hD]; rfl
      have hDm : D = Sh.mac l (Sh.tb l info j ++ info ++ [BitVec.ofNat 8 (j + 1)]) := by rw [hD]; rfl
      have hok : Sh.okm l info (j + 1) = Sh.okm l info j ++ D := by rw [hD]; rfl
      have hr3 : wr.rowOf w.heap.size = cs U8 l := (below_row hbw (by omega)).trans HRA.out
      have hrs : (wr.rowOf w.heap.size).size = 32 := by rw [hr3, cs_size]; exact HL.out
      have HR3 := hid hr3; have HDM := hid hDm; have HOK := hid hok; have HDL := hid hDl; have HD := hid hD
      have HBT := hid hbt; have HOU := hid hou
      have HJ := hid (byte_j j hj1)
      have q0 : (32 * (j : Int)) < n := by omega
      have q2 : (0 : Int) ≤ (j : Int) + 1 := by omega
      have q3 : (j : Int) + 1 ≤ 255 := by omega
      clear hr3 hDm hok hDl hD hbt hou
      go_wp2_with fail
      rw [HR3.out]
      with_reducible refine (rbytes_any wr l HL.out).mono ?_
      rintro e w1 ⟨u1, rfl, ho1, hb1⟩
      dsimp only
      go_wp2_with fail
      have hb1' : Below (w.heap.size + 1) wa w1 := hbw.trans (hb1.mono (by omega))
      with_reducible refine (rjoin_any w1 _ _ (Sh.tb l info j) info (HBT.out.below hb1) (BS.below HVA.out (by rw [hsa]; exact hb1')) (by have := tb_len l info j; omega)).mono ?_
      rintro e w2 ⟨u2, rfl, ho2, hb2⟩
      have hz1 := hb1.size; have hz2 := hb2.size
      dsimp only
      go_wp2_with (refine wpList_apb rfl (.tmp 27) (.tmp 30) rfl w1.heap.size _ _ (Sh.tb l info j ++ info) [BitVec.ofNat 8 (j + 1)] rfl (OB.alloc ho2 _) rfl (BS.one _ _ _ HJ.out _) (by have := tb_len l info j; simp; omega) (by simp; omega) ?_; rintro v3 w3 hown3 hg3 -; have hb3 : Below w1.heap.size w1 w3 := ob_below1 _ hb2 ho2 hz2 hg3)
      have hz3 := hb3.size
      with_reducible refine (rmacD HDM.out (ho1.bs.below hb3) hown3.bs (by rw [HL.out]; decide) (by have := tb_len l info j; simp only [List.length_append, List.length_cons, List.length_nil]; omega)).mono ?_
      rintro e w4 ⟨rfl, hb4⟩
      have hz4 := hb4.size
      dsimp only
      go_wp2_with fail
      with_reducible refine (rbytes_any w4 D HDL.out).mono ?_
      rintro e w5 ⟨u5, rfl, ho5, hb5⟩
      have hz5 := hb5.size
      have hbr5 : Below wr.heap.size wr w5 := ((hb1.trans (hb3.mono hz1)).trans (hb4.mono (by omega))).trans (hb5.mono (by omega))
      have hou5 : OB w5 (w.heap.size + 1) (.slice au (32 * j) cu) (Sh.okm l info j) := HOU.out.fr (Fr.of_below hbr5) (fun _ _ h => h)
      have hbw5 : Below (w.heap.size + 1) wa w5 := hbw.trans (hbr5.mono (by omega))
      have HSEP : Hid (u5.ownBlock = none ∨ u5.ownBlock ≠ (Value.slice au (32 * j) cu).ownBlock) := hid (by
        cases hx : u5.ownBlock with
        | none => exact .inl rfl
        | some g => exact .inr (fun e => by have h1 := (ho5.lt g hx).1; have h2 := (HOU.out.lt g e.symm).2; omega))
      dsimp only
      go_wp2_with (refine wpList_apb rfl (.tmp 34) (.tmp 35) rfl (w.heap.size + 1) _ _ (Sh.okm l info j) D rfl hou5 rfl ho5.bs (by rw [okm_len, HDL.out]; omega) (by omega) ?_; rintro v6 w6 hown6 hg6 -; have hb6 : Below (w.heap.size + 1) wa w6 := ob_below hbw5 hou5 (by omega) hg6)
      go_roundw
      case rel => exact ⟨j + 1, by omega, by omega, by go_num, by rw [HOK.out]; exact hown6, by rw [← HD.out]; exact (OB.kept ho5 hg6 HSEP.out).bs, hb6⟩
      case measure => simp [intOf]; omega
    · have q0 : ¬ (32 * (j : Int)) < n := by omega
      have hjj : j = (n + 31) / 32 := by omega
      have HE : Hid ((Sh.okm l info j).take n = Sh.expand l info n) := hid (by rw [hjj]; rfl)
      have hle : n ≤ 32 * j := by omega
      have hh := hou.bs.headn (okm_len l info j) n cu hle (by omega) (Nat.le_refl _)
      rw [HE.out] at hh
      have HH := hid hh
      have q1 : (n : Int) ≤ cu := by omega
      have q2 : (0 : Int) ≤ n := by omega
      clear hh hou hbt hjj
      go_wp2_with fail
      go_ret2
      exact ⟨_, rfl, HH.out, ha.trans (hbw.mono (by omega))⟩
end Go.Proofs.YtgclegdgngldoaaDoor
