/-
  Walks of package sha: the digest; own work.
-/
import Derived.Test.YtbigmnhjnjeeaaaDoorSha3
set_option linter.unusedSimpArgs false
set_option linter.unusedVariables false
namespace Go.Proofs.YtbigmnhjnjeeaaaDoor
open Go.RowKit

theorem be8_val (n k : Nat) (hk : k < 8) : Value.int .u8 ((n : Int) * 8 / 2 ^ (56 - 8 * k) % 256) = U8 ((Sh.be8 n).getD k 0) := by
  have key : ∀ m : Nat, Value.int .u8 (((m : Nat) : Int) % 256) = U8 (BitVec.ofNat 8 m) := fun m => by
    unfold U8; rw [BitVec.toNat_ofNat]; simp
  have e : ((n : Int) * 8 / 2 ^ (56 - 8 * k)) = ((n * 8 / 2 ^ (56 - 8 * k) : Nat) : Int) := by simp
  rw [e, key]
  match k, hk with
  | 0, _ | 1, _ | 2, _ | 3, _ | 4, _ | 5, _ | 6, _ => rfl
  | 7, _ => simp [Sh.be8]
theorem be8_take (n k : Nat) (hk : k < 8) : (Sh.be8 n).take (k + 1) = (Sh.be8 n).take k ++ [(Sh.be8 n).getD k 0] := by
  have hl : k < (Sh.be8 n).length := hk
  rw [List.take_succ_eq_append_getElem hl, List.getD_eq_getElem?_getD, List.getElem?_eq_getElem hl]; rfl
/-- the digest's row while it is written, word by word -/
def outRow (s : Sh.S8) (k : Nat) : List (BitVec 8) := s.bytes.take (4 * k) ++ zs (32 - 4 * k)
theorem outRow_len (s : Sh.S8) (k : Nat) (hk : k ≤ 8) : (outRow s k).length = 32 := by
  simp [outRow, Sh.bytes_len]; omega
theorem outRow_step (s : Sh.S8) (k : Nat) (hk : k < 8) : ((((outRow s k).set (4 * k) ((s.list.getD k 0 >>> 24).setWidth 8)).set (4 * k + 1) ((s.list.getD k 0 >>> 16).setWidth 8)).set (4 * k + 2) ((s.list.getD k 0 >>> 8).setWidth 8)).set (4 * k + 3) ((s.list.getD k 0).setWidth 8) = outRow s (k + 1) := by
  match k, hk with
  | 0, _ | 1, _ | 2, _ | 3, _ | 4, _ | 5, _ | 6, _ | 7, _ => rfl
theorem outRow_zero (s : Sh.S8) : outRow s 0 = zs 32 := by simp [outRow, zs]
theorem outRow_all (s : Sh.S8) : outRow s 8 = s.bytes := by
  have : s.bytes.take 32 = s.bytes := List.take_of_length_le (by rw [Sh.bytes_len]; exact Nat.le_refl _)
  simp [outRow, zs, this]
theorem word_idx (s : Sh.S8) (k : Nat) (hk : k < 8) (w : World) : (Instr.index 92 (.agg (cs U32 s.list)) (.int .i64 k)).run Tryd.prog w = .ok (U32 (s.list.getD k 0)) w := by
  match k, hk with
  | 0, _ | 1, _ | 2, _ | 3, _ | 4, _ | 5, _ | 6, _ | 7, _ => (show _ = _; kernel_rfl)
attribute [local irreducible] outRow
def slLen : Value → Nat | .slice _ n _ => n | _ => 0
set_option maxRecDepth 100000 in
set_option maxHeartbeats 2000000 in
theorem sumh_any (w : World) (b : Nat) (s : Sh.S8) (rest : List (BitVec 8)) (n : Nat) (rv : Value) (hK : KT w) (hb0 : 0 < b) (h : HR w b s rest n rv) (hn : n ≤ 1073741824) (hr : rest.length < 64) :
    Calls Tryd.prog 59 #[.pointer (some ⟨b, 0, none⟩)] w fun e w' => e = .returned (.agg (cs U8 (Sh.digest s rest n))) ∧ Below w.heap.size w w' := by
  obtain ⟨hf, hrow, hown⟩ := h
  have c0 : w.cell? ⟨b, 0, none⟩ = some (.bool true) := hr_c hrow
  have c9 : w.cell? ⟨b, 9, none⟩ = some rv := hr_c hrow
  have c10 : w.cell? ⟨b, 10, none⟩ = some (.int .i64 n) := hr_c hrow
  have hrl : w.rowOf b = #[.bool true, U32 s.a, U32 s.b, U32 s.c, U32 s.d, U32 s.e, U32 s.f, U32 s.g, U32 s.h, rv, .int .i64 n] := hrow
  have hbz := free_lt hf
  have hbz1 : b < w.heap.size + 1 := by omega
  have hbz2 : b < w.heap.size + 1 + 1 := by omega
  obtain ⟨ar, cr, rfl, hcr⟩ := hown.bs.shape
  have HO := hid hown
  have HK := hid hK
  clear hrow hown hK
  go_enter Tryd.func59, Tryd.ntmps59
  go_wp2_with (first
    | (go_at_call 65; refine (good_yes _ _ ?_).mono ?_; simp [*, go_sem]; rintro e w' ⟨rfl, rfl⟩)
    | (refine wpList_apb rfl (.const (.slice none 0 0)) (.tmp 20) rfl (w.heap.size + 3) _ _ [] rest rfl (OB.nil _ _) rfl (SV.alloc (SV.alloc (SV.alloc HO.out.bs _) _) _) (by simp; omega) (by simp) ?_; rintro v1 w1 hown1 hg1 -)
    | (refine wpList_apb rfl (.tmp 22) (.tmp 23) rfl (w.heap.size + 3) _ _ rest [128] rfl (OB.alloc hown1 _) rfl (BS.one _ _ 128 rfl _) (by simp; omega) (by have := hg1.size; simp at this ⊢; omega) ?_; rintro v2 w2 hown2 hg2 -))
  obtain ⟨w3, hw3⟩ : ∃ w3, w3 = ((w.alloc (Obj.cells (cs U8 (zs 32)) 23)).alloc (Obj.cells (cs U8 (zs 32)) 23)).alloc (Obj.cells (cs U32 s.list) 92) := ⟨_, rfl⟩
  have hz3 : w3.heap.size = w.heap.size + 3 := by rw [hw3]; simp
  have hb3 : Below w.heap.size w w3 := by rw [hw3]; exact (((Below.refl _ _).alloc (Nat.le_refl _) _).alloc (by simp) _).alloc (by simp; omega) _
  have hB1 : Below (w.heap.size + 3) w3 w1 := by
    rw [← hz3]; refine gb_to_below (r := none) ?_ _ (Nat.le_refl _) (fun g h => by cases h)
    rw [hw3]; exact hg1
  have hB2 : Below (w.heap.size + 3) w3 w2 := ob_below1 _ hB1 hown1 (by rw [← hz3]; exact hB1.size) hg2
  have r0 : w3.rowOf w.heap.size = cs U8 (zs 32) ∧ w3.free w.heap.size = true := by
    rw [hw3]; constructor <;> simp [go_sem]
  have r1 : w3.rowOf (w.heap.size + 1) = cs U8 (zs 32) ∧ w3.free (w.heap.size + 1) = true := by
    rw [hw3]; constructor <;> simp [go_sem]
  have r2 : w3.rowOf (w.heap.size + 2) = cs U32 s.list ∧ w3.free (w.heap.size + 2) = true := by
    rw [hw3]; constructor <;> simp [go_sem]
  have hz3' : w.heap.size + 3 ≤ w3.heap.size := by omega
  clear c0 c9 hrl hg1 hg2 hown1 hw3 hB1
  have hN1 := hid hb3; have hN2 := hid r0; have hN3 := hid r1; have hN4 := hid r2
  have c10' : ∀ wr, Below (w.heap.size + 3) w3 wr → wr.cell? ⟨b, 10, none⟩ = some (.int .i64 n) := fun wr h => (h.cell (p := ⟨b, 10, none⟩) (by show b < _; omega)).trans ((hb3.cell (p := ⟨b, 10, none⟩) hbz).trans c10)
  have HC := hid c10'
  clear r0 r1 r2 hb3 c10 c10'
  go_loopw [5] (fun v wr => ∃ j, j ≤ Sh.npad rest.length ∧ OB wr (w.heap.size + 3) v (rest ++ [128] ++ Sh.zeros j) ∧ Below (w.heap.size + 3) w3 wr) (fun v _ => 300 - slLen v)
  case atStart => exact ⟨0, by omega, by simpa [Sh.zeros] using hown2, hB2⟩
  case round =>
    obtain ⟨j, hj, hov, hbw⟩ := hrel
    have hpd : Sh.npad rest.length = (119 - rest.length % 64) % 64 := rfl
    have hz := hbw.size
    have hz' : w.heap.size + 3 ≤ wr.heap.size := by omega
    obtain ⟨N, hN⟩ : ∃ N, N = (rest ++ [128] ++ Sh.zeros j).length := ⟨_, rfl⟩
    have hN' : N = rest.length + 1 + j := by rw [hN]; simp [Sh.zeros]; omega
    obtain ⟨av, cv, rfl, hcv⟩ := hov.bs.shape' N hN.symm
    have hNle : N ≤ 200 := by omega
    have HN := hid hN
    clear hB2 hown2 hz3
    by_cases hlt : j < Sh.npad rest.length
    · have h56 : ((N : Int) % 64 != 56) = true := by rw [bne_iff_ne]; omega
      have HN' := hid hN'; have HP := hid hpd
      clear hN hN' hpd
      go_wp2_with (refine wpList_apb rfl (.tmp 29) (.tmp 30) rfl (w.heap.size + 3) _ _ _ [0] rfl (OB.alloc hov _) rfl (BS.one _ _ 0 rfl _) (by rw [← HN.out]; simp; omega) (by simp; omega) ?_; rintro v3 w4 hown3 hg3 -; have HB4 := ob_below1 _ hbw hov hz' hg3)
      go_roundw
      case rel => exact ⟨j + 1, by omega, by simpa [Sh.zeros, List.replicate_succ'] using hown3, HB4⟩
      case measure =>
        obtain ⟨a3, c3, rfl, hc3⟩ := hown3.bs.shape' (N + 1) (by rw [List.length_append, ← HN.out]; rfl)
        show 300 - (N + 1) < 300 - N
        omega
    · have h56 : ((N : Int) % 64 != 56) = false := by rw [bne_eq_false_iff_eq]; omega
      have hje : j = Sh.npad rest.length := by omega
      have HN' := hid hN'; have HP := hid hpd; have HJ := hid hje
      clear hN hN' hpd hje
      obtain ⟨wo, hwo⟩ : ∃ wo : World, wo = wr := ⟨_, rfl⟩
      rw [← hwo] at hov hbw hz'
      rw [← hwo]
      clear hwo hz
      go_wp2_with fail
      go_loopw [5, 6] (fun v i wr => ∃ k : Nat, k ≤ 8 ∧ i = .int .i64 (56 - 8 * (k : Int)) ∧ OB wr (w.heap.size + 3) v (rest ++ [128] ++ Sh.zeros (Sh.npad rest.length) ++ (Sh.be8 n).take k) ∧ Below (w.heap.size + 3) w3 wr) (fun _ i _ => (intOf i + 8).toNat)
      case atStart => exact ⟨0, by omega, rfl, by rw [← HJ.out]; simpa using hov, hbw⟩
      case round =>
        obtain ⟨k, hk, rfl, hok, hbk⟩ := hrel
        have hz := hbk.size
        have hz' : w.heap.size + 3 ≤ wr.heap.size := by omega
        have d10 := HC.out wr hbk
        clear hov hbw
        by_cases hlt : k < 8
        · have i0 : (0 : Int) ≤ 56 - 8 * k := by omega
          go_wp2_with (refine wpList_apb rfl (.tmp 36) (.tmp 46) rfl (w.heap.size + 3) _ _ _ [(Sh.be8 n).getD k 0] rfl (OB.alloc hok _) rfl (BS.one _ _ _ (be8_val n k hlt) _) (by simp [Sh.be8, Sh.zeros, Sh.npad]; omega) (by simp; omega) ?_; rintro v3 w4 hown3 hg3 -; have HB4 := ob_below1 _ hbk hok hz' hg3)
          go_roundw
          case rel => exact ⟨k + 1, by omega, by go_num, by rw [be8_take n k hlt, ← List.append_assoc]; exact hown3, HB4⟩
          case measure => simp [intOf]; omega
        · have hke : k = 8 := by omega
          subst hke
          have hfin : rest ++ [128] ++ Sh.zeros (Sh.npad rest.length) ++ (Sh.be8 n).take 8 = Sh.finish rest n := rfl
          rw [hfin] at hok
          have HOK := hid hok
          have hbs := hok.bs
          have hlo := hok.lt
          have HBS := hid hbs; have HLO := hid hlo
          obtain ⟨wo2, hwo⟩ : ∃ wo : World, wo = wr := ⟨_, rfl⟩
          rw [← hwo] at HBS HLO hbk hz'
          rw [← hwo]
          clear hwo hz hok hbs hlo d10 HOK hfin
          rw [show (56 : Int) - 8 * ((8 : Nat) : Int) = -8 from rfl]
          go_wp2_with fail
          go_loopw [5] (fun v wr => ∃ s' r, BS wr v r ∧ (∀ g, v.ownBlock = some g → w.heap.size + 3 ≤ g) ∧ r.length % 64 = 0 ∧ Sh.absorb s' r = Sh.absorb s (Sh.finish rest n) ∧ wr.free (w.heap.size + 2) = true ∧ wr.rowOf (w.heap.size + 2) = cs U32 s'.list ∧ Below (w.heap.size + 2) w3 wr) (fun v _ => slLen v)
          case atStart =>
            refine ⟨s, Sh.finish rest n, HBS.out, fun g hg => (HLO.out g hg).1, Sh.finish_mod rest n, rfl, ?_, ?_, hbk.mono (by omega)⟩
            · rw [below_free hbk (by omega)]; exact hN4.out.2
            · rw [below_row hbk (by omega)]; exact hN4.out.1
          case round =>
            obtain ⟨s', r, hbs, hlo, hmod, habs, hf2, hr2, hb2⟩ := hrel
            have HM := hid hmod; have HA := hid habs; have HB := hid hbs; have HR2 := hid hr2
            have hz := hb2.size
            by_cases hne : r = []
            · have HNE := hid hne
              obtain ⟨a5, c5, rfl, hc5⟩ := hbs.shape' 0 (by rw [hne]; rfl)
              clear hne hmod habs hbs hr2 hlo
              have hsl : s'.list.length = 8 := rfl
              have q1 : wr.rowOf (w.heap.size + 1 + 1) = cs U32 s'.list := HR2.out
              have q2 : wr.rowOf (w.heap.size + 1) = cs U8 (outRow s' 0) := by
                rw [below_row hb2 (by omega), outRow_zero]; exact hN3.out.1
              have q3 : wr.free (w.heap.size + 1) = true := by
                rw [below_free hb2 (by omega)]; exact hN3.out.2
              have q4 : wr.rowOf w.heap.size = cs U8 (zs 32) := by
                rw [below_row hb2 (by omega)]; exact hN2.out.1
              have q5 : wr.free w.heap.size = true := by
                rw [below_free hb2 (by omega)]; exact hN2.out.2
              have q6 : Below w.heap.size w wr := hN1.out.trans (hb2.mono (by omega))
              have Q2 := hid q2; have Q3 := hid q3; have Q4 := hid q4; have Q5 := hid q5; have Q6 := hid q6
              clear q2 q3 q4 q5 q6 hb2 hf2 hz hbk
              go_wp2_with fail
              obtain ⟨wo3, hwo⟩ : ∃ wo : World, wo = wr := ⟨_, rfl⟩
              rw [← hwo] at Q2 Q3 Q4 Q5 Q6
              rw [← hwo]
              clear hwo q1
              go_loopw [57] (fun t wr => ∃ k : Nat, k ≤ 8 ∧ t = .int .i64 k ∧ wr.rowOf (w.heap.size + 1) = cs U8 (outRow s' k) ∧ wr.free (w.heap.size + 1) = true ∧ wr.rowOf w.heap.size = cs U8 (zs 32) ∧ wr.free w.heap.size = true ∧ Below w.heap.size w wr) (fun t _ => 8 - (intOf t).toNat)
              case atStart => exact ⟨0, by omega, rfl, Q2.out, Q3.out, Q4.out, Q5.out, Q6.out⟩
              case round =>
                obtain ⟨k, hk, rfl, e1, e2, e3, e4, e5⟩ := hrel
                have E3 := hid e3; have E4 := hid e4; have E5 := hid e5
                clear Q2 Q3 Q4 Q5 Q6
                by_cases hlt : k < 8
                · have hidx := word_idx s' k hlt
                  have g0 : 4 * k < 32 := by omega
                  have g1 : 4 * k + 1 < 32 := by omega
                  have g2 : 4 * k + 2 < 32 := by omega
                  have g3 : 4 * k + 3 < 32 := by omega
                  have hlo : (outRow s' k).length = 32 := outRow_len s' k hk
                  clear e3 e4 e5
                  go_wp2_with fail
                  go_roundw
                  case rel =>
                    refine ⟨k + 1, by omega, by go_num, ?_, by rw [free_setRow]; exact e2, by rw [rowOf_setRow_other _ _ (by omega)]; exact E3.out, by rw [free_setRow]; exact E4.out, below_setRow' E5.out (by omega) _⟩
                    rw [rowOf_setRow_same _ e2, ← outRow_step s' k hlt, List.getD_eq_getElem?_getD, List.getElem?_eq_getElem (by exact hlt)]; rfl
                  case measure => simp [intOf]; omega
                · have : k = 8 := by omega
                  subst this
                  have hlo : (outRow s' 8).length = 32 := outRow_len s' 8 (by omega)
                  go_wp2_with fail
                  refine bodyPost_ret (res_row (b := w.heap.size) rfl Tryd.underlying23 rfl inf_key _ _ rfl ?_) rfl ?_
                  · rw [rowOf_setRow_same _ e4]; simp [hlo]
                  · rw [rowOf_setRow_same _ e4, outRow_all]
                    have hab := HA.out
                    rw [HNE.out, Sh.absorb_lt (by simp)] at hab
                    exact ⟨by rw [Sh.digest, ← hab], below_setRow' e5 (Nat.le_refl _) _⟩
            · obtain ⟨b2, o2, cap2, rfl, hcap, hcells⟩ := hbs.open hne
              have hlen : 64 ≤ r.length := by
                have : 0 < r.length := by cases r with | nil => exact absurd rfl hne | cons => simp
                omega
              have hblk : w.heap.size + 3 ≤ b2 := hlo b2 rfl
              have hKr : KT wr := by
                show wr.rowOf _ = _
                rw [below_row hb2 (by omega), below_row hN1.out (by omega)]; exact HK.out
              have HBK := hid (block_any (w.heap.size + 2) 0 b2 o2 64 cap2 s' #[] #[] (r.take 64) wr (Nat.le_refl _) (by omega) hKr (by omega) hf2 (by rw [hr2]; simp) rfl
                (fun i hi => by
                  have := hcells i (by omega)
                  rw [List.getD_eq_getElem?_getD, List.getElem?_take_of_lt hi, ← List.getD_eq_getElem?_getD]; exact this))
              have hpos : (0 : Int) < r.length := by omega
              have hcap' : (64 : Int) ≤ cap2 := by omega
              have h64' : (64 : Int) ≤ r.length := by omega
              clear hne hmod habs hbs hr2 hlo hcells hKr
              have HX : ∀ w4, wr.grownBy w4 (some (w.heap.size + 2)) → ∀ a, (64 < r.length → a = some ⟨b2, o2 + 64, none⟩) → BS w4 (.slice a (r.length - 64) (cap2 - 64)) (r.drop 64) ∧ Below (w.heap.size + 2) w3 w4 := fun w4 hg a ha =>
                ⟨BS.tail (SV.grown HB.out hg (.inr (by simp [Value.ownBlock]; omega))) 64 hlen a ha, hb2.trans (gb_to_below hg _ (by omega) (fun g h => by injection h; omega))⟩
              by_cases hc64 : cap2 = 64
              · subst hc64
                have h65 : (r.length : Int) ≤ 64 := by omega
                go_wp2_with (go_at_call 66; refine HBK.out.mono ?_; rintro e w4 ⟨rfl, hg4, hf4, hr4⟩)
                go_roundw
                case rel =>
                  obtain ⟨x1, x2⟩ := HX w4 hg4 (some ⟨b2, o2, none⟩) (fun h => by omega)
                  refine ⟨Sh.compress s' (r.take 64), r.drop 64, ?_, fun g hg => by have h5 : some b2 = some g := hg; injection h5 with h5; omega, by rw [List.length_drop, ← Nat.mod_eq_sub_mod hlen]; exact HM.out, by rw [← Sh.absorb_ge hlen]; exact HA.out, hf4, by rw [hr4]; simp, x2⟩
                  have e0 : r.length - 64 = 0 := by omega
                  rw [e0] at x1; exact x1
                case measure => show 0 < r.length; omega
              · go_wp2_with (go_at_call 66; refine HBK.out.mono ?_; rintro e w4 ⟨rfl, hg4, hf4, hr4⟩)
                go_roundw
                case rel =>
                  obtain ⟨x1, x2⟩ := HX w4 hg4 (some ⟨b2, o2 + 64, none⟩) (fun h => rfl)
                  exact ⟨Sh.compress s' (r.take 64), r.drop 64, x1, fun g hg => by have h5 : some b2 = some g := hg; injection h5 with h5; omega, by rw [List.length_drop, ← Nat.mod_eq_sub_mod hlen]; exact HM.out, by rw [← Sh.absorb_ge hlen]; exact HA.out, hf4, by rw [hr4]; simp, x2⟩
                case measure => show r.length - 64 < r.length; omega

set_option maxRecDepth 100000 in
set_option maxHeartbeats 1000000 in
theorem sum_any (w : World) (v : Value) (l : List (BitVec 8)) (hK : KT w) (hk0 : 0 < w.heap.size) (hv : BS w v l) (hn : l.length ≤ 1073741824) :
    Calls Tryd.prog 55 #[v] w fun e w' => e = .returned (.agg (cs U8 (Sh.sum l))) ∧ Below w.heap.size w w' := by
  have HK := hid hK
  have HV := hid hv
  clear hK hv
  go_enter Tryd.func55, Tryd.ntmps55
  go_wp2_with fail
  refine (new_any _).mono ?_
  rintro e w1 ⟨b, rfl, hb1, hb2, hr1, hbl1⟩
  have hsz : w.heap.size + 1 ≤ b := by simpa using hb1
  have hbl1' : Below (w.heap.size + 1) (w.alloc (.cells (cs U8 (zs 32)) 23)) w1 := hbl1.mono (by simp)
  have hw1 : Below w.heap.size w w1 := ((Below.refl _ _).alloc (Nat.le_refl _) _).trans (hbl1.mono (by simp))
  have hk1 : KT w1 := by show w1.rowOf _ = _; rw [below_row hw1 hk0]; exact HK.out
  have hv1 : BS w1 v l := SV.below HV.out hw1
  have hsp : l = [] ∨ v.ownBlock ≠ some b := by
    by_cases hl : l = []
    · exact .inl hl
    · exact .inr (fun e => by have := SV.lt HV.out b e (by simpa using hl); omega)
  have HW := hid (write_any w1 b Sh.init [] l 0 _ v hk1 (by omega) hr1 hv1 hsp (by omega) (by simp))
  have q1 : w1.rowOf w.heap.size = cs U8 (zs 32) := (below_row hbl1' (by omega)).trans (rowOf_alloc_at _ _ _ rfl)
  have q2 : w1.free w.heap.size = true := (below_free hbl1' (by omega)).trans (free_alloc_at _ _ _ rfl)
  have HK1 := hid hk1; have Q1 := hid q1; have Q2 := hid q2; have HW1 := hid hw1
  clear hbl1 hbl1' hw1 hk1 hv1 hsp hr1 q1 q2
  dsimp only
  go_wp2_with fail
  refine HW.out.mono ?_
  rintro e w2 ⟨rfl, rv2, hr2, hfr2, hge2⟩
  have hne : ∀ k, k < b → ¬ (k = b ∨ some k = (Value.slice none 0 0).ownBlock) := fun k hk h => by
    rcases h with h | h
    · omega
    · simp [Value.ownBlock] at h
  have hzz := HW1.out.size
  have hw2 : Below w.heap.size w w2 := HW1.out.trans (hfr2.below _ (by omega) (fun k _ h => by
    apply Classical.byContradiction; intro h2; exact hne k (by omega) h))
  have hk2 : KT w2 := by show w2.rowOf _ = _; rw [below_row hw2 hk0]; exact HK.out
  have hrl := (Sh.absorb_rest Sh.init ([] ++ l)).1
  have HS := hid (sumh_any w2 b _ _ _ rv2 hk2 (by omega) hr2 (by omega) hrl)
  have q1 : w2.rowOf w.heap.size = cs U8 (zs 32) := (hfr2.row (by omega) (hne _ (by omega))).trans Q1.out
  have q2 : w2.free w.heap.size = true := (hfr2.free (by omega) (hne _ (by omega))).trans Q2.out
  have R1 := hid q1; have R2 := hid q2; have HW2 := hid hw2
  clear hr2 hfr2 hge2 hne hw2 hk2 hrl q1 q2 HW
  dsimp only
  go_wp2_with fail
  refine HS.out.mono ?_
  rintro e w3 ⟨rfl, hb3⟩
  have hz2 : w.heap.size < w2.heap.size := free_lt R2.out
  have q1 : w3.rowOf w.heap.size = cs U8 (zs 32) := (below_row hb3 hz2).trans R1.out
  have q2 : w3.free w.heap.size = true := (below_free hb3 hz2).trans R2.out
  have hds : (Sh.digest (Sh.absorb Sh.init ([] ++ l)).1 (Sh.absorb Sh.init ([] ++ l)).2 (0 + l.length)) = Sh.sum l := by
    rw [List.nil_append, Nat.zero_add, Sh.digest_absorb]; rfl
  have hsl : (Sh.sum l).length = 32 := rfl
  have HB3 := hid hb3
  rw [hds]
  obtain ⟨D, hD⟩ : ∃ D, D = Sh.sum l := ⟨_, rfl⟩
  rw [← hD] at hsl
  rw [← hD]
  have HD := hid hD
  clear hb3 hds hD HS
  dsimp only
  go_wp2_with fail
  refine bodyPost_ret (res_row (b := w.heap.size) rfl Tryd.underlying23 rfl inf_key _ _ rfl ?_) rfl ?_
  · rw [rowOf_setRow_same _ q2]; simp [hsl]
  · rw [rowOf_setRow_same _ q2]
    exact ⟨by rw [HD.out], below_setRow' (HW2.out.trans (HB3.out.mono (by omega))) (Nat.le_refl _) _⟩
end Go.Proofs.YtbigmnhjnjeeaaaDoor
