/-
  Walks of reference 03: the digest; own work.
-/
import Derived.Test.YtbigmnhjnjeeaaaDoorRefd
set_option linter.unusedSimpArgs false
set_option linter.unusedVariables false
namespace Go.Proofs.YtbigmnhjnjeeaaaDoor
open Go.RowKit

theorem BS.mid {w : World} {b o n cap : Nat} {l : List (BitVec 8)} (h : BS w (.slice (some ⟨b, o, none⟩) n cap) l) (hn : l.length = n) (k m c : Nat) (hk : k + m ≤ n) (hm : 0 < m) (hc : m ≤ c) (hcc : c + k ≤ cap) :
    BS w (.slice (some ⟨b, o + k, none⟩) m c) ((l.drop k).take m) := by
  subst hn
  have h1 := h.tail k (by omega) (some ⟨b, o + k, none⟩) (fun _ => rfl)
  have h2 : (l.drop k).length = l.length - k := List.length_drop
  rw [← h2] at h1
  exact h1.head m c (by omega) hc (by omega)
theorem absorb_done (s : Sh.S8) : Sh.absorb s [] = (s, []) := Sh.absorb_lt (by decide)
theorem bytes_at (s : Sh.S8) (i : Nat) (hi : i < 32) : s.bytes.getD i 0 = (s.list.getD (i / 4) 0 >>> (24 - 8 * (i % 4))).setWidth 8 := by
  rcases s with ⟨a, b, c, d, e, f, g, h⟩
  have : i = 0 ∨ i = 1 ∨ i = 2 ∨ i = 3 ∨ i = 4 ∨ i = 5 ∨ i = 6 ∨ i = 7 ∨ i = 8 ∨ i = 9 ∨ i = 10 ∨ i = 11 ∨ i = 12 ∨ i = 13 ∨ i = 14 ∨ i = 15 ∨ i = 16 ∨ i = 17 ∨ i = 18 ∨ i = 19 ∨ i = 20 ∨ i = 21 ∨ i = 22 ∨ i = 23 ∨ i = 24 ∨ i = 25 ∨ i = 26 ∨ i = 27 ∨ i = 28 ∨ i = 29 ∨ i = 30 ∨ i = 31 := by omega
  rcases this with h | h | h | h | h | h | h | h | h | h | h | h | h | h | h | h | h | h | h | h | h | h | h | h | h | h | h | h | h | h | h | h <;> subst h <;> simp [Sh.S8.bytes, Sh.S8.list, Sh.wbytes]
def outB (s : Sh.S8) (i : Nat) : List (BitVec 8) := s.bytes.take i ++ zs (32 - i)
theorem outB_len (s : Sh.S8) (i : Nat) (hi : i ≤ 32) : (outB s i).length = 32 := by simp [outB, Sh.bytes_len]; omega
theorem outB_step (s : Sh.S8) (i : Nat) (hi : i < 32) : (outB s i).set i (s.bytes.getD i 0) = outB s (i + 1) := by
  have hl : i < s.bytes.length := by rw [Sh.bytes_len]; exact hi
  have e1 : (s.bytes.take i).length = i := by simp [Sh.bytes_len]; omega
  have e2 : (zs (32 - i) : List (BitVec 8)) = 0 :: zs (32 - (i + 1)) := by unfold zs; rw [show 32 - i = (32 - (i + 1)) + 1 by omega, List.replicate_succ]
  unfold outB
  rw [List.set_append_right _ _ (by omega), e1, Nat.sub_self, e2, List.set_cons_zero, List.take_succ_eq_append_getElem hl, List.getD_eq_getElem?_getD, List.getElem?_eq_getElem hl, List.append_assoc]
  rfl
theorem outB_zero (s : Sh.S8) : outB s 0 = zs 32 := by simp [outB]
theorem outB_all (s : Sh.S8) : outB s 32 = s.bytes := by
  have : s.bytes.take 32 = s.bytes := List.take_of_length_le (by rw [Sh.bytes_len]; exact Nat.le_refl _)
  simp [outB, zs, this]
attribute [local irreducible] outB
set_option maxRecDepth 100000 in
set_option maxHeartbeats 2000000 in
theorem rsum_any (w : World) (v : Value) (l : List (BitVec 8)) (hv : BS w v l) (hn : l.length ≤ 1073741000) :
    Calls Tryd.prog 61 #[v] w fun e w' => e = .returned (.agg (cs U8 (Sh.sum l))) ∧ Below w.heap.size w w' := by
  have hv1 : BS (w.alloc (.cells (cs U8 (zs 32)) 23)) v l := SV.alloc hv _
  go_enter Tryd.func61, Tryd.ntmps61
  go_wp2_with (first
    | (go_at_call 67; refine (padded_any _ v l hv1 hn).mono ?_; rintro e w1 ⟨up, rfl, hp1, hb1⟩; dsimp only)
    | (go_at_call 68; refine (first_any w1).mono ?_; rintro e w2 ⟨uk, rfl, hk2, hb2⟩; dsimp only))
  obtain ⟨m, hm⟩ : ∃ m, m = Sh.finish l l.length := ⟨_, rfl⟩
  obtain ⟨N, hN⟩ : ∃ N, N = m.length := ⟨_, rfl⟩
  have hNm : N % 64 = 0 := by rw [hN, hm]; exact Sh.finish_mod _ _
  have hNb : 0 < N ∧ N ≤ 1073742000 := by rw [hN, hm, Sh.finish_len]; unfold Sh.npad; omega
  have hsum : (Sh.absorb Sh.init m).1.bytes = Sh.sum l := by rw [hm]; rfl
  rw [← hm] at hp1
  obtain ⟨bp, op, cp, rfl, hcp, hcells⟩ := hp1.bs.open (by intro e; rw [e] at hN; simp at hN; omega)
  rw [← hN] at hcp hp1 ⊢
  have hB1 : Below (w.heap.size + 1) (w.alloc (Obj.cells (cs U8 (zs 32)) 23)) w1 := by simpa using hb1
  have hz1 : w.heap.size + 1 ≤ w1.heap.size := by have := hB1.size; simpa using this
  have hB2 : Below (w.heap.size + 1) (w.alloc (Obj.cells (cs U8 (zs 32)) 23)) w2 := hB1.trans (hb2.mono hz1)
  have hz2 : w.heap.size + 1 ≤ w2.heap.size := by have := hb2.size; omega
  have hP := hid (hp1.bs.below hb2)
  have HSUM := hid hsum
  have HM := hid hm
  have HN := hid hN
  have HB2 := hid hB2
  clear hcells hb1 hb2 hB1 hB2 hv hv1 hsum hm hN hp1
  go_loopw [4, 5] (fun v t wr => ∃ (j : Nat) (s : Sh.S8), 64 * j ≤ N ∧ t = .int .i64 ((64 * j : Nat) : Int) ∧ OW wr (w.heap.size + 1) v s.list ∧ Sh.absorb s (m.drop (64 * j)) = Sh.absorb Sh.init m ∧ Below w2.heap.size w2 wr) (fun _ t _ => N - (intOf t).toNat)
  case atStart => exact ⟨0, Sh.init, by omega, rfl, hk2.mono hz1, rfl, Below.refl _ _⟩
  case round =>
    obtain ⟨j, s, hj, rfl, hov, hab, hbw⟩ := hrel
    have HAB := hid hab
    have hz := hbw.size
    clear hab
    by_cases hlt : 64 * j < N
    · have hP' : BS wr (.slice (some ⟨bp, op, none⟩) N cp) m := hP.out.below hbw
      have hmid := hP'.mid HN.out.symm (64 * j) 64 (cp - 64 * j) (by omega) (by omega) (by omega) (by omega)
      have hlen : ((m.drop (64 * j)).take 64).length = 64 := by rw [List.length_take, List.length_drop, ← HN.out]; omega
      have HMID := hid hmid; have HLEN := hid hlen
      clear hP' hmid hlen
      have q0 : (0 : Int) ≤ 64 * j := by omega
      have q1 : (64 * (j : Int)) < N := by omega
      have q2 : (64 * (j : Int) + 64) ≤ cp := by omega
      go_wp
      refine (rblock_any wr _ _ s ((m.drop (64 * j)).take 64) hov.ws HMID.out HLEN.out).mono ?_
      rintro e w4 ⟨u5, rfl, h5, hb5⟩
      dsimp only
      go_wp
      go_roundw
      case rel =>
        refine ⟨j + 1, Sh.compress s ((m.drop (64 * j)).take 64), by omega, by go_num, h5.mono (by omega), ?_, hbw.trans (hb5.mono hz)⟩
        rw [← HAB.out, Sh.absorb_ge (l := m.drop (64 * j)) (by rw [List.length_drop, ← HN.out]; omega), List.drop_drop]
        rfl
      case measure => simp [intOf]; omega
    · have hje : 64 * j = N := by omega
      have q1 : ¬ (64 * (j : Int) < N) := by omega
      have hfin : s.bytes = Sh.sum l := by
        have h1 := HAB.out
        rw [List.drop_eq_nil_of_le (by rw [← HN.out]; omega), absorb_done] at h1
        rw [← HSUM.out, ← h1]
      have HF := hid hfin
      have HJ := hid hje
      have hb3 : Below (w.heap.size + 1) (w.alloc (Obj.cells (cs U8 (zs 32)) 23)) wr := HB2.out.trans (hbw.mono hz2)
      have HB3 := hid hb3
      have hz3 : w.heap.size + 1 ≤ wr.heap.size := by omega
      clear hfin hje hb3
      go_wp
      obtain ⟨wo, hwo⟩ : ∃ wo : World, wo = wr := ⟨_, rfl⟩
      rw [← hwo] at hov HB3 hz3
      rw [← hwo]
      clear hwo hbw hz hk2
      go_loopw [7] (fun t wr => ∃ i : Nat, i ≤ 32 ∧ t = .int .i64 i ∧ wr.rowOf wo.heap.size = cs U8 (outB s i) ∧ wr.free wo.heap.size = true ∧ Below wo.heap.size wo wr) (fun t _ => 32 - (intOf t).toNat)
      case atStart => exact ⟨0, by omega, rfl, by simp [go_sem, outB_zero], by simp [go_sem], (Below.refl _ _).alloc (Nat.le_refl _) _⟩
      case round =>
        obtain ⟨i, hi, rfl, hrow, hfr, hbw⟩ := hrel
        by_cases hli : i < 32
        · obtain ⟨gv, ov, cv, rfl, hcv, hcl⟩ := (WS.below hov.ws hbw).open (by simp [Sh.S8.list])
          have c1 := hcl (i / 4) (by show _ < 8; omega)
          have hrs : (wr.rowOf wo.heap.size).size = 32 := by rw [hrow]; simp [outB_len s i hi]
          have HROW := hid hrow
          have a0 : (0 : Int) ≤ i := by omega
          have a1 : (i : Int) < 32 := by omega
          have a2 : (i : Int) / 4 < 8 := by omega
          have a3 : (0 : Int) ≤ 24 - 8 * ((i : Int) % 4) := by omega
          have a4 : 8 * ((i : Int) % 4) ≤ 24 := by omega
          rw [show s.list.length = 8 from rfl] at hov ⊢
          clear hcl hrow
          go_wp2_with fail
          go_roundw
          case rel =>
            refine ⟨i + 1, by omega, by go_num, ?_, ?_, ?_⟩
            · rw [rowOf_setRow_same _ hfr, HROW.out]
              have hb := bytes_at s i hli
              rw [List.getD_eq_getElem?_getD (l := s.list)] at hb
              refine Eq.trans (congrArg (fun z => (cs U8 (outB s i)).setIfInBounds i (U8 z)) hb.symm) ?_
              rw [cs_set8, outB_step s i hli]
            · rw [free_setRow]; exact hfr
            · exact below_setRow' hbw (Nat.le_refl _) _
          case measure => simp [intOf]; omega
        · have : i = 32 := by omega
          subst this
          have hb4 : Below (w.heap.size + 1) (w.alloc (Obj.cells (cs U8 (zs 32)) 23)) wr := HB3.out.trans (hbw.mono hz3)
          have r0 : wr.rowOf w.heap.size = cs U8 (zs 32) := by rw [below_row hb4 (by omega)]; simp [go_sem]
          have f0 : wr.free w.heap.size = true := by rw [below_free hb4 (by omega)]; simp [go_sem]
          have s0 : (wr.rowOf w.heap.size).size = 32 := by rw [r0]; simp [zs]
          have s1 : (wr.rowOf wo.heap.size).size = 32 := by rw [hrow]; simp [outB_len s 32 (by omega)]
          have hro : wr.rowOf wo.heap.size = cs U8 (Sh.sum l) := by rw [hrow, outB_all, HF.out]
          have HB4 := hid hb4
          have HSL : Hid ((Sh.sum l).length = 32) := hid (by rw [← HF.out]; rfl)
          have ho1 : ones (wr.rowOf wo.heap.size) = true := by rw [hro]; simp [go_sem]
          have HRO := hid hro
          clear r0 hrow hb4 hro
          go_wp2_with fail
          refine bodyPost_ret (res_row (b := w.heap.size) rfl Tryd.underlying23 rfl inf_key _ _ rfl ?_) rfl ?_
          · rw [rowOf_setRow_same _ f0, HRO.out, cs_size]; exact HSL.out
          · rw [rowOf_setRow_same _ f0, HRO.out]
            refine ⟨rfl, ?_⟩
            refine Below.trans ((Below.refl _ _).alloc (Nat.le_refl _) _) (below_setRow' (HB4.out.mono (by omega)) (Nat.le_refl _) _)
end Go.Proofs.YtbigmnhjnjeeaaaDoor
