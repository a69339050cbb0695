/-
  Walks of reference 03: one block; own work.
-/
import Derived.Test.YtbigmnhjnjeeaaaDoorRefc
set_option linter.unusedSimpArgs false
set_option linter.unusedVariables false
namespace Go.Proofs.YtbigmnhjnjeeaaaDoor
open Go.RowKit

theorem ch_same (e f g : BitVec 32) : (e &&& f ^^^ ~~~e &&& g) = (g ^^^ e &&& (f ^^^ g)) := by
  apply BitVec.eq_of_getLsbD_eq
  intro i hi
  simp only [BitVec.getLsbD_xor, BitVec.getLsbD_and, BitVec.getLsbD_not, hi, decide_true, Bool.true_and]
  cases e.getLsbD i <;> cases f.getLsbD i <;> cases g.getLsbD i <;> rfl
theorem maj_same (a b c : BitVec 32) : (a &&& b ^^^ a &&& c ^^^ b &&& c) = (a &&& b ||| c &&& (a ||| b)) := by
  apply BitVec.eq_of_getLsbD_eq
  intro i hi
  simp only [BitVec.getLsbD_xor, BitVec.getLsbD_and, BitVec.getLsbD_or]
  cases a.getLsbD i <;> cases b.getLsbD i <;> cases c.getLsbD i <;> rfl
theorem OW.shape2 {w : World} {base : Nat} {v : Value} {l : List (BitVec 32)} (h : OW w base v l) (n : Nat) (hn : l.length = n) (h0 : 0 < n) : ∃ g cap, v = .slice (some ⟨g, 0, none⟩) n cap ∧ base ≤ g ∧ n ≤ cap := by
  subst hn
  rcases h.2 with ⟨h1, h2⟩ | ⟨g, cap, cur, hv, hb, hg, hc, r⟩
  · rw [h2] at h0; omega
  · exact ⟨g, cap, hv, hb, hc⟩
theorem OW.set {w : World} {base g n cap : Nat} {l : List (BitVec 32)} (h : OW w base (.slice (some ⟨g, 0, none⟩) n cap) l) (hn : l.length = n) (i : Nat) (hi : i < n) (x : BitVec 32) :
    w.free g = true ∧ i < (w.rowOf g).size ∧ OW (w.setRow g ((w.rowOf g).setIfInBounds i (U32 x))) base (.slice (some ⟨g, 0, none⟩) n cap) (l.set i x) := by
  subst hn
  rcases h.2 with ⟨h1, h2⟩ | ⟨g', cap', cur, hv, hb, hg, hc, hm, hs, ht⟩
  · cases h1
  · cases hv
    have hr : w.rowOf g = cur := by simp [World.rowOf, hg]
    refine ⟨by simp [World.free, hg], by rw [hr, hs]; omega, by simp [h.1], .inr ⟨g, cap, cur.setIfInBounds i (U32 x), by simp, hb, ?_, by simpa using hc, hm, by simp [hs], ?_⟩⟩
    · rw [hr]; exact heap_setRow_same hg
    · rw [Array.toList_setIfInBounds, List.map_set, ← ht]
      simp only [List.length_set]
      rw [List.take_set]
theorem oplus_get (s r : Sh.S8) (j : Nat) (h : j < 8) : (mixed s r j).getD j 0 = s.list.getD j 0 := by
  rw [List.getD_eq_getElem?_getD, List.getElem?_eq_getElem (by rw [mixed_len s r j (by omega)]; exact h), mixed_get s r j h]; rfl
theorem mixed_8 (s r : Sh.S8) : mixed s r 8 = (s.plus r).list := by simp [mixed, Sh.S8.list]
theorem plus_comm (s r : Sh.S8) : s.plus r = r.plus s := by simp [Sh.S8.plus, BitVec.add_comm]
theorem step_list (s : Sh.S8) (k w : BitVec 32) : (s.step k w).list = [s.h + (Sh.rr s.e 6 ^^^ Sh.rr s.e 11 ^^^ Sh.rr s.e 25) + (s.e &&& s.f ^^^ ~~~s.e &&& s.g) + k + w + ((Sh.rr s.a 2 ^^^ Sh.rr s.a 13 ^^^ Sh.rr s.a 22) + (s.a &&& s.b ^^^ s.a &&& s.c ^^^ s.b &&& s.c)), s.a, s.b, s.c, s.d + (s.h + (Sh.rr s.e 6 ^^^ Sh.rr s.e 11 ^^^ Sh.rr s.e 25) + (s.e &&& s.f ^^^ ~~~s.e &&& s.g) + k + w), s.e, s.f, s.g] := by
  rw [ch_same, maj_same]; rfl
theorem quiet_of_add {P : Program} {f : FuncId} {args : Array Value} {w : World} {m n : Nat} {v : Value}
    (h : Calls P f args (w.drewN (m + n)) fun e w' => e = .returned v ∧ w' = w.drewN (m + n)) : Calls P f args (w.drewN (m + n)) fun e w'' => e = .returned v ∧ ∃ k, w'' = w.drewN (m + k) :=
  h.mono fun _ _ ⟨he, hm⟩ => ⟨he, n, hm⟩
set_option maxRecDepth 100000 in
set_option maxHeartbeats 2000000 in
theorem rblock_any (w : World) (v0 v1 : Value) (s : Sh.S8) (l : List (BitVec 8)) (h0 : WS w v0 s.list) (h1 : BS w v1 l) (hl : l.length = 64) :
    Calls Tryd.prog 69 #[v0, v1] w fun e w' => ∃ u, e = .returned u ∧ OW w' w.heap.size u (Sh.compress s l).list ∧ Below w.heap.size w w' := by
  obtain ⟨av, cv, rfl, hcv⟩ := h0.shape' 8 rfl
  have HL := hid hl
  clear hl
  go_enter Tryd.func69, Tryd.ntmps69
  go_wp2_with (first
    | (go_at_call 76; refine (rsched_any w v1 l h1 HL.out).mono ?_; rintro e w1 ⟨us, rfl, hs1, hb1⟩; dsimp only)
    | (go_at_call 77; refine (constants_any w1).mono ?_; rintro e w2 ⟨uk, rfl, hk2, hb2⟩; dsimp only)
    | (refine wpList_apw rfl (.tmp 17) (.tmp 18) rfl w2.heap.size _ _ [] s.list rfl (OW.lit w2 [] _ rfl _ rfl (by unfold maxLen; decide) _ (Nat.le_refl _)) rfl (SV.alloc ((h0.below hb1).below hb2) _) (by simp [Sh.S8.list]) (by simp) ?_; rintro v3 w3 hown3 hg3 -))
  have hB2 : Below w.heap.size w w2 := hb1.trans (hb2.mono hb1.size)
  have hz2 := hB2.size
  have hB3 : Below w2.heap.size w2 w3 := ow_below ((Below.refl _ _).alloc (Nat.le_refl _) _) (OW.lit w2 [] _ rfl _ rfl (by unfold maxLen; decide) _ (Nat.le_refl _)) (by simp) hg3
  have hz3 := hB3.size
  have HS := hid (WS.below ((hs1.ws).below hb2) hB3)
  have HK := hid (WS.below hk2.ws hB3)
  have HB3 := hid (hB2.trans (hB3.mono hz2))
  have HW0 := hid h0
  have hz20 := hz2
  have hz30 : w.heap.size ≤ w3.heap.size := by omega
  clear hg3 hs1 hk2 hb1 hb2 hB2 hB3 h0 h1 hz2 hz3
  go_loopw [7, 8, 9, 10, 11, 12] (fun v t _ _ _ _ wr => ∃ k : Nat, k ≤ 64 ∧ t = .int .i64 k ∧ OW wr w.heap.size v (Sh.rounds s (Sh.sched l 64) k).list ∧ Below w3.heap.size w3 wr) (fun _ t _ _ _ _ _ => 64 - (intOf t).toNat)
  case atStart => exact ⟨0, by omega, rfl, hown3.mono hz20, Below.refl _ _⟩
  case round =>
    obtain ⟨k, hk, rfl, hov, hbw⟩ := hrel
    have hz := hbw.size
    obtain ⟨r, hr⟩ : ∃ r, r = Sh.rounds s (Sh.sched l 64) k := ⟨_, rfl⟩
    rw [← hr] at hov
    have HR := hid hr
    clear hr
    by_cases hlt : k < 64
    · obtain ⟨bv, ov, cv, rfl, hcv, hcl⟩ := hov.ws.open (by simp [Sh.S8.list])
      obtain ⟨bs, os, cs', rfl, hcs, hcls⟩ := (WS.below HS.out hbw).open (by intro e; have := Sh.sched_len l 64; rw [e] at this; cases this)
      obtain ⟨bk, ok, ck, rfl, hck, hclk⟩ := (WS.below HK.out hbw).open (by simp [Sh.K])
      rw [show r.list.length = 8 from rfl] at hcl hcv hov ⊢
      rw [Sh.sched_len] at hcls hcs ⊢
      rw [show Sh.K.length = 64 from rfl] at hclk hck ⊢
      have c0 : wr.cell? ⟨bv, ov, none⟩ = some (U32 r.a) := hcl 0 (by decide)
      have c1 : wr.cell? ⟨bv, ov + 1, none⟩ = some (U32 r.b) := hcl 1 (by decide)
      have c2 : wr.cell? ⟨bv, ov + 2, none⟩ = some (U32 r.c) := hcl 2 (by decide)
      have c3 : wr.cell? ⟨bv, ov + 3, none⟩ = some (U32 r.d) := hcl 3 (by decide)
      have c4 : wr.cell? ⟨bv, ov + 4, none⟩ = some (U32 r.e) := hcl 4 (by decide)
      have c5 : wr.cell? ⟨bv, ov + 5, none⟩ = some (U32 r.f) := hcl 5 (by decide)
      have c6 : wr.cell? ⟨bv, ov + 6, none⟩ = some (U32 r.g) := hcl 6 (by decide)
      have c7 : wr.cell? ⟨bv, ov + 7, none⟩ = some (U32 r.h) := hcl 7 (by decide)
      have k1 := hcls k hlt
      have k2 := hclk k hlt
      clear hcl hcls hclk
      go_wp2_with fail
      go_quiet (fail)
      go_wp
      go_quiet ((go_at_call 78; first | exact Calls.quiet_of_same (turn_any _ _ _ (by omega)) | exact quiet_of_add (turn_any _ _ _ (by omega))))
      go_wp
      go_quiet ((go_at_call 78; first | exact Calls.quiet_of_same (turn_any _ _ _ (by omega)) | exact quiet_of_add (turn_any _ _ _ (by omega))))
      go_wp2_with fail
      refine wp_region_qtail 26 (by kernel_rfl) (by kernel_rfl) ?_
      simp only [List.take_succ_cons, List.take_zero, List.drop_succ_cons, List.drop_zero]
      repeat (go_big_quiet_step (fail))
      refine wpQuiet_nil ?_
      go_wp2_with fail
      go_roundw
      case rel => 
        refine ⟨k + 1, by omega, rfl, ?_, ?_⟩
        · refine OW.lit _ _ _ ?_ _ rfl (by show 8 ≤ maxLen; unfold maxLen; decide) _ (by first | omega | (simp; omega))
          rw [Sh.rounds, ← HR.out, step_list]; rfl
        · exact (below_drewN hbw _).alloc (by simp; omega) _
      case measure => simp [intOf]; omega
    · have : k = 64 := by omega
      subst this
      go_wp2_with fail
      obtain ⟨g, cap, rfl, hbg, hcap⟩ := hov.shape2 8 rfl (by omega)
      have hbw2 : Below w.heap.size w wr := HB3.out.trans (hbw.mono hz30)
      obtain ⟨wo, hwo⟩ : ∃ wo : World, wo = wr := ⟨_, rfl⟩
      rw [← hwo] at hov hbw2
      rw [← hwo]
      clear hwo hbw hz
      go_loopw [13] (fun t wr => ∃ j : Nat, j ≤ 8 ∧ t = .int .i64 j ∧ OW wr w.heap.size (.slice (some ⟨g, 0, none⟩) 8 cap) (mixed r s j) ∧ Below w.heap.size w wr) (fun t _ => 8 - (intOf t).toNat)
      case atStart => exact ⟨0, by omega, rfl, by simpa [mixed] using hov, hbw2⟩
      case round =>
        clear hov hbw2
        obtain ⟨j, hj, rfl, hov, hbw⟩ := hrel
        have hml := mixed_len r s j hj
        by_cases hlj : j < 8
        · obtain ⟨gv, ov, cv, hgv, hcv, hcl⟩ := hov.ws.open (by intro e; rw [e] at hml; cases hml)
          rw [hml] at hgv hcl hcv
          cases hgv
          obtain ⟨b0, o0, c0, h00, hc0, hcl0⟩ := (WS.below HW0.out hbw).open (by simp [Sh.S8.list])
          obtain ⟨sj, hsj⟩ : ∃ sj, sj = s.list.getD j 0 := ⟨_, rfl⟩
          obtain ⟨rj, hrj⟩ : ∃ rj, rj = r.list.getD j 0 := ⟨_, rfl⟩
          have k1 := hcl j (by omega)
          have k2 := hcl0 j (by exact hlj)
          rw [oplus_get r s j hlj, ← hrj] at k1
          rw [← hsj] at k2
          obtain ⟨e1, e2, e3⟩ := hov.set hml j hlj (rj + sj)
          cases h00
          have hff := free_frozen e1 j
          rw [Nat.zero_add] at k1
          have HSJ := hid hsj; have HRJ := hid hrj; have HM := hid hml; have HE := hid e3
          clear hcl hcl0 hsj hrj hml hov e3
          go_wp2_with fail
          refine wp_region_qtail 12 (by kernel_rfl) (by kernel_rfl) ?_
          simp only [List.take_succ_cons, List.take_zero, List.drop_succ_cons, List.drop_zero]
          repeat (go_big_quiet_step (fail))
          refine wpQuiet_nil ?_
          go_wp2_with fail
          go_roundw
          case rel =>
            refine ⟨j + 1, by omega, by go_num, ?_, ?_⟩
            · rw [setCell_row e1, ← mixed_set r s j hlj, ← HSJ.out, ← HRJ.out]; exact OW.drewN HE.out 1
            · rw [setCell_row e1]; exact below_drewN (below_setRow' hbw hbg _) 1
          case measure => simp [intOf]; omega
        · have : j = 8 := by omega
          subst this
          go_wp2_with fail
          go_ret
          refine ⟨_, rfl, ?_, hbw⟩
          rw [Sh.compress, plus_comm, ← HR.out, ← mixed_8]
          exact hov
end Go.Proofs.YtbigmnhjnjeeaaaDoor
