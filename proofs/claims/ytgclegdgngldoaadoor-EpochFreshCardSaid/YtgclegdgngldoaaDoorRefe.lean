/-
  Walks of reference 03: words and lists; own work.
  Walks of reference 03: the schedule; own work.
  Walks of reference 03: the padded list; own work.
  Walks of reference 03: one block; own work.
  Walks of reference 03: the digest; own work.
-/
import Derived.Test.YtgclegdgngldoaaDoorSha4
set_option linter.unusedSimpArgs false
set_option linter.unusedVariables false
namespace Go.Proofs.YtgclegdgngldoaaDoor
open Go.RowKit

/-- a slice of words -/
def WS (w : World) (v : Value) (l : List (BitVec 32)) : Prop := SV w v l.length (l.map U32)
/-- a slice of words of the call's own -/
def OW (w : World) (base : Nat) (v : Value) (l : List (BitVec 32)) : Prop := w.ownsRow base 67 1 v l.length (l.map U32)
section
variable {w w' : World} {v : Value} {l : List (BitVec 32)} {base : Nat}
theorem OW.ws (h : OW w base v l) : WS w v l := SV.of_own h
theorem OW.alloc (h : OW w base v l) (o : Obj) : OW (w.alloc o) base v l := World.ownsRow.alloc h o
theorem OW.kept {r : Option Nat} (h : OW w base v l) (hg : w.grownBy w' r) (hne : v.ownBlock = none ∨ v.ownBlock ≠ r) : OW w' base v l := World.ownsRow.kept h hg hne
theorem OW.drewN (h : OW w base v l) (k : Nat) : OW (w.drewN k) base v l := World.ownsRow.kept h (gb_drewN (gb_refl w none) k) (by cases hv : v.ownBlock <;> simp)
theorem OW.mono {b' : Nat} (h : OW w base v l) (hb : b' ≤ base) : OW w b' v l := by
  refine ⟨h.1, ?_⟩
  rcases h.2 with h2 | ⟨g, cap, cur, hv, hbg, r⟩
  · exact .inl h2
  · exact .inr ⟨g, cap, cur, hv, by omega, r⟩
theorem ow_below {B : Nat} {w0 : World} (h : Below B w0 w) (hown : OW w B v l) (hB : B ≤ w.heap.size) (hg : w.grownBy w' v.ownBlock) : Below B w0 w' := h.grown hg hB (fun k hk => (hown.lt k hk).1)
theorem ow_below1 {B : Nat} {w0 : World} (o : Obj) (h : Below B w0 w) (hown : OW w B v l) (hB : B ≤ w.heap.size) (hg : (w.alloc o).grownBy w' v.ownBlock) : Below B w0 w' :=
  ow_below (h.alloc hB o) (hown.alloc o) (by simp; omega) hg
theorem OW.nil (w : World) (base : Nat) : OW w base (.slice none 0 0) [] := World.ownsRow_nil w base _ _
/-- a literal slice -/
theorem OW.lit (w : World) (l : List (BitVec 32)) (c : Array Value) (hc : c = cs U32 l) (n : Nat) (hn : n = l.length) (hm : l.length ≤ maxLen) (base : Nat) (hb : base ≤ w.heap.size) :
    OW (w.alloc (.cells c 67)) base (.slice (some ⟨w.heap.size, 0, none⟩) n n) l := by
  subst hc; subst hn
  have := World.ownsRow_lit (base := base) (e := 67) (size := 1) w (cs U32 l) l.length hb hm (by simp)
  simpa [OW, cs] using this
theorem OW.litb (w : World) (l : List (BitVec 8)) (c : Array Value) (hc : c = cs U8 l) (n : Nat) (hn : n = l.length) (hm : l.length ≤ maxLen) (base : Nat) (hb : base ≤ w.heap.size) :
    OB (w.alloc (.cells c 5)) base (.slice (some ⟨w.heap.size, 0, none⟩) n n) l := by
  subst hc; subst hn
  have := World.ownsRow_lit (base := base) (e := 5) (size := 1) w (cs U8 l) l.length hb hm (by simp)
  simpa [OB, cs] using this
theorem WS.below (h : WS w v l) (hb : Below w.heap.size w w') : WS w' v l := SV.below h hb
theorem WS.open (h : WS w v l) (hl : l ≠ []) : ∃ b o cap, v = .slice (some ⟨b, o, none⟩) l.length cap ∧ l.length ≤ cap ∧ ∀ i, i < l.length → w.cell? ⟨b, o + i, none⟩ = some (U32 (l.getD i 0)) := by
  obtain ⟨a, cap, rfl, h1, h2, h3⟩ := h
  obtain ⟨b, o, rfl, h4⟩ := h3 (by simpa using hl)
  refine ⟨b, o, cap, rfl, h1, fun i hi => ?_⟩
  rw [h4 i (by simpa using hi), List.getElem?_map, List.getD_eq_getElem?_getD, List.getElem?_eq_getElem hi]; rfl
theorem WS.shape' (h : WS w v l) (n : Nat) (hn : l.length = n) : ∃ a cap, v = .slice a n cap ∧ n ≤ cap := by
  subst hn
  obtain ⟨a, cap, rfl, h1, _⟩ := h
  exact ⟨a, cap, rfl, h1⟩
theorem WS.one (w : World) (u : Value) (x : BitVec 32) (hu : u = U32 x) (T : TypeId) : WS (w.alloc (.cells #[u] T)) (.slice (some ⟨w.heap.size, 0, none⟩) 1 1) [x] := by
  subst hu
  refine ⟨_, 1, rfl, Nat.le_refl _, by unfold maxLen; omega, fun _ => ⟨_, _, rfl, fun i hi => ?_⟩⟩
  simp at hi
  subst hi
  rw [cell_rowOf, rowOf_alloc_at _ _ _ rfl]; rfl
end
theorem info_u32 : (Tryd.prog.info? 67).map (fun i => (i.zero, i.size, i.bytes)) = some (some (.int .u32 0), 1, 4) := by kernel_rfl
theorem wpList_apw {w : World} {ops : Array Oper} {rest : List Oper} {o : Oper} {a : Act} {Q : Exit → Act → World → Prop} (hgd : o.guard = none) (s x : Operand)
    (ho : o.op = .call { callee := .builtin .append, args := #[s, x], argTypes := #[147, 147] })
    (base : Nat) (v u : Value) (l m : List (BitVec 32)) (hs : a.eval s = v) (hown : OW w base v l) (hx : a.eval x = u) (hu : WS w u m)
    (hlen : l.length + m.length ≤ 1073741824) (hbase : base ≤ w.heap.size)
    (h : ∀ v' w', OW w' base v' (l ++ m) → w.grownBy w' v.ownBlock → (v' = .slice none 0 0 ↔ v = .slice none 0 0 ∧ m = []) → wpList Tryd.prog ops Q rest (a.put o.dst v') w') : wpList Tryd.prog ops Q (o :: rest) a w := by
  refine wpList_ap hgd s x 147 ho base 67 (.int .u32 0) 1 4 Tryd.underlying147 info_u32 rfl (by decide) v u l.length m.length (l.map U32) (m.map U32) hs hown hx hu (by simp) (by simp; intro _ _; rfl) (by unfold maxLen; omega) (by omega) hbase ?_
  intro v' w' h1 h2 h3
  refine h v' w' (by unfold OW; simpa using h1) h2 (by rw [h3]; simp)

theorem step_apw {w : World} {ops : Array Oper} {K : Act → World → Prop} {E : Prop} {o : Oper} {a : Act} {Q : Exit → Act → World → Prop} (hgd : o.guard = none) (s x : Operand)
    (ho : o.op = .call { callee := .builtin .append, args := #[s, x], argTypes := #[147, 147] })
    (base : Nat) (v u : Value) (l m : List (BitVec 32)) (hs : a.eval s = v) (hown : OW w base v l) (hx : a.eval x = u) (hu : WS w u m)
    (hlen : l.length + m.length ≤ 1073741824) (hbase : base ≤ w.heap.size)
    (h : ∀ v' w', OW w' base v' (l ++ m) → w.grownBy w' v.ownBlock → (v' = .slice none 0 0 ↔ v = .slice none 0 0 ∧ m = []) → K (a.put o.dst v') w') : if Region.wanted o (yielded ops a.tmps) = true then o.wp Tryd.prog a w K Q else E := by
  refine step_ap hgd s x 147 ho base 67 (.int .u32 0) 1 4 Tryd.underlying147 info_u32 rfl (by decide) v u l.length m.length (l.map U32) (m.map U32) hs hown hx hu (by simp) (by simp; intro _ _; rfl) (by unfold maxLen; omega) (by omega) hbase ?_
  intro v' w' h1 h2 h3
  refine h v' w' (by unfold OW; simpa using h1) h2 (by rw [h3]; simp)

set_option maxHeartbeats 400000 in
theorem turn_any (x : BitVec 32) (k : Int) (w : World) (hk : 0 < k ∧ k < 32) :
    Calls Tryd.prog 119 #[U32 x, .int .i64 k] w fun e w' => e = .returned (U32 (Sh.rr x k.toNat)) ∧ w' = w := by
  obtain ⟨j, rfl⟩ : ∃ j : Nat, k = (j : Int) := ⟨k.toNat, by omega⟩
  have h0 : (0 : Int) ≤ j := by omega
  have h1 : (0 : Int) ≤ 32 - j := by omega
  have h2 : (j : Int) ≤ 32 := by omega
  go_enter Tryd.func119, Tryd.ntmps119
  go_wp2
  go_ret
  refine ⟨?_, rfl⟩
  show Ending.returned (U32 (x >>> j ||| x <<< (32 - j))) = _
  simp [Sh.rr]

set_option maxRecDepth 100000 in
set_option maxHeartbeats 1000000 in
theorem constants_any (w : World) :
    Calls Tryd.prog 118 #[] w fun e w' => ∃ v, e = .returned v ∧ OW w' w.heap.size v Sh.K ∧ Below w.heap.size w w' := by
  go_enter Tryd.func118, Tryd.ntmps118
  go_wp2
  go_ret
  exact ⟨_, rfl, OW.lit w Sh.K _ rfl _ rfl (by unfold maxLen; decide) _ (Nat.le_refl _), (Below.refl _ _).alloc (Nat.le_refl _) _⟩

set_option maxHeartbeats 1000000 in
theorem first_any (w : World) :
    Calls Tryd.prog 108 #[] w fun e w' => ∃ v, e = .returned v ∧ OW w' w.heap.size v Sh.init.list ∧ Below w.heap.size w w' := by
  go_enter Tryd.func108, Tryd.ntmps108
  go_wp2
  go_ret
  exact ⟨_, rfl, OW.lit w Sh.init.list _ rfl _ rfl (by unfold maxLen; decide) _ (Nat.le_refl _), (Below.refl _ _).alloc (Nat.le_refl _) _⟩
end Go.Proofs.YtgclegdgngldoaaDoor
set_option linter.unusedSimpArgs false
set_option linter.unusedVariables false
namespace Go.Proofs.YtgclegdgngldoaaDoor
open Go.RowKit

set_option maxRecDepth 100000 in
set_option maxHeartbeats 1000000 in
theorem rsched_any (w : World) (v : Value) (l : List (BitVec 8)) (hv : BS w v l) (hn : l.length = 64) :
    Calls Tryd.prog 117 #[v] w fun e w' => ∃ u, e = .returned u ∧ OW w' w.heap.size u (Sh.sched l 64) ∧ Below w.heap.size w w' := by
  obtain ⟨b, o, cap, rfl, hcap, hcells⟩ := hv.open (by intro e; rw [e] at hn; cases hn)
  have hlt := SV.lt hv b rfl (by intro e; rw [List.map_eq_nil_iff] at e; rw [e] at hn; cases hn)
  rw [hn] at hcells hcap
  rw [hn]
  have HN := hid hn
  have HC := hid hcells
  clear hn hcells hv
  go_enter Tryd.func117, Tryd.ntmps117
  go_wp2_with fail
  go_loopw [3, 4] (fun v t wr => ∃ k : Nat, k ≤ 16 ∧ t = .int .i64 k ∧ OW wr w.heap.size v (Sh.sched l k) ∧ Below w.heap.size w wr) (fun _ t _ => 16 - (intOf t).toNat)
  case atStart => exact ⟨0, by omega, rfl, OW.nil _ _, Below.refl _ _⟩
  case round =>
    obtain ⟨k, hk, rfl, hov, hbl⟩ := hrel
    have hz := hbl.size
    obtain ⟨av, cv, rfl, hcv⟩ := hov.ws.shape' k (Sh.sched_len l k)
    by_cases hlk : k < 16
    · have hcl : ∀ i, i < 64 → wr.cell? ⟨b, o + i, none⟩ = some (U8 (l.getD i 0)) := fun i hi => (hbl.cell (p := ⟨b, o + i, none⟩) hlt).trans (HC.out i hi)
      have x0 := hcl (4 * k) (by omega); have x1 := hcl (4 * k + 1) (by omega); have x2 := hcl (4 * k + 2) (by omega); have x3 := hcl (4 * k + 3) (by omega)
      have y0 : wr.cell? ⟨b, o + (4 * k + 1), none⟩ = some (U8 (l.getD (4 * k + 1) 0)) := x1
      clear hcl x1
      have x1 : wr.cell? ⟨b, o + (4 * k + 1), none⟩ = some (U8 (l.getD (4 * k + 1) 0)) := y0
      clear y0
      have q0 : (0 : Int) ≤ 4 * k := by omega
      have q1 : (0 : Int) ≤ 4 * k + 1 := by omega
      have q2 : (0 : Int) ≤ 4 * k + 2 := by omega
      have q3 : (0 : Int) ≤ 4 * k + 3 := by omega
      have p0 : 4 * (k : Int) < 64 := by omega
      have p1 : 4 * (k : Int) + 1 < 64 := by omega
      have p2 : 4 * (k : Int) + 2 < 64 := by omega
      have p3 : 4 * (k : Int) + 3 < 64 := by omega
      have hsz : (Sh.sched l k).length + [Sh.wordAt l k].length ≤ 1073741824 := by simp [Sh.sched_len]; omega
      have HZ := hid hsz
      clear hsz
      go_wp
      refine wp_region_qtail1 33 (by kernel_rfl) (by kernel_rfl) (by kernel_rfl) (fun _ _ _ _ h => h) ?_
      simp only [List.take_succ_cons, List.take_zero, List.drop_succ_cons, List.drop_zero]
      repeat (go_big_quiet_step (fail))
      refine wpQuiet_nil ?_
      go_wp2_with (first | (refine wpList_apw rfl (.tmp 14) (.tmp 48) rfl w.heap.size _ _ _ [Sh.wordAt l k] rfl ((OW.alloc hov _).drewN 1) rfl ((WS.one _ _ _ rfl _).drewN 1) HZ.out (by simp; omega) ?_; rintro v2 w2 hown2 hg2 -))
      go_roundw
      case rel => exact ⟨k + 1, by omega, rfl, by rw [Sh.sched, if_pos hlk]; exact hown2, ow_below (below_drewN (hbl.alloc hz _) 1) ((OW.alloc hov _).drewN 1) (by simp; omega) hg2⟩
      case measure => simp [intOf]; omega
    · have : k = 16 := by omega
      subst this
      have HOV := hid hov
      clear hov
      rw [show ((16 : Nat) : Int) = 16 from rfl]
      go_wp2_with fail
      obtain ⟨wo, hwo⟩ : ∃ wo, wo = wr := ⟨_, rfl⟩
      rw [← hwo] at HOV hbl hz
      rw [← hwo]
      go_loopw [3, 5, 6, 7, 8, 9] (fun v t _ _ _ _ wr => ∃ k : Nat, 16 ≤ k ∧ k ≤ 64 ∧ t = .int .i64 k ∧ OW wr w.heap.size v (Sh.sched l k) ∧ Below w.heap.size w wr) (fun _ t _ _ _ _ _ => 64 - (intOf t).toNat)
      case atStart => exact ⟨16, by omega, by omega, rfl, HOV.out, hbl⟩
      case round =>
        clear hbl hz HOV hwo hcv
        obtain ⟨k, h16, hk, rfl, hov, hbl⟩ := hrel
        have hz := hbl.size
        obtain ⟨bv, ov, cv, rfl, hcv, hcl⟩ := hov.ws.open (by intro e; have := Sh.sched_len l k; rw [e] at this; simp at this; omega)
        rw [Sh.sched_len] at hcl hov ⊢
        by_cases hlk : k < 64
        · have c2 := hcl (k - 2) (by omega); have c7 := hcl (k - 7) (by omega); have c15 := hcl (k - 15) (by omega); have c16 := hcl (k - 16) (by omega)
          have g2 : (0 : Int) ≤ k - 2 := by omega
          have g7 : (0 : Int) ≤ k - 7 := by omega
          have g15 : (0 : Int) ≤ k - 15 := by omega
          have g16 : (0 : Int) ≤ k - 16 := by omega
          have hsz : (Sh.sched l k).length + [Sh.nextW (Sh.sched l k) k].length ≤ 1073741824 := by simp [Sh.sched_len]; omega
          have HZ := hid hsz
          clear hsz hcl
          go_wp2_with fail
          go_quiet (fail)
          go_wp2_with (go_at_call 119; refine (turn_any _ _ _ (by omega)).mono ?_; rintro e w' ⟨rfl, rfl⟩)
          refine wp_region_qtail1 15 (by kernel_rfl) (by kernel_rfl) (by kernel_rfl) (fun _ _ _ _ h => h) ?_
          simp only [List.take_succ_cons, List.take_zero, List.drop_succ_cons, List.drop_zero]
          repeat (go_big_quiet_step (fail))
          refine wpQuiet_nil ?_
          go_wp2_with (first | (refine wpList_apw rfl (.tmp 80) (.tmp 96) rfl w.heap.size _ _ _ [Sh.nextW (Sh.sched l k) k] rfl ((OW.alloc (hov.drewN (nq + 1)) _).drewN 1) rfl ((WS.one _ _ _ rfl _).drewN 1) HZ.out (by simp; omega) ?_; rintro v2 w2 hown2 hg2 -))
          go_roundw
          case rel => exact ⟨k + 1, by omega, by omega, rfl, by rw [show Sh.sched l (k + 1) = Sh.sched l k ++ [Sh.nextW (Sh.sched l k) k] by rw [Sh.sched, if_neg (by omega)]]; exact hown2, ow_below ((below_drewN hbl (nq + 1)).alloc (by simp; omega) _) (OW.alloc (hov.drewN (nq + 1)) _) (by simp; omega) hg2⟩
          case measure => simp [intOf]; omega
        · have : k = 64 := by omega
          subst this
          go_wp2_with fail
          go_ret
          exact ⟨_, rfl, hov, hbl⟩
end Go.Proofs.YtgclegdgngldoaaDoor
set_option linter.unusedSimpArgs false
set_option linter.unusedVariables false
namespace Go.Proofs.YtgclegdgngldoaaDoor
open Go.RowKit

theorem ow_belowb {B : Nat} {w w0 w' : World} {v : Value} {l : List (BitVec 8)} (h : Below B w0 w) (hown : OB w B v l) (hB : B ≤ w.heap.size) (hg : w.grownBy w' v.ownBlock) : Below B w0 w' := h.grown hg hB (fun k hk => (hown.lt k hk).1)
theorem be8_val' (n k : Nat) (hk : k < 8) : Value.int .u8 ((n : Int) * 8 / 2 ^ (8 * (7 - k)) % 256) = U8 ((Sh.be8 n).getD k 0) := by
  rw [← be8_val n k hk, show 8 * (7 - k) = 56 - 8 * k by omega]
set_option maxRecDepth 100000 in
set_option maxHeartbeats 1000000 in
theorem padded_any (w : World) (v : Value) (l : List (BitVec 8)) (hv : BS w v l) (hn : l.length ≤ 1073741000) :
    Calls Tryd.prog 107 #[v] w fun e w' => ∃ u, e = .returned u ∧ OB w' w.heap.size u (Sh.finish l l.length) ∧ Below w.heap.size w w' := by
  obtain ⟨n, hnl⟩ : ∃ n, n = l.length := ⟨_, rfl⟩
  obtain ⟨av, cv, rfl, hcv⟩ := hv.shape' n hnl.symm
  have HL := hid hnl
  rw [← hnl] at hn ⊢
  clear hnl
  go_enter Tryd.func107, Tryd.ntmps107
  go_wp2_with (first
    | (refine wpList_apb rfl (.tmp 6) (.tmp 7) rfl w.heap.size _ _ [] l rfl (OW.litb w [] _ rfl _ rfl (by unfold maxLen; decide) _ (Nat.le_refl _)) rfl (SV.alloc hv _) (by rw [← HL.out]; simp; omega) (by simp) ?_; rintro v1 w1 hown1 hg1 -)
    | (refine wpList_apb rfl (.tmp 9) (.tmp 10) rfl w.heap.size _ _ l [128] rfl (OB.alloc hown1 _) rfl (BS.one _ _ 128 rfl _) (by rw [← HL.out]; simp; omega) (by have := hg1.size; simp at this ⊢; omega) ?_; rintro v2 w2 hown2 hg2 -))
  have hB1 : Below w.heap.size w w1 := ow_belowb ((Below.refl _ _).alloc (Nat.le_refl _) _) (OW.litb w [] _ rfl _ rfl (by unfold maxLen; decide) _ (Nat.le_refl _)) (by simp) hg1
  have hB2 : Below w.heap.size w w2 := ob_below1 _ hB1 hown1 hB1.size hg2
  clear hg1 hg2 hown1 hB1
  go_loopw [3] (fun v wr => ∃ j, j ≤ Sh.npad n ∧ OB wr w.heap.size v (l ++ [128] ++ Sh.zeros j) ∧ Below w.heap.size w wr) (fun v _ => n + 300 - slLen v)
  case atStart => exact ⟨0, by omega, by simpa [Sh.zeros] using hown2, hB2⟩
  case round =>
    obtain ⟨j, hj, hov, hbw⟩ := hrel
    have hpd : Sh.npad n = (119 - n % 64) % 64 := rfl
    have hz := hbw.size
    obtain ⟨N, hN⟩ : ∃ N, N = (l ++ [128] ++ Sh.zeros j).length := ⟨_, rfl⟩
    have hN' : N = n + 1 + j := by rw [hN, HL.out]; simp [Sh.zeros]; omega
    obtain ⟨av, cv, rfl, hcv⟩ := hov.bs.shape' N hN.symm
    have hNle : N ≤ n + 64 := by omega
    have HN := hid hN
    clear hB2 hown2
    by_cases hlt : j < Sh.npad n
    · have h56 : ((N : Int) % 64 != 56) = true := by rw [bne_iff_ne]; omega
      have HN' := hid hN'; have HP := hid hpd
      clear hN hN' hpd
      go_wp2_with (refine wpList_apb rfl (.tmp 16) (.tmp 17) rfl w.heap.size _ _ _ [0] rfl (OB.alloc hov _) rfl (BS.one _ _ 0 rfl _) (by rw [← HN.out]; simp; omega) (by simp; omega) ?_; rintro v3 w4 hown3 hg3 -; have HB4 := ob_below1 _ hbw hov hz hg3)
      go_roundw
      case rel => exact ⟨j + 1, by omega, by simpa [Sh.zeros, List.replicate_succ'] using hown3, HB4⟩
      case measure =>
        obtain ⟨a3, c3, rfl, hc3⟩ := hown3.bs.shape' (N + 1) (by rw [List.length_append, ← HN.out]; rfl)
        show n + 300 - (N + 1) < n + 300 - N
        omega
    · have h56 : ((N : Int) % 64 != 56) = false := by rw [bne_eq_false_iff_eq]; omega
      have hje : j = Sh.npad n := by omega
      have HN' := hid hN'; have HP := hid hpd; have HJ := hid hje
      clear hN hN' hpd hje
      go_wp2_with fail
      obtain ⟨wo, hwo⟩ : ∃ wo : World, wo = wr := ⟨_, rfl⟩
      rw [← hwo] at hov hbw hz
      rw [← hwo]
      clear hwo
      go_loopw [3, 5] (fun v i wr => ∃ k : Nat, k ≤ 8 ∧ i = .int .i64 (7 - (k : Int)) ∧ OB wr w.heap.size v (l ++ [128] ++ Sh.zeros (Sh.npad n) ++ (Sh.be8 n).take k) ∧ Below w.heap.size w wr) (fun _ i _ => (intOf i + 8).toNat)
      case atStart => exact ⟨0, by omega, rfl, by rw [← HJ.out]; simpa using hov, hbw⟩
      case round =>
        obtain ⟨k, hk, rfl, hok, hbk⟩ := hrel
        clear hov hbw hz
        have hz := hbk.size
        by_cases hlt : k < 8
        · have i0 : (0 : Int) ≤ 7 - k := by omega
          go_wp2_with (refine wpList_apb rfl (.tmp 27) (.tmp 34) rfl w.heap.size _ _ _ [(Sh.be8 n).getD k 0] rfl (OB.alloc hok _) rfl (BS.one _ _ _ (be8_val' n k hlt) _) (by simp [Sh.be8, Sh.zeros, Sh.npad, ← HL.out]; omega) (by simp; omega) ?_; rintro v3 w4 hown3 hg3 -; have HB4 := ob_below1 _ hbk hok hz hg3)
          go_roundw
          case rel => exact ⟨k + 1, by omega, by go_num, by rw [be8_take n k hlt, ← List.append_assoc]; exact hown3, HB4⟩
          case measure => simp [intOf]; omega
        · have hke : k = 8 := by omega
          subst hke
          go_wp2_with fail
          go_ret
          exact ⟨_, rfl, by have hf : l ++ [128] ++ Sh.zeros (Sh.npad n) ++ (Sh.be8 n).take 8 = Sh.finish l n := by rw [HL.out]; rfl
                            rw [hf] at hok; exact hok, hbk⟩
end Go.Proofs.YtgclegdgngldoaaDoor
set_option linter.unusedSimpArgs false
set_option linter.unusedVariables false
namespace Go.Proofs.YtgclegdgngldoaaDoor
open Go.RowKit

theorem ch_same (e f g : BitVec 32) : (e &&& f ^^^ ~~~e &&& g) = (g ^^^ e &&& (f ^^^ g)) := by
  apply BitVec.eq_of_getLsbD_eq
  intro i hi
  simp only [BitVec.getLsbD_xor, BitVec.getLsbD_and, BitVec.getLsbD_not, hi, decide_true, Bool.true_and]
  cases e.getLsbD i <;> cases f.getLsbD i <;> cases g.getLsbD i <;> rfl
theorem maj_same (a b c : BitVec 32) : (a &&& b ^^^ a &&& c ^^^ b &&& c) = (a &&& b ||| c &&& (a ||| b)) := by
  apply BitVec.eq_of_getLsbD_eq
  intro i hi
  simp only [BitVec.getLsbD_xor, BitVec.getLsbD_and, BitVec.getLsbD_or]
  cases a.getLsbD i <;> cases b.getLsbD i <;> cases c.getLsbD i <;> rfl
theorem OW.shape2 {w : World} {base : Nat} {v : Value} {l : List (BitVec 32)} (h : OW w base v l) (n : Nat) (hn : l.length = n) (h0 : 0 < n) : ∃ g cap, v = .slice (some ⟨g, 0, none⟩) n cap ∧ base ≤ g ∧ n ≤ cap := by
  subst hn
  rcases h.2 with ⟨h1, h2⟩ | ⟨g, cap, cur, hv, hb, hg, hc, r⟩
  · rw [h2] at h0; omega
  · exact ⟨g, cap, hv, hb, hc⟩
theorem OW.set {w : World} {base g n cap : Nat} {l : List (BitVec 32)} (h : OW w base (.slice (some ⟨g, 0, none⟩) n cap) l) (hn : l.length = n) (i : Nat) (hi : i < n) (x : BitVec 32) :
    w.free g = true ∧ i < (w.rowOf g).size ∧ OW (w.setRow g ((w.rowOf g).setIfInBounds i (U32 x))) base (.slice (some ⟨g, 0, none⟩) n cap) (l.set i x) := by
  subst hn
  rcases h.2 with ⟨h1, h2⟩ | ⟨g', cap', cur, hv, hb, hg, hc, hm, hs, ht⟩
  · cases h1
  · cases hv
    have hr : w.rowOf g = cur := by simp [World.rowOf, hg]
    refine ⟨by simp [World.free, hg], by rw [hr, hs]; omega, by simp [h.1], .inr ⟨g, cap, cur.setIfInBounds i (U32 x), by simp, hb, ?_, by simpa using hc, hm, by simp [hs], ?_⟩⟩
    · rw [hr]; exact heap_setRow_same hg
    · rw [Array.toList_setIfInBounds, List.map_set, ← ht]
      simp only [List.length_set]
      rw [List.take_set]
theorem oplus_get (s r : Sh.S8) (j : Nat) (h : j < 8) : (mixed s r j).getD j 0 = s.list.getD j 0 := by
  rw [List.getD_eq_getElem?_getD, List.getElem?_eq_getElem (by rw [mixed_len s r j (by omega)]; exact h), mixed_get s r j h]; rfl
theorem mixed_8 (s r : Sh.S8) : mixed s r 8 = (s.plus r).list := by simp [mixed, Sh.S8.list]
theorem plus_comm (s r : Sh.S8) : s.plus r = r.plus s := by simp [Sh.S8.plus, BitVec.add_comm]
theorem step_list (s : Sh.S8) (k w : BitVec 32) : (s.step k w).list = [s.h + (Sh.rr s.e 6 ^^^ Sh.rr s.e 11 ^^^ Sh.rr s.e 25) + (s.e &&& s.f ^^^ ~~~s.e &&& s.g) + k + w + ((Sh.rr s.a 2 ^^^ Sh.rr s.a 13 ^^^ Sh.rr s.a 22) + (s.a &&& s.b ^^^ s.a &&& s.c ^^^ s.b &&& s.c)), s.a, s.b, s.c, s.d + (s.h + (Sh.rr s.e 6 ^^^ Sh.rr s.e 11 ^^^ Sh.rr s.e 25) + (s.e &&& s.f ^^^ ~~~s.e &&& s.g) + k + w), s.e, s.f, s.g] := by
  rw [ch_same, maj_same]; rfl
theorem quiet_of_add {P : Program} {f : FuncId} {args : Array Value} {w : World} {m n : Nat} {v : Value}
    (h : Calls P f args (w.drewN (m + n)) fun e w' => e = .returned v ∧ w' = w.drewN (m + n)) : Calls P f args (w.drewN (m + n)) fun e w'' => e = .returned v ∧ ∃ k, w'' = w.drewN (m + k) :=
  h.mono fun _ _ ⟨he, hm⟩ => ⟨he, n, hm⟩
set_option maxRecDepth 100000 in
set_option maxHeartbeats 2000000 in
theorem rblock_any (w : World) (v0 v1 : Value) (s : Sh.S8) (l : List (BitVec 8)) (h0 : WS w v0 s.list) (h1 : BS w v1 l) (hl : l.length = 64) :
    Calls Tryd.prog 109 #[v0, v1] w fun e w' => ∃ u, e = .returned u ∧ OW w' w.heap.size u (Sh.compress s l).list ∧ Below w.heap.size w w' := by
  obtain ⟨av, cv, rfl, hcv⟩ := h0.shape' 8 rfl
  have HL := hid hl
  clear hl
  go_enter Tryd.func109, Tryd.ntmps109
  go_wp2_with (first
    | (go_at_call 117; refine (rsched_any w v1 l h1 HL.out).mono ?_; rintro e w1 ⟨us, rfl, hs1, hb1⟩; dsimp only)
    | (go_at_call 118; refine (constants_any w1).mono ?_; rintro e w2 ⟨uk, rfl, hk2, hb2⟩; dsimp only)
    | (refine wpList_apw rfl (.tmp 17) (.tmp 18) rfl w2.heap.size _ _ [] s.list rfl (OW.lit w2 [] _ rfl _ rfl (by unfold maxLen; decide) _ (Nat.le_refl _)) rfl (SV.alloc ((h0.below hb1).below hb2) _) (by simp [Sh.S8.list]) (by simp) ?_; rintro v3 w3 hown3 hg3 -))
  have hB2 : Below w.heap.size w w2 := hb1.trans (hb2.mono hb1.size)
  have hz2 := hB2.size
  have hB3 : Below w2.heap.size w2 w3 := ow_below ((Below.refl _ _).alloc (Nat.le_refl _) _) (OW.lit w2 [] _ rfl _ rfl (by unfold maxLen; decide) _ (Nat.le_refl _)) (by simp) hg3
  have hz3 := hB3.size
  have HS := hid (WS.below ((hs1.ws).below hb2) hB3)
  have HK := hid (WS.below hk2.ws hB3)
  have HB3 := hid (hB2.trans (hB3.mono hz2))
  have HW0 := hid h0
  have hz20 := hz2
  have hz30 : w.heap.size ≤ w3.heap.size := by omega
  clear hg3 hs1 hk2 hb1 hb2 hB2 hB3 h0 h1 hz2 hz3
  go_loopw [7, 8, 9, 10, 11, 12] (fun v t _ _ _ _ wr => ∃ k : Nat, k ≤ 64 ∧ t = .int .i64 k ∧ OW wr w.heap.size v (Sh.rounds s (Sh.sched l 64) k).list ∧ Below w3.heap.size w3 wr) (fun _ t _ _ _ _ _ => 64 - (intOf t).toNat)
  case atStart => exact ⟨0, by omega, rfl, hown3.mono hz20, Below.refl _ _⟩
  case round =>
    obtain ⟨k, hk, rfl, hov, hbw⟩ := hrel
    have hz := hbw.size
    obtain ⟨r, hr⟩ : ∃ r, r = Sh.rounds s (Sh.sched l 64) k := ⟨_, rfl⟩
    rw [← hr] at hov
    have HR := hid hr
    clear hr
    by_cases hlt : k < 64
    · obtain ⟨bv, ov, cv, rfl, hcv, hcl⟩ := hov.ws.open (by simp [Sh.S8.list])
      obtain ⟨bs, os, cs', rfl, hcs, hcls⟩ := (WS.below HS.out hbw).open (by intro e; have := Sh.sched_len l 64; rw [e] at this; cases this)
      obtain ⟨bk, ok, ck, rfl, hck, hclk⟩ := (WS.below HK.out hbw).open (by simp [Sh.K])
      rw [show r.list.length = 8 from rfl] at hcl hcv hov ⊢
      rw [Sh.sched_len] at hcls hcs ⊢
      rw [show Sh.K.length = 64 from rfl] at hclk hck ⊢
      have c0 : wr.cell? ⟨bv, ov, none⟩ = some (U32 r.a) := hcl 0 (by decide)
      have c1 : wr.cell? ⟨bv, ov + 1, none⟩ = some (U32 r.b) := hcl 1 (by decide)
      have c2 : wr.cell? ⟨bv, ov + 2, none⟩ = some (U32 r.c) := hcl 2 (by decide)
      have c3 : wr.cell? ⟨bv, ov + 3, none⟩ = some (U32 r.d) := hcl 3 (by decide)
      have c4 : wr.cell? ⟨bv, ov + 4, none⟩ = some (U32 r.e) := hcl 4 (by decide)
      have c5 : wr.cell? ⟨bv, ov + 5, none⟩ = some (U32 r.f) := hcl 5 (by decide)
      have c6 : wr.cell? ⟨bv, ov + 6, none⟩ = some (U32 r.g) := hcl 6 (by decide)
      have c7 : wr.cell? ⟨bv, ov + 7, none⟩ = some (U32 r.h) := hcl 7 (by decide)
      have k1 := hcls k hlt
      have k2 := hclk k hlt
      clear hcl hcls hclk
      go_wp2_with fail
      go_quiet (fail)
      go_wp
      go_quiet ((go_at_call 119; first | exact Calls.quiet_of_same (turn_any _ _ _ (by omega)) | exact quiet_of_add (turn_any _ _ _ (by omega))))
      go_wp
      go_quiet ((go_at_call 119; first | exact Calls.quiet_of_same (turn_any _ _ _ (by omega)) | exact quiet_of_add (turn_any _ _ _ (by omega))))
      go_wp2_with fail
      refine wp_region_qtail 26 (by kernel_rfl) (by kernel_rfl) ?_
      simp only [List.take_succ_cons, List.take_zero, List.drop_succ_cons, List.drop_zero]
      repeat (go_big_quiet_step (fail))
      refine wpQuiet_nil ?_
      go_wp2_with fail
      go_roundw
      case rel => 
        refine ⟨k + 1, by omega, rfl, ?_, ?_⟩
        · refine OW.lit _ _ _ ?_ _ rfl (by show 8 ≤ maxLen; unfold maxLen; decide) _ (by first | omega | (simp; omega))
          rw [Sh.rounds, ← HR.out, step_list]; rfl
        · exact (below_drewN hbw _).alloc (by simp; omega) _
      case measure => simp [intOf]; omega
    · have : k = 64 := by omega
      subst this
      go_wp2_with fail
      obtain ⟨g, cap, rfl, hbg, hcap⟩ := hov.shape2 8 rfl (by omega)
      have hbw2 : Below w.heap.size w wr := HB3.out.trans (hbw.mono hz30)
      obtain ⟨wo, hwo⟩ : ∃ wo : World, wo = wr := ⟨_, rfl⟩
      rw [← hwo] at hov hbw2
      rw [← hwo]
      clear hwo hbw hz
      go_loopw [13] (fun t wr => ∃ j : Nat, j ≤ 8 ∧ t = .int .i64 j ∧ OW wr w.heap.size (.slice (some ⟨g, 0, none⟩) 8 cap) (mixed r s j) ∧ Below w.heap.size w wr) (fun t _ => 8 - (intOf t).toNat)
      case atStart => exact ⟨0, by omega, rfl, by simpa [mixed] using hov, hbw2⟩
      case round =>
        clear hov hbw2
        obtain ⟨j, hj, rfl, hov, hbw⟩ := hrel
        have hml := mixed_len r s j hj
        by_cases hlj : j < 8
        · obtain ⟨gv, ov, cv, hgv, hcv, hcl⟩ := hov.ws.open (by intro e; rw [e] at hml; cases hml)
          rw [hml] at hgv hcl hcv
          cases hgv
          obtain ⟨b0, o0, c0, h00, hc0, hcl0⟩ := (WS.below HW0.out hbw).open (by simp [Sh.S8.list])
          obtain ⟨sj, hsj⟩ : ∃ sj, sj = s.list.getD j 0 := ⟨_, rfl⟩
          obtain ⟨rj, hrj⟩ : ∃ rj, rj = r.list.getD j 0 := ⟨_, rfl⟩
          have k1 := hcl j (by omega)
          have k2 := hcl0 j (by exact hlj)
          rw [oplus_get r s j hlj, ← hrj] at k1
          rw [← hsj] at k2
          obtain ⟨e1, e2, e3⟩ := hov.set hml j hlj (rj + sj)
          cases h00
          have hff := free_frozen e1 j
          rw [Nat.zero_add] at k1
          have HSJ := hid hsj; have HRJ := hid hrj; have HM := hid hml; have HE := hid e3
          clear hcl hcl0 hsj hrj hml hov e3
          go_wp2_with fail
          refine wp_region_qtail 12 (by kernel_rfl) (by kernel_rfl) ?_
          simp only [List.take_succ_cons, List.take_zero, List.drop_succ_cons, List.drop_zero]
          repeat (go_big_quiet_step (fail))
          refine wpQuiet_nil ?_
          go_wp2_with fail
          go_roundw
          case rel =>
            refine ⟨j + 1, by omega, by go_num, ?_, ?_⟩
            · rw [setCell_row e1, ← mixed_set r s j hlj, ← HSJ.out, ← HRJ.out]; exact OW.drewN HE.out 1
            · rw [setCell_row e1]; exact below_drewN (below_setRow' hbw hbg _) 1
          case measure => simp [intOf]; omega
        · have : j = 8 := by omega
          subst this
          go_wp2_with fail
          go_ret
          refine ⟨_, rfl, ?_, hbw⟩
          rw [Sh.compress, plus_comm, ← HR.out, ← mixed_8]
          exact hov
end Go.Proofs.YtgclegdgngldoaaDoor
set_option linter.unusedSimpArgs false
set_option linter.unusedVariables false
namespace Go.Proofs.YtgclegdgngldoaaDoor
open Go.RowKit

theorem BS.mid {w : World} {b o n cap : Nat} {l : List (BitVec 8)} (h : BS w (.slice (some ⟨b, o, none⟩) n cap) l) (hn : l.length = n) (k m c : Nat) (hk : k + m ≤ n) (hm : 0 < m) (hc : m ≤ c) (hcc : c + k ≤ cap) :
    BS w (.slice (some ⟨b, o + k, none⟩) m c) ((l.drop k).take m) := by
  subst hn
  have h1 := h.tail k (by omega) (some ⟨b, o + k, none⟩) (fun _ => rfl)
  have h2 : (l.drop k).length = l.length - k := List.length_drop
  rw [← h2] at h1
  exact h1.head m c (by omega) hc (by omega)
theorem absorb_done (s : Sh.S8) : Sh.absorb s [] = (s, []) := Sh.absorb_lt (by decide)
theorem bytes_at (s : Sh.S8) (i : Nat) (hi : i < 32) : s.bytes.getD i 0 = (s.list.getD (i / 4) 0 >>> (24 - 8 * (i % 4))).setWidth 8 := by
  rcases s with ⟨a, b, c, d, e, f, g, h⟩
  have : i = 0 ∨ i = 1 ∨ i = 2 ∨ i = 3 ∨ i = 4 ∨ i = 5 ∨ i = 6 ∨ i = 7 ∨ i = 8 ∨ i = 9 ∨ i = 10 ∨ i = 11 ∨ i = 12 ∨ i = 13 ∨ i = 14 ∨ i = 15 ∨ i = 16 ∨ i = 17 ∨ i = 18 ∨ i = 19 ∨ i = 20 ∨ i = 21 ∨ i = 22 ∨ i = 23 ∨ i = 24 ∨ i = 25 ∨ i = 26 ∨ i = 27 ∨ i = 28 ∨ i = 29 ∨ i = 30 ∨ i = 31 := by omega
  rcases this with h | h | h | h | h | h | h | h | h | h | h | h | h | h | h | h | h | h | h | h | h | h | h | h | h | h | h | h | h | h | h | h <;> subst h <;> simp [Sh.S8.bytes, Sh.S8.list, Sh.wbytes]
def outB (s : Sh.S8) (i : Nat) : List (BitVec 8) := s.bytes.take i ++ zs (32 - i)
theorem outB_len (s : Sh.S8) (i : Nat) (hi : i ≤ 32) : (outB s i).length = 32 := by simp [outB, Sh.bytes_len]; omega
theorem outB_step (s : Sh.S8) (i : Nat) (hi : i < 32) : (outB s i).set i (s.bytes.getD i 0) = outB s (i + 1) := by
  have hl : i < s.bytes.length := by rw [Sh.bytes_len]; exact hi
  have e1 : (s.bytes.take i).length = i := by simp [Sh.bytes_len]; omega
  have e2 : (zs (32 - i) : List (BitVec 8)) = 0 :: zs (32 - (i + 1)) := by unfold zs; rw [show 32 - i = (32 - (i + 1)) + 1 by omega, List.replicate_succ]
  unfold outB
  rw [List.set_append_right _ _ (by omega), e1, Nat.sub_self, e2, List.set_cons_zero, List.take_succ_eq_append_getElem hl, List.getD_eq_getElem?_getD, List.getElem?_eq_getElem hl, List.append_assoc]
  rfl
theorem outB_zero (s : Sh.S8) : outB s 0 = zs 32 := by simp [outB]
theorem outB_all (s : Sh.S8) : outB s 32 = s.bytes := by
  have : s.bytes.take 32 = s.bytes := List.take_of_length_le (by rw [Sh.bytes_len]; exact Nat.le_refl _)
  simp [outB, zs, this]
attribute [local irreducible] outB
set_option maxRecDepth 100000 in
set_option maxHeartbeats 2000000 in
theorem rsum_any (w : World) (v : Value) (l : List (BitVec 8)) (hv : BS w v l) (hn : l.length ≤ 1073741000) :
    Calls Tryd.prog 91 #[v] w fun e w' => e = .returned (.agg (cs U8 (Sh.sum l))) ∧ Below w.heap.size w w' := by
  have hv1 : BS (w.alloc (.cells (cs U8 (zs 32)) 23)) v l := SV.alloc hv _
  go_enter Tryd.func91, Tryd.ntmps91
  go_wp2_with (first
    | (go_at_call 107; refine (padded_any _ v l hv1 hn).mono ?_; rintro e w1 ⟨up, rfl, hp1, hb1⟩; dsimp only)
    | (go_at_call 108; refine (first_any w1).mono ?_; rintro e w2 ⟨uk, rfl, hk2, hb2⟩; dsimp only))
  obtain ⟨m, hm⟩ : ∃ m, m = Sh.finish l l.length := ⟨_, rfl⟩
  obtain ⟨N, hN⟩ : ∃ N, N = m.length := ⟨_, rfl⟩
  have hNm : N % 64 = 0 := by rw [hN, hm]; exact Sh.finish_mod _ _
  have hNb : 0 < N ∧ N ≤ 1073742000 := by rw [hN, hm, Sh.finish_len]; unfold Sh.npad; omega
  have hsum : (Sh.absorb Sh.init m).1.bytes = Sh.sum l := by rw [hm]; rfl
  rw [← hm] at hp1
  obtain ⟨bp, op, cp, rfl, hcp, hcells⟩ := hp1.bs.open (by intro e; rw [e] at hN; simp at hN; omega)
  rw [← hN] at hcp hp1 ⊢
  have hB1 : Below (w.heap.size + 1) (w.alloc (Obj.cells (cs U8 (zs 32)) 23)) w1 := by simpa using hb1
  have hz1 : w.heap.size + 1 ≤ w1.heap.size := by have := hB1.size; simpa using this
  have hB2 : Below (w.heap.size + 1) (w.alloc (Obj.cells (cs U8 (zs 32)) 23)) w2 := hB1.trans (hb2.mono hz1)
  have hz2 : w.heap.size + 1 ≤ w2.heap.size := by have := hb2.size; omega
  have hP := hid (hp1.bs.below hb2)
  have HSUM := hid hsum
  have HM := hid hm
  have HN := hid hN
  have HB2 := hid hB2
  clear hcells hb1 hb2 hB1 hB2 hv hv1 hsum hm hN hp1
  go_loopw [4, 5] (fun v t wr => ∃ (j : Nat) (s : Sh.S8), 64 * j ≤ N ∧ t = .int .i64 ((64 * j : Nat) : Int) ∧ OW wr (w.heap.size + 1) v s.list ∧ Sh.absorb s (m.drop (64 * j)) = Sh.absorb Sh.init m ∧ Below w2.heap.size w2 wr) (fun _ t _ => N - (intOf t).toNat)
  case atStart => exact ⟨0, Sh.init, by omega, rfl, hk2.mono hz1, rfl, Below.refl _ _⟩
  case round =>
    obtain ⟨j, s, hj, rfl, hov, hab, hbw⟩ := hrel
    have HAB := hid hab
    have hz := hbw.size
    clear hab
    by_cases hlt : 64 * j < N
    · have hP' : BS wr (.slice (some ⟨bp, op, none⟩) N cp) m := hP.out.below hbw
      have hmid := hP'.mid HN.out.symm (64 * j) 64 (cp - 64 * j) (by omega) (by omega) (by omega) (by omega)
      have hlen : ((m.drop (64 * j)).take 64).length = 64 := by rw [List.length_take, List.length_drop, ← HN.out]; omega
      have HMID := hid hmid; have HLEN := hid hlen
      clear hP' hmid hlen
      have q0 : (0 : Int) ≤ 64 * j := by omega
      have q1 : (64 * (j : Int)) < N := by omega
      have q2 : (64 * (j : Int) + 64) ≤ cp := by omega
      go_wp
      refine (rblock_any wr _ _ s ((m.drop (64 * j)).take 64) hov.ws HMID.out HLEN.out).mono ?_
      rintro e w4 ⟨u5, rfl, h5, hb5⟩
      dsimp only
      go_wp
      go_roundw
      case rel =>
        refine ⟨j + 1, Sh.compress s ((m.drop (64 * j)).take 64), by omega, by go_num, h5.mono (by omega), ?_, hbw.trans (hb5.mono hz)⟩
        rw [← HAB.out, Sh.absorb_ge (l := m.drop (64 * j)) (by rw [List.length_drop, ← HN.out]; omega), List.drop_drop]
        rfl
      case measure => simp [intOf]; omega
    · have hje : 64 * j = N := by omega
      have q1 : ¬ (64 * (j : Int) < N) := by omega
      have hfin : s.bytes = Sh.sum l := by
        have h1 := HAB.out
        rw [List.drop_eq_nil_of_le (by rw [← HN.out]; omega), absorb_done] at h1
        rw [← HSUM.out, ← h1]
      have HF := hid hfin
      have HJ := hid hje
      have hb3 : Below (w.heap.size + 1) (w.alloc (Obj.cells (cs U8 (zs 32)) 23)) wr := HB2.out.trans (hbw.mono hz2)
      have HB3 := hid hb3
      have hz3 : w.heap.size + 1 ≤ wr.heap.size := by omega
      clear hfin hje hb3
      go_wp
      obtain ⟨wo, hwo⟩ : ∃ wo : World, wo = wr := ⟨_, rfl⟩
      rw [← hwo] at hov HB3 hz3
      rw [← hwo]
      clear hwo hbw hz hk2
      go_loopw [7] (fun t wr => ∃ i : Nat, i ≤ 32 ∧ t = .int .i64 i ∧ wr.rowOf wo.heap.size = cs U8 (outB s i) ∧ wr.free wo.heap.size = true ∧ Below wo.heap.size wo wr) (fun t _ => 32 - (intOf t).toNat)
      case atStart => exact ⟨0, by omega, rfl, by simp [go_sem, outB_zero], by simp [go_sem], (Below.refl _ _).alloc (Nat.le_refl _) _⟩
      case round =>
        obtain ⟨i, hi, rfl, hrow, hfr, hbw⟩ := hrel
        by_cases hli : i < 32
        · obtain ⟨gv, ov, cv, rfl, hcv, hcl⟩ := (WS.below hov.ws hbw).open (by simp [Sh.S8.list])
          have c1 := hcl (i / 4) (by show _ < 8; omega)
          have hrs : (wr.rowOf wo.heap.size).size = 32 := by rw [hrow]; simp [outB_len s i hi]
          have HROW := hid hrow
          have a0 : (0 : Int) ≤ i := by omega
          have a1 : (i : Int) < 32 := by omega
          have a2 : (i : Int) / 4 < 8 := by omega
          have a3 : (0 : Int) ≤ 24 - 8 * ((i : Int) % 4) := by omega
          have a4 : 8 * ((i : Int) % 4) ≤ 24 := by omega
          rw [show s.list.length = 8 from rfl] at hov ⊢
          clear hcl hrow
          go_wp2_with fail
          go_roundw
          case rel =>
            refine ⟨i + 1, by omega, by go_num, ?_, ?_, ?_⟩
            · rw [rowOf_setRow_same _ hfr, HROW.out]
              have hb := bytes_at s i hli
              rw [List.getD_eq_getElem?_getD (l := s.list)] at hb
              refine Eq.trans (congrArg (fun z => (cs U8 (outB s i)).setIfInBounds i (U8 z)) hb.symm) ?_
              rw [cs_set8, outB_step s i hli]
            · rw [free_setRow]; exact hfr
            · exact below_setRow' hbw (Nat.le_refl _) _
          case measure => simp [intOf]; omega
        · have : i = 32 := by omega
          subst this
          have hb4 : Below (w.heap.size + 1) (w.alloc (Obj.cells (cs U8 (zs 32)) 23)) wr := HB3.out.trans (hbw.mono hz3)
          have r0 : wr.rowOf w.heap.size = cs U8 (zs 32) := by rw [below_row hb4 (by omega)]; simp [go_sem]
          have f0 : wr.free w.heap.size = true := by rw [below_free hb4 (by omega)]; simp [go_sem]
          have s0 : (wr.rowOf w.heap.size).size = 32 := by rw [r0]; simp [zs]
          have s1 : (wr.rowOf wo.heap.size).size = 32 := by rw [hrow]; simp [outB_len s 32 (by omega)]
          have hro : wr.rowOf wo.heap.size = cs U8 (Sh.sum l) := by rw [hrow, outB_all, HF.out]
          have HB4 := hid hb4
          have HSL : Hid ((Sh.sum l).length = 32) := hid (by rw [← HF.out]; rfl)
          have ho1 : ones (wr.rowOf wo.heap.size) = true := by rw [hro]; simp [go_sem]
          have HRO := hid hro
          clear r0 hrow hb4 hro
          go_wp2_with fail
          refine bodyPost_ret (res_row (b := w.heap.size) rfl Tryd.underlying23 rfl inf_key _ _ rfl ?_) rfl ?_
          · rw [rowOf_setRow_same _ f0, HRO.out, cs_size]; exact HSL.out
          · rw [rowOf_setRow_same _ f0, HRO.out]
            refine ⟨rfl, ?_⟩
            refine Below.trans ((Below.refl _ _).alloc (Nat.le_refl _) _) (below_setRow' (HB4.out.mono (by omega)) (Nat.le_refl _) _)
end Go.Proofs.YtgclegdgngldoaaDoor
