/-
  Law 03: ShaOwn; own work.
-/
import Derived.Test.YtocledgjejlolaaDoorLaw3c
import Derived.Test.YtocledgjejlolaaDoorApp
import Derived.Deep.RegionHeldLaw
set_option linter.unusedSimpArgs false
set_option linter.unusedVariables false
namespace Go.Proofs.YtocledgjejlolaaDoor
open Go.RowKit

theorem zero_lit : (#[.int .u8 0, .int .u8 0, .int .u8 0, .int .u8 0, .int .u8 0, .int .u8 0, .int .u8 0, .int .u8 0, .int .u8 0, .int .u8 0, .int .u8 0, .int .u8 0, .int .u8 0, .int .u8 0, .int .u8 0, .int .u8 0, .int .u8 0, .int .u8 0, .int .u8 0, .int .u8 0, .int .u8 0, .int .u8 0, .int .u8 0, .int .u8 0, .int .u8 0, .int .u8 0, .int .u8 0, .int .u8 0, .int .u8 0, .int .u8 0, .int .u8 0, .int .u8 0] : Array Value) = cs U8 (zs 32) := rfl
@[go_sem] theorem eqin_zero (w : World) (a : List (BitVec 8)) (ha : a.length = 32) : (Op.equalIn 10000 25 (.agg (cs U8 a)) (.agg #[.int .u8 0, .int .u8 0, .int .u8 0, .int .u8 0, .int .u8 0, .int .u8 0, .int .u8 0, .int .u8 0, .int .u8 0, .int .u8 0, .int .u8 0, .int .u8 0, .int .u8 0, .int .u8 0, .int .u8 0, .int .u8 0, .int .u8 0, .int .u8 0, .int .u8 0, .int .u8 0, .int .u8 0, .int .u8 0, .int .u8 0, .int .u8 0, .int .u8 0, .int .u8 0, .int .u8 0, .int .u8 0, .int .u8 0, .int .u8 0, .int .u8 0, .int .u8 0])).run Tryd.prog w = .ok (a == zs 32) w := by
  rw [zero_lit]; exact eqin_key w a (zs 32) ha (by simp [zs])
theorem OB.shape2 {w : World} {base : Nat} {v : Value} {l : List (BitVec 8)} (h : OB w base v l) (n : Nat) (hn : l.length = n) (h0 : 0 < n) : ∃ g cap, v = .slice (some ⟨g, 0, none⟩) n cap ∧ base ≤ g ∧ n ≤ cap := by
  subst hn
  rcases h.2 with ⟨h1, h2⟩ | ⟨g, cap, cur, hv, hb, hg, hc, r⟩
  · rw [h2] at h0; omega
  · exact ⟨g, cap, hv, hb, hc⟩
theorem OB.set {w : World} {base g n cap : Nat} {l : List (BitVec 8)} (h : OB w base (.slice (some ⟨g, 0, none⟩) n cap) l) (hn : l.length = n) (i : Nat) (hi : i < n) (x : BitVec 8) :
    w.free g = true ∧ i < (w.rowOf g).size ∧ OB (w.setRow g ((w.rowOf g).setIfInBounds i (U8 x))) base (.slice (some ⟨g, 0, none⟩) n cap) (l.set i x) := by
  subst hn
  rcases h.2 with ⟨h1, h2⟩ | ⟨g', cap', cur, hv, hb, hg, hc, hm, hs, ht⟩
  · cases h1
  · cases hv
    have hr : w.rowOf g = cur := by simp [World.rowOf, hg]
    refine ⟨by simp [World.free, hg], by rw [hr, hs]; omega, by simp [h.1], .inr ⟨g, cap, cur.setIfInBounds i (U8 x), by simp, hb, ?_, by simpa using hc, hm, by simp [hs], ?_⟩⟩
    · rw [hr]; exact heap_setRow_same hg
    · rw [Array.toList_setIfInBounds, List.map_set, ← ht]
      simp only [List.length_set]
      rw [List.take_set]
/-! a hash that no call made -/
/-- nil, or a hash whose first cell is false -/
def Bad (w : World) (p : Option Addr) : Prop := p = none ∨ ∃ b, p = some ⟨b, 0, none⟩ ∧ w.cell? ⟨b, 0, none⟩ = some (.bool false)
theorem good_bad {w : World} {p : Option Addr} (h : Bad w p) :
    Calls Tryd.prog 53 #[.pointer p] w fun e w' => e = .returned (.bool false) ∧ w = w' := by
  rcases h with rfl | ⟨b, rfl, hc⟩
  · exact good_nil w
  · exact good_no w b hc
set_option maxHeartbeats 400000 in
theorem write_bad {w : World} {p : Option Addr} (v : Value) (h : Bad w p) :
    Calls Tryd.prog 22 #[.pointer p, v] w fun e w' => e = .returned (.int .i64 1) ∧ w = w' := by
  have HB := hid h
  go_enter Tryd.func22, Tryd.ntmps22
  go_wp2_with (go_at_call 53; refine (good_bad HB.out).mono ?_; rintro e w' ⟨rfl, rfl⟩)
  go_ret
  exact ⟨rfl, rfl⟩
set_option maxHeartbeats 400000 in
theorem len_bad {w : World} {p : Option Addr} (h : Bad w p) :
    Calls Tryd.prog 23 #[.pointer p] w fun e w' => e = .returned (.int .i64 0) ∧ w = w' := by
  have HB := hid h
  go_enter Tryd.func23, Tryd.ntmps23
  go_wp2_with (go_at_call 53; refine (good_bad HB.out).mono ?_; rintro e w' ⟨rfl, rfl⟩)
  go_ret
  exact ⟨rfl, rfl⟩
theorem Bad.below {w w' : World} {p : Option Addr} {B : Nat} (h : Bad w p) (hb : Below B w w') (hp : ∀ b, p = some ⟨b, 0, none⟩ → b < B) : Bad w' p := by
  rcases h with rfl | ⟨b, rfl, hc⟩
  · exact .inl rfl
  · exact .inr ⟨b, rfl, (hb.cell (p := ⟨b, 0, none⟩) (hp b rfl)).trans hc⟩
theorem Bad.lt {w : World} {p : Option Addr} (h : Bad w p) (b : Nat) (hp : p = some ⟨b, 0, none⟩) : b < w.heap.size := by
  rcases h with rfl | ⟨b', rfl, hc⟩
  · cases hp
  · injection hp with hp; injection hp with hp; subst hp; exact block_lt_of_cell hc
set_option maxHeartbeats 1000000 in
theorem sum_bad {w : World} {p : Option Addr} (h : Bad w p) :
    Calls Tryd.prog 24 #[.pointer p] w fun e w' => e = .returned (.agg (cs U8 (zs 32))) ∧ Below w.heap.size w w' := by
  have hb2 : Bad ((w.alloc (.cells (cs U8 (zs 32)) 25)).alloc (.cells (cs U8 (zs 32)) 25)) p :=
    h.below (B := w.heap.size) (((Below.refl _ _).alloc (Nat.le_refl _) _).alloc (by simp) _) (fun b e => h.lt b e)
  have HB := hid hb2
  clear hb2
  go_enter Tryd.func24, Tryd.ntmps24
  go_wp2_with (go_at_call 53; refine (good_bad HB.out).mono ?_; rintro e w' ⟨rfl, rfl⟩)
  refine bodyPost_ret (res_row (b := w.heap.size) rfl Tryd.underlying25 rfl inf_key _ _ rfl ?_) rfl ?_
  · simp [go_sem, zs]
  · refine ⟨by simp [go_sem], ((Below.refl _ _).alloc (Nat.le_refl _) _).alloc (by simp) _⟩
set_option maxRecDepth 100000 in
set_option maxHeartbeats 2000000 in
theorem own_walk (w : World) (v v2 : Value) (l l2 : List (BitVec 8)) (hT : KT w) (hk0 : 0 < w.heap.size) (hv : BS w v l) (hv2 : BS w v2 l2) :
    Calls Tryd.prog 5 #[v, v2] w fun e w' => e = .returned (.bool true) ∧ Below w.heap.size w w' := by
  obtain ⟨n, hn⟩ : ∃ n, n = l.length := ⟨_, rfl⟩
  obtain ⟨av, cv, rfl, hcv⟩ := hv.shape' n hn.symm
  obtain ⟨n2, hn2⟩ : ∃ n2, n2 = l2.length := ⟨_, rfl⟩
  obtain ⟨av2, cv2, rfl, hcv2⟩ := hv2.shape' n2 hn2.symm
  have HN := hid hn
  have HN2 := hid hn2
  clear hn hn2
  by_cases h3 : (3000 : Int) < n
  · go_enter Tryd.func5, Tryd.ntmps5
    go_wp2_with fail
    refine (alive_any w hT hk0).mono ?_
    rintro e w1 ⟨rfl, hb1⟩
    dsimp only
    go_wp2_with fail
    go_ret
    exact ⟨rfl, hb1⟩
  by_cases h32 : (3000 : Int) < n2
  · go_enter Tryd.func5, Tryd.ntmps5
    go_wp2_with fail
    refine (alive_any w hT hk0).mono ?_
    rintro e w1 ⟨rfl, hb1⟩
    dsimp only
    go_wp2_with fail
    go_ret
    exact ⟨rfl, hb1⟩
  go_enter Tryd.func5, Tryd.ntmps5
  go_wp2_with fail
  refine (alive_any w hT hk0).mono ?_
  rintro e w1 ⟨rfl, hb1⟩
  have hz1 := hb1.size
  dsimp only
  go_wp2_with fail
  have c0 : ((w1.alloc (.cells #[.bool false, .int .u32 0, .int .u32 0, .int .u32 0, .int .u32 0, .int .u32 0, .int .u32 0, .int .u32 0, .int .u32 0, .slice none 0 0, .int .i64 0] 40)).alloc (.cells #[.pointer none, .pointer (some ⟨w1.heap.size, 0, none⟩)] 29)).rowOf w1.heap.size = #[.bool false, .int .u32 0, .int .u32 0, .int .u32 0, .int .u32 0, .int .u32 0, .int .u32 0, .int .u32 0, .int .u32 0, .slice none 0 0, .int .i64 0] :=
    (rowOf_alloc_past _ _ (by simp)).trans (rowOf_alloc_at _ _ _ rfl)
  have c1 : ((w1.alloc (.cells #[.bool false, .int .u32 0, .int .u32 0, .int .u32 0, .int .u32 0, .int .u32 0, .int .u32 0, .int .u32 0, .int .u32 0, .slice none 0 0, .int .i64 0] 40)).alloc (.cells #[.pointer none, .pointer (some ⟨w1.heap.size, 0, none⟩)] 29)).rowOf (w1.heap.size + 1) = #[.pointer none, .pointer (some ⟨w1.heap.size, 0, none⟩)] :=
    rowOf_alloc_at _ _ _ (by simp)
  obtain ⟨w0, hw0⟩ : ∃ w0, w0 = (w1.alloc (.cells #[.bool false, .int .u32 0, .int .u32 0, .int .u32 0, .int .u32 0, .int .u32 0, .int .u32 0, .int .u32 0, .int .u32 0, .slice none 0 0, .int .i64 0] 40)).alloc (.cells #[.pointer none, .pointer (some ⟨w1.heap.size, 0, none⟩)] 29) := ⟨_, rfl⟩
  have hz0 : w0.heap.size = w1.heap.size + 2 := by rw [hw0]; simp
  have hB0 : Below w.heap.size w w0 := by rw [hw0]; exact (hb1.alloc hz1 _).alloc (by simp; omega) _
  rw [← hw0] at c0 c1
  rw [← hw0]
  clear hw0
  have d0 : w0.cell? ⟨w1.heap.size + 1, 0, none⟩ = some (.pointer none) := by rw [cell_rowOf, c1]; rfl
  have d1 : w0.cell? ⟨w1.heap.size + 1, 1, none⟩ = some (.pointer (some ⟨w1.heap.size, 0, none⟩)) := by rw [cell_rowOf, c1]; rfl
  have d2 : w0.cell? ⟨w1.heap.size, 0, none⟩ = some (.bool false) := by rw [cell_rowOf, c0]; rfl
  clear c0 c1
  go_loopw [6, 25] (fun _ t wr => ∃ i : Nat, i ≤ 2 ∧ t = .int .i64 i ∧ Below w0.heap.size w0 wr) (fun _ t _ => 2 - (intOf t).toNat)
  case atStart => exact ⟨0, by omega, rfl, Below.refl _ _⟩
  case round =>
    obtain ⟨i, hi, rfl, hbw⟩ := hrel
    have x0 := (hbw.cell (p := ⟨w1.heap.size + 1, 0, none⟩) (by show w1.heap.size + 1 < w0.heap.size; omega)).trans d0
    have x1 := (hbw.cell (p := ⟨w1.heap.size + 1, 1, none⟩) (by show w1.heap.size + 1 < w0.heap.size; omega)).trans d1
    have x2 := (hbw.cell (p := ⟨w1.heap.size, 0, none⟩) (by show w1.heap.size < w0.heap.size; omega)).trans d2
    have hz := hbw.size
    obtain rfl | rfl | rfl : i = 0 ∨ i = 1 ∨ i = 2 := by omega
    · have hB : Bad wr none := .inl rfl
      go_wp2_with fail
      refine (write_bad _ hB).mono ?_
      rintro e w' ⟨rfl, rfl⟩
      dsimp only
      go_wp2_with fail
      refine (sum_bad hB).mono ?_
      rintro e w5 ⟨rfl, hb5⟩
      have hB5 := hbw.trans (hb5.mono hz)
      have hB' := hB.below hb5 (fun b e => hB.lt b e)
      dsimp only
      go_wp2_with fail
      refine (len_bad hB').mono ?_
      rintro e w' ⟨rfl, rfl⟩
      dsimp only
      go_wp2_with fail
      go_roundw
      case rel => exact ⟨1, by omega, by go_num, hB5⟩
      case measure => simp [intOf]
    · have hB : Bad wr (some ⟨w1.heap.size, 0, none⟩) := .inr ⟨_, rfl, x2⟩
      go_wp2_with fail
      refine (write_bad _ hB).mono ?_
      rintro e w' ⟨rfl, rfl⟩
      dsimp only
      go_wp2_with fail
      refine (sum_bad hB).mono ?_
      rintro e w5 ⟨rfl, hb5⟩
      have hB5 := hbw.trans (hb5.mono hz)
      have hB' := hB.below hb5 (fun b e => hB.lt b e)
      dsimp only
      go_wp2_with fail
      refine (len_bad hB').mono ?_
      rintro e w' ⟨rfl, rfl⟩
      dsimp only
      go_wp2_with fail
      go_roundw
      case rel => exact ⟨2, by omega, by go_num, hB5⟩
      case measure => simp [intOf]
    · clear x0 x1 x2 d0 d1 d2
      have hBr : Below w.heap.size w wr := hB0.trans (hbw.mono (by omega))
      have hzr := hBr.size
      clear hbw hB0 hz
      go_wp2_with fail
      refine (newS wr).mono ?_
      rintro e w2 ⟨b, rfl, hb, hs2, hb2⟩
      have hB2 : Below w.heap.size w w2 := hBr.trans (hb2.mono hzr)
      have hz2 := hB2.size
      have hbl := hs2.lt
      dsimp only
      go_wp2_with (refine wpList_apb rfl (.const (.slice none 0 0)) (.tmp 48) rfl w2.heap.size _ _ [] l rfl (OB.nil _ _) rfl (SV.below hv hB2) (by rw [← HN.out]; simp; omega) (Nat.le_refl _) ?_; rintro vc w3 hown3 hg3 -)
      rw [List.nil_append] at hown3
      have hf3 : Fr (fun k => some k = (none : Option Nat)) w2 w3 := Fr.of_grown hg3
      have hB3 : Below w.heap.size w w3 := hB2.trans (hf3.below _ (by omega) (fun k _ hk => by cases hk))
      have hs3 : HS w3 b [] (.slice none 0 0) := hs2.fr hf3 (fun h => by cases h) (fun g _ h => by cases h)
      have hz3 := hB3.size
      have hz23 := hg3.size
      have hcb : ∀ g, vc.ownBlock = some g → w2.heap.size ≤ g ∧ g < w3.heap.size := fun g hg => hown3.lt g hg
      refine (writeS vc l (hT.below hB3 hk0) (by omega) hs3 hown3.bs (.inr (fun e => by have := hcb b e; omega)) (by rw [← HN.out]; simp; omega)).mono ?_
      rintro e w4 ⟨rfl, rv4, hs4, hf4, hg4⟩
      rw [List.nil_append] at hs4
      have hB4 : Below w.heap.size w w4 := hB3.trans (hs_below hs3 hf4 (by omega))
      have hown4 : OB w4 w2.heap.size vc l := hown3.fr hf4 (fun g hg hk => by
        have := hcb g hg
        rcases hk with hk | hk
        · omega
        · cases hk)
      obtain ⟨ac, cc, rfl, hcc⟩ := hown4.bs.shape' n HN.out.symm
      dsimp only
      go_wp2_with fail
      have hz4 := hB4.size
      have hz24 : w2.heap.size ≤ w4.heap.size := by have := hf4.size; omega
      go_loopw [9, 55] (fun _ t wr => ∃ (i : Nat) (l' : List (BitVec 8)), i ≤ n ∧ t = .int .i64 i ∧ l'.length = n ∧ OB wr w2.heap.size (.slice ac n cc) l' ∧ HS wr b l rv4 ∧ Below w.heap.size w wr ∧ w4.heap.size ≤ wr.heap.size) (fun _ t _ => n - (intOf t).toNat)
      case atStart => exact ⟨0, l, by omega, rfl, HN.out.symm, hown4, hs4, hB4, Nat.le_refl _⟩
      case round =>
        obtain ⟨i, l', hi, rfl, hl', hov, hs, hbw, hsz⟩ := hrel
        have hzw := hbw.size
        by_cases hlt : i < n
        · obtain ⟨g, cap, hg, hgb, hgc⟩ := hov.shape2 n hl' (by omega)
          cases hg
          have hgw : g < w3.heap.size := (hcb g rfl).2
          obtain ⟨e1, e2, e3⟩ := hov.set hl' i hlt (l'.getD i 0 ^^^ 255)
          obtain ⟨gv, ov, c', hgv, hcv', hcl⟩ := hov.bs.open (by intro e; rw [e] at hl'; simp at hl'; omega)
          rw [hl'] at hgv hcl
          cases hgv
          have k1 := hcl i hlt
          rw [Nat.zero_add] at k1
          have hff := free_frozen e1 i
          have q0 : (0 : Int) ≤ i := by omega
          have q1 : (i : Int) < n := by omega
          have HS' : HS (wr.setRow g ((wr.rowOf g).setIfInBounds i (U8 (l'.getD i 0 ^^^ 255)))) b l rv4 := hs.fr (S := fun k => k = g) (Fr.setRow (Fr.refl (fun k => k = g) _) (.inl (rfl : g = g)) _) (by omega) (fun g' hg' e => by have := hg4 g' hg'; omega)
          have HL' := hid hl'
          clear hcl hl' hov
          go_wp2_with fail
          go_roundw
          case rel =>
            exact ⟨i + 1, l'.set i (l'.getD i 0 ^^^ 255), by omega, by go_num, by rw [List.length_set]; exact HL'.out, e3, HS', below_setRow' hbw (by omega) _, by simp; exact hsz⟩
          case measure => simp [intOf]; omega
        · clear hs4 hown4
          have q1 : ¬ ((i : Int) < n) := by omega
          obtain ⟨D, hD⟩ : ∃ D, D = Sh.sum l := ⟨_, rfl⟩
          have hDl : D.length = 32 := by rw [hD]; rfl
          have HD := hid hD
          clear hD
          go_wp2_with fail
          refine (sumD HD.out (hT.below hbw hk0) (by omega) hs (by rw [← HN.out]; omega)).mono ?_
          rintro e w5 ⟨rfl, hb5⟩
          have hs5 := hs.below hb5
          have hB5 : Below w.heap.size w w5 := hbw.trans (hb5.mono hzw)
          have hz5 := hB5.size
          have ha6 : Below w5.heap.size w5 (w5.alloc (.cells (cs U8 D) 25)) := (Below.refl _ _).alloc (Nat.le_refl _) _
          have hB6 := hB5.trans (ha6.mono hz5)
          have hz6 := hB6.size
          have hl5 := hs5.lt
          dsimp only
          go_wp2_with fail
          refine (writeS _ l2 (hT.below hB6 hk0) (by omega) (hs5.below ha6) (SV.below hv2 hB6) ?_ (by rw [← HN.out, ← HN2.out]; omega)).mono ?_
          · by_cases hl0 : l2 = []
            · exact .inl hl0
            · exact .inr (fun e => by have := SV.lt hv2 b e (by simpa using hl0); omega)
          rintro e w7 ⟨rfl, rv7, hs7, hf7, hg7⟩
          have hB7 : Below w.heap.size w w7 := hB6.trans (hs_below (hs5.below ha6) hf7 (by omega))
          have hz7 := hB7.size
          dsimp only
          go_wp2_with fail
          have hr7 : w7.rowOf w5.heap.size = cs U8 D := (hf7.row (by simp) (fun hk => by
            rcases hk with hk | hk
            · omega
            · have := (hs5.below ha6).rvge _ hk.symm; have := hs5.rvge _ hk.symm; omega)).trans (rowOf_alloc_at _ _ _ rfl)
          have hl7 : w5.heap.size < w7.heap.size := by have := hf7.size; simp at this; omega
          obtain ⟨E, hE⟩ : ∃ E, E = Sh.sum (l ++ l2) := ⟨_, rfl⟩
          have hEl : E.length = 32 := by rw [hE]; rfl
          have HE := hid hE
          clear hE
          have HR : Hid (∀ wc, Below w7.heap.size w7 wc → wc.rowOf w5.heap.size = cs U8 D) := hid fun wc h => (below_row h hl7).trans hr7
          have H19 : Hid (∀ wc, Below w7.heap.size w7 wc → Calls Tryd.prog 19 #[.slice av n cv] wc fun e w' => e = .returned (.agg (cs U8 D)) ∧ Below w7.heap.size w7 w' ∧ Below wc.heap.size wc w') := hid fun wc h => by
            have hBc : Below w.heap.size w wc := hB7.trans (h.mono hz7)
            have hk := sum_any wc (.slice av n cv) l (hT.below hBc hk0) (by have := hBc.size; omega) (SV.below hv hBc) (by rw [← HN.out]; omega)
            rw [← HD.out] at hk
            exact hk.mono fun e w' ⟨h1, h2⟩ => ⟨h1, h.trans (h2.mono h.size), h2⟩
          have H24 : Hid (∀ wc, Below w7.heap.size w7 wc → Calls Tryd.prog 24 #[.pointer (some ⟨b, 0, none⟩)] wc fun e w' => e = .returned (.agg (cs U8 E)) ∧ Below w7.heap.size w7 w' ∧ Below wc.heap.size wc w') := hid fun wc h => by
            have hBc : Below w.heap.size w wc := hB7.trans (h.mono hz7)
            exact (sumD HE.out (hT.below hBc hk0) (by omega) (hs7.below h) (by rw [List.length_append, ← HN.out, ← HN2.out]; omega)).mono fun e w' ⟨h1, h2⟩ => ⟨h1, h.trans (h2.mono h.size), h2⟩
          have H20 : Hid (∀ wc v', Below w7.heap.size w7 wc → BS wc v' (l ++ l2) → Calls Tryd.prog 19 #[v'] wc fun e w' => e = .returned (.agg (cs U8 E)) ∧ Below w7.heap.size w7 w' ∧ Below wc.heap.size wc w') := hid fun wc v' h hv' => by
            have hBc : Below w.heap.size w wc := hB7.trans (h.mono hz7)
            have hk := sum_any wc v' (l ++ l2) (hT.below hBc hk0) (by have := hBc.size; omega) hv' (by rw [List.length_append, ← HN.out, ← HN2.out]; omega)
            rw [← HE.out] at hk
            exact hk.mono fun e w' ⟨h1, h2⟩ => ⟨h1, h.trans (h2.mono h.size), h2⟩
          have hbd : Below w7.heap.size w7 (w7.drewN 1) := below_drewN (Below.refl _ _) 1
          have hrd : (w7.drewN 1).rowOf w5.heap.size = cs U8 D := hr7
          have HRA : Hid (∀ wc, Below w7.heap.size w7 wc → wc.rangeAt w5.heap.size 0 (D.map U8)) := hid fun wc h => by
            intro j v hj
            rw [Nat.zero_add, cell_rowOf, HR.out wc h]
            simpa [cs] using hj
          have hu25 : Tryd.prog.underlying 25 = some (.array 32 5) := Tryd.underlying25
          have hi25 : (Tryd.prog.info? 25).map (·.size) = some (D.map U8).length := by rw [List.length_map, hDl]; exact inf_key
          have hfold : (D.map U8).toArray = cs U8 D := rfl
          have hra : (w7.drew).rangeAt w5.heap.size 0 (D.map U8) := HRA.out _ hbd
          clear hs hs5 hl5 hr7 hrd
          have HL1 : Hid (∀ wc, Below w7.heap.size w7 wc → BS wc (.slice av n cv) l) := hid fun wc h => SV.below hv (hB7.trans (h.mono hz7))
          have HL2 : Hid (∀ wc, Below w7.heap.size w7 wc → BS wc (.slice av2 n2 cv2) l2) := hid fun wc h => SV.below hv2 (hB7.trans (h.mono hz7))
          have hlen1 : ([] : List (BitVec 8)).length + l.length ≤ 140737488355328 := by rw [← HN.out]; simp; omega
          have hlen2 : ([] ++ l).length + l2.length ≤ 140737488355328 := by rw [List.nil_append, ← HN.out, ← HN2.out]; omega
          have HLE1 := hid hlen1; have HLE2 := hid hlen2
          clear hlen1 hlen2
          go_region_held_law (fun w' => w'.rangeAt w5.heap.size 0 (D.map U8) ∧ Below w7.heap.size w7 w') (first | exact ⟨hra, hbd⟩ | exact ⟨HRA.out _ (by assumption), by assumption⟩) (first
            | (refine step_apbg rfl (.const (.slice none 0 0)) (.tmp 77) rfl w7.heap.size _ _ [] l rfl (OB.nil _ _) rfl (HL1.out _ (by assumption)) HLE1.out (Below.size (by assumption)) ?_; rintro v8 w8 hown8 hg8 -; have hb8 : Below w7.heap.size w7 w8 := ow_belowb (by assumption) (OB.nil _ _) (Below.size (by assumption)) hg8)
            | (refine step_apbg rfl (.tmp 78) (.tmp 79) rfl w7.heap.size _ _ ([] ++ l) l2 rfl hown8 rfl (HL2.out _ (by assumption)) HLE2.out (Below.size (by assumption)) ?_; rintro v10 w10 hown10 hg10 -; have hb10 : Below w7.heap.size w7 w10 := ow_belowb (by assumption) hown8 (Below.size (by assumption)) hg10)
            | (go_at_call_of 19 (Value.slice av n cv); refine (H19.out _ (by assumption)).mono ?_; rintro e w' ⟨rfl, hb', hg'⟩)
            | (go_at_call 24; refine (H24.out _ (by assumption)).mono ?_; rintro e w' ⟨rfl, hb', hg'⟩; (try (have hown8 := OB.fr hown8 (Fr.of_below hg') (fun _ _ h => h))); (try (have hown10 := OB.fr hown10 (Fr.of_below hg') (fun _ _ h => h))))
            | (go_at_call 19; refine (H20.out _ _ (by assumption) (by simpa using hown10.bs)).mono ?_; rintro e w' ⟨rfl, hb', hg'⟩))
          all_goals
            go_wp2_with fail
            go_ret
            exact ⟨rfl, hB7.trans (hb'.mono hz7)⟩
end Go.Proofs.YtocledgjejlolaaDoor
