/-
  Law 08: what is handed in stays, what is answered is nobody's; own work.
-/
import Derived.Test.YtbigmnhjnjeeaaaDoorLi6
set_option linter.unusedSimpArgs false
set_option linter.unusedVariables false
namespace Go.Proofs.YtbigmnhjnjeeaaaDoor
open Go.RowKit
theorem OB.openp {w : World} {base n : Nat} {v : Value} {l : Bs8} (h : OB w base v l) (hn : l.length = n) (h0 : 0 < n) : ∃ g c, v = .slice (some ⟨g, 0, none⟩) n c ∧ base ≤ g ∧ g < w.heap.size := by
  obtain ⟨_, ⟨_, e⟩ | ⟨g, cap, cur, e, hb, hg, _⟩⟩ := h
  · omega
  · exact ⟨g, cap, by rw [e, hn], hb, (Array.getElem?_eq_some_iff.1 hg).1⟩
theorem OB.setc {w : World} {base g n cap : Nat} {l : Bs8} (h : OB w base (.slice (some ⟨g, 0, none⟩) n cap) l) (hn : l.length = n) (i : Nat) (hi : i < n) (x : BitVec 8) :
    w.free g = true ∧ i < (w.rowOf g).size ∧ OB (w.setRow g ((w.rowOf g).setIfInBounds i (U8 x))) base (.slice (some ⟨g, 0, none⟩) n cap) (l.set i x) := by
  subst hn
  obtain ⟨h1, ⟨e, _⟩ | ⟨g', cap', cur, e, hb, hg, hc, hm, hs, ht⟩⟩ := h
  · cases e
  · injection e with e1 _ e3
    injection e1 with e1
    injection e1 with e1 _ _
    subst e1; subst e3
    have hr : w.rowOf g = cur := by simp [World.rowOf, hg]
    refine ⟨by simp [World.free, hg], by rw [hr]; omega, by simp, .inr ⟨g, cap, cur.setIfInBounds i (U8 x), by simp, hb, ?_, by simpa using hc, hm, by simpa using hs, ?_⟩⟩
    · rw [hr]; exact heap_setRow_same hg
    · rw [Array.toList_setIfInBounds, List.map_set, ← ht]
      simp only [List.length_set]
      rw [List.take_set]
theorem OB.setOther {w : World} {base : Nat} {v : Value} {l : Bs8} (h : OB w base v l) {g : Nat} (c : Array Value) (hg : v.ownBlock ≠ some g) : OB (w.setRow g c) base v l := by
  obtain ⟨h1, h⟩ := h
  refine ⟨h1, h.imp id fun ⟨g', cap, cur, e, hb, hh, r⟩ => ⟨g', cap, cur, e, hb, ?_, r⟩⟩
  rw [heap_setRow_other (fun e2 => hg (by rw [e, e2]; rfl))]
  exact hh
section
variable {w0 w : World} {k b X : Bs8} {vb : Value}
theorem lockO (hX : X = Li.lock k b) (hT : KT w0 ∧ 0 < w0.heap.size) (hw : Below w0.heap.size w0 w) (hk : k.length = 32) (hvb : BS w vb b) (h33 : 33 ≤ b.length) (h40 : b.length ≤ 4096) :
    Calls Tryd.prog 16 #[.agg (cs U8 k), vb] w fun e w' => ∃ v, e = .returned v ∧ (∃ u, v = .tuple #[u, .int .i64 0] ∧ OB w' w.heap.size u X) ∧ Below w.heap.size w w' :=
  (Lock_c w k b X vb hX ⟨hT.1.below hw hT.2, Nat.lt_of_lt_of_le hT.2 hw.size⟩ hk hvb h33 h40).mono fun e w' ⟨v, h1, h2, h3⟩ => ⟨_, h1, ⟨v, rfl, h2⟩, h3⟩
theorem unlockO (hX : X = Li.unlock k b) (hT : KT w0 ∧ 0 < w0.heap.size) (hw : Below w0.heap.size w0 w) (hk : k.length = 32) (hvb : BS w vb b) (h33 : 33 ≤ b.length) (h40 : b.length ≤ 4096) :
    Calls Tryd.prog 18 #[.agg (cs U8 k), vb] w fun e w' => ∃ v, e = .returned v ∧ (∃ u, v = .tuple #[u, .int .i64 0] ∧ OB w' w.heap.size u X) ∧ Below w.heap.size w w' :=
  (Unlock_c w k b X vb hX ⟨hT.1.below hw hT.2, Nat.lt_of_lt_of_le hT.2 hw.size⟩ hk hvb h33 h40).mono fun e w' ⟨v, h1, h2, h3⟩ => ⟨_, h1, ⟨v, rfl, h2⟩, h3⟩
end
attribute [local irreducible] RR RQ Rds LP Li.lock Li.unlock Li.join
set_option maxRecDepth 100000 in
set_option maxHeartbeats 8000000 in
theorem LionOwn_w (w : World) (k b : Bs8) (vb : Value) (hT : KT w ∧ 0 < w.heap.size) (hk : k.length = 32) (hvb : BS w vb b) :
    Calls Tryd.prog 7 #[.agg (cs U8 k), vb] w fun e w' => e = .returned (.bool true) ∧ Below w.heap.size w w' := by
  have hmb : b.length ≤ 9223372036854775807 := hvb.len
  have HT := hid hT
  have HVB := hid hvb
  obtain ⟨AB, cb, rfl, -⟩ := hvb.shape
  clear hT hvb
  by_cases h1 : 700 < b.length
  · have h1i : (700 : Int) < (b.length : Int) := by omega
    have M0 := Mm.start no w
    go_enter Tryd.func7, Tryd.ntmps7
    have M2 := (M0.alloc (cs U8 k) 23 (by decide))
    try simp only [World.size_alloc] at M2
    go_upto_region 1 with fail
    obtain ⟨w1, hw1⟩ : ∃ w1, w1 = (w.alloc (.cells (cs U8 k) 23)) := ⟨_, rfl⟩
    rw [← hw1] at M2 ⊢
    clear hw1
    refine wp_region_lin (.op 0 (.op 1 .done)) (by rfl) ?_
    refine wpT_callv 11 M2 (v := .bool true) rfl rfl rfl (by go_simp) (alive8_v HT.out M2.end_) (fun w3 M4 => ?_)
    refine wpT_valp 12 (v := .bool false) rfl rfl rfl (by go_simp) ?_
    dsimp only [wpT]
    try simp only [Act.put, List.setIfInBounds_toArray, List.set_cons_succ, List.set_cons_zero]
    go_upto_region 3 with fail
    refine wp_region_lin (.op 0 (.op 1 (.op 2 .done))) (by rfl) ?_
    refine wpT_valp 13 (v := .slice AB b.length cb) rfl rfl rfl (by go_simp) ?_
    refine wpT_valp 14 (v := .int .i64 b.length) rfl rfl rfl (by go_simp) ?_
    refine wpT_valp 15 (v := .bool true) rfl rfl rfl (by go_simp) ?_
    dsimp only [wpT]
    try simp only [Act.put, List.setIfInBounds_toArray, List.set_cons_succ, List.set_cons_zero]
    go_upto_region 4 with fail
    refine wp_region_lin (.op 0 .done) (by rfl) ?_
    refine wpT_valp 4 (v := .bool true) rfl rfl rfl (by go_simp) ?_
    dsimp only [wpT]
    try simp only [Act.put, List.setIfInBounds_toArray, List.set_cons_succ, List.set_cons_zero]
    go_wp2_with fail
    go_ret
    exact ⟨rfl, M4.end_⟩
  have h1i : ¬ (700 : Int) < (b.length : Int) := by omega
  have T0 := back0 (S := no) (w0 := w)
  by_cases h2 : b.length < 33
  · skip
    have M0 := Mm.start no w
    go_enter Tryd.func7, Tryd.ntmps7
    have M2 := (M0.alloc (cs U8 k) 23 (by decide))
    try simp only [World.size_alloc] at M2
    go_upto_region 1 with fail
    obtain ⟨w1, hw1⟩ : ∃ w1, w1 = (w.alloc (.cells (cs U8 k) 23)) := ⟨_, rfl⟩
    rw [← hw1] at M2 ⊢
    clear hw1
    refine wp_region_lin (.op 0 (.op 1 .done)) (by rfl) ?_
    refine wpT_callv 11 M2 (v := .bool true) rfl rfl rfl (by go_simp) (alive8_v HT.out M2.end_) (fun w3 M4 => ?_)
    refine wpT_valp 12 (v := .bool false) rfl rfl rfl (by go_simp) ?_
    dsimp only [wpT]
    try simp only [Act.put, List.setIfInBounds_toArray, List.set_cons_succ, List.set_cons_zero]
    go_upto_region 3 with fail
    refine wp_region_lin (.op 0 (.op 1 (.op 2 .done))) (by rfl) ?_
    refine wpT_valp 13 (v := .slice AB b.length cb) rfl rfl rfl (by go_simp) ?_
    refine wpT_valp 14 (v := .int .i64 b.length) rfl rfl rfl (by go_simp) ?_
    refine wpT_valp 15 (v := .bool false) rfl rfl rfl (by go_simp) ?_
    dsimp only [wpT]
    try simp only [Act.put, List.setIfInBounds_toArray, List.set_cons_succ, List.set_cons_zero]
    go_upto_region 5 with fail
    refine wp_region_lin (.op 0 (.op 1 (.op 2 .done))) (by rfl) ?_
    refine wpT_valp 16 (v := .slice AB b.length cb) rfl rfl rfl (by go_simp) ?_
    refine wpT_apb 17 _ _ M4 w3.heap.size (.slice none 0 0) (.slice AB b.length cb) [] b rfl rfl rfl rfl (by go_simp) (OB.nil w3 _) (by go_simp) (SV.below HVB.out (T0.out _ _ M4).end_) (by simp; omega) (Nat.le_refl _) (M4.size) (fun g hg => by cases hg) (fun u4 w4 O4 N4 => ?_)
    rw [List.nil_append] at O4
    obtain ⟨S1, M1, T1, K1⟩ := N4.hold M4 O4.bn
    replace T0 := backT T0 T1
    obtain ⟨A1, c1, e4, -⟩ := (K1.out _ _ M1).1.shape' b.length rfl
    subst e4
    refine wpT_valp 5 (v := .slice A1 b.length c1) rfl rfl rfl (by go_simp) ?_
    dsimp only [wpT]
    try simp only [Act.put, List.setIfInBounds_toArray, List.set_cons_succ, List.set_cons_zero]
    go_upto_region 6 with fail
    refine wp_region_lin (.op 0 (.op 1 (.op 2 (.op 3 (.op 4 (.op 5 (.op 6 (.op 7 .done)))))))) (by rfl) ?_
    refine wpT_ld0 19 Tryd.underlying23 rfl inf_key (w.heap.size) (cs U8 k) rfl rfl rfl (by go_simp) (M1.row (by simp)) (by simp [hk]) rfl ?_
    refine wpT_valp 20 (v := .slice A1 b.length c1) rfl rfl rfl (by go_simp) ?_
    refine wpT_callv 21 M1 (v := .tuple #[.slice none 0 0, .int .i64 4]) rfl rfl rfl (by go_simp) (Lock_e w4 k b (.slice A1 b.length c1) 4 hk (K1.out _ _ M1).1 (.inl ⟨by omega, rfl⟩)) (fun w5 M6 => ?_)
    refine wpT_valp 18 (v := .tuple #[.slice none 0 0, .int .i64 4]) rfl rfl rfl (by go_simp) ?_
    try simp only [Act.put, List.setIfInBounds_toArray, List.set_cons_succ, List.set_cons_zero]
    refine wpT_valp 22 (v := .slice none 0 0) rfl rfl rfl (by go_simp) ?_
    refine wpT_valp 23 (v := .int .i64 4) rfl rfl rfl (by go_simp) ?_
    refine wpT_valp 6 (v := .slice none 0 0) rfl rfl rfl (by go_simp) ?_
    refine wpT_valp 7 (v := .int .i64 4) rfl rfl rfl (by go_simp) ?_
    dsimp only [wpT]
    try simp only [Act.put, List.setIfInBounds_toArray, List.set_cons_succ, List.set_cons_zero]
    go_upto_region 7 with fail
    refine wp_region_lin (.op 0 (.op 1 (.op 2 (.op 3 (.op 4 (.op 5 (.op 6 (.op 7 .done)))))))) (by rfl) ?_
    refine wpT_ld0 25 Tryd.underlying23 rfl inf_key (w.heap.size) (cs U8 k) rfl rfl rfl (by go_simp) (M6.row (by simp)) (by simp [hk]) rfl ?_
    refine wpT_valp 26 (v := .slice A1 b.length c1) rfl rfl rfl (by go_simp) ?_
    refine wpT_callv 27 M6 (v := .tuple #[.slice none 0 0, .int .i64 4]) rfl rfl rfl (by go_simp) (Unlock_e w5 k b (.slice A1 b.length c1) 4 hk (K1.out _ _ M6).1 (.inl ⟨by omega, rfl⟩)) (fun w7 M8 => ?_)
    refine wpT_valp 24 (v := .tuple #[.slice none 0 0, .int .i64 4]) rfl rfl rfl (by go_simp) ?_
    try simp only [Act.put, List.setIfInBounds_toArray, List.set_cons_succ, List.set_cons_zero]
    refine wpT_valp 28 (v := .slice none 0 0) rfl rfl rfl (by go_simp) ?_
    refine wpT_valp 29 (v := .int .i64 4) rfl rfl rfl (by go_simp) ?_
    refine wpT_valp 8 (v := .slice none 0 0) rfl rfl rfl (by go_simp) ?_
    refine wpT_valp 9 (v := .int .i64 4) rfl rfl rfl (by go_simp) ?_
    dsimp only [wpT]
    try simp only [Act.put, List.setIfInBounds_toArray, List.set_cons_succ, List.set_cons_zero]
    go_upto_region 8 with fail
    refine wp_region_lin (.op 0 (.op 1 (.op 2 (.op 3 (.op 4 (.op 5 (.op 6 (.op 7 (.op 8 (.op 9 .done)))))))))) (by rfl) ?_
    refine wpT_valp 30 (v := .int .i64 4) rfl rfl rfl (by go_simp) ?_
    refine wpT_valp 31 (v := .int .i64 4) rfl rfl rfl (by go_simp) ?_
    refine wpT_valp 32 (v := .bool false) rfl rfl rfl (by go_simp) ?_
    refine wpT_valp 33 (v := .bool false) rfl rfl rfl (by go_simp) ?_
    try simp only [Act.put, List.setIfInBounds_toArray, List.set_cons_succ, List.set_cons_zero]
    refine wpT_valp 34 (v := .slice A1 b.length c1) rfl rfl (by simp [Region.wanted, yielded, Act.put]) (by go_simp) ?_
    refine wpT_valp 35 (v := .string (Bs b)) rfl rfl (by simp [Region.wanted, yielded, Act.put]) (by have s0 := bytes_str ((K1.out _ _ M8).1); unfold Sv at s0; go_simp) ?_
    refine wpT_valp 36 (v := .slice AB b.length cb) rfl rfl (by simp [Region.wanted, yielded, Act.put]) (by go_simp) ?_
    refine wpT_valp 37 (v := .string (Bs b)) rfl rfl (by simp [Region.wanted, yielded, Act.put]) (by have s0 := bytes_str ((SV.below HVB.out (T0.out _ _ M8).end_)); unfold Sv at s0; go_simp) ?_
    refine wpT_valp 38 (v := .bool false) rfl rfl (by simp [Region.wanted, yielded, Act.put]) (by go_simp) ?_
    try simp only [Act.put, List.setIfInBounds_toArray, List.set_cons_succ, List.set_cons_zero]
    refine wpT_valp 39 (v := .bool false) rfl rfl rfl (by go_simp) ?_
    dsimp only [wpT]
    try simp only [Act.put, List.setIfInBounds_toArray, List.set_cons_succ, List.set_cons_zero]
    go_upto_region 10 with fail
    refine wp_region_lin (.op 0 (.op 1 (.op 2 .done))) (by rfl) ?_
    refine wpT_valp 40 (v := .slice none 0 0) rfl rfl rfl (by go_simp) ?_
    refine wpT_valp 41 (v := .int .i64 0) rfl rfl rfl (by go_simp) ?_
    refine wpT_valp 42 (v := .int .i64 0) rfl rfl rfl (by go_simp) ?_
    dsimp only [wpT]
    try simp only [Act.put, List.setIfInBounds_toArray, List.set_cons_succ, List.set_cons_zero]
    go_wp2_with fail
    go_loopw [42] (fun t wr => t = .int .i64 0 ∧ Mm S1 w4 [(w.heap.size, cs U8 k)] wr) (fun _ _ => 0)
    case atStart => exact ⟨rfl, M8⟩
    case round =>
      clear M8
      obtain ⟨rfl, M⟩ := hrel
      go_upto_region 16 with fail
      refine wp_region_lin (.op 0 (.op 1 (.op 2 (.op 3 (.op 4 (.op 5 .done)))))) (by rfl) ?_
      refine wpT_valp 58 (v := .slice A1 b.length c1) rfl rfl rfl (by go_simp) ?_
      refine wpT_valp 59 (v := .string (Bs b)) rfl rfl rfl (by have s0 := bytes_str ((K1.out _ _ M).1); unfold Sv at s0; go_simp) ?_
      refine wpT_valp 60 (v := .slice AB b.length cb) rfl rfl rfl (by go_simp) ?_
      refine wpT_valp 61 (v := .string (Bs b)) rfl rfl rfl (by have s0 := bytes_str ((SV.below HVB.out (T0.out _ _ M).end_)); unfold Sv at s0; go_simp) ?_
      try simp only [Act.put, List.setIfInBounds_toArray, List.set_cons_succ, List.set_cons_zero]
      refine wpT_valp 62 (v := .bool true) rfl rfl rfl (by go_simp) ?_
      refine wpT_valp 4 (v := .bool true) rfl rfl rfl (by go_simp) ?_
      dsimp only [wpT]
      try simp only [Act.put, List.setIfInBounds_toArray, List.set_cons_succ, List.set_cons_zero]
      go_wp2_with fail
      go_ret
      exact ⟨rfl, (T0.out _ _ M).end_⟩
  obtain ⟨x, ex⟩ : ∃ x, x = Li.lock k b := ⟨_, rfl⟩
  obtain ⟨y, ey⟩ : ∃ y, y = Li.unlock k b := ⟨_, rfl⟩
  have hx : x.length = b.length := by rw [ex, lock_len _ _ (by omega)]
  have hy : y.length = b.length := by rw [ey, unlock_len _ _ (by omega)]
  have HX := hid ex
  have HY := hid ey
  clear ex ey
  have M0 := Mm.start no w
  go_enter Tryd.func7, Tryd.ntmps7
  have M2 := (M0.alloc (cs U8 k) 23 (by decide))
  try simp only [World.size_alloc] at M2
  go_upto_region 1 with fail
  obtain ⟨w1, hw1⟩ : ∃ w1, w1 = (w.alloc (.cells (cs U8 k) 23)) := ⟨_, rfl⟩
  rw [← hw1] at M2 ⊢
  clear hw1
  refine wp_region_lin (.op 0 (.op 1 .done)) (by rfl) ?_
  refine wpT_callv 11 M2 (v := .bool true) rfl rfl rfl (by go_simp) (alive8_v HT.out M2.end_) (fun w3 M4 => ?_)
  refine wpT_valp 12 (v := .bool false) rfl rfl rfl (by go_simp) ?_
  dsimp only [wpT]
  try simp only [Act.put, List.setIfInBounds_toArray, List.set_cons_succ, List.set_cons_zero]
  go_upto_region 3 with fail
  refine wp_region_lin (.op 0 (.op 1 (.op 2 .done))) (by rfl) ?_
  refine wpT_valp 13 (v := .slice AB b.length cb) rfl rfl rfl (by go_simp) ?_
  refine wpT_valp 14 (v := .int .i64 b.length) rfl rfl rfl (by go_simp) ?_
  refine wpT_valp 15 (v := .bool false) rfl rfl rfl (by go_simp) ?_
  dsimp only [wpT]
  try simp only [Act.put, List.setIfInBounds_toArray, List.set_cons_succ, List.set_cons_zero]
  go_upto_region 5 with fail
  refine wp_region_lin (.op 0 (.op 1 (.op 2 .done))) (by rfl) ?_
  refine wpT_valp 16 (v := .slice AB b.length cb) rfl rfl rfl (by go_simp) ?_
  refine wpT_apb 17 _ _ M4 w3.heap.size (.slice none 0 0) (.slice AB b.length cb) [] b rfl rfl rfl rfl (by go_simp) (OB.nil w3 _) (by go_simp) (SV.below HVB.out (T0.out _ _ M4).end_) (by simp; omega) (Nat.le_refl _) (M4.size) (fun g hg => by cases hg) (fun u4 w4 O4 N4 => ?_)
  rw [List.nil_append] at O4
  obtain ⟨S1, M1, T1, K1⟩ := N4.hold M4 O4.bn
  replace T0 := backT T0 T1
  obtain ⟨A1, c1, e4, -⟩ := (K1.out _ _ M1).1.shape' b.length rfl
  subst e4
  refine wpT_valp 5 (v := .slice A1 b.length c1) rfl rfl rfl (by go_simp) ?_
  dsimp only [wpT]
  try simp only [Act.put, List.setIfInBounds_toArray, List.set_cons_succ, List.set_cons_zero]
  go_upto_region 6 with fail
  refine wp_region_lin (.op 0 (.op 1 (.op 2 (.op 3 (.op 4 (.op 5 (.op 6 (.op 7 .done)))))))) (by rfl) ?_
  refine wpT_ld0 19 Tryd.underlying23 rfl inf_key (w.heap.size) (cs U8 k) rfl rfl rfl (by go_simp) (M1.row (by simp)) (by simp [hk]) rfl ?_
  refine wpT_valp 20 (v := .slice A1 b.length c1) rfl rfl rfl (by go_simp) ?_
  refine wpT_callx 21 M1 (X := fun v w' => ∃ u, v = .tuple #[u, .int .i64 0] ∧ OB w' w4.heap.size u x) rfl rfl rfl (by go_simp) (lockO HX.out HT.out (T0.out _ _ M1).end_ hk (K1.out _ _ M1).1 (by omega) (by omega)) (fun v5 w5 h5 M5 B5 => ?_)
  obtain ⟨u5, rfl, O5⟩ := h5
  obtain ⟨gx, cx, e5, i5, j5⟩ := O5.openp hx (by omega)
  subst e5
  refine wpT_valp 18 (v := .tuple #[.slice (some ⟨gx, 0, none⟩) b.length cx, .int .i64 0]) rfl rfl rfl (by go_simp) ?_
  try simp only [Act.put, List.setIfInBounds_toArray, List.set_cons_succ, List.set_cons_zero]
  refine wpT_valp 22 (v := .slice (some ⟨gx, 0, none⟩) b.length cx) rfl rfl rfl (by go_simp) ?_
  refine wpT_valp 23 (v := .int .i64 0) rfl rfl rfl (by go_simp) ?_
  refine wpT_valp 6 (v := .slice (some ⟨gx, 0, none⟩) b.length cx) rfl rfl rfl (by go_simp) ?_
  refine wpT_valp 7 (v := .int .i64 0) rfl rfl rfl (by go_simp) ?_
  dsimp only [wpT]
  try simp only [Act.put, List.setIfInBounds_toArray, List.set_cons_succ, List.set_cons_zero]
  go_upto_region 7 with fail
  refine wp_region_lin (.op 0 (.op 1 (.op 2 (.op 3 (.op 4 (.op 5 (.op 6 (.op 7 .done)))))))) (by rfl) ?_
  refine wpT_ld0 25 Tryd.underlying23 rfl inf_key (w.heap.size) (cs U8 k) rfl rfl rfl (by go_simp) (M5.row (by simp)) (by simp [hk]) rfl ?_
  refine wpT_valp 26 (v := .slice A1 b.length c1) rfl rfl rfl (by go_simp) ?_
  refine wpT_callx 27 M5 (X := fun v w' => ∃ u, v = .tuple #[u, .int .i64 0] ∧ OB w' w5.heap.size u y) rfl rfl rfl (by go_simp) (unlockO HY.out HT.out (T0.out _ _ M5).end_ hk (K1.out _ _ M5).1 (by omega) (by omega)) (fun v6 w6 h6 M6 B6 => ?_)
  obtain ⟨u6, rfl, O6⟩ := h6
  obtain ⟨gy, cy, e6, i6, j6⟩ := O6.openp hy (by omega)
  subst e6
  replace O5 := O5.below B6
  refine wpT_valp 24 (v := .tuple #[.slice (some ⟨gy, 0, none⟩) b.length cy, .int .i64 0]) rfl rfl rfl (by go_simp) ?_
  try simp only [Act.put, List.setIfInBounds_toArray, List.set_cons_succ, List.set_cons_zero]
  refine wpT_valp 28 (v := .slice (some ⟨gy, 0, none⟩) b.length cy) rfl rfl rfl (by go_simp) ?_
  refine wpT_valp 29 (v := .int .i64 0) rfl rfl rfl (by go_simp) ?_
  refine wpT_valp 8 (v := .slice (some ⟨gy, 0, none⟩) b.length cy) rfl rfl rfl (by go_simp) ?_
  refine wpT_valp 9 (v := .int .i64 0) rfl rfl rfl (by go_simp) ?_
  dsimp only [wpT]
  try simp only [Act.put, List.setIfInBounds_toArray, List.set_cons_succ, List.set_cons_zero]
  go_upto_region 8 with fail
  refine wp_region_lin (.op 0 (.op 1 (.op 2 (.op 3 (.op 4 (.op 5 (.op 6 (.op 7 (.op 8 (.op 9 .done)))))))))) (by rfl) ?_
  refine wpT_valp 30 (v := .int .i64 0) rfl rfl rfl (by go_simp) ?_
  refine wpT_valp 31 (v := .int .i64 0) rfl rfl rfl (by go_simp) ?_
  refine wpT_valp 32 (v := .bool false) rfl rfl rfl (by go_simp) ?_
  refine wpT_valp 33 (v := .bool false) rfl rfl rfl (by go_simp) ?_
  try simp only [Act.put, List.setIfInBounds_toArray, List.set_cons_succ, List.set_cons_zero]
  refine wpT_valp 34 (v := .slice A1 b.length c1) rfl rfl (by simp [Region.wanted, yielded, Act.put]) (by go_simp) ?_
  refine wpT_valp 35 (v := .string (Bs b)) rfl rfl (by simp [Region.wanted, yielded, Act.put]) (by have s0 := bytes_str ((K1.out _ _ M6).1); unfold Sv at s0; go_simp) ?_
  refine wpT_valp 36 (v := .slice AB b.length cb) rfl rfl (by simp [Region.wanted, yielded, Act.put]) (by go_simp) ?_
  refine wpT_valp 37 (v := .string (Bs b)) rfl rfl (by simp [Region.wanted, yielded, Act.put]) (by have s0 := bytes_str ((SV.below HVB.out (T0.out _ _ M6).end_)); unfold Sv at s0; go_simp) ?_
  refine wpT_valp 38 (v := .bool false) rfl rfl (by simp [Region.wanted, yielded, Act.put]) (by go_simp) ?_
  try simp only [Act.put, List.setIfInBounds_toArray, List.set_cons_succ, List.set_cons_zero]
  refine wpT_valp 39 (v := .bool false) rfl rfl rfl (by go_simp) ?_
  dsimp only [wpT]
  try simp only [Act.put, List.setIfInBounds_toArray, List.set_cons_succ, List.set_cons_zero]
  go_upto_region 10 with fail
  refine wp_region_lin (.op 0 (.op 1 (.op 2 .done))) (by rfl) ?_
  refine wpT_valp 40 (v := .slice (some ⟨gx, 0, none⟩) b.length cx) rfl rfl rfl (by go_simp) ?_
  refine wpT_valp 41 (v := .int .i64 b.length) rfl rfl rfl (by go_simp) ?_
  refine wpT_valp 42 (v := .int .i64 0) rfl rfl rfl (by go_simp) ?_
  dsimp only [wpT]
  try simp only [Act.put, List.setIfInBounds_toArray, List.set_cons_succ, List.set_cons_zero]
  go_wp2_with fail
  have hxy : gx ≠ gy := by have := B6.size; omega
  have hkb : w.heap.size < w4.heap.size := M1.lt (b := w.heap.size) (c := cs U8 k) (by simp)
  have hgx : w4.heap.size ≤ gx := by omega
  have hgy : w4.heap.size ≤ gy := by have := B5.size; omega
  go_loopw [42] (fun t wr => ∃ (i : Nat) (X Y : Bs8), i ≤ b.length ∧ t = .int .i64 i ∧ X.length = b.length ∧ Y.length = b.length ∧ OB wr w4.heap.size (.slice (some ⟨gx, 0, none⟩) b.length cx) X ∧ OB wr w4.heap.size (.slice (some ⟨gy, 0, none⟩) b.length cy) Y ∧ Mm S1 w4 [(w.heap.size, cs U8 k)] wr) (fun t _ => b.length - (intOf t).toNat)
  case atStart => exact ⟨0, x, y, by omega, rfl, hx, hy, O5.mono (by omega), O6.mono (by have := B5.size; omega), M6⟩
  case round =>
    clear M6 O5 O6
    obtain ⟨i, X, Y, hi, rfl, hX, hY, OX, OY, M⟩ := hrel
    by_cases hlt : i < b.length
    · have hlt2 : (i : Int) < (b.length : Int) := by omega
      have hi0 : (0 : Int) ≤ (i : Int) := by omega
      obtain ⟨p, hp⟩ : ∃ p, p = X.getD i 0 := ⟨_, rfl⟩
      obtain ⟨q, hq⟩ : ∃ q, q = Y.getD i 0 := ⟨_, rfl⟩
      obtain ⟨p2, hp2⟩ : ∃ p2, p2 = p ^^^ 255#8 := ⟨_, rfl⟩
      obtain ⟨q2, hq2⟩ : ∃ q2, q2 = q ^^^ 255#8 := ⟨_, rfl⟩
      have Hp := hid hp
      have Hq := hid hq
      have Hp2 := hid hp2
      have Hq2 := hid hq2
      clear hp hq hp2 hq2
      go_upto_region 12 with fail
      refine wp_region_lin (.op 0 (.op 1 .done)) (by rfl) ?_
      refine wpT_valp 44 (v := .int .i64 i) rfl rfl rfl (by go_simp) ?_
      refine wpT_valp 10 (v := .int .i64 i) rfl rfl rfl (by go_simp) ?_
      dsimp only [wpT]
      try simp only [Act.put, List.setIfInBounds_toArray, List.set_cons_succ, List.set_cons_zero]
      go_upto_region 13 with fail
      refine wp_region_lin (.op 0 (.op 1 (.op 2 (.op 3 (.op 4 (.op 5 (.op 6 .done))))))) (by rfl) ?_
      refine wpT_valp 45 (v := .slice (some ⟨gx, 0, none⟩) b.length cx) rfl rfl rfl (by go_simp) ?_
      refine wpT_valp 46 (v := .int .i64 i) rfl rfl rfl (by go_simp) ?_
      refine wpT_valp 47 (v := .pointer (some ⟨gx, i, none⟩)) rfl rfl rfl (by go_simp) ?_
      refine wpT_valp 48 (v := U8 p) rfl rfl rfl (by have c0 := bs_cell OX.bs i (by omega); rw [Nat.zero_add, ← Hp.out] at c0; go_simp) ?_
      try simp only [Act.put, List.setIfInBounds_toArray, List.set_cons_succ, List.set_cons_zero]
      refine wpT_valp 49 (v := U8 p2) rfl rfl rfl (by have h := Hp2.out; rw [h]; go_simp) ?_
      refine wpT_valp 50 (v := .pointer (some ⟨gx, i, none⟩)) rfl rfl rfl (by go_simp) ?_
      obtain ⟨f1, f2, OXn⟩ := OX.setc hX i hlt p2
      refine wpT_stb (U8 p2) inf_u8 rfl rfl rfl (by go_simp) (by go_simp) f2 (by simp [go_sem]) f1 rfl ?_
      have M7 := M.setOwn (g := gx) ((wr.rowOf gx).setIfInBounds i (U8 p2)) (by omega) (by simp; omega)
      replace OY := OY.setOther (g := gx) ((wr.rowOf gx).setIfInBounds i (U8 p2)) (by simp [Value.ownBlock]; omega)
      obtain ⟨w7, hw7⟩ : ∃ w7, w7 = wr.setRow gx ((wr.rowOf gx).setIfInBounds i (U8 p2)) := ⟨_, rfl⟩
      rw [← hw7] at M7 OXn OY ⊢
      clear hw7 f1 f2 OX
      have OX := OXn
      clear OXn
      dsimp only [wpT]
      try simp only [Act.put, List.setIfInBounds_toArray, List.set_cons_succ, List.set_cons_zero]
      go_upto_region 14 with fail
      refine wp_region_lin (.op 0 (.op 1 (.op 2 (.op 3 (.op 4 (.op 5 (.op 6 .done))))))) (by rfl) ?_
      refine wpT_valp 51 (v := .slice (some ⟨gy, 0, none⟩) b.length cy) rfl rfl rfl (by go_simp) ?_
      refine wpT_valp 52 (v := .int .i64 i) rfl rfl rfl (by go_simp) ?_
      refine wpT_valp 53 (v := .pointer (some ⟨gy, i, none⟩)) rfl rfl rfl (by go_simp) ?_
      refine wpT_valp 54 (v := U8 q) rfl rfl rfl (by have c0 := bs_cell OY.bs i (by omega); rw [Nat.zero_add, ← Hq.out] at c0; go_simp) ?_
      try simp only [Act.put, List.setIfInBounds_toArray, List.set_cons_succ, List.set_cons_zero]
      refine wpT_valp 55 (v := U8 q2) rfl rfl rfl (by have h := Hq2.out; rw [h]; go_simp) ?_
      refine wpT_valp 56 (v := .pointer (some ⟨gy, i, none⟩)) rfl rfl rfl (by go_simp) ?_
      obtain ⟨f1, f2, OYn⟩ := OY.setc hY i hlt q2
      refine wpT_stb (U8 q2) inf_u8 rfl rfl rfl (by go_simp) (by go_simp) f2 (by simp [go_sem]) f1 rfl ?_
      have M8 := M7.setOwn (g := gy) ((w7.rowOf gy).setIfInBounds i (U8 q2)) (by omega) (by simp; omega)
      replace OX := OX.setOther (g := gy) ((w7.rowOf gy).setIfInBounds i (U8 q2)) (by simp [Value.ownBlock]; omega)
      obtain ⟨w8, hw8⟩ : ∃ w8, w8 = w7.setRow gy ((w7.rowOf gy).setIfInBounds i (U8 q2)) := ⟨_, rfl⟩
      rw [← hw8] at M8 OYn OX ⊢
      clear hw8 f1 f2 OY
      have OY := OYn
      clear OYn
      dsimp only [wpT]
      try simp only [Act.put, List.setIfInBounds_toArray, List.set_cons_succ, List.set_cons_zero]
      go_wp2_with fail
      go_roundw
      case rel => exact ⟨i + 1, X.set i p2, Y.set i q2, by omega, by simp, by simpa using hX, by simpa using hY, OX, OY, M8⟩
      case measure => simp only [intOf]; omega
    · obtain rfl : i = b.length := by omega
      go_upto_region 16 with fail
      refine wp_region_lin (.op 0 (.op 1 (.op 2 (.op 3 (.op 4 (.op 5 .done)))))) (by rfl) ?_
      refine wpT_valp 58 (v := .slice A1 b.length c1) rfl rfl rfl (by go_simp) ?_
      refine wpT_valp 59 (v := .string (Bs b)) rfl rfl rfl (by have s0 := bytes_str ((K1.out _ _ M).1); unfold Sv at s0; go_simp) ?_
      refine wpT_valp 60 (v := .slice AB b.length cb) rfl rfl rfl (by go_simp) ?_
      refine wpT_valp 61 (v := .string (Bs b)) rfl rfl rfl (by have s0 := bytes_str ((SV.below HVB.out (T0.out _ _ M).end_)); unfold Sv at s0; go_simp) ?_
      try simp only [Act.put, List.setIfInBounds_toArray, List.set_cons_succ, List.set_cons_zero]
      refine wpT_valp 62 (v := .bool true) rfl rfl rfl (by go_simp) ?_
      refine wpT_valp 4 (v := .bool true) rfl rfl rfl (by go_simp) ?_
      dsimp only [wpT]
      try simp only [Act.put, List.setIfInBounds_toArray, List.set_cons_succ, List.set_cons_zero]
      go_wp2_with fail
      go_ret
      exact ⟨rfl, (T0.out _ _ M).end_⟩
end Go.Proofs.YtbigmnhjnjeeaaaDoor
