/-
  Walk of reference 02: Times; own work.
  Walks of reference 02: Shared, Public; own work.
-/
import Derived.Test.YtgclegdgngldoaaDoorCv7
import Derived.Test.YtgclegdgngldoaaDoorLin
import Derived.Test.YtgclegdgngldoaaDoorXtra
set_option linter.unusedSimpArgs false
set_option linter.unusedVariables false
namespace Go.Proofs.YtgclegdgngldoaaDoor
open Go.RowKit Fp
theorem Mm.swap {S : Nat → Prop} {w0 w : World} {x y : Nat × Array Value} {H : List (Nat × Array Value)} (h : Mm S w0 (x :: y :: H) w) : Mm S w0 (y :: x :: H) w :=
  ⟨h.fr, fun p hp => h.own p (by simp only [List.mem_cons] at hp ⊢; rcases hp with h | h | h <;> simp [h]), by
    have := h.nd
    simp only [List.map_cons, List.nodup_cons, List.mem_cons, not_or] at this ⊢
    exact ⟨⟨Ne.symm this.1.1, this.2.1⟩, this.1.2, this.2.2⟩⟩
section
variable {P : Program} {ops : Array Oper} {Q : Exit → Act → World → Prop} {J : World → Prop} {a : Act} {S : Nat → Prop} {w0 w : World} {H : List (Nat × Array Value)}
/-- two new variables, in either order, and what they are given -/
theorem wpTJ_two {i5 i6 i7 i8 d7 d8 n : Nat} {o5 o6 o7 o8 : Oper} {T : TypeId} {z : Value} {x7 x8 : Operand} (X Y : Array Value) (M : Mm S w0 H w) (hJ : ∀ H' w', Mm S w0 (H' ++ H) w' → J w') (hd : d7 ≠ d8) (hT : T ≠ 5)
    (hz : ((P.info? T).bind (·.zero)) = some z) (hi : (P.info? T).map (·.size) = some n) (hzn : z.cells.size = n) (hXn : X.size = n) (hYn : Y.size = n) (hX1 : ones X = true) (hY1 : ones Y = true)
    (h5 : ops[i5]? = some o5) (p5 : o5.op = .alloc T) (e5 : o5.dst = some d7) (g5 : o5.guard = none)
    (h6 : ops[i6]? = some o6) (p6 : o6.op = .alloc T) (e6 : o6.dst = some d8) (g6 : o6.guard = none)
    (h7 : ops[i7]? = some o7) (p7 : o7.op = .store T (.tmp d7) x7) (e7 : o7.dst = none) (g7 : o7.guard = none)
    (h8 : ops[i8]? = some o8) (p8 : o8.op = .store T (.tmp d8) x8) (e8 : o8.dst = none) (g8 : o8.guard = none)
    (l7 : d7 < a.tmps.size) (l8 : d8 < a.tmps.size) (v7 : a.eval x7 = .agg X) (v8 : a.eval x8 = .agg Y) (n7 : ∀ d, (d = d7 ∨ d = d8) → x7 ≠ .tmp d ∧ x8 ≠ .tmp d)
    (h : ∀ b7 b8 w', Mm S w0 ((b8, Y) :: (b7, X) :: H) w' → Q .normal ((a.put (some d7) (.pointer (some ⟨b7, 0, none⟩))).put (some d8) (.pointer (some ⟨b8, 0, none⟩))) w') :
    wpTJ P ops Q J (.both (.op i5 (.op i6 (.op i7 (.op i8 .done)))) (.op i6 (.op i5 (.op i7 (.op i8 .done))))) a w := by
  have wt : ∀ {o : Oper} {t : Array Value}, o.guard = none → Region.wanted o (yielded ops t) = true := fun hg => by simp [Region.wanted, hg]
  have fin : ∀ b7 b8 w', Mm S w0 ((b8, z.cells) :: (b7, z.cells) :: H) w' → wpTJ P ops Q J (.op i7 (.op i8 .done)) ((a.put (some d7) (.pointer (some ⟨b7, 0, none⟩))).put (some d8) (.pointer (some ⟨b8, 0, none⟩))) w' := by
    intro b7 b8 w' N
    have ev7 : ((a.put (some d7) (.pointer (some ⟨b7, 0, none⟩))).put (some d8) (.pointer (some ⟨b8, 0, none⟩))).eval (.tmp d7) = .pointer (some ⟨b7, 0, none⟩) := by
      have h1 := put_ne (a := a.put (some d7) (.pointer (some ⟨b7, 0, none⟩))) (v := .pointer (some ⟨b8, 0, none⟩)) (Ne.symm hd)
      rw [put_at l7] at h1
      simp only [Act.eval]; rw [Array.getD_eq_getD_getElem?, h1]; rfl
    have ev8 : ((a.put (some d7) (.pointer (some ⟨b7, 0, none⟩))).put (some d8) (.pointer (some ⟨b8, 0, none⟩))).eval (.tmp d8) = .pointer (some ⟨b8, 0, none⟩) := by
      simp [Act.eval, Act.put, l8]
    have ex : ∀ x, (∀ d, (d = d7 ∨ d = d8) → x ≠ .tmp d) → ((a.put (some d7) (.pointer (some ⟨b7, 0, none⟩))).put (some d8) (.pointer (some ⟨b8, 0, none⟩))).eval x = a.eval x := by
      intro x hx
      rw [Act.eval_put (fun d hd2 => by injection hd2 with hd2; exact hx d (.inr hd2.symm)), Act.eval_put (fun d hd2 => by injection hd2 with hd2; exact hx d (.inl hd2.symm))]
    refine wpTJ_st0 (hJ [_, _] _ N) N 1 X hi rfl h7 p7 e7 ev7 (by rw [ex x7 (fun d hd => (n7 d hd).1), v7]) hzn hXn hX1 (wt g7) (fun w3 N3 => ?_)
    dsimp only [List.set] at N3
    refine wpTJ_st0 (hJ [_, _] _ N3) N3 0 Y hi rfl h8 p8 e8 ev8 (by rw [ex x8 (fun d hd => (n7 d hd).2), v8]) hzn hYn hY1 (wt g8) (fun w4 N4 => ?_)
    dsimp only [List.set] at N4
    exact ⟨hJ [_, _] _ N4, h _ _ _ N4⟩
  refine ⟨?_, ?_⟩
  · refine wpTJ_new (hJ [] _ M) M hz hT h5 p5 (wt g5) (fun b7 w1 M1 => ?_)
    rw [e5]
    refine wpTJ_new (hJ [_] _ M1) M1 hz hT h6 p6 (wt g6) (fun b8 w2 M2 => ?_)
    rw [e6]
    exact fin b7 b8 w2 M2
  · refine wpTJ_new (hJ [] _ M) M hz hT h6 p6 (wt g6) (fun b8 w1 M1 => ?_)
    rw [e6]
    refine wpTJ_new (hJ [_] _ M1) M1 hz hT h5 p5 (wt g5) (fun b7 w2 M2 => ?_)
    rw [e5, Act.put_comm a _ _ (x := some d8) (y := some d7) (fun d h1 h2 => hd (by injection h1 with h1; injection h2 with h2; omega))]
    exact fin b7 b8 w2 M2.swap
end
def o1L : List (BitVec 8) := (zs 32).set 0 1#8
theorem o1L_eq : (zs 32).set 0 1#8 = o1L := rfl
theorem o1L_len : o1L.length = 32 := rfl
theorem xb_pair1 (w : World) : exBuild Tryd.prog 118 #[(0, .agg (cs U8 o1L))] w = .ok (.value (.agg (cs U8 (o1L ++ zs 32)))) w := by
  unfold exBuild; rw [run_build w _ _ (cs U8 (o1L ++ zs 32)) (by kernel_rfl)]; rfl
theorem bv_f : U8 (bv false) = .int .u8 0 := rfl
theorem bv_t : U8 (bv true) = .int .u8 1 := rfl
theorem rem2 {t : TypeId} (x : BitVec 8) : binOp .rem t (U8 x) (.int .u8 2) = pure (U8 (x % 2#8)) := by
  show Sem.pure (Value.int .u8 ((x.toNat : Int).tmod 2)) = Sem.pure (Value.int .u8 ((x % 2#8).toNat : Int))
  rw [BitVec.toNat_umod]; rfl
theorem Fk_o1 : Fk o1L = 1 := by decide +kernel
theorem Fk_24 : Fk ((((zs 32).set 0 65#8).set 1 219#8).set 2 1#8) = 121665 := by decide +kernel
theorem Fk_z32 : Fk (zs 32) = 0 := by decide +kernel
theorem rt_end {u : F} {k : Nat} {s : St} (h : lad u k 255 = s) : s.x2 * iv s.z2 = gv k u := by
  subst h; rw [gv_eq, iv_eq]; rfl
attribute [local irreducible] lad gx bv smX smZ twX twZ o1L
set_option maxRecDepth 100000 in
set_option maxHeartbeats 4000000 in
theorem rtimes_any (w : World) (a b : List (BitVec 8)) (ha : a.length = 32) (hb : b.length = 32) :
    Calls Tryd.prog 56 #[.agg (cs U8 a), .agg (cs U8 b)] w fun e w' => e = .returned (.agg (cs U8 (K (gv (leN a) (Fk b))))) ∧ Below w.heap.size w w' := by
  have M0 := Mm.start no w
  go_enter Tryd.func56, Tryd.ntmps56
  have M2 := (((((M0.alloc (cs U8 a) 23 (by decide)).alloc (cs U8 b) 23 (by decide)).alloc (cs U8 (zs 32)) 23 (by decide)).alloc (cs U8 (zs 32)) 23 (by decide)).alloc (cs U8 (zs 32)) 23 (by decide))
  try simp only [World.size_alloc] at M2
  go_upto_region 2 with fail
  obtain ⟨w1, hw1⟩ : ∃ w1, w1 = (((((w.alloc (.cells (cs U8 a) 23)).alloc (.cells (cs U8 b) 23)).alloc (.cells (cs U8 (zs 32)) 23)).alloc (.cells (cs U8 (zs 32)) 23)).alloc (.cells (cs U8 (zs 32)) 23)) := ⟨_, rfl⟩
  rw [← hw1] at M2 ⊢
  clear hw1
  refine wp_region_seqF 1 [13] [] [] [] (.op 1 .done) (Mm no w _) (by kernel_rfl) (by kernel_rfl) (fun d _ _ _ _ h => by cases d <;> exact h) (by rfl) M2.size (fun _ _ h k => h.sf k) M2 (by kernel_rfl) ?_
  simp only [List.take_succ_cons, List.take_zero]
  refine SeqA.pure (.pointer (some ⟨w.heap.size + 1 + 1 + 1, 0, none⟩)) (fun w' => by go_simp) rfl rfl ?_
  refine SeqA.nil (fun w3 M4 hz => ?_)
  show wpT _ _ _ _ _ _
  simp only [Act.put, List.setIfInBounds_toArray, List.set_cons_succ, List.set_cons_zero]
  refine wpT_stc M4 1 (.int .u8 1) (cs U8 ((zs 32).set 0 1#8)) inf_u8 rfl rfl rfl rfl (by go_simp) (by go_simp) (by have := (by decide : 0 < (zs 32 : List (BitVec 8)).length); first | (simp; done) | (simpa using this) | (simp; omega)) (by simp [go_sem]) (cs_set 0 (1#8)) rfl (fun w5 M6 => ?_)
  dsimp only [List.set] at M6
  dsimp only [wpT]
  go_upto_region 3 with fail
  refine wp_region_seqF 1 [14] [] [] [] (.op 1 .done) (Mm no w _) (by kernel_rfl) (by kernel_rfl) (fun d _ _ _ _ h => by cases d <;> exact h) (by rfl) M6.size (fun _ _ h k => h.sf k) M6 (by kernel_rfl) ?_
  simp only [List.take_succ_cons, List.take_zero]
  refine SeqA.pure (.pointer (some ⟨w.heap.size + 1 + 1 + 1 + 1, 0, none⟩)) (fun w' => by go_simp) rfl rfl ?_
  refine SeqA.nil (fun w7 M8 hz => ?_)
  show wpT _ _ _ _ _ _
  simp only [Act.put, List.setIfInBounds_toArray, List.set_cons_succ, List.set_cons_zero]
  refine wpT_stc M8 0 (.int .u8 65) (cs U8 ((zs 32).set 0 65#8)) inf_u8 rfl rfl rfl rfl (by go_simp) (by go_simp) (by have := (by decide : 0 < (zs 32 : List (BitVec 8)).length); first | (simp; done) | (simpa using this) | (simp; omega)) (by simp [go_sem]) (cs_set 0 (65#8)) rfl (fun w9 M10 => ?_)
  dsimp only [List.set] at M10
  dsimp only [wpT]
  go_upto_region 4 with fail
  refine wp_region_seqF 1 [15] [] [] [] (.op 1 .done) (Mm no w _) (by kernel_rfl) (by kernel_rfl) (fun d _ _ _ _ h => by cases d <;> exact h) (by rfl) M10.size (fun _ _ h k => h.sf k) M10 (by kernel_rfl) ?_
  simp only [List.take_succ_cons, List.take_zero]
  refine SeqA.pure (.pointer (some ⟨w.heap.size + 1 + 1 + 1 + 1, 1, none⟩)) (fun w' => by go_simp) rfl rfl ?_
  refine SeqA.nil (fun w11 M12 hz => ?_)
  show wpT _ _ _ _ _ _
  simp only [Act.put, List.setIfInBounds_toArray, List.set_cons_succ, List.set_cons_zero]
  refine wpT_stc M12 0 (.int .u8 219) (cs U8 (((zs 32).set 0 65#8).set 1 219#8)) inf_u8 rfl rfl rfl rfl (by go_simp) (by go_simp) (by have := (by decide : 1 < ((zs 32).set 0 65#8).length); first | (simp; done) | (simpa using this) | (simp; omega)) (by simp [go_sem]) (cs_set 1 (219#8)) rfl (fun w13 M14 => ?_)
  dsimp only [List.set] at M14
  dsimp only [wpT]
  go_upto_region 5 with fail
  refine wp_region_seqF 1 [16] [] [] [] (.op 1 .done) (Mm no w _) (by kernel_rfl) (by kernel_rfl) (fun d _ _ _ _ h => by cases d <;> exact h) (by rfl) M14.size (fun _ _ h k => h.sf k) M14 (by kernel_rfl) ?_
  simp only [List.take_succ_cons, List.take_zero]
  refine SeqA.pure (.pointer (some ⟨w.heap.size + 1 + 1 + 1 + 1, 2, none⟩)) (fun w' => by go_simp) rfl rfl ?_
  refine SeqA.nil (fun w15 M16 hz => ?_)
  show wpT _ _ _ _ _ _
  simp only [Act.put, List.setIfInBounds_toArray, List.set_cons_succ, List.set_cons_zero]
  refine wpT_stc M16 0 (.int .u8 1) (cs U8 (((((zs 32).set 0 65#8).set 1 219#8)).set 2 1#8)) inf_u8 rfl rfl rfl rfl (by go_simp) (by go_simp) (by have := (by decide : 2 < ((((zs 32).set 0 65#8).set 1 219#8)).length); first | (simp; done) | (simpa using this) | (simp; omega)) (by simp [go_sem]) (cs_set 2 (1#8)) rfl (fun w17 M18 => ?_)
  dsimp only [List.set] at M18
  dsimp only [wpT]
  go_upto_region 6 with fail
  have HA24 := hid Fk_24
  have HO1 := hid Fk_o1
  have HX1 := hid (xb_pair1 w)
  obtain ⟨l24, h24⟩ : ∃ l, l = (((zs 32).set 0 65#8).set 1 219#8).set 2 1#8 := ⟨_, rfl⟩
  have hl24 : l24.length = 32 := by rw [h24]; decide
  have ho1 : o1L.length = 32 := o1L_len
  rw [← h24] at M18 HA24
  clear h24
  rw [o1L_eq] at M18
  have HX1 := fun w' => hid (xb_pair1 w')
  obtain ⟨o1, e1⟩ : ∃ l, l = o1L := ⟨_, rfl⟩
  rw [← e1] at M18 HO1 ho1
  simp only [← e1] at HX1
  clear e1
  refine wp_region_J (fun v => v.rowOf (w.heap.size + 1 + 1 + 1) = cs U8 o1 ∧ v.rowOf (w.heap.size + 1) = cs U8 b) [0, 1, 2, 3, 4] (.both (.op 5 (.op 6 (.op 7 (.op 8 .done)))) (.op 6 (.op 5 (.op 7 (.op 8 .done))))) (by kernel_rfl) (by kernel_rfl) (by kernel_rfl) (fun d _ _ _ _ h => by cases d <;> exact h) ?_
  refine wpYJ_ld Tryd.underlying23 rfl inf_key (w.heap.size + 1 + 1 + 1) (cs U8 o1) rfl rfl (by go_simp) (fun _ h => h.1) (by simp [ho1]) rfl ?_
  refine wpYJL_op (.agg (cs U8 (o1 ++ zs 32))) rfl rfl (fun w' _ => by have q := (HX1 w').out; go_simp) ?_
  refine wpYJ_ld Tryd.underlying23 rfl inf_key (w.heap.size + 1) (cs U8 b) rfl rfl (by go_simp) (fun _ h => h.2) (by simp [hb]) rfl ?_
  refine wpYJ_ld Tryd.underlying23 rfl inf_key (w.heap.size + 1 + 1 + 1) (cs U8 o1) rfl rfl (by go_simp) (fun _ h => h.1) (by simp [ho1]) rfl ?_
  refine wpYJL_op (.agg (cs U8 (b ++ o1))) rfl rfl (fun w' _ => by have q := xb_pair2 w' b o1 hb ho1; go_simp) ?_
  show wpTJ _ _ _ _ _ _ _
  refine wpTJ_two (cs U8 (o1 ++ zs 32)) (cs U8 (b ++ o1)) (M18.drewN 1) (fun H' w' N => ⟨N.row (by simp), N.row (by simp)⟩) (d7 := 7) (d8 := 8) (by decide) (by decide) (z := .agg (cs U8 (zs 32 ++ zs 32))) (by kernel_rfl) inf_pair (by simp [Value.cells]) (by simp [ho1]) (by simp [hb, ho1]) (by simp [go_sem]) (by simp [go_sem])
    rfl rfl rfl rfl rfl rfl rfl rfl rfl rfl rfl rfl rfl rfl rfl rfl (by simp [Act.put]) (by simp [Act.put]) (by go_simp) (by go_simp) (by intro d hd; rcases hd with rfl | rfl <;> exact ⟨fun h => (by cases h), fun h => (by cases h)⟩) (fun bp bq w9 M9 => ?_)
  simp only [Act.put, List.setIfInBounds_toArray, List.set_cons_succ, List.set_cons_zero]
  clear M18
  go_wp2_with fail
  go_loopw [9] (fun t wr => ∃ (n : Nat) (x z X Z : List (BitVec 8)), n ≤ 255 ∧ t = .int .i64 (254 - (n : Int)) ∧ x.length = 32 ∧ z.length = 32 ∧ X.length = 32 ∧ Z.length = 32 ∧ lad (Fk b) (leN a) n = ⟨Fk x, Fk z, Fk X, Fk Z⟩ ∧ Mm no w [(bq, cs U8 (X ++ Z)), (bp, cs U8 (x ++ z)), (w.heap.size + 1 + 1 + 1 + 1, cs U8 l24), (w.heap.size + 1 + 1 + 1, cs U8 o1), (w.heap.size + 1 + 1, cs U8 (zs 32)), (w.heap.size + 1, cs U8 b), (w.heap.size, cs U8 a)] wr) (fun t _ => (intOf t + 1).toNat)
  case atStart => exact ⟨0, o1, zs 32, b, o1, by omega, rfl, ho1, by decide, hb, ho1, by rw [lad_zero, HO1.out, Fk_z32], M9⟩
  case round =>
    clear M9
    obtain ⟨n, x, z, X, Z, hn, rfl, hx, hz1, hX, hZ, hlad, M⟩ := hrel
    have HLad := hid hlad
    clear hlad
    by_cases hlt : n < 255
    · obtain ⟨j, hj⟩ : ∃ j : Nat, (254 : Int) - (n : Int) = (j : Int) := ⟨254 - n, by omega⟩
      rw [hj]
      have hj2 : j = 254 - n := by omega
      obtain ⟨q, hq⟩ : ∃ q, q = j / 8 := ⟨_, rfl⟩
      obtain ⟨r, hr⟩ : ∃ r, r = j % 8 := ⟨_, rfl⟩
      have HQ := hid (show IntKind.i64.wrap ((j : Int) / 8) = (q : Int) by rw [hq, i64w _ (by omega) (by omega)]; rfl)
      have HR := hid (show ((j : Int).tmod 8) = (r : Int) ∧ (j : Int) % 8 = (r : Int) by rw [hr]; exact ⟨rfl, rfl⟩)
      have HRu := hid (show IntKind.u64.wrap (r : Int) = (r : Int) by rw [IntKind.wrap_u64]; exact Int.emod_eq_of_lt (by omega) (by omega))
      have hq32 : q < a.length := by omega
      have hq33 : (q : Int) < 32 := by omega
      have hq0 : (0 : Int) ≤ q := by omega
      have hr0 : (0 : Int) ≤ r := by omega
      have hj0 : (0 : Int) ≤ j := by omega
      have HBit := hid (show ((g8 a q).toNat / 2 ^ r % 2 == 1) = ((leN a / 2 ^ (254 - n)) % 2 == 1) by rw [← hj2, leN_bit a j (by omega), hr, hq]; rfl)
      have HLs := hid (lad_succ (Fk b) (leN a) n)
      have HD0 := hid (bit_rem (g8 a q) r)
      have HJ := hid hj
      clear hq hr hj2 hj
      go_upto_region 10 with fail
      cases hd : ((g8 a q).toNat / 2 ^ r % 2 == 1)
      · have HD := hid (show U8 ((g8 a q >>> r) % 2#8) = .int .u8 0 by rw [HD0.out, hd, bv_f])
        have HLs2 := hid (show lad (Fk b) (leN a) (n + 1) = lstep (Fk b) false (lad (Fk b) (leN a) n) by rw [HLs.out, ← HBit.out, hd])
        clear hd
        refine wp_region_seqF 10 [26, 27, 28, 29, 30, 31, 32, 33, 34, 10] [] [] [] (.done) (Mm no w _) (by kernel_rfl) (by kernel_rfl) (fun d _ _ _ _ h => by cases d <;> exact h) (by rfl) M.size (fun _ _ h k => h.sf k) M (by kernel_rfl) ?_
        simp only [List.take_succ_cons, List.take_zero]
        refine SeqA.pure (.int .i64 j) (fun w' => by go_simp) rfl rfl ?_
        refine SeqA.pure (.int .i64 q) (fun w' => by have h := HQ.out; go_simp) rfl rfl ?_
        refine SeqA.pure (.pointer (some ⟨w.heap.size, q, none⟩)) (fun w' => by go_simp) rfl rfl ?_
        refine SeqA.read (U8 (g8 a q)) (fun w' M => by have c0 := cell_g8 (M.row (b := w.heap.size) (c := cs U8 a) (by simp)) (i := q) (by omega); go_simp) rfl rfl ?_
        refine SeqA.pure (.int .i64 j) (fun w' => by go_simp) rfl rfl ?_
        simp only [Act.put, List.setIfInBounds_toArray, List.set_cons_succ, List.set_cons_zero]
        refine SeqA.pure (.int .i64 r) (fun w' => by have h := HR.out.1; have h2 := HR.out.2; go_simp) rfl rfl ?_
        refine SeqA.pure (.int .u64 r) (fun w' => by have h := HRu.out; go_simp) rfl rfl ?_
        refine SeqA.pure (U8 (g8 a q >>> r)) (fun w' => by have h := shr_8 (t := 5) (g8 a q) .u64 (r : Int) (by omega); go_simp) rfl rfl ?_
        refine SeqA.pure (.int .u8 0) (fun w' => by have h := HD.out; have h2 := rem2 (t := 5) (g8 a q >>> r); go_simp) rfl rfl ?_
        refine SeqA.pure (.int .u8 0) (fun w' => by go_simp) rfl rfl ?_
        refine SeqA.nil (fun w1 M2 hz => ?_)
        show wpT _ _ _ _ _ _
        simp only [Act.put, List.setIfInBounds_toArray, List.set_cons_succ, List.set_cons_zero]
        dsimp only [wpT]
        go_upto_region 11 with fail
        refine wp_region_seqF 2 [35, 36] [] [] [] (.done) (Mm no w _) (by kernel_rfl) (by kernel_rfl) (fun d _ _ _ _ h => by cases d <;> exact h) (by rfl) M2.size (fun _ _ h k => h.sf k) M2 (by kernel_rfl) ?_
        simp only [List.take_succ_cons, List.take_zero]
        refine SeqA.pure (.int .u8 0) (fun w' => by go_simp) rfl rfl ?_
        refine SeqA.pure (.bool false) (fun w' => by go_simp) rfl rfl ?_
        refine SeqA.nil (fun w3 M4 hz => ?_)
        show wpT _ _ _ _ _ _
        simp only [Act.put, List.setIfInBounds_toArray, List.set_cons_succ, List.set_cons_zero]
        dsimp only [wpT]
        go_upto_region 15 with fail
        refine wp_region_seqF 5 [45, 46, 47, 48, 12] [] [] [] (.op 5 .done) (Mm no w _) (by kernel_rfl) (by kernel_rfl) (fun d _ _ _ _ h => by cases d <;> exact h) (by rfl) M4.size (fun _ _ h k => h.sf k) M4 (by kernel_rfl) ?_
        simp only [List.take_succ_cons, List.take_zero]
        refine SeqA.ld0 Tryd.underlying118 rfl inf_pair (bp) (cs U8 (x ++ z)) rfl (by go_simp) (fun _ M => M.row (by simp)) (by simp [ha, hb, hl24, ho1, hx, hz1, hX, hZ]) rfl ?_
        refine SeqA.ld0 Tryd.underlying118 rfl inf_pair (bq) (cs U8 (X ++ Z)) rfl (by go_simp) (fun _ M => M.row (by simp)) (by simp [ha, hb, hl24, ho1, hx, hz1, hX, hZ]) rfl ?_
        refine SeqA.ld0 Tryd.underlying23 rfl inf_key (w.heap.size + 1) (cs U8 b) rfl (by go_simp) (fun _ M => M.row (by simp)) (by simp [ha, hb, hl24, ho1, hx, hz1, hX, hZ]) rfl ?_
        refine SeqA.call _ _ _ (fun w' => by go_simp) (fun w' hI _ => csum_any w' x z X Z b hx hz1 hX hZ hb) M4.size rfl rfl ?_
        refine SeqA.var (z := .agg (cs U8 (zs 32 ++ zs 32))) (by kernel_rfl) rfl rfl (by decide) rfl ?_
        refine SeqA.nil (fun w5 M6 hz => ?_)
        refine news_one (fun b7 hb1 hb2 hb3 => ?_)
        have M8 := M4.in_ (c := cs U8 (zs 32 ++ zs 32)) M6 hb1 hb2 (by decide) hb3 rfl
        show wpT _ _ _ _ _ _
        simp only [Act.put, List.setIfInBounds_toArray, List.set_cons_succ, List.set_cons_zero]
        refine wpT_st0 M8 0 (cs U8 (K (smX (Fk x) (Fk z) (Fk X) (Fk Z)) ++ K (smZ (Fk b) (Fk x) (Fk z) (Fk X) (Fk Z)))) inf_pair rfl rfl rfl rfl (by go_simp) (by go_simp) (by simp [ha, hb, hl24, ho1, hx, hz1, hX, hZ]) (by simp [ha, hb, hl24, ho1, hx, hz1, hX, hZ]) (by simp [go_sem]) rfl (fun w9 M10 => ?_)
        dsimp only [List.set] at M10
        dsimp only [wpT]
        go_upto_region 16 with fail
        refine wp_region_seqF 3 [49, 50, 51] [] [] [] (.op 3 .done) (Mm no w _) (by kernel_rfl) (by kernel_rfl) (fun d _ _ _ _ h => by cases d <;> exact h) (by rfl) M10.size (fun _ _ h k => h.sf k) M10 (by kernel_rfl) ?_
        simp only [List.take_succ_cons, List.take_zero]
        refine SeqA.ld0 Tryd.underlying118 rfl inf_pair (bp) (cs U8 (x ++ z)) rfl (by go_simp) (fun _ M => M.row (by simp)) (by simp [ha, hb, hl24, ho1, hx, hz1, hX, hZ]) rfl ?_
        refine SeqA.ld0 Tryd.underlying23 rfl inf_key (w.heap.size + 1 + 1 + 1 + 1) (cs U8 l24) rfl (by go_simp) (fun _ M => M.row (by simp)) (by simp [ha, hb, hl24, ho1, hx, hz1, hX, hZ]) rfl ?_
        refine SeqA.call _ _ _ (fun w' => by go_simp) (fun w' hI _ => twice_any w' x z l24 hx hz1 hl24 HA24.out) M10.size rfl rfl ?_
        refine SeqA.nil (fun w11 M12 hz => ?_)
        show wpT _ _ _ _ _ _
        simp only [Act.put, List.setIfInBounds_toArray, List.set_cons_succ, List.set_cons_zero]
        refine wpT_st0 M12 2 (cs U8 (K (twX (Fk x) (Fk z)) ++ K (twZ (Fk x) (Fk z)))) inf_pair rfl rfl rfl rfl (by go_simp) (by go_simp) (by simp [ha, hb, hl24, ho1, hx, hz1, hX, hZ]) (by simp [ha, hb, hl24, ho1, hx, hz1, hX, hZ]) (by simp [go_sem]) rfl (fun w13 M14 => ?_)
        dsimp only [List.set] at M14
        dsimp only [wpT]
        go_upto_region 17 with fail
        refine wp_region_seqF 1 [52] [] [] [] (.op 1 .done) (Mm no w _) (by kernel_rfl) (by kernel_rfl) (fun d _ _ _ _ h => by cases d <;> exact h) (by rfl) M14.size (fun _ _ h k => h.sf k) M14 (by kernel_rfl) ?_
        simp only [List.take_succ_cons, List.take_zero]
        refine SeqA.ld0 Tryd.underlying118 rfl inf_pair (b7) (cs U8 (K (smX (Fk x) (Fk z) (Fk X) (Fk Z)) ++ K (smZ (Fk b) (Fk x) (Fk z) (Fk X) (Fk Z)))) rfl (by go_simp) (fun _ M => M.row (by simp)) (by simp [ha, hb, hl24, ho1, hx, hz1, hX, hZ]) rfl ?_
        refine SeqA.nil (fun w15 M16 hz => ?_)
        show wpT _ _ _ _ _ _
        simp only [Act.put, List.setIfInBounds_toArray, List.set_cons_succ, List.set_cons_zero]
        refine wpT_st0 M16 1 (cs U8 (K (smX (Fk x) (Fk z) (Fk X) (Fk Z)) ++ K (smZ (Fk b) (Fk x) (Fk z) (Fk X) (Fk Z)))) inf_pair rfl rfl rfl rfl (by go_simp) (by go_simp) (by simp [ha, hb, hl24, ho1, hx, hz1, hX, hZ]) (by simp [ha, hb, hl24, ho1, hx, hz1, hX, hZ]) (by simp [go_sem]) rfl (fun w17 M18 => ?_)
        dsimp only [List.set] at M18
        dsimp only [wpT]
        go_wp2_with fail
        go_roundw
        case rel => exact ⟨n + 1, _, _, _, _, by omega, by have := HJ.out; rw [wrap64_id (by omega) (by omega)]; congr 1; omega, K_len _, K_len _, K_len _, K_len _, by rw [HLs2.out, HLad.out]; simp only [Fk_K]; rfl, M18.sub (List.sublist_cons_self _ _)⟩
        case measure => have := HJ.out; rw [wrap64_id (by omega) (by omega)]; simp [intOf]
      · have HD := hid (show U8 ((g8 a q >>> r) % 2#8) = .int .u8 1 by rw [HD0.out, hd, bv_t])
        have HLs2 := hid (show lad (Fk b) (leN a) (n + 1) = lstep (Fk b) true (lad (Fk b) (leN a) n) by rw [HLs.out, ← HBit.out, hd])
        clear hd
        refine wp_region_seqF 10 [26, 27, 28, 29, 30, 31, 32, 33, 34, 10] [] [] [] (.done) (Mm no w _) (by kernel_rfl) (by kernel_rfl) (fun d _ _ _ _ h => by cases d <;> exact h) (by rfl) M.size (fun _ _ h k => h.sf k) M (by kernel_rfl) ?_
        simp only [List.take_succ_cons, List.take_zero]
        refine SeqA.pure (.int .i64 j) (fun w' => by go_simp) rfl rfl ?_
        refine SeqA.pure (.int .i64 q) (fun w' => by have h := HQ.out; go_simp) rfl rfl ?_
        refine SeqA.pure (.pointer (some ⟨w.heap.size, q, none⟩)) (fun w' => by go_simp) rfl rfl ?_
        refine SeqA.read (U8 (g8 a q)) (fun w' M => by have c0 := cell_g8 (M.row (b := w.heap.size) (c := cs U8 a) (by simp)) (i := q) (by omega); go_simp) rfl rfl ?_
        refine SeqA.pure (.int .i64 j) (fun w' => by go_simp) rfl rfl ?_
        simp only [Act.put, List.setIfInBounds_toArray, List.set_cons_succ, List.set_cons_zero]
        refine SeqA.pure (.int .i64 r) (fun w' => by have h := HR.out.1; have h2 := HR.out.2; go_simp) rfl rfl ?_
        refine SeqA.pure (.int .u64 r) (fun w' => by have h := HRu.out; go_simp) rfl rfl ?_
        refine SeqA.pure (U8 (g8 a q >>> r)) (fun w' => by have h := shr_8 (t := 5) (g8 a q) .u64 (r : Int) (by omega); go_simp) rfl rfl ?_
        refine SeqA.pure (.int .u8 1) (fun w' => by have h := HD.out; have h2 := rem2 (t := 5) (g8 a q >>> r); go_simp) rfl rfl ?_
        refine SeqA.pure (.int .u8 1) (fun w' => by go_simp) rfl rfl ?_
        refine SeqA.nil (fun w1 M2 hz => ?_)
        show wpT _ _ _ _ _ _
        simp only [Act.put, List.setIfInBounds_toArray, List.set_cons_succ, List.set_cons_zero]
        dsimp only [wpT]
        go_upto_region 11 with fail
        refine wp_region_seqF 2 [35, 36] [] [] [] (.done) (Mm no w _) (by kernel_rfl) (by kernel_rfl) (fun d _ _ _ _ h => by cases d <;> exact h) (by rfl) M2.size (fun _ _ h k => h.sf k) M2 (by kernel_rfl) ?_
        simp only [List.take_succ_cons, List.take_zero]
        refine SeqA.pure (.int .u8 1) (fun w' => by go_simp) rfl rfl ?_
        refine SeqA.pure (.bool true) (fun w' => by go_simp) rfl rfl ?_
        refine SeqA.nil (fun w3 M4 hz => ?_)
        show wpT _ _ _ _ _ _
        simp only [Act.put, List.setIfInBounds_toArray, List.set_cons_succ, List.set_cons_zero]
        dsimp only [wpT]
        go_upto_region 12 with fail
        refine wp_region_seqF 5 [37, 38, 39, 40, 11] [] [] [] (.op 5 .done) (Mm no w _) (by kernel_rfl) (by kernel_rfl) (fun d _ _ _ _ h => by cases d <;> exact h) (by rfl) M4.size (fun _ _ h k => h.sf k) M4 (by kernel_rfl) ?_
        simp only [List.take_succ_cons, List.take_zero]
        refine SeqA.ld0 Tryd.underlying118 rfl inf_pair (bq) (cs U8 (X ++ Z)) rfl (by go_simp) (fun _ M => M.row (by simp)) (by simp [ha, hb, hl24, ho1, hx, hz1, hX, hZ]) rfl ?_
        refine SeqA.ld0 Tryd.underlying118 rfl inf_pair (bp) (cs U8 (x ++ z)) rfl (by go_simp) (fun _ M => M.row (by simp)) (by simp [ha, hb, hl24, ho1, hx, hz1, hX, hZ]) rfl ?_
        refine SeqA.ld0 Tryd.underlying23 rfl inf_key (w.heap.size + 1) (cs U8 b) rfl (by go_simp) (fun _ M => M.row (by simp)) (by simp [ha, hb, hl24, ho1, hx, hz1, hX, hZ]) rfl ?_
        refine SeqA.call _ _ _ (fun w' => by go_simp) (fun w' hI _ => csum_any w' X Z x z b hX hZ hx hz1 hb) M4.size rfl rfl ?_
        refine SeqA.var (z := .agg (cs U8 (zs 32 ++ zs 32))) (by kernel_rfl) rfl rfl (by decide) rfl ?_
        refine SeqA.nil (fun w5 M6 hz => ?_)
        refine news_one (fun b7 hb1 hb2 hb3 => ?_)
        have M8 := M4.in_ (c := cs U8 (zs 32 ++ zs 32)) M6 hb1 hb2 (by decide) hb3 rfl
        show wpT _ _ _ _ _ _
        simp only [Act.put, List.setIfInBounds_toArray, List.set_cons_succ, List.set_cons_zero]
        refine wpT_st0 M8 0 (cs U8 (K (smX (Fk X) (Fk Z) (Fk x) (Fk z)) ++ K (smZ (Fk b) (Fk X) (Fk Z) (Fk x) (Fk z)))) inf_pair rfl rfl rfl rfl (by go_simp) (by go_simp) (by simp [ha, hb, hl24, ho1, hx, hz1, hX, hZ]) (by simp [ha, hb, hl24, ho1, hx, hz1, hX, hZ]) (by simp [go_sem]) rfl (fun w9 M10 => ?_)
        dsimp only [List.set] at M10
        dsimp only [wpT]
        go_upto_region 13 with fail
        refine wp_region_seqF 3 [41, 42, 43] [] [] [] (.op 3 .done) (Mm no w _) (by kernel_rfl) (by kernel_rfl) (fun d _ _ _ _ h => by cases d <;> exact h) (by rfl) M10.size (fun _ _ h k => h.sf k) M10 (by kernel_rfl) ?_
        simp only [List.take_succ_cons, List.take_zero]
        refine SeqA.ld0 Tryd.underlying118 rfl inf_pair (bq) (cs U8 (X ++ Z)) rfl (by go_simp) (fun _ M => M.row (by simp)) (by simp [ha, hb, hl24, ho1, hx, hz1, hX, hZ]) rfl ?_
        refine SeqA.ld0 Tryd.underlying23 rfl inf_key (w.heap.size + 1 + 1 + 1 + 1) (cs U8 l24) rfl (by go_simp) (fun _ M => M.row (by simp)) (by simp [ha, hb, hl24, ho1, hx, hz1, hX, hZ]) rfl ?_
        refine SeqA.call _ _ _ (fun w' => by go_simp) (fun w' hI _ => twice_any w' X Z l24 hX hZ hl24 HA24.out) M10.size rfl rfl ?_
        refine SeqA.nil (fun w11 M12 hz => ?_)
        show wpT _ _ _ _ _ _
        simp only [Act.put, List.setIfInBounds_toArray, List.set_cons_succ, List.set_cons_zero]
        refine wpT_st0 M12 1 (cs U8 (K (twX (Fk X) (Fk Z)) ++ K (twZ (Fk X) (Fk Z)))) inf_pair rfl rfl rfl rfl (by go_simp) (by go_simp) (by simp [ha, hb, hl24, ho1, hx, hz1, hX, hZ]) (by simp [ha, hb, hl24, ho1, hx, hz1, hX, hZ]) (by simp [go_sem]) rfl (fun w13 M14 => ?_)
        dsimp only [List.set] at M14
        dsimp only [wpT]
        go_upto_region 14 with fail
        refine wp_region_seqF 1 [44] [] [] [] (.op 1 .done) (Mm no w _) (by kernel_rfl) (by kernel_rfl) (fun d _ _ _ _ h => by cases d <;> exact h) (by rfl) M14.size (fun _ _ h k => h.sf k) M14 (by kernel_rfl) ?_
        simp only [List.take_succ_cons, List.take_zero]
        refine SeqA.ld0 Tryd.underlying118 rfl inf_pair (b7) (cs U8 (K (smX (Fk X) (Fk Z) (Fk x) (Fk z)) ++ K (smZ (Fk b) (Fk X) (Fk Z) (Fk x) (Fk z)))) rfl (by go_simp) (fun _ M => M.row (by simp)) (by simp [ha, hb, hl24, ho1, hx, hz1, hX, hZ]) rfl ?_
        refine SeqA.nil (fun w15 M16 hz => ?_)
        show wpT _ _ _ _ _ _
        simp only [Act.put, List.setIfInBounds_toArray, List.set_cons_succ, List.set_cons_zero]
        refine wpT_st0 M16 2 (cs U8 (K (smX (Fk X) (Fk Z) (Fk x) (Fk z)) ++ K (smZ (Fk b) (Fk X) (Fk Z) (Fk x) (Fk z)))) inf_pair rfl rfl rfl rfl (by go_simp) (by go_simp) (by simp [ha, hb, hl24, ho1, hx, hz1, hX, hZ]) (by simp [ha, hb, hl24, ho1, hx, hz1, hX, hZ]) (by simp [go_sem]) rfl (fun w17 M18 => ?_)
        dsimp only [List.set] at M18
        dsimp only [wpT]
        go_wp2_with fail
        go_roundw
        case rel => exact ⟨n + 1, _, _, _, _, by omega, by have := HJ.out; rw [wrap64_id (by omega) (by omega)]; congr 1; omega, K_len _, K_len _, K_len _, K_len _, by rw [HLs2.out, HLad.out]; simp only [Fk_K]; rfl, M18.sub (List.sublist_cons_self _ _)⟩
        case measure => have := HJ.out; rw [wrap64_id (by omega) (by omega)]; simp [intOf]
    · have : n = 255 := by omega
      subst this
      have HG := hid (show K (Fk x * iv (Fk z)) = K (gv (leN a) (Fk b)) by rw [← rt_end HLad.out])
      go_upto_region 18 with fail
      refine wp_region_seq 6 [53, 54, 55, 56, 57, 58] [] [] [] (.op 6 .done) (Mm no w _) (by kernel_rfl) (by kernel_rfl) (by kernel_rfl) (fun d _ _ _ _ h => by cases d <;> exact h) (by rfl) M.size (fun _ _ h k => h.sf k) M ?_
      simp only [List.take_succ_cons, List.take_zero]
      refine SeqA.pure (.pointer (some ⟨bp, 0, none⟩)) (fun w' => by go_simp) rfl rfl ?_
      refine SeqA.ldm Tryd.underlying23 rfl inf_key (bp) 0 (cs U8 (x ++ z)) (cs U8 x) rfl (by go_simp) (fun _ M => M.row (by simp)) (by simp [ha, hb, hl24, ho1, hx, hz1, hX, hZ]) (by rw [cs_extract] <;> congr 1 <;> first | (simp [ha, hb, hl24, ho1, hx, hz1, hX, hZ]; done) | simp [List.take_append, List.drop_append, List.take_of_length_le, ha, hb, hl24, ho1, hx, hz1, hX, hZ]) rfl ?_
      refine SeqA.pure (.pointer (some ⟨bp, 32, none⟩)) (fun w' => by go_simp) rfl rfl ?_
      refine SeqA.ldm Tryd.underlying23 rfl inf_key (bp) 32 (cs U8 (x ++ z)) (cs U8 z) rfl (by go_simp) (fun _ M => M.row (by simp)) (by simp [ha, hb, hl24, ho1, hx, hz1, hX, hZ]) (by rw [cs_extract] <;> congr 1 <;> first | (simp [ha, hb, hl24, ho1, hx, hz1, hX, hZ]; done) | simp [List.take_append, List.drop_append, List.take_of_length_le, ha, hb, hl24, ho1, hx, hz1, hX, hZ]) rfl ?_
      refine SeqA.call _ _ _ (fun w' => by go_simp) (fun w' hI _ => rinv_c w' z (by simp [ha, hb, hl24, ho1, hx, hz1, hX, hZ]) (Fk z) (rfl)) M.size rfl rfl ?_
      simp only [Act.put, List.setIfInBounds_toArray, List.set_cons_succ, List.set_cons_zero]
      refine SeqA.call _ _ _ (fun w' => by go_simp) (fun w' hI _ => rmul_c w' x (K (iv (Fk z))) (by simp [ha, hb, hl24, ho1, hx, hz1, hX, hZ]) (by simp [ha, hb, hl24, ho1, hx, hz1, hX, hZ]) (Fk x) (iv (Fk z)) (rfl) (Fk_K _)) M.size rfl rfl ?_
      refine SeqA.nil (fun w1 M2 hz => ?_)
      show wpT _ _ _ _ _ _
      simp only [Act.put, List.setIfInBounds_toArray, List.set_cons_succ, List.set_cons_zero]
      refine wpT_st0 M2 4 (cs U8 (K ((Fk x) * (iv (Fk z))))) inf_key rfl rfl rfl rfl (by go_simp) (by go_simp) (by simp [ha, hb, hl24, ho1, hx, hz1, hX, hZ]) (by simp [ha, hb, hl24, ho1, hx, hz1, hX, hZ]) (by simp [go_sem]) rfl (fun w3 M4 => ?_)
      dsimp only [List.set] at M4
      dsimp only [wpT]
      go_wp2_with fail
      have r5 := M4.row (b := w.heap.size + 1 + 1) (c := cs U8 (K ((Fk x) * (iv (Fk z))))) (by simp)
      refine bodyPost_ret (res_row (b := w.heap.size + 1 + 1) rfl Tryd.underlying23 rfl inf_key _ _ rfl (by rw [r5]; simp [ha, hb, hl24, ho1, hx, hz1, hX, hZ])) rfl ?_
      rw [r5]
      rw [HG.out]; exact ⟨rfl, M4.end_⟩
end Go.Proofs.YtgclegdgngldoaaDoor
set_option linter.unusedSimpArgs false
set_option linter.unusedVariables false
namespace Go.Proofs.YtgclegdgngldoaaDoor
open Go.RowKit Fp
theorem rtimes_c (w : World) (a b : List (BitVec 8)) (ha : a.length = 32) (hb : b.length = 32) (x : F) (hx : Fk b = x) :
    Calls Tryd.prog 56 #[.agg (cs U8 a), .agg (cs U8 b)] w fun e w' => e = .returned (.agg (cs U8 (K (gv (leN a) x)))) ∧ Below w.heap.size w w' := by
  subst hx; exact rtimes_any w a b ha hb
theorem Fk_set9 : Fk ((zs 32).set 0 9#8) = 9 := by decide +kernel
set_option maxRecDepth 100000 in
set_option maxHeartbeats 2000000 in
theorem rpublic_c (w : World) (a : List (BitVec 8)) (ha : a.length = 32) :
    Calls Tryd.prog 35 #[.agg (cs U8 a)] w fun e w' => e = .returned (.agg (cs U8 (K (gv (leN (clampB a)) 9)))) ∧ Below w.heap.size w w' := by
  have H9 := hid Fk_set9
  have M0 := Mm.start no w
  go_enter Tryd.func35, Tryd.ntmps35
  have M2 := (((M0.alloc (cs U8 a) 23 (by decide)).alloc (cs U8 (zs 32)) 23 (by decide)).alloc (cs U8 (zs 32)) 23 (by decide))
  try simp only [World.size_alloc] at M2
  go_upto_region 2 with fail
  obtain ⟨w1, hw1⟩ : ∃ w1, w1 = (((w.alloc (.cells (cs U8 a) 23)).alloc (.cells (cs U8 (zs 32)) 23)).alloc (.cells (cs U8 (zs 32)) 23)) := ⟨_, rfl⟩
  rw [← hw1] at M2 ⊢
  clear hw1
  refine wp_region_seqF 1 [4] [] [] [] (.op 1 .done) (Mm no w _) (by kernel_rfl) (by kernel_rfl) (fun d _ _ _ _ h => by cases d <;> exact h) (by rfl) M2.size (fun _ _ h k => h.sf k) M2 (by kernel_rfl) ?_
  simp only [List.take_succ_cons, List.take_zero]
  refine SeqA.pure (.pointer (some ⟨w.heap.size + 1 + 1, 0, none⟩)) (fun w' => by go_simp) rfl rfl ?_
  refine SeqA.nil (fun w3 M4 hz => ?_)
  show wpT _ _ _ _ _ _
  simp only [Act.put, List.setIfInBounds_toArray, List.set_cons_succ, List.set_cons_zero]
  refine wpT_stc M4 0 (.int .u8 9) (cs U8 ((zs 32).set 0 9#8)) inf_u8 rfl rfl rfl rfl (by go_simp) (by go_simp) (by have := (by decide : 0 < (zs 32 : List (BitVec 8)).length); first | (simp; done) | (simpa using this) | (simp; omega)) (by simp [go_sem]) (cs_set 0 (9#8)) rfl (fun w5 M6 => ?_)
  dsimp only [List.set] at M6
  dsimp only [wpT]
  go_upto_region 3 with fail
  refine wp_region_seq 4 [5, 6, 7, 8] [] [] [] (.op 4 .done) (Mm no w _) (by kernel_rfl) (by kernel_rfl) (by kernel_rfl) (fun d _ _ _ _ h => by cases d <;> exact h) (by rfl) M6.size (fun _ _ h k => h.sf k) M6 ?_
  simp only [List.take_succ_cons, List.take_zero]
  refine SeqA.ld0 Tryd.underlying23 rfl inf_key (w.heap.size) (cs U8 a) rfl (by go_simp) (fun _ M => M.row (by simp)) (by simp [ha]) rfl ?_
  refine SeqA.call _ _ _ (fun w' => by go_simp) (fun w' hI _ => rclamp_any w' a (by simp [ha])) M6.size rfl rfl ?_
  refine SeqA.ld0 Tryd.underlying23 rfl inf_key (w.heap.size + 1 + 1) (cs U8 ((zs 32).set 0 9#8)) rfl (by go_simp) (fun _ M => M.row (by simp)) (by simp [ha]) rfl ?_
  refine SeqA.call _ _ _ (fun w' => by go_simp) (fun w' hI _ => rtimes_c w' (clampB a) ((zs 32).set 0 9#8) (by simp [ha]) (by simp) 9 H9.out) M6.size rfl rfl ?_
  refine SeqA.nil (fun w7 M8 hz => ?_)
  show wpT _ _ _ _ _ _
  simp only [Act.put, List.setIfInBounds_toArray, List.set_cons_succ, List.set_cons_zero]
  refine wpT_st0 M8 1 (cs U8 (K (gv (leN (clampB a)) 9))) inf_key rfl rfl rfl rfl (by go_simp) (by go_simp) (by simp [ha]) (by simp [ha]) (by simp [go_sem]) rfl (fun w9 M10 => ?_)
  dsimp only [List.set] at M10
  dsimp only [wpT]
  go_wp2_with fail
  have r11 := M10.row (b := w.heap.size + 1) (c := cs U8 (K (gv (leN (clampB a)) 9))) (by simp)
  refine bodyPost_ret (res_row (b := w.heap.size + 1) rfl Tryd.underlying23 rfl inf_key _ _ rfl (by rw [r11]; simp [ha])) rfl ?_
  rw [r11]
  exact ⟨rfl, M10.end_⟩
end Go.Proofs.YtgclegdgngldoaaDoor
