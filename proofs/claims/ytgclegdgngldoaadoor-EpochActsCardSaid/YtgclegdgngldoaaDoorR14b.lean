/-
  The reference of law 14: Digits, Secret, Public; own work.
-/
import Derived.Test.YtgclegdgngldoaaDoorR14a
import Derived.Test.YtgclegdgngldoaaDoorRt2
import Derived.Test.YtgclegdgngldoaaDoorXtra
set_option linter.unusedSimpArgs false
set_option linter.unusedVariables false
namespace Go.Proofs.YtgclegdgngldoaaDoor
open Go.RowKit Fp
theorem be8_len (x : BitVec 64) : (Ep.be8 x).length = 8 := by simp [Ep.be8]
theorem be8_get (x : BitVec 64) (i : Nat) (hi : i < 8) : (Ep.be8 x).getD i 0 = (x >>> (56 - 8 * i)).setWidth 8 := by
  simp [Ep.be8, List.getD_eq_getElem?_getD, List.getElem?_range hi]
set_option maxRecDepth 100000 in
set_option maxHeartbeats 2000000 in
theorem digits_c (w : World) (x : BitVec 64) :
    Calls Tryd.prog 69 #[U64 x, .int .i64 8] w fun e w' => ∃ u, e = .returned u ∧ OB w' w.heap.size u (Ep.be8 x) ∧ Below w.heap.size w w' := by
  go_enter Tryd.func69, Tryd.ntmps69
  go_wp2_with fail
  go_loopw [5, 6] (fun u t wr => ∃ i : Nat, i ≤ 8 ∧ t = .int .i64 i ∧ OB wr w.heap.size u ((Ep.be8 x).take i) ∧ Below w.heap.size w wr) (fun _ t _ => 8 - (intOf t).toNat)
  case atStart => exact ⟨0, by omega, rfl, OB.nil _ _, Below.refl _ _⟩
  case round =>
    obtain ⟨i, hi, rfl, hov, hbw⟩ := hrel
    have hz := hbw.size
    by_cases hlt : i < 8
    · have q0 : (0 : Int) ≤ i := by omega
      have q1 : (i : Int) < 8 := by omega
      have hlen : Hid (((Ep.be8 x).take i).length + 1 ≤ 140737488355328) := hid (by have := be8_len x; simp; omega)
      have hts := hid (take_succ_getD (Ep.be8 x) 0 i (by rw [be8_len]; exact hlt))
      obtain ⟨p, hp⟩ : ∃ p, p = 7 - i := ⟨_, rfl⟩
      obtain ⟨r, hr⟩ : ∃ r, r = 8 * p := ⟨_, rfl⟩
      have HZE : Hid ((Ep.be8 x).getD i 0 = (x >>> r).setWidth 8) := hid (by rw [be8_get x i hlt, show r = 56 - 8 * i by omega])
      have e1 : IntKind.i64.wrap (7 - (i : Int)) = (p : Int) := by rw [i64w _ (by omega) (by omega)]; omega
      have e2 : IntKind.i64.wrap (8 * (p : Int)) = (r : Int) := by rw [i64w _ (by omega) (by omega)]; omega
      have hr64 : r < 64 := by omega
      have hr0 : (0 : Int) ≤ (r : Int) := by omega
      clear hp hr
      go_wp2_with (refine wpList_apb rfl (.tmp 12) (.tmp 22) rfl w.heap.size _ _ ((Ep.be8 x).take i) [(x >>> r).setWidth 8] rfl (OB.alloc hov _) rfl (BS.one _ _ _ rfl _) hlen.out (by simp; omega) ?_; rintro v3 w4 hown3 hg3 -; have HB4 := ob_below1 _ hbw hov (by omega) hg3)
      go_roundw
      case rel => exact ⟨i + 1, by omega, by go_num, by rw [hts.out, HZE.out]; exact hown3, HB4⟩
      case measure => simp [intOf]; omega
    · have : i = 8 := by omega
      subst this
      have e8 : (Ep.be8 x).take 8 = Ep.be8 x := List.take_of_length_le (by rw [be8_len]; exact Nat.le_refl _)
      rw [e8] at hov
      have HV := hid hov
      clear hov e8
      go_wp2_with fail
      go_ret
      exact ⟨_, rfl, HV.out, hbw⟩
theorem wpT_ob {P : Program} {S : Nat → Prop} {w0 w : World} {H : List (Nat × Array Value)} {ops : Array Oper} {Q : Exit → Act → World → Prop} {i : Nat} {tr : Tr} {a : Act} {o : Oper} {f : FuncId} {args : Array Value} {l : List (BitVec 8)} (dst : Nat) (M : Mm S w0 H w) (hdst : o.dst = some dst) (ho : ops[i]? = some o) (hw : Region.wanted o (yielded ops a.tmps) = true) (hrun : (execOp a.eval o).run P w = .ok (.enter f args) w)
    (hc : Calls P f args w fun e w' => ∃ u, e = .returned u ∧ OB w' w.heap.size u l ∧ Below w.heap.size w w')
    (h : ∀ u w', OB w' w.heap.size u l → Below w.heap.size w w' → Mm S w0 H w' → wpT P ops Q tr (a.put (some dst) u) w') : wpT P ops Q (.op i tr) a w := by
  refine wpT_call ho hw hrun hc (fun e w' => ?_)
  rintro ⟨u, he, O, hb⟩
  refine ⟨u, he, ?_⟩
  rw [hdst]
  exact h u w' O hb (M.below hb)
set_option maxRecDepth 100000 in
set_option maxHeartbeats 2000000 in
theorem rsecret_c (w : World) (k : L8) (gn : Nat) (hk : k.length = 32) :
    Calls Tryd.prog 48 #[.agg (cs U8 k), .int .i64 gn] w fun e w' => e = .returned (.agg (cs U8 (Ep.own k gn))) ∧ Below w.heap.size w w' := by
  obtain ⟨D, hD0⟩ : ∃ D, D = Ep.own k gn := ⟨_, rfl⟩
  have hD : D.length = 32 := by rw [hD0]; simp
  have HD : Hid (D = Sh.mac k (Ep.be8 (BitVec.ofNat 64 gn))) := hid (by rw [hD0]; exact Ep.own_eq k gn)
  have HC := hid (show Value.int .u64 (IntKind.u64.wrap (gn : Int)) = U64 (BitVec.ofNat 64 gn) by rw [u64_wrap]; simp)
  rw [← hD0]
  clear hD0
  have M0 := Mm.start no w
  go_enter Tryd.func48, Tryd.ntmps48
  have M2 := ((M0.alloc (cs U8 k) 23 (by decide)).alloc (cs U8 (zs 32)) 23 (by decide))
  try simp only [World.size_alloc] at M2
  go_upto_region 1 with fail
  obtain ⟨w1, hw1⟩ : ∃ w1, w1 = ((w.alloc (.cells (cs U8 k) 23)).alloc (.cells (cs U8 (zs 32)) 23)) := ⟨_, rfl⟩
  rw [← hw1] at M2 ⊢
  clear hw1
  refine wp_region_lin (.op 0 (.op 1 (.op 2 (.op 3 (.op 4 (.op 5 (.op 6 .done))))))) (by rfl) ?_
  refine wpT_ld0 5 Tryd.underlying23 rfl inf_key (w.heap.size) (cs U8 k) rfl rfl rfl (by go_simp) (M2.row (b := w.heap.size) (c := cs U8 k) (by simp)) (by simp [hk, hD]) rfl ?_
  refine wpT_ob 6 M2 rfl rfl rfl (by go_simp) (rbytes_any w1 k hk) (fun u6 wO6 O6 b6 MO6 => ?_)
  refine wpT_valp 7 (v := .int .i64 gn) rfl rfl rfl (by go_simp) ?_
  refine wpT_valp 8 (v := U64 (BitVec.ofNat 64 gn)) rfl rfl rfl (by have h := HC.out; go_simp) ?_
  try simp only [Act.put, List.setIfInBounds_toArray, List.set_cons_succ, List.set_cons_zero]
  refine wpT_ob 9 MO6 rfl rfl rfl (by go_simp) (digits_c wO6 (BitVec.ofNat 64 gn)) (fun u9 wO9 O9 b9 MO9 => ?_)
  refine wpT_callv 10 MO9 (v := .agg (cs U8 D)) rfl rfl rfl (by go_simp) (rmacD HD.out (BS.below O6.bs b9) O9.bs (by omega) (by rw [be8_len]; decide)) (fun w3 M4 => ?_)
  refine wpT_st0 M4 0 (cs U8 D) inf_key rfl rfl rfl rfl (by go_simp) (by go_simp) (by simp [hk, hD]) (by simp [hk, hD]) (by simp [go_sem]) rfl (fun w5 M6 => ?_)
  dsimp only [List.set] at M6
  dsimp only [wpT]
  try simp only [Act.put, List.setIfInBounds_toArray, List.set_cons_succ, List.set_cons_zero]
  go_wp2_with fail
  have r7 := M6.row (b := w.heap.size + 1) (c := cs U8 D) (by simp)
  refine bodyPost_ret (res_row (b := w.heap.size + 1) rfl Tryd.underlying23 rfl inf_key _ _ rfl (by rw [r7]; simp [hk, hD])) rfl ?_
  rw [r7]
  exact ⟨rfl, M6.end_⟩
theorem rpub14 (w : World) (a X : L8) (ha : a.length = 32) (hX : X = Su.pub a) :
    Calls Tryd.prog 35 #[.agg (cs U8 a)] w fun e w' => e = .returned (.agg (cs U8 X)) ∧ Below w.heap.size w w' := by
  rw [hX]; exact rpublic_c w a ha
theorem rsecret_y (w : World) (k : L8) (gn : Nat) (hk : k.length = 32) {D : L8} (hD : D = Ep.own k gn) :
    Calls Tryd.prog 48 #[.agg (cs U8 k), .int .i64 gn] w fun e w' => e = .returned (.agg (cs U8 D)) ∧ Below w.heap.size w w' := by
  rw [hD]; exact rsecret_c w k gn hk
set_option maxRecDepth 100000 in
set_option maxHeartbeats 2000000 in
theorem rpublic14_c (w : World) (k : L8) (gn : Nat) (hk : k.length = 32) :
    Calls Tryd.prog 31 #[.agg (cs U8 k), .int .i64 gn] w fun e w' => e = .returned (.agg (cs U8 (Ep.pub k gn))) ∧ Below w.heap.size w w' := by
  obtain ⟨D, hD0⟩ : ∃ D, D = Ep.own k gn := ⟨_, rfl⟩
  obtain ⟨X, hX0⟩ : ∃ X, X = Ep.pub k gn := ⟨_, rfl⟩
  have HDL : Hid (D.length = 32) := hid (by rw [hD0]; simp)
  have HPL : Hid (X.length = 32) := hid (by rw [hX0]; simp)
  have HDE := hid hD0
  have HXE : Hid (X = Su.pub D) := hid (by rw [hX0, hD0]; exact Ep.pub_eq k gn)
  rw [← hX0]
  clear hD0 hX0
  have M0 := Mm.start no w
  go_enter Tryd.func31, Tryd.ntmps31
  have M2 := ((M0.alloc (cs U8 k) 23 (by decide)).alloc (cs U8 (zs 32)) 23 (by decide))
  try simp only [World.size_alloc] at M2
  go_upto_region 1 with fail
  obtain ⟨w1, hw1⟩ : ∃ w1, w1 = ((w.alloc (.cells (cs U8 k) 23)).alloc (.cells (cs U8 (zs 32)) 23)) := ⟨_, rfl⟩
  rw [← hw1] at M2 ⊢
  clear hw1
  refine wp_region_lin (.op 0 (.op 1 (.op 2 (.op 3 (.op 4 .done))))) (by rfl) ?_
  refine wpT_ld0 5 Tryd.underlying23 rfl inf_key (w.heap.size) (cs U8 k) rfl rfl rfl (by go_simp) (M2.row (b := w.heap.size) (c := cs U8 k) (by simp)) (by simp [hk, HDL.out, HPL.out]) rfl ?_
  refine wpT_valp 6 (v := .int .i64 gn) rfl rfl rfl (by go_simp) ?_
  refine wpT_callv 7 M2 (v := .agg (cs U8 D)) rfl rfl rfl (by go_simp) (rsecret_y w1 k gn hk HDE.out) (fun w3 M4 => ?_)
  refine wpT_callv 8 M4 (v := .agg (cs U8 X)) rfl rfl rfl (by go_simp) (rpub14 w3 D X HDL.out HXE.out) (fun w5 M6 => ?_)
  try simp only [Act.put, List.setIfInBounds_toArray, List.set_cons_succ, List.set_cons_zero]
  refine wpT_st0 M6 0 (cs U8 X) inf_key rfl rfl rfl rfl (by go_simp) (by go_simp) (by simp [hk, HDL.out, HPL.out]) (by simp [hk, HDL.out, HPL.out]) (by simp [go_sem]) rfl (fun w7 M8 => ?_)
  dsimp only [List.set] at M8
  dsimp only [wpT]
  try simp only [Act.put, List.setIfInBounds_toArray, List.set_cons_succ, List.set_cons_zero]
  go_wp2_with fail
  have r9 := M8.row (b := w.heap.size + 1) (c := cs U8 X) (by simp)
  refine bodyPost_ret (res_row (b := w.heap.size + 1) rfl Tryd.underlying23 rfl inf_key _ _ rfl (by rw [r9]; simp [hk, HDL.out, HPL.out])) rfl ?_
  rw [r9]
  exact ⟨rfl, M8.end_⟩
end Go.Proofs.YtgclegdgngldoaaDoor
