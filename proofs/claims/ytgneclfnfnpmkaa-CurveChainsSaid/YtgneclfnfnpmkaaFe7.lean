/-
  Walks of package fe: products; own work.
-/
import Derived.Test.YtgneclfnfnpmkaaFe6
import Derived.Test.YtgneclfnfnpmkaaFeR
set_option linter.unusedSimpArgs false
set_option linter.unusedVariables false
namespace Go.Proofs.Ytgneclfnfnpmkaa.Fp
theorem rL_zero (L l : List Nat) (off d : Nat) : rL L l off d 0 = (L, 0) := rfl
theorem rL_succ (L l : List Nat) (off d i : Nat) : rL L l off d (i + 1) = ((rL L l off d i).1.set (off + i) ((l.getD i 0 * d + (rL L l off d i).1.getD (off + i) 0 + (rL L l off d i).2) % M64), (l.getD i 0 * d + (rL L l off d i).1.getD (off + i) 0 + (rL L l off d i).2) / M64) := rfl
/-- the carries of a product with two numbers added -/
theorem mac_arith {p y c : Nat} (hy : y < M64) (hc : c < M64) (h : p + y + c < M64 * M64) :
    ((p % M64 + y) % M64 + c) % M64 = (p + y + c) % M64 ∧ p / M64 + (p % M64 + y) / M64 + ((p % M64 + y) % M64 + c) / M64 = (p + y + c) / M64 ∧ (p + y + c) / M64 < M64 := by
  have h3 : (p + y + c) / M64 < M64 := Nat.div_lt_of_lt_mul h
  refine ⟨?_, ?_, h3⟩
  · simp only [M64] at *; omega
  · simp only [M64] at *; omega
end Go.Proofs.Ytgneclfnfnpmkaa.Fp
namespace Go.Proofs.Ytgneclfnfnpmkaa
open Go.RowKit Fp
attribute [local irreducible] rL
set_option maxRecDepth 100000 in
set_option maxHeartbeats 4000000 in
theorem row_any (w : World) (b off cp l d : Nat) (L : List Nat) (hL0 : AL L) (hd : d < M64) (hlen : off + 4 ≤ L.length) (hcp : 4 ≤ cp) (hb : b < w.heap.size) (M : Mm (fun g => g = b) w [(b, cs N64 L)] w) :
    Calls Try.prog 60 #[.slice (some ⟨b, off, none⟩) 4 cp, .agg (cs N64 (limbs l)), N64 d] w fun e w' =>
      e = .returned (N64 (rL L (limbs l) off d 4).2) ∧ Mm (fun g => g = b) w [(b, cs N64 (rL L (limbs l) off d 4).1)] w' := by
  have M1 := M.alloc (cs N64 (limbs l)) 42 (by decide)
  have HR0 := hid (rL_zero L (limbs l) off d)
  have HRS := hid (rL_succ L (limbs l) off d)
  have HSP := hid (rL_spec hL0 (lmAL (limbs_lm l)) hd hlen)
  have HLN := hid hlen; have HD := hid hd
  clear hL0 hlen hd
  go_enter Try.func60, Try.ntmps60
  have r1 := M1.row (b := w.heap.size) (c := cs N64 (limbs l)) (by simp)
  go_wp2_with fail
  clear r1
  go_loopw [7, 14] (fun c t wr => ∃ i : Nat, i ≤ 4 ∧ t = .int .i64 i ∧ c = N64 (rL L (limbs l) off d i).2 ∧ Mm (fun g => g = b) w [(w.heap.size, cs N64 (limbs l)), (b, cs N64 (rL L (limbs l) off d i).1)] wr) (fun _ t _ => 4 - (intOf t).toNat)
  case atStart => exact ⟨0, by omega, rfl, by rw [HR0.out]; rfl, by rw [HR0.out]; exact M1⟩
  case round =>
    clear M M1
    obtain ⟨i, hi, rfl, rfl, M⟩ := hrel
    obtain ⟨k1, k2, k3, -, -⟩ := HSP.out i hi
    by_cases hlt : i < 4
    · have hL := hid k1
      have hoi : off + i < L.length := by have := HLN.out; omega
      have hoi2 : off + i < (rL L (limbs l) off d i).1.length := by rw [k1]; exact hoi
      obtain ⟨c, hc⟩ : ∃ c, c = (rL L (limbs l) off d i).2 := ⟨_, rfl⟩
      obtain ⟨X, hX⟩ : ∃ X, X = gN (limbs l) i := ⟨_, rfl⟩
      obtain ⟨y, hy⟩ : ∃ y, y = gN (rL L (limbs l) off d i).1 (off + i) := ⟨_, rfl⟩
      have c0 := cell_gN (M.row (b := b) (c := cs N64 (rL L (limbs l) off d i).1) (by simp)) hoi2
      rw [← hy] at c0
      have hidx := idx_num wr (limbs l) i hlt (limbs_len l)
      rw [← hX] at hidx
      have hyl : y < M64 := by rw [hy]; exact k2.getD _
      have hXl : X < M64 := by rw [hX]; exact (lmAL (limbs_lm l)).getD _
      rw [← hc] at k3 ⊢
      have ht : X * d + y + c < M64 * M64 := by
        have := tot_lt hXl HD.out hyl k3
        exact this
      obtain ⟨p, hp⟩ : ∃ p, p = X * d := ⟨_, rfl⟩
      rw [← hp] at ht
      obtain ⟨a1, a2, a3⟩ := mac_arith hyl k3 ht
      obtain ⟨lo, hlo⟩ : ∃ x, x = p % M64 := ⟨_, rfl⟩
      obtain ⟨hi0, hhi⟩ : ∃ x, x = p / M64 := ⟨_, rfl⟩
      rw [← hlo, ← hhi] at a2
      rw [← hlo] at a1
      have hmul := mul64 X d hXl HD.out wr
      rw [show (18446744073709551616 : Nat) = M64 from rfl, ← hp, ← hlo, ← hhi] at hmul
      have q1 := fun w => add64i lo y 0 _ _ 0 rfl rfl rfl (by decide) w
      simp only [Nat.add_zero] at q1
      rw [show (18446744073709551616 : Nat) = M64 from rfl] at q1
      obtain ⟨s1, hs1⟩ : ∃ x, x = (lo + y) % M64 := ⟨_, rfl⟩
      obtain ⟨c1, hc1⟩ : ∃ x, x = (lo + y) / M64 := ⟨_, rfl⟩
      rw [← hs1, ← hc1] at q1 a2
      rw [← hs1] at a1
      have q2 := fun w => add64i s1 c 0 _ _ 0 rfl rfl rfl (by decide) w
      simp only [Nat.add_zero] at q2
      rw [show (18446744073709551616 : Nat) = M64 from rfl] at q2
      obtain ⟨s2, hs2⟩ : ∃ x, x = (s1 + c) % M64 := ⟨_, rfl⟩
      obtain ⟨c2, hc2⟩ : ∃ x, x = (s1 + c) / M64 := ⟨_, rfl⟩
      rw [← hs2, ← hc2] at q2
      rw [← hs2] at a1
      rw [← hc2] at a2
      obtain ⟨h1, hh1⟩ : ∃ x, x = hi0 + c1 := ⟨_, rfl⟩
      obtain ⟨h2, hh2⟩ : ∃ x, x = h1 + c2 := ⟨_, rfl⟩
      rw [← hh1, ← hh2] at a2
      have qh1 : IntKind.u64.wrap ((hi0 : Int) + (c1 : Int)) = (h1 : Int) := by simp only [M64] at *; rw [wrap_u64']; omega
      have qh2 : IntKind.u64.wrap ((h1 : Int) + (c2 : Int)) = (h2 : Int) := by simp only [M64] at *; rw [wrap_u64']; omega
      have HM := hid hmul; have A1 := hid a1; have A2 := hid a2; have HP := hid hp; have HX := hid hX; have HY := hid hy; have HC := hid hc
      clear hmul a1 a2 a3 hp hX hy hc hlo hhi hs1 hc1 hs2 hc2 hh1 hh2 ht hyl hXl k1 k2 k3 hoi2
      go_upto_region 11 with (first | (with_reducible refine (HM.out).mono ?_; rintro e w' ⟨rfl, rfl⟩))
      clear c0 hidx q1 q2 qh1 qh2
      refine wp_region_seqF 5 [45, 46, 47, 48, 49] [] [3] [] (.op 5 (.op 6 .done)) (Mm (fun g => g = b) w _) (by kernel_rfl) (by kernel_rfl) (fun d _ _ _ _ h => by cases d <;> exact h) (by rfl) M.size (fun _ _ h k => h.sf k) M (by kernel_rfl) ?_
      simp only [List.take_succ_cons, List.take_zero]
      refine SeqA.pure (.slice (some ⟨b, off, none⟩) 4 cp) (fun w' => by go_simp) rfl rfl ?_
      refine SeqA.pure (.int .i64 i) (fun w' => by go_simp) rfl rfl ?_
      refine SeqA.pure (N64 s2) (fun w' => by go_simp) rfl rfl ?_
      refine SeqA.pure (N64 h2) (fun w' => by go_simp) rfl rfl ?_
      refine SeqA.pure (.pointer (some ⟨b, off + i, none⟩)) (fun w' => by go_simp) rfl rfl ?_
      refine SeqA.nil (fun w1 M2 hz => ?_)
      show wpT _ _ _ _ _ _
      simp only [Act.put, List.setIfInBounds_toArray, List.set_cons_succ, List.set_cons_zero]
      refine wpT_stc M2 1 (N64 s2) (cs N64 ((rL L (limbs l) off d i).1.set (off + i) s2)) inf_u64 rfl rfl rfl rfl (by go_simp) (by go_simp) (by have := (by rw [hL]; exact hoi : off + i < (rL L (limbs l) off d i).1.length); first | (simp; done) | (simpa using this) | (simp; omega)) (by simp [go_sem]) (cs_set _ _) rfl (fun w3 M4 => ?_)
      dsimp only [List.set] at M4
      refine wpT_val (v := N64 h2) rfl rfl rfl ?_
      dsimp only [wpT]
      simp only [Act.put, List.setIfInBounds_toArray, List.set_cons_succ, List.set_cons_zero]
      go_wp2_with fail
      go_roundw
      case rel => exact ⟨i + 1, by omega, by go_num, by
          rw [HRS.out]
          have e := A2.out
          rw [HP.out, HX.out, HY.out, HC.out] at e
          exact congrArg N64 e, by
          rw [HRS.out]
          have e := A1.out
          rw [HP.out, HX.out, HY.out, HC.out] at e
          rw [e] at M4
          exact M4⟩
      case measure => simp [intOf]; omega
    · have : i = 4 := by omega
      subst this
      go_wp2_with fail
      go_ret
      exact ⟨rfl, M.sub (by simp)⟩
@[go_sem] theorem arr_num (w : World) (a : Option Addr) (n c : Nat) (h : 4 ≤ n) : (Instr.arrayAt 42 (.slice a n c)).run Try.prog w = .ok (.pointer a) w := run_arrayAt _ _ 40 4 a n c Try.underlying42 h
theorem slw (w : World) (b i : Nat) (hi : i < 4) : (Instr.sliceAt 56 (.pointer (some ⟨b, 0, none⟩)) (some (.int .i64 i)) (some (.int .i64 ((i : Int) + 4))) none).run Try.prog w = .ok (.slice (some ⟨b, i, none⟩) 4 (8 - i)) w := by
  have hn : Try.prog.arrayLen 56 = 8 := by kernel_rfl
  rw [run_sliceAt_array_lh w 56 ⟨b, 0, none⟩ (by kernel_rfl) .i64 .i64 (i : Int) ((i : Int) + 4) (by omega) (by omega) (by rw [hn]; omega)]
  have hs : ∀ w, (sizeOf (Try.prog.elem 56)).run Try.prog w = .ok 1 w := fun _ => by kernel_rfl
  rw [hs]
  show Result.ok (slicedAt _ _ _ _ _) w = _
  unfold slicedAt
  rw [hn]
  have e1 : ((i : Int) + 4).toNat - (i : Int).toNat = 4 := by omega
  have e2 : (i : Int).toNat = i := by omega
  rw [e1, e2, if_neg (by omega)]
  simp [Addr.add]; omega
def z8 : List Nat := List.replicate 8 0
theorem inf_wide : (Try.prog.info? 56).map (·.size) = some 8 := by kernel_rfl
section
variable (ρ : Operand → Value) (dst : Option Tmp) (ty : TypeId) (pos : String) (after : Array Edge) (guard : Option (Nat × Bool)) (w : World)
@[go_sem ↓] theorem rl_wide (x : Operand) : (execOp ρ { dst, op := .load 56 x, type := ty, pos, after, guard }).run Try.prog w = exLoad Try.prog 56 (ρ x) w := x_load ..
@[go_sem ↓] theorem rs_wide (x y : Operand) : (execOp ρ { dst, op := .store 56 x y, type := ty, pos, after, guard }).run Try.prog w = exStore Try.prog 56 (ρ x) (ρ y) w := x_store ..
@[go_sem ↓] theorem ra_wide : (execOp ρ { dst, op := .alloc 56, type := ty, pos, after, guard }).run Try.prog w = .ok (.value (.pointer (some ⟨w.heap.size, 0, none⟩))) (w.alloc (.cells (cs N64 z8) 56)) :=
  (x_alloc ..).trans (x_alloc0 (v := .agg (cs N64 z8)) _ (by kernel_rfl))
@[go_sem] theorem xl_wide (b : Nat) (h : (w.rowOf b).size = 8) : exLoad Try.prog 56 (.pointer (some ⟨b, 0, none⟩)) w = .ok (.value (.agg (w.rowOf b))) w := x_load0 _ Try.underlying56 rfl inf_wide b h
@[go_sem] theorem xlm_wide (b o : Nat) (ho : 0 < o) (h : o + 8 ≤ (w.rowOf b).size) : exLoad Try.prog 56 (.pointer (some ⟨b, o, none⟩)) w = .ok (.value (.agg ((w.rowOf b).extract o (o + 8)))) w := x_loadm _ Try.underlying56 rfl inf_wide b o h
@[go_sem] theorem xs_wide (b : Nat) (c : Array Value) (hl : c.size = 8) (h1 : ones c = true) (h : (w.rowOf b).size = 8) (hf : w.free b = true) : exStore Try.prog 56 (.pointer (some ⟨b, 0, none⟩)) (.agg c) w = .ok .skip (w.setRow b c) :=
  x_store0 _ inf_wide b c hl h hf (ones_all h1)
@[go_sem] theorem xsm_wide (b o : Nat) (ho : 0 < o) (c : Array Value) (hl : c.size = 8) (h1 : ones c = true) (h : o + 8 ≤ (w.rowOf b).size) (hf : w.free b = true) : exStore Try.prog 56 (.pointer (some ⟨b, o, none⟩)) (.agg c) w = .ok .skip (w.setSeg b o c) :=
  x_storem _ inf_wide b o c hl h hf (ones_all h1)
end
/-- at a step: a store, and a variable made -/
theorem wps_wide {a : Act} {w : World} {K : Act → World → Prop} {Q : Exit → Act → World → Prop} {o : Oper} (p x : Operand) (ho : o.op = .store 56 p x) (b : Nat) (c : Array Value) (hp : a.eval p = .pointer (some ⟨b, 0, none⟩)) (hx : a.eval x = .agg c)
    (hl : c.size = 8) (h1 : ones c = true) (h : (w.rowOf b).size = 8) (hf : w.free b = true) (hK : K (a.put o.dst undef) (w.setRow b c)) : o.wp Try.prog a w K Q := by
  obtain ⟨dst, op, ty, pos, after, guard⟩ := o
  subst ho
  unfold Oper.wp
  rw [rs_wide, hp, hx, xs_wide _ _ _ hl h1 h hf]
  simp only [Oper.upon]
  exact hK
theorem wpa_wide {a : Act} {w : World} {K : Act → World → Prop} {Q : Exit → Act → World → Prop} {o : Oper} (ho : o.op = .alloc 56)
    (hK : K (a.put o.dst (.pointer (some ⟨w.heap.size, 0, none⟩))) (w.alloc (.cells (cs N64 z8) 56))) : o.wp Try.prog a w K Q := by
  obtain ⟨dst, op, ty, pos, after, guard⟩ := o
  subst ho
  unfold Oper.wp
  rw [ra_wide]
  simp only [Oper.upon]
  exact hK

theorem mW_zero (x y : Nat) : mW x y 0 = z8 := rfl
theorem mW_succ (x y i : Nat) : mW x y (i + 1) = (rL (mW x y i) (limbs x) i ((limbs y).getD i 0) 4).1.set (i + 4) (rL (mW x y i) (limbs x) i ((limbs y).getD i 0) 4).2 := by
  conv => lhs; unfold mW
attribute [local irreducible] mW
set_option maxRecDepth 100000 in
set_option maxHeartbeats 4000000 in
theorem nmul_any (w : World) (x y : Nat) :
    Calls Try.prog 49 #[.agg (cs N64 (limbs x)), .agg (cs N64 (limbs y))] w fun e w' => e = .returned (.agg (cs N64 (limbs (mulV x y)))) ∧ Below w.heap.size w w' := by
  have M0 := Mm.start no w
  have M1 := ((((M0.alloc (cs N64 (limbs x)) 42 (by decide)).alloc (cs N64 (limbs y)) 42 (by decide)).alloc (cs N64 (limbs 0)) 42 (by decide)).alloc (cs N64 z8) 56 (by decide))
  simp only [World.size_alloc] at M1
  have HW0 := hid (mW_zero x y); have HWS := hid (mW_succ x y); have HSP := hid (mW_spec x y)
  go_enter Try.func49, Try.ntmps49
  go_upto_region 2 with fail
  obtain ⟨w1, hw1⟩ : ∃ w1, w1 = (((w.alloc (.cells (cs N64 (limbs x)) 42)).alloc (.cells (cs N64 (limbs y)) 42)).alloc (.cells (cs N64 (limbs 0)) 42)).alloc (.cells (cs N64 z8) 56) := ⟨_, rfl⟩
  rw [← hw1] at M1 ⊢
  clear hw1
  have r1 := M1.row (b := w.heap.size + 1) (c := cs N64 (limbs y)) (by simp)
  go_wp2_with fail
  clear r1
  go_loopw [12] (fun t wr => ∃ i : Nat, i ≤ 4 ∧ t = .int .i64 i ∧ Mm no w [(w.heap.size + 1 + 1 + 1, cs N64 (mW x y i)), (w.heap.size + 1 + 1, cs N64 (limbs 0)), (w.heap.size + 1, cs N64 (limbs y)), (w.heap.size, cs N64 (limbs x))] wr) (fun t _ => 4 - (intOf t).toNat)
  case atStart => exact ⟨0, by omega, rfl, by rw [HW0.out]; exact M1⟩
  case round =>
    clear M1 M0
    obtain ⟨i, hi, rfl, M⟩ := hrel
    obtain ⟨k1, k2, -, -⟩ := HSP.out i hi
    by_cases hlt : i < 4
    · obtain ⟨d, hd⟩ : ∃ d, d = gN (limbs y) i := ⟨_, rfl⟩
      have hidx := idx_num wr (limbs y) i hlt (limbs_len y)
      rw [← hd] at hidx
      have hdl : d < M64 := by rw [hd]; exact (lmAL (limbs_lm y)).getD _
      have HD := hid hd; have K1 := hid k1; have K2 := hid k2
      clear hd k1 k2
      go_upto_region 5 with fail
      clear hidx
      have q0 : (0 : Int) ≤ i := by omega
      have q4 : (i : Int) + 4 ≤ 8 := by omega
      refine wp_region_seq 8 [16, 17, 18, 19, 20, 21, 22, 23] [] [0, 1] [] (.op 8 (.op 9 (.op 10 .done))) (Mm no w _) (by kernel_rfl) (by kernel_rfl) (by kernel_rfl) (fun d _ _ _ _ h => by cases d <;> exact h) (by rfl) M.size (fun _ _ h k => h.sf k) M ?_
      simp only [List.take_succ_cons, List.take_zero]
      refine SeqA.pure (.int .i64 i) (fun w' => by go_simp) rfl rfl ?_
      refine SeqA.pure (.int .i64 (i + 4)) (fun w' => by have q := i64w ((i : Int) + 4) (by omega) (by omega); go_simp) rfl rfl ?_
      refine SeqA.pure (.int .i64 i) (fun w' => by go_simp) rfl rfl ?_
      refine SeqA.pure (.int .i64 i) (fun w' => by go_simp) rfl rfl ?_
      refine SeqA.pure (.int .i64 (i + 4)) (fun w' => by have q := i64w ((i : Int) + 4) (by omega) (by omega); go_simp) rfl rfl ?_
      simp only [Act.put, List.setIfInBounds_toArray, List.set_cons_succ, List.set_cons_zero]
      refine SeqA.pure (.slice (some ⟨w.heap.size + 1 + 1 + 1, i, none⟩) 4 (8 - i)) (fun w' => by have q := slw w' (w.heap.size + 1 + 1 + 1) i hlt; go_simp) rfl rfl ?_
      refine SeqA.ld0 Try.underlying42 rfl inf_num (w.heap.size) (cs N64 (limbs x)) rfl (by go_simp) (fun _ M => M.row (by simp)) (by simp []) rfl ?_
      refine SeqA.pure (N64 d) (fun w' => by go_simp) rfl rfl ?_
      refine SeqA.nil (fun w1 M2 hz => ?_)
      show wpT _ _ _ _ _ _
      simp only [Act.put, List.setIfInBounds_toArray, List.set_cons_succ, List.set_cons_zero]
      have hlb := M2.lt (b := w.heap.size + 1 + 1 + 1) (c := cs N64 (mW x y i)) (by simp)
      refine wpT_call rfl rfl (by go_simp) (row_any w1 (w.heap.size + 1 + 1 + 1) i (8 - i) x d (mW x y i) K2.out hdl (by rw [K1.out]; omega) (by omega) hlb (M2.loc (k := 0) rfl)) ?_
      rintro e w3 ⟨rfl, N3⟩
      have M3 := M2.back (k := 0) rfl N3
      dsimp only [List.set] at M3
      refine ⟨_, rfl, ?_⟩
      have hl3 : (rL (mW x y i) (limbs x) i d 4).1.length = 8 := by rw [(rL_spec K2.out (lmAL (limbs_lm x)) hdl (by rw [K1.out]; omega) 4 (Nat.le_refl _)).1, K1.out]
      have HL3 := hid hl3
      clear hl3
      simp only [Act.put, List.setIfInBounds_toArray, List.set_cons_succ, List.set_cons_zero]
      have q5 : (0 : Int) ≤ (i : Int) + 4 := by omega
      have q6 : (i : Int) + 4 < 8 := by omega
      refine wpT_val (w' := w3) (v := .pointer (some ⟨w.heap.size + 1 + 1 + 1, i + 4, none⟩)) rfl rfl (by go_simp) ?_
      refine wpT_stc M3 0 (N64 (rL (mW x y i) (limbs x) i d 4).2) (cs N64 ((rL (mW x y i) (limbs x) i d 4).1.set (i + 4) (rL (mW x y i) (limbs x) i d 4).2)) inf_u64 rfl rfl rfl rfl (by go_simp) (by go_simp) (by rw [cs_size, HL3.out]; omega) (by simp [go_sem]) (cs_set _ _) rfl (fun w4 M4 => ?_)
      dsimp only [List.set] at M4
      dsimp only [wpT]
      simp only [Act.put, List.setIfInBounds_toArray, List.set_cons_succ, List.set_cons_zero]
      go_wp2_with fail
      go_roundw
      case rel => exact ⟨i + 1, by omega, by go_num, by rw [HWS.out]; rw [HD.out] at M4; exact M4⟩
      case measure => simp [intOf]; omega
    · have : i = 4 := by omega
      subst this
      obtain ⟨e1, e2, e3⟩ := mW_end x y
      obtain ⟨p, hp⟩ : ∃ p, p = (x % M256) * (y % M256) := ⟨_, rfl⟩
      rw [← hp] at e2 e3
      have HT := hid e2; have HDr := hid e3; have HW8 := hid e1; have HP := hid hp
      have hf := fold1_mul x y
      have hfl := fold1_mul_lt x y
      rw [← hp] at hf hfl
      have hr := row38 p
      rw [hf] at hr
      have HR := hid hr; have HFL := hid hfl
      clear e1 e2 e3 hp hf hfl hr k1 k2
      go_upto_region 7 with fail
      refine wp_region_seq 8 [27, 28, 29, 30, 31, 32, 8, 9] [] [] [] (.op 8 (.op 9 .done)) (Mm no w _) (by kernel_rfl) (by kernel_rfl) (by kernel_rfl) (fun d _ _ _ _ h => by cases d <;> exact h) (by rfl) M.size (fun _ _ h k => h.sf k) M ?_
      simp only [List.take_succ_cons, List.take_zero]
      refine SeqA.pure (.slice (some ⟨w.heap.size + 1 + 1 + 1, 0, none⟩) 4 8) (fun w' => by go_simp) rfl rfl ?_
      refine SeqA.pure (.pointer (some ⟨w.heap.size + 1 + 1 + 1, 0, none⟩)) (fun w' => by go_simp) rfl rfl ?_
      refine SeqA.ldm Try.underlying42 rfl inf_num (w.heap.size + 1 + 1 + 1) 0 (cs N64 (mW x y 4)) (cs N64 (limbs p)) rfl (by go_simp) (fun _ M => M.row (by simp)) (by simp [HW8.out]) (by rw [cs_extract, ← HT.out]; simp) rfl ?_
      refine SeqA.pure (.slice (some ⟨w.heap.size + 1 + 1 + 1, 4, none⟩) 4 4) (fun w' => by go_simp) rfl rfl ?_
      refine SeqA.pure (.pointer (some ⟨w.heap.size + 1 + 1 + 1, 4, none⟩)) (fun w' => by go_simp) rfl rfl ?_
      simp only [Act.put, List.setIfInBounds_toArray, List.set_cons_succ, List.set_cons_zero]
      refine SeqA.ldm Try.underlying42 rfl inf_num (w.heap.size + 1 + 1 + 1) 4 (cs N64 (mW x y 4)) (cs N64 (limbs (p / M256))) rfl (by go_simp) (fun _ M => M.row (by simp)) (by simp [HW8.out]) (by rw [cs_extract, ← HDr.out, List.take_of_length_le (by simp [HW8.out])]) rfl ?_
      refine SeqA.var (z := .agg (cs N64 (limbs 0))) (by kernel_rfl) rfl rfl (by decide) rfl ?_
      refine SeqA.var (z := .agg (cs N64 (limbs 0))) (by kernel_rfl) rfl rfl (by decide) rfl ?_
      refine SeqA.nil (fun w1 M2 hz => ?_)
      refine news_one (fun b3 hb1 hb2 hb3 => ?_)
      have M4 := M.in_ (c := cs N64 (limbs 0)) M2 hb1 hb2 (by decide) hb3 rfl
      refine news_one (fun b5 hb1 hb2 hb3 => ?_)
      have M6 := M.in_ (c := cs N64 (limbs 0)) M4 hb1 hb2 (by decide) hb3 rfl
      show wpT _ _ _ _ _ _
      simp only [Act.put, List.setIfInBounds_toArray, List.set_cons_succ, List.set_cons_zero]
      refine wpT_st0 M6 0 (cs N64 (limbs p)) inf_num rfl rfl rfl rfl (by go_simp) (by go_simp) (by simp []) (by simp []) (by simp [go_sem]) rfl (fun w7 M8 => ?_)
      dsimp only [List.set] at M8
      refine wpT_st0 M8 1 (cs N64 (limbs (p / M256))) inf_num rfl rfl rfl rfl (by go_simp) (by go_simp) (by simp []) (by simp []) (by simp [go_sem]) rfl (fun w9 M10 => ?_)
      dsimp only [List.set] at M10
      dsimp only [wpT]
      go_upto_region 8 with fail
      have hlb := M10.lt (b := b5) (c := cs N64 (limbs p)) (by simp)
      refine wp_region_seq 2 [33, 34] [] [] [] (.op 2 (.op 3 .done)) (Mm no w _) (by kernel_rfl) (by kernel_rfl) (by kernel_rfl) (fun d _ _ _ _ h => by cases d <;> exact h) (by rfl) M10.size (fun _ _ h k => h.sf k) M10 ?_
      simp only [List.take_succ_cons, List.take_zero]
      refine SeqA.pure (.slice (some ⟨b5, 0, none⟩) 4 4) (fun w' => by go_simp) rfl rfl ?_
      refine SeqA.ld0 Try.underlying42 rfl inf_num (b3) (cs N64 (limbs (p / M256))) rfl (by go_simp) (fun _ M => M.row (by simp)) (by simp []) rfl ?_
      refine SeqA.nil (fun w1 M2 hz => ?_)
      show wpT _ _ _ _ _ _
      simp only [Act.put, List.setIfInBounds_toArray, List.set_cons_succ, List.set_cons_zero]
      refine wpT_call rfl rfl (by go_simp) (row_any w1 b5 0 4 (p / M256) 38 (limbs p) (lmAL (limbs_lm p)) (by decide) (by simp) (by decide) (M2.lt (c := cs N64 (limbs p)) (by simp)) (M2.loc (k := 0) rfl)) ?_
      rintro e w3 ⟨rfl, N3⟩
      have M3 := M2.back (k := 0) rfl N3
      dsimp only [List.set] at M3
      rw [HR.out.1] at M3
      rw [HR.out.2]
      refine ⟨_, rfl, ?_⟩
      simp only [Act.put, List.setIfInBounds_toArray, List.set_cons_succ, List.set_cons_zero]
      obtain ⟨f, hf⟩ : ∃ f, f = fold1 p := ⟨_, rfl⟩
      have HF := hid hf
      rw [← hf] at M3 ⊢
      have hfl := HFL.out
      rw [← hf] at hfl
      have HFL2 := hid hfl
      clear hf hfl
      refine wpT_val (w' := w3) (v := N64 (f / M256)) rfl rfl rfl ?_
      dsimp only [wpT]
      simp only [Act.put, List.setIfInBounds_toArray, List.set_cons_succ, List.set_cons_zero]
      go_upto_region 9 with fail
      obtain ⟨o, ho⟩ : ∃ o, o = f / M256 := ⟨_, rfl⟩
      rw [← ho]
      have hsettle := settle_any w3 b5 f HFL2.out (M3.loc (k := 0) rfl)
      rw [← ho] at hsettle
      have HS := hid hsettle
      clear ho hsettle
      go_wp2_with fail
      with_reducible refine ((HS.out).mono ?_)
      rintro e w4 ⟨rfl, N4⟩
      have M4 := M3.back (k := 0) rfl N4
      dsimp only [List.set] at M4
      have r2 := M4.row (b := b5) (c := cs N64 (limbs (red f))) (by simp)
      have f3 := M4.free (b := w.heap.size + 1 + 1) (c := cs N64 (limbs 0)) (by simp)
      have r3 := M4.row (b := w.heap.size + 1 + 1) (c := cs N64 (limbs 0)) (by simp)
      dsimp only
      go_wp2_with fail
      have M5 := M4.set 3 (cs N64 (limbs (red f))) rfl
      dsimp only [List.set] at M5
      have r4 := M5.row (b := w.heap.size + 1 + 1) (c := cs N64 (limbs (red f))) (by simp)
      refine bodyPost_ret (res_row (b := w.heap.size + 1 + 1) rfl Try.underlying42 rfl inf_num _ _ rfl (by rw [r4]; simp)) rfl ?_
      rw [r4]
      exact ⟨by unfold mulV; rw [HF.out, HP.out], M5.end_⟩
set_option maxRecDepth 100000 in
set_option maxHeartbeats 2000000 in
theorem nsq_any (w : World) (x n : Nat) (hn : n ≤ 1000) :
    Calls Try.prog 61 #[.agg (cs N64 (limbs x)), .int .i64 n] w fun e w' => e = .returned (.agg (cs N64 (limbs (sqV x n)))) ∧ Below w.heap.size w w' := by
  have M0 := Mm.start no w
  have M1 := ((M0.alloc (cs N64 (limbs x)) 42 (by decide)).alloc (cs N64 (limbs 0)) 42 (by decide))
  simp only [World.size_alloc] at M1
  go_enter Try.func61, Try.ntmps61
  go_wp2_with fail
  go_loopw [6] (fun t wr => ∃ i : Nat, i ≤ n ∧ t = .int .i64 i ∧ Mm no w [(w.heap.size + 1, cs N64 (limbs 0)), (w.heap.size, cs N64 (limbs (sqV x i)))] wr) (fun t _ => n - (intOf t).toNat)
  case atStart => exact ⟨0, by omega, rfl, M1⟩
  case round =>
    clear M1 M0
    obtain ⟨i, hi, rfl, M⟩ := hrel
    by_cases hlt : i < n
    · obtain ⟨v, hv⟩ : ∃ v, v = sqV x i := ⟨_, rfl⟩
      rw [← hv] at M
      have HV := hid hv
      clear hv
      have r1 := M.row (b := w.heap.size) (c := cs N64 (limbs v)) (by simp)
      go_wp2_with fail
      with_reducible refine ((nmul_any wr v v).mono ?_)
      rintro e w2 ⟨rfl, hb2⟩
      have M2 := M.below hb2
      have r2 := M2.row (b := w.heap.size) (c := cs N64 (limbs v)) (by simp)
      have f2 := M2.free (b := w.heap.size) (c := cs N64 (limbs v)) (by simp)
      clear hb2 r1
      dsimp only
      go_wp2_with fail
      have M3 := M2.set 1 (cs N64 (limbs (mulV v v))) rfl
      dsimp only [List.set] at M3
      go_roundw
      case rel => exact ⟨i + 1, by omega, by go_num, by
        have e : sqV x (i + 1) = mulV v v := by rw [HV.out]; rfl
        rw [e]; exact M3⟩
      case measure => simp [intOf]; omega
    · have : i = n := by omega
      subst this
      go_upto_region 5 with fail
      have r2 := M.row (b := w.heap.size) (c := cs N64 (limbs (sqV x i))) (by simp)
      have f3 := M.free (b := w.heap.size + 1) (c := cs N64 (limbs 0)) (by simp)
      have r3 := M.row (b := w.heap.size + 1) (c := cs N64 (limbs 0)) (by simp)
      go_wp2_with fail
      have M3 := M.set 0 (cs N64 (limbs (sqV x i))) rfl
      dsimp only [List.set] at M3
      have r4 := M3.row (b := w.heap.size + 1) (c := cs N64 (limbs (sqV x i))) (by simp)
      refine bodyPost_ret (res_row (b := w.heap.size + 1) rfl Try.underlying42 rfl inf_num _ _ rfl (by rw [r4]; simp)) rfl ?_
      rw [r4]
      exact ⟨rfl, M3.end_⟩
end Go.Proofs.Ytgneclfnfnpmkaa
