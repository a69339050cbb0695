/-
  Walks of package curve's swap and of reference 02's sum and double; own work.
-/
import Derived.Test.YtgneclfnfnpmkaaCv1
set_option linter.unusedSimpArgs false
set_option linter.unusedVariables false
namespace Go.Proofs.Ytgneclfnfnpmkaa
open Go.RowKit Fp
def bv (c : Bool) : BitVec 8 := if c then 1#8 else 0#8
def msk (c : Bool) : BitVec 64 := -((bv c).setWidth 64)
def g64 (l : List (BitVec 64)) (i : Nat) : BitVec 64 := l.getD i 0
theorem cell_g64 {w : World} {b : Nat} {L : List (BitVec 64)} (h : w.rowOf b = cs U64 L) {i : Nat} (hi : i < L.length) : w.cell? ⟨b, i, none⟩ = some (U64 (g64 L i)) := cell_cs (f := U64) 0 h hi
@[go_sem ↓] theorem uneg_64 (x : BitVec 64) : Op.unary .neg (U64 x) = pure (U64 (-x)) := by
  show Sem.pure (Value.int .u64 (IntKind.u64.wrap (0 - (x.toNat : Int)))) = Sem.pure (U64 (-x))
  rw [u64_wrap, Int.zero_sub, BitVec.ofInt_neg]; simp
def swL (c : Bool) (o1 o2 : Nat) (L : List (BitVec 64)) : Nat → List (BitVec 64)
  | 0 => L
  | i + 1 => ((swL c o1 o2 L i).set (o1 + i) (g64 (swL c o1 o2 L i) (o1 + i) ^^^ (msk c &&& (g64 (swL c o1 o2 L i) (o1 + i) ^^^ g64 (swL c o1 o2 L i) (o2 + i))))).set (o2 + i)
      (g64 ((swL c o1 o2 L i).set (o1 + i) (g64 (swL c o1 o2 L i) (o1 + i) ^^^ (msk c &&& (g64 (swL c o1 o2 L i) (o1 + i) ^^^ g64 (swL c o1 o2 L i) (o2 + i))))) (o2 + i) ^^^ (msk c &&& (g64 (swL c o1 o2 L i) (o1 + i) ^^^ g64 (swL c o1 o2 L i) (o2 + i))))
theorem swL_len (c : Bool) (o1 o2 : Nat) (L : List (BitVec 64)) : ∀ i, (swL c o1 o2 L i).length = L.length
  | 0 => rfl
  | i + 1 => by rw [swL, List.length_set, List.length_set, swL_len c o1 o2 L i]
theorem swL_succ {c : Bool} {o1 o2 : Nat} {L : List (BitVec 64)} {i : Nat} {l m1 : List (BitVec 64)} {m : BitVec 64} (hl : l = swL c o1 o2 L i) (hm : m = msk c &&& (g64 l (o1 + i) ^^^ g64 l (o2 + i))) (h1 : m1 = l.set (o1 + i) (g64 l (o1 + i) ^^^ m)) :
    m1.set (o2 + i) (g64 m1 (o2 + i) ^^^ m) = swL c o1 o2 L (i + 1) := by subst h1; subst hm; subst hl; rfl
attribute [local irreducible] swL msk bv
set_option maxRecDepth 100000 in
set_option maxHeartbeats 2000000 in
theorem swap_any (w : World) (b : Nat) (c : Bool) (o1 o2 : Nat) (L : List (BitVec 64)) (h1 : o1 + 4 ≤ L.length) (h2 : o2 + 4 ≤ L.length) (M : Mm (fun g => g = b) w [(b, cs U64 L)] w) :
    Calls Try.prog 62 #[U8 (bv c), .pointer (some ⟨b, o1, none⟩), .pointer (some ⟨b, o2, none⟩)] w fun e w' => e = .returned (.tuple #[]) ∧ Mm (fun g => g = b) w [(b, cs U64 (swL c o1 o2 L 4))] w' := by
  have hS0 := hid (show swL c o1 o2 L 0 = L by rw [swL])
  go_enter Try.func62, Try.ntmps62
  go_wp2_with fail
  rw [show -(BitVec.setWidth 64 (bv c)) = msk c by unfold msk; rfl]
  go_loopw [12] (fun t wr => ∃ i : Nat, i ≤ 4 ∧ t = .int .i64 i ∧ Mm (fun g => g = b) w [(b, cs U64 (swL c o1 o2 L i))] wr) (fun t _ => 4 - (intOf t).toNat)
  case atStart => exact ⟨0, by omega, rfl, by rw [hS0.out]; exact M⟩
  case round =>
    clear M
    obtain ⟨i, hi, rfl, M⟩ := hrel
    by_cases hlt : i < 4
    · have hlen := swL_len c o1 o2 L i
      obtain ⟨l, hl⟩ : ∃ l, l = swL c o1 o2 L i := ⟨_, rfl⟩
      rw [← hl] at M hlen
      have HL := hid hl
      clear hl
      go_upto_region 4 with fail
      refine wp_region_seq 14 [15, 16, 17, 18, 19, 20, 21, 22, 23, 24, 25, 26, 27, 8] [] [] [] (.done) (Mm (fun g => g = b) w _) (by kernel_rfl) (by kernel_rfl) (by kernel_rfl) (fun d _ _ _ _ h => by cases d <;> exact h) (by rfl) M.size (fun _ _ h k => h.sf k) M ?_
      simp only [List.take_succ_cons, List.take_zero]
      refine SeqA.pure (U64 (msk c)) (fun w' => by go_simp) rfl rfl ?_
      refine SeqA.pure (.pointer (some ⟨b, o1, none⟩)) (fun w' => by go_simp) rfl rfl ?_
      refine SeqA.pure (.int .i64 i) (fun w' => by go_simp) rfl rfl ?_
      refine SeqA.pure (.pointer (some ⟨b, o1, none⟩)) (fun w' => by go_simp) rfl rfl ?_
      refine SeqA.pure (.pointer (some ⟨b, o1 + i, none⟩)) (fun w' => by go_simp) rfl rfl ?_
      simp only [Act.put, List.setIfInBounds_toArray, List.set_cons_succ, List.set_cons_zero]
      refine SeqA.read (U64 (g64 l (o1 + i))) (fun w' M => by have c0 := cell_g64 (M.row (b := b) (c := cs U64 l) (by simp)) (i := o1 + i) (by omega); go_simp) rfl rfl ?_
      refine SeqA.pure (.pointer (some ⟨b, o2, none⟩)) (fun w' => by go_simp) rfl rfl ?_
      refine SeqA.pure (.int .i64 i) (fun w' => by go_simp) rfl rfl ?_
      refine SeqA.pure (.pointer (some ⟨b, o2, none⟩)) (fun w' => by go_simp) rfl rfl ?_
      refine SeqA.pure (.pointer (some ⟨b, o2 + i, none⟩)) (fun w' => by go_simp) rfl rfl ?_
      refine SeqA.read (U64 (g64 l (o2 + i))) (fun w' M => by have c0 := cell_g64 (M.row (b := b) (c := cs U64 l) (by simp)) (i := o2 + i) (by omega); go_simp) rfl rfl ?_
      simp only [Act.put, List.setIfInBounds_toArray, List.set_cons_succ, List.set_cons_zero]
      refine SeqA.pure (U64 (g64 l (o1 + i) ^^^ g64 l (o2 + i))) (fun w' => by go_simp) rfl rfl ?_
      refine SeqA.pure (U64 (msk c &&& (g64 l (o1 + i) ^^^ g64 l (o2 + i)))) (fun w' => by go_simp) rfl rfl ?_
      refine SeqA.pure (U64 (msk c &&& (g64 l (o1 + i) ^^^ g64 l (o2 + i)))) (fun w' => by go_simp) rfl rfl ?_
      refine SeqA.nil (fun w1 M2 hz => ?_)
      show wpT _ _ _ _ _ _
      simp only [Act.put, List.setIfInBounds_toArray, List.set_cons_succ, List.set_cons_zero]
      dsimp only [wpT]
      go_upto_region 5 with fail
      obtain ⟨m, hm⟩ : ∃ m, m = msk c &&& (g64 l (o1 + i) ^^^ g64 l (o2 + i)) := ⟨_, rfl⟩
      rw [← hm]
      have HM := hid hm
      clear hm M
      have M := M2
      clear M2
      refine wp_region_seq 9 [28, 29, 30, 31, 32, 33, 34, 35, 36] [] [] [] (.op 9 .done) (Mm (fun g => g = b) w _) (by kernel_rfl) (by kernel_rfl) (by kernel_rfl) (fun d _ _ _ _ h => by cases d <;> exact h) (by rfl) M.size (fun _ _ h k => h.sf k) M ?_
      simp only [List.take_succ_cons, List.take_zero]
      refine SeqA.pure (.pointer (some ⟨b, o1, none⟩)) (fun w' => by go_simp) rfl rfl ?_
      refine SeqA.pure (.int .i64 i) (fun w' => by go_simp) rfl rfl ?_
      refine SeqA.pure (.pointer (some ⟨b, o1, none⟩)) (fun w' => by go_simp) rfl rfl ?_
      refine SeqA.pure (.pointer (some ⟨b, o1 + i, none⟩)) (fun w' => by go_simp) rfl rfl ?_
      refine SeqA.read (U64 (g64 l (o1 + i))) (fun w' M => by have c0 := cell_g64 (M.row (b := b) (c := cs U64 l) (by simp)) (i := o1 + i) (by omega); go_simp) rfl rfl ?_
      simp only [Act.put, List.setIfInBounds_toArray, List.set_cons_succ, List.set_cons_zero]
      refine SeqA.pure (U64 m) (fun w' => by go_simp) rfl rfl ?_
      refine SeqA.pure (U64 (g64 l (o1 + i) ^^^ m)) (fun w' => by go_simp) rfl rfl ?_
      refine SeqA.pure (.pointer (some ⟨b, o1, none⟩)) (fun w' => by go_simp) rfl rfl ?_
      refine SeqA.pure (.pointer (some ⟨b, o1 + i, none⟩)) (fun w' => by go_simp) rfl rfl ?_
      refine SeqA.nil (fun w1 M2 hz => ?_)
      show wpT _ _ _ _ _ _
      simp only [Act.put, List.setIfInBounds_toArray, List.set_cons_succ, List.set_cons_zero]
      refine wpT_stc M2 0 (U64 (g64 l (o1 + i) ^^^ m)) (cs U64 (l.set (o1 + i) (g64 l (o1 + i) ^^^ m))) inf_u64 rfl rfl rfl rfl (by go_simp) (by go_simp) (by have := (by omega : o1 + i < l.length); first | (simp; done) | (simpa using this) | (simp; omega)) (by simp [go_sem]) (cs_set _ _) rfl (fun w3 M4 => ?_)
      dsimp only [List.set] at M4
      dsimp only [wpT]
      go_upto_region 6 with fail
      obtain ⟨m1, hm1⟩ : ∃ m1, m1 = l.set (o1 + i) (g64 l (o1 + i) ^^^ m) := ⟨_, rfl⟩
      have hlen1 : m1.length = L.length := by rw [hm1, List.length_set, hlen]
      have HM1 := hid hm1
      have M5 : Mm (fun g => g = b) w [(b, cs U64 m1)] w3 := by rw [hm1]; exact M4
      clear hm1
      refine wp_region_seq 9 [37, 38, 39, 40, 41, 42, 43, 44, 45] [] [] [] (.op 9 .done) (Mm (fun g => g = b) w _) (by kernel_rfl) (by kernel_rfl) (by kernel_rfl) (fun d _ _ _ _ h => by cases d <;> exact h) (by rfl) M5.size (fun _ _ h k => h.sf k) M5 ?_
      simp only [List.take_succ_cons, List.take_zero]
      refine SeqA.pure (.pointer (some ⟨b, o2, none⟩)) (fun w' => by go_simp) rfl rfl ?_
      refine SeqA.pure (.int .i64 i) (fun w' => by go_simp) rfl rfl ?_
      refine SeqA.pure (.pointer (some ⟨b, o2, none⟩)) (fun w' => by go_simp) rfl rfl ?_
      refine SeqA.pure (.pointer (some ⟨b, o2 + i, none⟩)) (fun w' => by go_simp) rfl rfl ?_
      refine SeqA.read (U64 (g64 m1 (o2 + i))) (fun w' M => by have c0 := cell_g64 (M.row (b := b) (c := cs U64 m1) (by simp)) (i := o2 + i) (by omega); go_simp) rfl rfl ?_
      simp only [Act.put, List.setIfInBounds_toArray, List.set_cons_succ, List.set_cons_zero]
      refine SeqA.pure (U64 m) (fun w' => by go_simp) rfl rfl ?_
      refine SeqA.pure (U64 (g64 m1 (o2 + i) ^^^ m)) (fun w' => by go_simp) rfl rfl ?_
      refine SeqA.pure (.pointer (some ⟨b, o2, none⟩)) (fun w' => by go_simp) rfl rfl ?_
      refine SeqA.pure (.pointer (some ⟨b, o2 + i, none⟩)) (fun w' => by go_simp) rfl rfl ?_
      refine SeqA.nil (fun w1 M2 hz => ?_)
      show wpT _ _ _ _ _ _
      simp only [Act.put, List.setIfInBounds_toArray, List.set_cons_succ, List.set_cons_zero]
      refine wpT_stc M2 0 (U64 (g64 m1 (o2 + i) ^^^ m)) (cs U64 (m1.set (o2 + i) (g64 m1 (o2 + i) ^^^ m))) inf_u64 rfl rfl rfl rfl (by go_simp) (by go_simp) (by have := (by omega : o2 + i < m1.length); first | (simp; done) | (simpa using this) | (simp; omega)) (by simp [go_sem]) (cs_set _ _) rfl (fun w3 M4 => ?_)
      dsimp only [List.set] at M4
      dsimp only [wpT]
      go_wp2_with fail
      go_roundw
      case rel => exact ⟨i + 1, by omega, by go_num, by rw [← swL_succ HL.out HM.out HM1.out]; exact M4⟩
      case measure => simp [intOf]; omega
    · have : i = 4 := by omega
      subst this
      go_wp2_with fail
      go_end0
      exact ⟨rfl, M⟩
theorem inf_pair : (Try.prog.info? 66).map (·.size) = some 64 := by kernel_rfl
section
variable (ρ : Operand → Value) (dst : Option Tmp) (ty : TypeId) (pos : String) (after : Array Edge) (guard : Option (Nat × Bool)) (w : World)
@[go_sem ↓] theorem rl_pair (x : Operand) : (execOp ρ { dst, op := .load 66 x, type := ty, pos, after, guard }).run Try.prog w = exLoad Try.prog 66 (ρ x) w := x_load ..
@[go_sem ↓] theorem rs_pair (x y : Operand) : (execOp ρ { dst, op := .store 66 x y, type := ty, pos, after, guard }).run Try.prog w = exStore Try.prog 66 (ρ x) (ρ y) w := x_store ..
@[go_sem ↓] theorem ra_pair : (execOp ρ { dst, op := .alloc 66, type := ty, pos, after, guard }).run Try.prog w = .ok (.value (.pointer (some ⟨w.heap.size, 0, none⟩))) (w.alloc (.cells (cs U8 (zs 32 ++ zs 32)) 66)) :=
  (x_alloc ..).trans (x_alloc0 (v := .agg (cs U8 (zs 32 ++ zs 32))) _ (by kernel_rfl))
@[go_sem] theorem xl_pair (b : Nat) (h : (w.rowOf b).size = 64) : exLoad Try.prog 66 (.pointer (some ⟨b, 0, none⟩)) w = .ok (.value (.agg (w.rowOf b))) w := x_load0 _ Try.underlying66 rfl inf_pair b h
@[go_sem] theorem xlm_pair (b o : Nat) (ho : 0 < o) (h : o + 64 ≤ (w.rowOf b).size) : exLoad Try.prog 66 (.pointer (some ⟨b, o, none⟩)) w = .ok (.value (.agg ((w.rowOf b).extract o (o + 64)))) w := x_loadm _ Try.underlying66 rfl inf_pair b o h
@[go_sem] theorem xs_pair (b : Nat) (c : Array Value) (hl : c.size = 64) (h1 : ones c = true) (h : (w.rowOf b).size = 64) (hf : w.free b = true) : exStore Try.prog 66 (.pointer (some ⟨b, 0, none⟩)) (.agg c) w = .ok .skip (w.setRow b c) :=
  x_store0 _ inf_pair b c hl h hf (ones_all h1)
@[go_sem] theorem xsm_pair (b o : Nat) (ho : 0 < o) (c : Array Value) (hl : c.size = 64) (h1 : ones c = true) (h : o + 64 ≤ (w.rowOf b).size) (hf : w.free b = true) : exStore Try.prog 66 (.pointer (some ⟨b, o, none⟩)) (.agg c) w = .ok .skip (w.setSeg b o c) :=
  x_storem _ inf_pair b o c hl h hf (ones_all h1)
end
/-- at a step: a store, and a variable made -/
theorem wps_pair {a : Act} {w : World} {K : Act → World → Prop} {Q : Exit → Act → World → Prop} {o : Oper} (p x : Operand) (ho : o.op = .store 66 p x) (b : Nat) (c : Array Value) (hp : a.eval p = .pointer (some ⟨b, 0, none⟩)) (hx : a.eval x = .agg c)
    (hl : c.size = 64) (h1 : ones c = true) (h : (w.rowOf b).size = 64) (hf : w.free b = true) (hK : K (a.put o.dst undef) (w.setRow b c)) : o.wp Try.prog a w K Q := by
  obtain ⟨dst, op, ty, pos, after, guard⟩ := o
  subst ho
  unfold Oper.wp
  rw [rs_pair, hp, hx, xs_pair _ _ _ hl h1 h hf]
  simp only [Oper.upon]
  exact hK
theorem wpa_pair {a : Act} {w : World} {K : Act → World → Prop} {Q : Exit → Act → World → Prop} {o : Oper} (ho : o.op = .alloc 66)
    (hK : K (a.put o.dst (.pointer (some ⟨w.heap.size, 0, none⟩))) (w.alloc (.cells (cs U8 (zs 32 ++ zs 32)) 66))) : o.wp Try.prog a w K Q := by
  obtain ⟨dst, op, ty, pos, after, guard⟩ := o
  subst ho
  unfold Oper.wp
  rw [ra_pair]
  simp only [Oper.upon]
  exact hK

theorem bp_pair (l : List (Nat × Value)) : Try.prog.built 66 l = Instr.fill (([(0, 32), (32, 32)] : List (Nat × Nat)).toArray[·]?) (((Try.prog.info? 66).bind (·.zero)).getD undef).cells l := by kernel_rfl
theorem bz_pair : (((Try.prog.info? 66).bind (·.zero)).getD undef).cells.size = 64 := by kernel_rfl
@[go_sem ↓] theorem rb_pair (ρ : Operand → Value) (dst : Option Tmp) (ty : TypeId) (pos : String) (after : Array Edge) (guard : Option (Nat × Bool)) (w : World) (ps : Array (Nat × Operand)) :
    (execOp ρ { dst, op := .build 66 ps, type := ty, pos, after, guard }).run Try.prog w = exBuild Try.prog 66 (ps.map fun p => (p.1, ρ p.2)) w := x_build ..
theorem xb_pair (w : World) (ps : Array (Nat × Value)) (hc : Cont (([(0, 32), (32, 32)] : List (Nat × Nat)).toArray[·]?) 0 ps.toList) (hz : (catP ps.toList).size = 64) :
    exBuild Try.prog 66 ps w = .ok (.value (.agg (catP ps.toList))) w := by
  unfold exBuild; rw [run_build_cat w 66 ps _ _ bp_pair hc (by rw [bz_pair]; exact hz)]; rfl

theorem xb_pair2 (w : World) (x z : List (BitVec 8)) (hx : x.length = 32) (hz : z.length = 32) : exBuild Try.prog 66 #[(0, .agg (cs U8 x)), (1, .agg (cs U8 z))] w = .ok (.value (.agg (cs U8 (x ++ z)))) w := by
  rw [xb_pair w _ (by simp [Cont, Value.cells, hx, hz]) (by simp [catP, Value.cells, hx, hz])]
  simp [catP, Value.cells, cs_append]
set_option maxRecDepth 100000 in
set_option maxHeartbeats 2000000 in
theorem sum_any (w : World) (x v y t u : List (BitVec 8)) (hx : x.length = 32) (hv : v.length = 32) (hy : y.length = 32) (ht : t.length = 32) (hu : u.length = 32) :
    Calls Try.prog 64 #[.agg (cs U8 (x ++ v)), .agg (cs U8 (y ++ t)), .agg (cs U8 u)] w fun e w' => e = .returned (.agg (cs U8 (K (smX (Fk x) (Fk v) (Fk y) (Fk t)) ++ K (smZ (Fk u) (Fk x) (Fk v) (Fk y) (Fk t))))) ∧ Below w.heap.size w w' := by
  have M0 := Mm.start no w
  go_enter Try.func64, Try.ntmps64
  have M2 := ((((M0.alloc (cs U8 (x ++ v)) 66 (by decide)).alloc (cs U8 (y ++ t)) 66 (by decide)).alloc (cs U8 u) 23 (by decide)).alloc (cs U8 (zs 32 ++ zs 32)) 66 (by decide))
  try simp only [World.size_alloc] at M2
  go_upto_region 1 with fail
  obtain ⟨w1, hw1⟩ : ∃ w1, w1 = ((((w.alloc (.cells (cs U8 (x ++ v)) 66)).alloc (.cells (cs U8 (y ++ t)) 66)).alloc (.cells (cs U8 u) 23)).alloc (.cells (cs U8 (zs 32 ++ zs 32)) 66)) := ⟨_, rfl⟩
  rw [← hw1] at M2 ⊢
  clear hw1
  refine wp_region_seq 12 [15, 16, 17, 18, 19, 20, 21, 22, 23, 24, 7, 8] [] [] [] (.op 12 (.op 13 .done)) (Mm no w _) (by kernel_rfl) (by kernel_rfl) (by kernel_rfl) (fun d _ _ _ _ h => by cases d <;> exact h) (by rfl) M2.size (fun _ _ h k => h.sf k) M2 ?_
  simp only [List.take_succ_cons, List.take_zero]
  refine SeqA.pure (.pointer (some ⟨w.heap.size, 0, none⟩)) (fun w' => by go_simp) rfl rfl ?_
  refine SeqA.ldm Try.underlying23 rfl inf_key (w.heap.size) 0 (cs U8 (x ++ v)) (cs U8 x) rfl (by go_simp) (fun _ M => M.row (by simp)) (by simp [hx, hv, hy, ht, hu]) (by rw [cs_extract] <;> congr 1 <;> first | (simp [hx, hv, hy, ht, hu]; done) | simp [List.take_append, List.drop_append, List.take_of_length_le, hx, hv, hy, ht, hu]) rfl ?_
  refine SeqA.pure (.pointer (some ⟨w.heap.size, 32, none⟩)) (fun w' => by go_simp) rfl rfl ?_
  refine SeqA.ldm Try.underlying23 rfl inf_key (w.heap.size) 32 (cs U8 (x ++ v)) (cs U8 v) rfl (by go_simp) (fun _ M => M.row (by simp)) (by simp [hx, hv, hy, ht, hu]) (by rw [cs_extract] <;> congr 1 <;> first | (simp [hx, hv, hy, ht, hu]; done) | simp [List.take_append, List.drop_append, List.take_of_length_le, hx, hv, hy, ht, hu]) rfl ?_
  refine SeqA.call _ _ _ (fun w' => by go_simp) (fun w' hI _ => radd_c w' x v (by simp [hx, hv, hy, ht, hu]) (by simp [hx, hv, hy, ht, hu]) (Fk x) (Fk v) (rfl) (rfl)) M2.size rfl rfl ?_
  simp only [Act.put, List.setIfInBounds_toArray, List.set_cons_succ, List.set_cons_zero]
  refine SeqA.pure (.pointer (some ⟨w.heap.size, 0, none⟩)) (fun w' => by go_simp) rfl rfl ?_
  refine SeqA.ldm Try.underlying23 rfl inf_key (w.heap.size) 0 (cs U8 (x ++ v)) (cs U8 x) rfl (by go_simp) (fun _ M => M.row (by simp)) (by simp [hx, hv, hy, ht, hu]) (by rw [cs_extract] <;> congr 1 <;> first | (simp [hx, hv, hy, ht, hu]; done) | simp [List.take_append, List.drop_append, List.take_of_length_le, hx, hv, hy, ht, hu]) rfl ?_
  refine SeqA.pure (.pointer (some ⟨w.heap.size, 32, none⟩)) (fun w' => by go_simp) rfl rfl ?_
  refine SeqA.ldm Try.underlying23 rfl inf_key (w.heap.size) 32 (cs U8 (x ++ v)) (cs U8 v) rfl (by go_simp) (fun _ M => M.row (by simp)) (by simp [hx, hv, hy, ht, hu]) (by rw [cs_extract] <;> congr 1 <;> first | (simp [hx, hv, hy, ht, hu]; done) | simp [List.take_append, List.drop_append, List.take_of_length_le, hx, hv, hy, ht, hu]) rfl ?_
  refine SeqA.call _ _ _ (fun w' => by go_simp) (fun w' hI _ => rsub_c w' x v (by simp [hx, hv, hy, ht, hu]) (by simp [hx, hv, hy, ht, hu]) (Fk x) (Fk v) (rfl) (rfl)) M2.size rfl rfl ?_
  refine SeqA.var (z := .agg (cs U8 (zs 32))) (by kernel_rfl) rfl rfl (by decide) rfl ?_
  simp only [Act.put, List.setIfInBounds_toArray, List.set_cons_succ, List.set_cons_zero]
  refine SeqA.var (z := .agg (cs U8 (zs 32))) (by kernel_rfl) rfl rfl (by decide) rfl ?_
  refine SeqA.nil (fun w3 M4 hz => ?_)
  refine news_one (fun b5 hb1 hb2 hb3 => ?_)
  have M6 := M2.in_ (c := cs U8 (zs 32)) M4 hb1 hb2 (by decide) hb3 rfl
  refine news_one (fun b7 hb1 hb2 hb3 => ?_)
  have M8 := M2.in_ (c := cs U8 (zs 32)) M6 hb1 hb2 (by decide) hb3 rfl
  show wpT _ _ _ _ _ _
  simp only [Act.put, List.setIfInBounds_toArray, List.set_cons_succ, List.set_cons_zero]
  refine wpT_st0 M8 0 (cs U8 (K ((Fk x) + (Fk v)))) inf_key rfl rfl rfl rfl (by go_simp) (by go_simp) (by simp [hx, hv, hy, ht, hu]) (by simp [hx, hv, hy, ht, hu]) (by simp [go_sem]) rfl (fun w9 M10 => ?_)
  dsimp only [List.set] at M10
  refine wpT_st0 M10 1 (cs U8 (K ((Fk x) - (Fk v)))) inf_key rfl rfl rfl rfl (by go_simp) (by go_simp) (by simp [hx, hv, hy, ht, hu]) (by simp [hx, hv, hy, ht, hu]) (by simp [go_sem]) rfl (fun w11 M12 => ?_)
  dsimp only [List.set] at M12
  dsimp only [wpT]
  go_upto_region 2 with fail
  refine wp_region_seq 12 [25, 26, 27, 28, 29, 30, 31, 32, 33, 34, 9, 10] [] [] [] (.op 12 (.op 13 .done)) (Mm no w _) (by kernel_rfl) (by kernel_rfl) (by kernel_rfl) (fun d _ _ _ _ h => by cases d <;> exact h) (by rfl) M12.size (fun _ _ h k => h.sf k) M12 ?_
  simp only [List.take_succ_cons, List.take_zero]
  refine SeqA.pure (.pointer (some ⟨w.heap.size + 1, 0, none⟩)) (fun w' => by go_simp) rfl rfl ?_
  refine SeqA.ldm Try.underlying23 rfl inf_key (w.heap.size + 1) 0 (cs U8 (y ++ t)) (cs U8 y) rfl (by go_simp) (fun _ M => M.row (by simp)) (by simp [hx, hv, hy, ht, hu]) (by rw [cs_extract] <;> congr 1 <;> first | (simp [hx, hv, hy, ht, hu]; done) | simp [List.take_append, List.drop_append, List.take_of_length_le, hx, hv, hy, ht, hu]) rfl ?_
  refine SeqA.pure (.pointer (some ⟨w.heap.size + 1, 32, none⟩)) (fun w' => by go_simp) rfl rfl ?_
  refine SeqA.ldm Try.underlying23 rfl inf_key (w.heap.size + 1) 32 (cs U8 (y ++ t)) (cs U8 t) rfl (by go_simp) (fun _ M => M.row (by simp)) (by simp [hx, hv, hy, ht, hu]) (by rw [cs_extract] <;> congr 1 <;> first | (simp [hx, hv, hy, ht, hu]; done) | simp [List.take_append, List.drop_append, List.take_of_length_le, hx, hv, hy, ht, hu]) rfl ?_
  refine SeqA.call _ _ _ (fun w' => by go_simp) (fun w' hI _ => radd_c w' y t (by simp [hx, hv, hy, ht, hu]) (by simp [hx, hv, hy, ht, hu]) (Fk y) (Fk t) (rfl) (rfl)) M12.size rfl rfl ?_
  simp only [Act.put, List.setIfInBounds_toArray, List.set_cons_succ, List.set_cons_zero]
  refine SeqA.pure (.pointer (some ⟨w.heap.size + 1, 0, none⟩)) (fun w' => by go_simp) rfl rfl ?_
  refine SeqA.ldm Try.underlying23 rfl inf_key (w.heap.size + 1) 0 (cs U8 (y ++ t)) (cs U8 y) rfl (by go_simp) (fun _ M => M.row (by simp)) (by simp [hx, hv, hy, ht, hu]) (by rw [cs_extract] <;> congr 1 <;> first | (simp [hx, hv, hy, ht, hu]; done) | simp [List.take_append, List.drop_append, List.take_of_length_le, hx, hv, hy, ht, hu]) rfl ?_
  refine SeqA.pure (.pointer (some ⟨w.heap.size + 1, 32, none⟩)) (fun w' => by go_simp) rfl rfl ?_
  refine SeqA.ldm Try.underlying23 rfl inf_key (w.heap.size + 1) 32 (cs U8 (y ++ t)) (cs U8 t) rfl (by go_simp) (fun _ M => M.row (by simp)) (by simp [hx, hv, hy, ht, hu]) (by rw [cs_extract] <;> congr 1 <;> first | (simp [hx, hv, hy, ht, hu]; done) | simp [List.take_append, List.drop_append, List.take_of_length_le, hx, hv, hy, ht, hu]) rfl ?_
  refine SeqA.call _ _ _ (fun w' => by go_simp) (fun w' hI _ => rsub_c w' y t (by simp [hx, hv, hy, ht, hu]) (by simp [hx, hv, hy, ht, hu]) (Fk y) (Fk t) (rfl) (rfl)) M12.size rfl rfl ?_
  refine SeqA.var (z := .agg (cs U8 (zs 32))) (by kernel_rfl) rfl rfl (by decide) rfl ?_
  simp only [Act.put, List.setIfInBounds_toArray, List.set_cons_succ, List.set_cons_zero]
  refine SeqA.var (z := .agg (cs U8 (zs 32))) (by kernel_rfl) rfl rfl (by decide) rfl ?_
  refine SeqA.nil (fun w13 M14 hz => ?_)
  refine news_one (fun b15 hb1 hb2 hb3 => ?_)
  have M16 := M12.in_ (c := cs U8 (zs 32)) M14 hb1 hb2 (by decide) hb3 rfl
  refine news_one (fun b17 hb1 hb2 hb3 => ?_)
  have M18 := M12.in_ (c := cs U8 (zs 32)) M16 hb1 hb2 (by decide) hb3 rfl
  show wpT _ _ _ _ _ _
  simp only [Act.put, List.setIfInBounds_toArray, List.set_cons_succ, List.set_cons_zero]
  refine wpT_st0 M18 0 (cs U8 (K ((Fk y) + (Fk t)))) inf_key rfl rfl rfl rfl (by go_simp) (by go_simp) (by simp [hx, hv, hy, ht, hu]) (by simp [hx, hv, hy, ht, hu]) (by simp [go_sem]) rfl (fun w19 M20 => ?_)
  dsimp only [List.set] at M20
  refine wpT_st0 M20 1 (cs U8 (K ((Fk y) - (Fk t)))) inf_key rfl rfl rfl rfl (by go_simp) (by go_simp) (by simp [hx, hv, hy, ht, hu]) (by simp [hx, hv, hy, ht, hu]) (by simp [go_sem]) rfl (fun w21 M22 => ?_)
  dsimp only [List.set] at M22
  dsimp only [wpT]
  go_upto_region 3 with fail
  refine wp_region_seq 8 [35, 36, 37, 38, 39, 40, 11, 12] [] [] [] (.op 8 (.op 9 .done)) (Mm no w _) (by kernel_rfl) (by kernel_rfl) (by kernel_rfl) (fun d _ _ _ _ h => by cases d <;> exact h) (by rfl) M22.size (fun _ _ h k => h.sf k) M22 ?_
  simp only [List.take_succ_cons, List.take_zero]
  refine SeqA.ld0 Try.underlying23 rfl inf_key (b15) (cs U8 (K ((Fk y) - (Fk t)))) rfl (by go_simp) (fun _ M => M.row (by simp)) (by simp [hx, hv, hy, ht, hu]) rfl ?_
  refine SeqA.ld0 Try.underlying23 rfl inf_key (b7) (cs U8 (K ((Fk x) + (Fk v)))) rfl (by go_simp) (fun _ M => M.row (by simp)) (by simp [hx, hv, hy, ht, hu]) rfl ?_
  refine SeqA.call _ _ _ (fun w' => by go_simp) (fun w' hI _ => rmul_c w' (K ((Fk y) - (Fk t))) (K ((Fk x) + (Fk v))) (by simp [hx, hv, hy, ht, hu]) (by simp [hx, hv, hy, ht, hu]) ((Fk y) - (Fk t)) ((Fk x) + (Fk v)) (Fk_K _) (Fk_K _)) M22.size rfl rfl ?_
  refine SeqA.ld0 Try.underlying23 rfl inf_key (b17) (cs U8 (K ((Fk y) + (Fk t)))) rfl (by go_simp) (fun _ M => M.row (by simp)) (by simp [hx, hv, hy, ht, hu]) rfl ?_
  refine SeqA.ld0 Try.underlying23 rfl inf_key (b5) (cs U8 (K ((Fk x) - (Fk v)))) rfl (by go_simp) (fun _ M => M.row (by simp)) (by simp [hx, hv, hy, ht, hu]) rfl ?_
  simp only [Act.put, List.setIfInBounds_toArray, List.set_cons_succ, List.set_cons_zero]
  refine SeqA.call _ _ _ (fun w' => by go_simp) (fun w' hI _ => rmul_c w' (K ((Fk y) + (Fk t))) (K ((Fk x) - (Fk v))) (by simp [hx, hv, hy, ht, hu]) (by simp [hx, hv, hy, ht, hu]) ((Fk y) + (Fk t)) ((Fk x) - (Fk v)) (Fk_K _) (Fk_K _)) M22.size rfl rfl ?_
  refine SeqA.var (z := .agg (cs U8 (zs 32))) (by kernel_rfl) rfl rfl (by decide) rfl ?_
  refine SeqA.var (z := .agg (cs U8 (zs 32))) (by kernel_rfl) rfl rfl (by decide) rfl ?_
  refine SeqA.nil (fun w23 M24 hz => ?_)
  refine news_one (fun b25 hb1 hb2 hb3 => ?_)
  have M26 := M22.in_ (c := cs U8 (zs 32)) M24 hb1 hb2 (by decide) hb3 rfl
  refine news_one (fun b27 hb1 hb2 hb3 => ?_)
  have M28 := M22.in_ (c := cs U8 (zs 32)) M26 hb1 hb2 (by decide) hb3 rfl
  show wpT _ _ _ _ _ _
  simp only [Act.put, List.setIfInBounds_toArray, List.set_cons_succ, List.set_cons_zero]
  refine wpT_st0 M28 0 (cs U8 (K (((Fk y) - (Fk t)) * ((Fk x) + (Fk v))))) inf_key rfl rfl rfl rfl (by go_simp) (by go_simp) (by simp [hx, hv, hy, ht, hu]) (by simp [hx, hv, hy, ht, hu]) (by simp [go_sem]) rfl (fun w29 M30 => ?_)
  dsimp only [List.set] at M30
  refine wpT_st0 M30 1 (cs U8 (K (((Fk y) + (Fk t)) * ((Fk x) - (Fk v))))) inf_key rfl rfl rfl rfl (by go_simp) (by go_simp) (by simp [hx, hv, hy, ht, hu]) (by simp [hx, hv, hy, ht, hu]) (by simp [go_sem]) rfl (fun w31 M32 => ?_)
  dsimp only [List.set] at M32
  dsimp only [wpT]
  go_upto_region 4 with fail
  refine wp_region_seq 8 [41, 42, 43, 44, 45, 46, 13, 14] [] [] [] (.op 8 (.op 9 .done)) (Mm no w _) (by kernel_rfl) (by kernel_rfl) (by kernel_rfl) (fun d _ _ _ _ h => by cases d <;> exact h) (by rfl) M32.size (fun _ _ h k => h.sf k) M32 ?_
  simp only [List.take_succ_cons, List.take_zero]
  refine SeqA.ld0 Try.underlying23 rfl inf_key (b27) (cs U8 (K (((Fk y) - (Fk t)) * ((Fk x) + (Fk v))))) rfl (by go_simp) (fun _ M => M.row (by simp)) (by simp [hx, hv, hy, ht, hu]) rfl ?_
  refine SeqA.ld0 Try.underlying23 rfl inf_key (b25) (cs U8 (K (((Fk y) + (Fk t)) * ((Fk x) - (Fk v))))) rfl (by go_simp) (fun _ M => M.row (by simp)) (by simp [hx, hv, hy, ht, hu]) rfl ?_
  refine SeqA.call _ _ _ (fun w' => by go_simp) (fun w' hI _ => radd_c w' (K (((Fk y) - (Fk t)) * ((Fk x) + (Fk v)))) (K (((Fk y) + (Fk t)) * ((Fk x) - (Fk v)))) (by simp [hx, hv, hy, ht, hu]) (by simp [hx, hv, hy, ht, hu]) (((Fk y) - (Fk t)) * ((Fk x) + (Fk v))) (((Fk y) + (Fk t)) * ((Fk x) - (Fk v))) (Fk_K _) (Fk_K _)) M32.size rfl rfl ?_
  refine SeqA.ld0 Try.underlying23 rfl inf_key (b27) (cs U8 (K (((Fk y) - (Fk t)) * ((Fk x) + (Fk v))))) rfl (by go_simp) (fun _ M => M.row (by simp)) (by simp [hx, hv, hy, ht, hu]) rfl ?_
  refine SeqA.ld0 Try.underlying23 rfl inf_key (b25) (cs U8 (K (((Fk y) + (Fk t)) * ((Fk x) - (Fk v))))) rfl (by go_simp) (fun _ M => M.row (by simp)) (by simp [hx, hv, hy, ht, hu]) rfl ?_
  simp only [Act.put, List.setIfInBounds_toArray, List.set_cons_succ, List.set_cons_zero]
  refine SeqA.call _ _ _ (fun w' => by go_simp) (fun w' hI _ => rsub_c w' (K (((Fk y) - (Fk t)) * ((Fk x) + (Fk v)))) (K (((Fk y) + (Fk t)) * ((Fk x) - (Fk v)))) (by simp [hx, hv, hy, ht, hu]) (by simp [hx, hv, hy, ht, hu]) (((Fk y) - (Fk t)) * ((Fk x) + (Fk v))) (((Fk y) + (Fk t)) * ((Fk x) - (Fk v))) (Fk_K _) (Fk_K _)) M32.size rfl rfl ?_
  refine SeqA.var (z := .agg (cs U8 (zs 32))) (by kernel_rfl) rfl rfl (by decide) rfl ?_
  refine SeqA.var (z := .agg (cs U8 (zs 32))) (by kernel_rfl) rfl rfl (by decide) rfl ?_
  refine SeqA.nil (fun w33 M34 hz => ?_)
  refine news_one (fun b35 hb1 hb2 hb3 => ?_)
  have M36 := M32.in_ (c := cs U8 (zs 32)) M34 hb1 hb2 (by decide) hb3 rfl
  refine news_one (fun b37 hb1 hb2 hb3 => ?_)
  have M38 := M32.in_ (c := cs U8 (zs 32)) M36 hb1 hb2 (by decide) hb3 rfl
  show wpT _ _ _ _ _ _
  simp only [Act.put, List.setIfInBounds_toArray, List.set_cons_succ, List.set_cons_zero]
  refine wpT_st0 M38 0 (cs U8 (K ((((Fk y) - (Fk t)) * ((Fk x) + (Fk v))) + (((Fk y) + (Fk t)) * ((Fk x) - (Fk v)))))) inf_key rfl rfl rfl rfl (by go_simp) (by go_simp) (by simp [hx, hv, hy, ht, hu]) (by simp [hx, hv, hy, ht, hu]) (by simp [go_sem]) rfl (fun w39 M40 => ?_)
  dsimp only [List.set] at M40
  refine wpT_st0 M40 1 (cs U8 (K ((((Fk y) - (Fk t)) * ((Fk x) + (Fk v))) - (((Fk y) + (Fk t)) * ((Fk x) - (Fk v)))))) inf_key rfl rfl rfl rfl (by go_simp) (by go_simp) (by simp [hx, hv, hy, ht, hu]) (by simp [hx, hv, hy, ht, hu]) (by simp [go_sem]) rfl (fun w41 M42 => ?_)
  dsimp only [List.set] at M42
  dsimp only [wpT]
  go_upto_region 5 with fail
  refine wp_region_seq 9 [47, 48, 49, 50, 51, 52, 53, 54, 55] [] [] [] (.op 9 .done) (Mm no w _) (by kernel_rfl) (by kernel_rfl) (by kernel_rfl) (fun d _ _ _ _ h => by cases d <;> exact h) (by rfl) M42.size (fun _ _ h k => h.sf k) M42 ?_
  simp only [List.take_succ_cons, List.take_zero]
  refine SeqA.ld0 Try.underlying23 rfl inf_key (b37) (cs U8 (K ((((Fk y) - (Fk t)) * ((Fk x) + (Fk v))) + (((Fk y) + (Fk t)) * ((Fk x) - (Fk v)))))) rfl (by go_simp) (fun _ M => M.row (by simp)) (by simp [hx, hv, hy, ht, hu]) rfl ?_
  refine SeqA.ld0 Try.underlying23 rfl inf_key (b37) (cs U8 (K ((((Fk y) - (Fk t)) * ((Fk x) + (Fk v))) + (((Fk y) + (Fk t)) * ((Fk x) - (Fk v)))))) rfl (by go_simp) (fun _ M => M.row (by simp)) (by simp [hx, hv, hy, ht, hu]) rfl ?_
  refine SeqA.call _ _ _ (fun w' => by go_simp) (fun w' hI _ => rmul_c w' (K ((((Fk y) - (Fk t)) * ((Fk x) + (Fk v))) + (((Fk y) + (Fk t)) * ((Fk x) - (Fk v))))) (K ((((Fk y) - (Fk t)) * ((Fk x) + (Fk v))) + (((Fk y) + (Fk t)) * ((Fk x) - (Fk v))))) (by simp [hx, hv, hy, ht, hu]) (by simp [hx, hv, hy, ht, hu]) ((((Fk y) - (Fk t)) * ((Fk x) + (Fk v))) + (((Fk y) + (Fk t)) * ((Fk x) - (Fk v)))) ((((Fk y) - (Fk t)) * ((Fk x) + (Fk v))) + (((Fk y) + (Fk t)) * ((Fk x) - (Fk v)))) (Fk_K _) (Fk_K _)) M42.size rfl rfl ?_
  refine SeqA.ld0 Try.underlying23 rfl inf_key (w.heap.size + 1 + 1) (cs U8 u) rfl (by go_simp) (fun _ M => M.row (by simp)) (by simp [hx, hv, hy, ht, hu]) rfl ?_
  refine SeqA.ld0 Try.underlying23 rfl inf_key (b35) (cs U8 (K ((((Fk y) - (Fk t)) * ((Fk x) + (Fk v))) - (((Fk y) + (Fk t)) * ((Fk x) - (Fk v)))))) rfl (by go_simp) (fun _ M => M.row (by simp)) (by simp [hx, hv, hy, ht, hu]) rfl ?_
  simp only [Act.put, List.setIfInBounds_toArray, List.set_cons_succ, List.set_cons_zero]
  refine SeqA.ld0 Try.underlying23 rfl inf_key (b35) (cs U8 (K ((((Fk y) - (Fk t)) * ((Fk x) + (Fk v))) - (((Fk y) + (Fk t)) * ((Fk x) - (Fk v)))))) rfl (by go_simp) (fun _ M => M.row (by simp)) (by simp [hx, hv, hy, ht, hu]) rfl ?_
  refine SeqA.call _ _ _ (fun w' => by go_simp) (fun w' hI _ => rmul_c w' (K ((((Fk y) - (Fk t)) * ((Fk x) + (Fk v))) - (((Fk y) + (Fk t)) * ((Fk x) - (Fk v))))) (K ((((Fk y) - (Fk t)) * ((Fk x) + (Fk v))) - (((Fk y) + (Fk t)) * ((Fk x) - (Fk v))))) (by simp [hx, hv, hy, ht, hu]) (by simp [hx, hv, hy, ht, hu]) ((((Fk y) - (Fk t)) * ((Fk x) + (Fk v))) - (((Fk y) + (Fk t)) * ((Fk x) - (Fk v)))) ((((Fk y) - (Fk t)) * ((Fk x) + (Fk v))) - (((Fk y) + (Fk t)) * ((Fk x) - (Fk v)))) (Fk_K _) (Fk_K _)) M42.size rfl rfl ?_
  refine SeqA.call _ _ _ (fun w' => by go_simp) (fun w' hI _ => rmul_c w' u (K (((((Fk y) - (Fk t)) * ((Fk x) + (Fk v))) - (((Fk y) + (Fk t)) * ((Fk x) - (Fk v)))) * ((((Fk y) - (Fk t)) * ((Fk x) + (Fk v))) - (((Fk y) + (Fk t)) * ((Fk x) - (Fk v)))))) (by simp [hx, hv, hy, ht, hu]) (by simp [hx, hv, hy, ht, hu]) (Fk u) (((((Fk y) - (Fk t)) * ((Fk x) + (Fk v))) - (((Fk y) + (Fk t)) * ((Fk x) - (Fk v)))) * ((((Fk y) - (Fk t)) * ((Fk x) + (Fk v))) - (((Fk y) + (Fk t)) * ((Fk x) - (Fk v))))) (rfl) (Fk_K _)) M42.size rfl rfl ?_
  refine SeqA.pure (.agg (cs U8 (K (((((Fk y) - (Fk t)) * ((Fk x) + (Fk v))) + (((Fk y) + (Fk t)) * ((Fk x) - (Fk v)))) * ((((Fk y) - (Fk t)) * ((Fk x) + (Fk v))) + (((Fk y) + (Fk t)) * ((Fk x) - (Fk v))))) ++ K ((Fk u) * (((((Fk y) - (Fk t)) * ((Fk x) + (Fk v))) - (((Fk y) + (Fk t)) * ((Fk x) - (Fk v)))) * ((((Fk y) - (Fk t)) * ((Fk x) + (Fk v))) - (((Fk y) + (Fk t)) * ((Fk x) - (Fk v))))))))) (fun w' => by have q := xb_pair2 w' (K ((((((Fk y) - (Fk t)) * ((Fk x) + (Fk v))) + (((Fk y) + (Fk t)) * ((Fk x) - (Fk v)))) * ((((Fk y) - (Fk t)) * ((Fk x) + (Fk v))) + (((Fk y) + (Fk t)) * ((Fk x) - (Fk v))))))) (K (((Fk u) * (((((Fk y) - (Fk t)) * ((Fk x) + (Fk v))) - (((Fk y) + (Fk t)) * ((Fk x) - (Fk v)))) * ((((Fk y) - (Fk t)) * ((Fk x) + (Fk v))) - (((Fk y) + (Fk t)) * ((Fk x) - (Fk v)))))))) (by simp) (by simp); go_simp) rfl rfl ?_
  refine SeqA.nil (fun w43 M44 hz => ?_)
  show wpT _ _ _ _ _ _
  simp only [Act.put, List.setIfInBounds_toArray, List.set_cons_succ, List.set_cons_zero]
  refine wpT_st0 M44 8 (cs U8 (K (((((Fk y) - (Fk t)) * ((Fk x) + (Fk v))) + (((Fk y) + (Fk t)) * ((Fk x) - (Fk v)))) * ((((Fk y) - (Fk t)) * ((Fk x) + (Fk v))) + (((Fk y) + (Fk t)) * ((Fk x) - (Fk v))))) ++ K ((Fk u) * (((((Fk y) - (Fk t)) * ((Fk x) + (Fk v))) - (((Fk y) + (Fk t)) * ((Fk x) - (Fk v)))) * ((((Fk y) - (Fk t)) * ((Fk x) + (Fk v))) - (((Fk y) + (Fk t)) * ((Fk x) - (Fk v)))))))) inf_pair rfl rfl rfl rfl (by go_simp) (by go_simp) (by simp [hx, hv, hy, ht, hu]) (by simp [hx, hv, hy, ht, hu]) (by simp [go_sem]) rfl (fun w45 M46 => ?_)
  dsimp only [List.set] at M46
  dsimp only [wpT]
  go_wp2_with fail
  have r47 := M46.row (b := w.heap.size + 1 + 1 + 1) (c := cs U8 (K (((((Fk y) - (Fk t)) * ((Fk x) + (Fk v))) + (((Fk y) + (Fk t)) * ((Fk x) - (Fk v)))) * ((((Fk y) - (Fk t)) * ((Fk x) + (Fk v))) + (((Fk y) + (Fk t)) * ((Fk x) - (Fk v))))) ++ K ((Fk u) * (((((Fk y) - (Fk t)) * ((Fk x) + (Fk v))) - (((Fk y) + (Fk t)) * ((Fk x) - (Fk v)))) * ((((Fk y) - (Fk t)) * ((Fk x) + (Fk v))) - (((Fk y) + (Fk t)) * ((Fk x) - (Fk v)))))))) (by simp)
  refine bodyPost_ret (res_row (b := w.heap.size + 1 + 1 + 1) rfl Try.underlying66 rfl inf_pair _ _ rfl (by rw [r47]; simp [hx, hv, hy, ht, hu])) rfl ?_
  rw [r47]
  exact ⟨rfl, M46.end_⟩
def twZu (u x z : F) : F := ((x + z) * (x + z) - (x - z) * (x - z)) * ((x + z) * (x + z) + u * ((x + z) * (x + z) - (x - z) * (x - z)))
set_option maxRecDepth 100000 in
set_option maxHeartbeats 2000000 in
theorem twice_u (w : World) (x v u : List (BitVec 8)) (hx : x.length = 32) (hv : v.length = 32) (hu : u.length = 32) :
    Calls Try.prog 65 #[.agg (cs U8 (x ++ v)), .agg (cs U8 u)] w fun e w' => e = .returned (.agg (cs U8 (K (twX (Fk x) (Fk v)) ++ K (twZu (Fk u) (Fk x) (Fk v))))) ∧ Below w.heap.size w w' := by
  have M0 := Mm.start no w
  go_enter Try.func65, Try.ntmps65
  have M2 := (((M0.alloc (cs U8 (x ++ v)) 66 (by decide)).alloc (cs U8 u) 23 (by decide)).alloc (cs U8 (zs 32 ++ zs 32)) 66 (by decide))
  try simp only [World.size_alloc] at M2
  go_upto_region 1 with fail
  obtain ⟨w1, hw1⟩ : ∃ w1, w1 = (((w.alloc (.cells (cs U8 (x ++ v)) 66)).alloc (.cells (cs U8 u) 23)).alloc (.cells (cs U8 (zs 32 ++ zs 32)) 66)) := ⟨_, rfl⟩
  rw [← hw1] at M2 ⊢
  clear hw1
  refine wp_region_seq 12 [10, 11, 12, 13, 14, 15, 16, 17, 18, 19, 5, 6] [] [] [] (.op 12 (.op 13 .done)) (Mm no w _) (by kernel_rfl) (by kernel_rfl) (by kernel_rfl) (fun d _ _ _ _ h => by cases d <;> exact h) (by rfl) M2.size (fun _ _ h k => h.sf k) M2 ?_
  simp only [List.take_succ_cons, List.take_zero]
  refine SeqA.pure (.pointer (some ⟨w.heap.size, 0, none⟩)) (fun w' => by go_simp) rfl rfl ?_
  refine SeqA.ldm Try.underlying23 rfl inf_key (w.heap.size) 0 (cs U8 (x ++ v)) (cs U8 x) rfl (by go_simp) (fun _ M => M.row (by simp)) (by simp [hx, hv, hu]) (by rw [cs_extract] <;> congr 1 <;> first | (simp [hx, hv, hu]; done) | simp [List.take_append, List.drop_append, List.take_of_length_le, hx, hv, hu]) rfl ?_
  refine SeqA.pure (.pointer (some ⟨w.heap.size, 32, none⟩)) (fun w' => by go_simp) rfl rfl ?_
  refine SeqA.ldm Try.underlying23 rfl inf_key (w.heap.size) 32 (cs U8 (x ++ v)) (cs U8 v) rfl (by go_simp) (fun _ M => M.row (by simp)) (by simp [hx, hv, hu]) (by rw [cs_extract] <;> congr 1 <;> first | (simp [hx, hv, hu]; done) | simp [List.take_append, List.drop_append, List.take_of_length_le, hx, hv, hu]) rfl ?_
  refine SeqA.call _ _ _ (fun w' => by go_simp) (fun w' hI _ => radd_c w' x v (by simp [hx, hv, hu]) (by simp [hx, hv, hu]) (Fk x) (Fk v) (rfl) (rfl)) M2.size rfl rfl ?_
  simp only [Act.put, List.setIfInBounds_toArray, List.set_cons_succ, List.set_cons_zero]
  refine SeqA.pure (.pointer (some ⟨w.heap.size, 0, none⟩)) (fun w' => by go_simp) rfl rfl ?_
  refine SeqA.ldm Try.underlying23 rfl inf_key (w.heap.size) 0 (cs U8 (x ++ v)) (cs U8 x) rfl (by go_simp) (fun _ M => M.row (by simp)) (by simp [hx, hv, hu]) (by rw [cs_extract] <;> congr 1 <;> first | (simp [hx, hv, hu]; done) | simp [List.take_append, List.drop_append, List.take_of_length_le, hx, hv, hu]) rfl ?_
  refine SeqA.pure (.pointer (some ⟨w.heap.size, 32, none⟩)) (fun w' => by go_simp) rfl rfl ?_
  refine SeqA.ldm Try.underlying23 rfl inf_key (w.heap.size) 32 (cs U8 (x ++ v)) (cs U8 v) rfl (by go_simp) (fun _ M => M.row (by simp)) (by simp [hx, hv, hu]) (by rw [cs_extract] <;> congr 1 <;> first | (simp [hx, hv, hu]; done) | simp [List.take_append, List.drop_append, List.take_of_length_le, hx, hv, hu]) rfl ?_
  refine SeqA.call _ _ _ (fun w' => by go_simp) (fun w' hI _ => rsub_c w' x v (by simp [hx, hv, hu]) (by simp [hx, hv, hu]) (Fk x) (Fk v) (rfl) (rfl)) M2.size rfl rfl ?_
  refine SeqA.var (z := .agg (cs U8 (zs 32))) (by kernel_rfl) rfl rfl (by decide) rfl ?_
  simp only [Act.put, List.setIfInBounds_toArray, List.set_cons_succ, List.set_cons_zero]
  refine SeqA.var (z := .agg (cs U8 (zs 32))) (by kernel_rfl) rfl rfl (by decide) rfl ?_
  refine SeqA.nil (fun w3 M4 hz => ?_)
  refine news_one (fun b5 hb1 hb2 hb3 => ?_)
  have M6 := M2.in_ (c := cs U8 (zs 32)) M4 hb1 hb2 (by decide) hb3 rfl
  refine news_one (fun b7 hb1 hb2 hb3 => ?_)
  have M8 := M2.in_ (c := cs U8 (zs 32)) M6 hb1 hb2 (by decide) hb3 rfl
  show wpT _ _ _ _ _ _
  simp only [Act.put, List.setIfInBounds_toArray, List.set_cons_succ, List.set_cons_zero]
  refine wpT_st0 M8 0 (cs U8 (K ((Fk x) + (Fk v)))) inf_key rfl rfl rfl rfl (by go_simp) (by go_simp) (by simp [hx, hv, hu]) (by simp [hx, hv, hu]) (by simp [go_sem]) rfl (fun w9 M10 => ?_)
  dsimp only [List.set] at M10
  refine wpT_st0 M10 1 (cs U8 (K ((Fk x) - (Fk v)))) inf_key rfl rfl rfl rfl (by go_simp) (by go_simp) (by simp [hx, hv, hu]) (by simp [hx, hv, hu]) (by simp [go_sem]) rfl (fun w11 M12 => ?_)
  dsimp only [List.set] at M12
  dsimp only [wpT]
  go_upto_region 2 with fail
  refine wp_region_seq 8 [20, 21, 22, 23, 24, 25, 7, 8] [] [] [] (.op 8 (.op 9 .done)) (Mm no w _) (by kernel_rfl) (by kernel_rfl) (by kernel_rfl) (fun d _ _ _ _ h => by cases d <;> exact h) (by rfl) M12.size (fun _ _ h k => h.sf k) M12 ?_
  simp only [List.take_succ_cons, List.take_zero]
  refine SeqA.ld0 Try.underlying23 rfl inf_key (b7) (cs U8 (K ((Fk x) + (Fk v)))) rfl (by go_simp) (fun _ M => M.row (by simp)) (by simp [hx, hv, hu]) rfl ?_
  refine SeqA.ld0 Try.underlying23 rfl inf_key (b7) (cs U8 (K ((Fk x) + (Fk v)))) rfl (by go_simp) (fun _ M => M.row (by simp)) (by simp [hx, hv, hu]) rfl ?_
  refine SeqA.call _ _ _ (fun w' => by go_simp) (fun w' hI _ => rmul_c w' (K ((Fk x) + (Fk v))) (K ((Fk x) + (Fk v))) (by simp [hx, hv, hu]) (by simp [hx, hv, hu]) ((Fk x) + (Fk v)) ((Fk x) + (Fk v)) (Fk_K _) (Fk_K _)) M12.size rfl rfl ?_
  refine SeqA.ld0 Try.underlying23 rfl inf_key (b5) (cs U8 (K ((Fk x) - (Fk v)))) rfl (by go_simp) (fun _ M => M.row (by simp)) (by simp [hx, hv, hu]) rfl ?_
  refine SeqA.ld0 Try.underlying23 rfl inf_key (b5) (cs U8 (K ((Fk x) - (Fk v)))) rfl (by go_simp) (fun _ M => M.row (by simp)) (by simp [hx, hv, hu]) rfl ?_
  simp only [Act.put, List.setIfInBounds_toArray, List.set_cons_succ, List.set_cons_zero]
  refine SeqA.call _ _ _ (fun w' => by go_simp) (fun w' hI _ => rmul_c w' (K ((Fk x) - (Fk v))) (K ((Fk x) - (Fk v))) (by simp [hx, hv, hu]) (by simp [hx, hv, hu]) ((Fk x) - (Fk v)) ((Fk x) - (Fk v)) (Fk_K _) (Fk_K _)) M12.size rfl rfl ?_
  refine SeqA.var (z := .agg (cs U8 (zs 32))) (by kernel_rfl) rfl rfl (by decide) rfl ?_
  refine SeqA.var (z := .agg (cs U8 (zs 32))) (by kernel_rfl) rfl rfl (by decide) rfl ?_
  refine SeqA.nil (fun w13 M14 hz => ?_)
  refine news_one (fun b15 hb1 hb2 hb3 => ?_)
  have M16 := M12.in_ (c := cs U8 (zs 32)) M14 hb1 hb2 (by decide) hb3 rfl
  refine news_one (fun b17 hb1 hb2 hb3 => ?_)
  have M18 := M12.in_ (c := cs U8 (zs 32)) M16 hb1 hb2 (by decide) hb3 rfl
  show wpT _ _ _ _ _ _
  simp only [Act.put, List.setIfInBounds_toArray, List.set_cons_succ, List.set_cons_zero]
  refine wpT_st0 M18 0 (cs U8 (K (((Fk x) + (Fk v)) * ((Fk x) + (Fk v))))) inf_key rfl rfl rfl rfl (by go_simp) (by go_simp) (by simp [hx, hv, hu]) (by simp [hx, hv, hu]) (by simp [go_sem]) rfl (fun w19 M20 => ?_)
  dsimp only [List.set] at M20
  refine wpT_st0 M20 1 (cs U8 (K (((Fk x) - (Fk v)) * ((Fk x) - (Fk v))))) inf_key rfl rfl rfl rfl (by go_simp) (by go_simp) (by simp [hx, hv, hu]) (by simp [hx, hv, hu]) (by simp [go_sem]) rfl (fun w21 M22 => ?_)
  dsimp only [List.set] at M22
  dsimp only [wpT]
  go_upto_region 3 with fail
  refine wp_region_seqF 4 [26, 27, 28, 9] [] [] [] (.op 4 .done) (Mm no w _) (by kernel_rfl) (by kernel_rfl) (fun d _ _ _ _ h => by cases d <;> exact h) (by rfl) M22.size (fun _ _ h k => h.sf k) M22 (by kernel_rfl) ?_
  simp only [List.take_succ_cons, List.take_zero]
  refine SeqA.ld0 Try.underlying23 rfl inf_key (b17) (cs U8 (K (((Fk x) + (Fk v)) * ((Fk x) + (Fk v))))) rfl (by go_simp) (fun _ M => M.row (by simp)) (by simp [hx, hv, hu]) rfl ?_
  refine SeqA.ld0 Try.underlying23 rfl inf_key (b15) (cs U8 (K (((Fk x) - (Fk v)) * ((Fk x) - (Fk v))))) rfl (by go_simp) (fun _ M => M.row (by simp)) (by simp [hx, hv, hu]) rfl ?_
  refine SeqA.call _ _ _ (fun w' => by go_simp) (fun w' hI _ => rsub_c w' (K (((Fk x) + (Fk v)) * ((Fk x) + (Fk v)))) (K (((Fk x) - (Fk v)) * ((Fk x) - (Fk v)))) (by simp [hx, hv, hu]) (by simp [hx, hv, hu]) (((Fk x) + (Fk v)) * ((Fk x) + (Fk v))) (((Fk x) - (Fk v)) * ((Fk x) - (Fk v))) (Fk_K _) (Fk_K _)) M22.size rfl rfl ?_
  refine SeqA.var (z := .agg (cs U8 (zs 32))) (by kernel_rfl) rfl rfl (by decide) rfl ?_
  refine SeqA.nil (fun w23 M24 hz => ?_)
  refine news_one (fun b25 hb1 hb2 hb3 => ?_)
  have M26 := M22.in_ (c := cs U8 (zs 32)) M24 hb1 hb2 (by decide) hb3 rfl
  show wpT _ _ _ _ _ _
  simp only [Act.put, List.setIfInBounds_toArray, List.set_cons_succ, List.set_cons_zero]
  refine wpT_st0 M26 0 (cs U8 (K ((((Fk x) + (Fk v)) * ((Fk x) + (Fk v))) - (((Fk x) - (Fk v)) * ((Fk x) - (Fk v)))))) inf_key rfl rfl rfl rfl (by go_simp) (by go_simp) (by simp [hx, hv, hu]) (by simp [hx, hv, hu]) (by simp [go_sem]) rfl (fun w27 M28 => ?_)
  dsimp only [List.set] at M28
  dsimp only [wpT]
  go_upto_region 4 with fail
  refine wp_region_seq 11 [29, 30, 31, 32, 33, 34, 35, 36, 37, 38, 39] [] [] [] (.op 11 .done) (Mm no w _) (by kernel_rfl) (by kernel_rfl) (by kernel_rfl) (fun d _ _ _ _ h => by cases d <;> exact h) (by rfl) M28.size (fun _ _ h k => h.sf k) M28 ?_
  simp only [List.take_succ_cons, List.take_zero]
  refine SeqA.ld0 Try.underlying23 rfl inf_key (b17) (cs U8 (K (((Fk x) + (Fk v)) * ((Fk x) + (Fk v))))) rfl (by go_simp) (fun _ M => M.row (by simp)) (by simp [hx, hv, hu]) rfl ?_
  refine SeqA.ld0 Try.underlying23 rfl inf_key (b15) (cs U8 (K (((Fk x) - (Fk v)) * ((Fk x) - (Fk v))))) rfl (by go_simp) (fun _ M => M.row (by simp)) (by simp [hx, hv, hu]) rfl ?_
  refine SeqA.call _ _ _ (fun w' => by go_simp) (fun w' hI _ => rmul_c w' (K (((Fk x) + (Fk v)) * ((Fk x) + (Fk v)))) (K (((Fk x) - (Fk v)) * ((Fk x) - (Fk v)))) (by simp [hx, hv, hu]) (by simp [hx, hv, hu]) (((Fk x) + (Fk v)) * ((Fk x) + (Fk v))) (((Fk x) - (Fk v)) * ((Fk x) - (Fk v))) (Fk_K _) (Fk_K _)) M28.size rfl rfl ?_
  refine SeqA.ld0 Try.underlying23 rfl inf_key (b25) (cs U8 (K ((((Fk x) + (Fk v)) * ((Fk x) + (Fk v))) - (((Fk x) - (Fk v)) * ((Fk x) - (Fk v)))))) rfl (by go_simp) (fun _ M => M.row (by simp)) (by simp [hx, hv, hu]) rfl ?_
  refine SeqA.ld0 Try.underlying23 rfl inf_key (b17) (cs U8 (K (((Fk x) + (Fk v)) * ((Fk x) + (Fk v))))) rfl (by go_simp) (fun _ M => M.row (by simp)) (by simp [hx, hv, hu]) rfl ?_
  simp only [Act.put, List.setIfInBounds_toArray, List.set_cons_succ, List.set_cons_zero]
  refine SeqA.ld0 Try.underlying23 rfl inf_key (w.heap.size + 1) (cs U8 u) rfl (by go_simp) (fun _ M => M.row (by simp)) (by simp [hx, hv, hu]) rfl ?_
  refine SeqA.ld0 Try.underlying23 rfl inf_key (b25) (cs U8 (K ((((Fk x) + (Fk v)) * ((Fk x) + (Fk v))) - (((Fk x) - (Fk v)) * ((Fk x) - (Fk v)))))) rfl (by go_simp) (fun _ M => M.row (by simp)) (by simp [hx, hv, hu]) rfl ?_
  refine SeqA.call _ _ _ (fun w' => by go_simp) (fun w' hI _ => rmul_c w' u (K ((((Fk x) + (Fk v)) * ((Fk x) + (Fk v))) - (((Fk x) - (Fk v)) * ((Fk x) - (Fk v))))) (by simp [hx, hv, hu]) (by simp [hx, hv, hu]) (Fk u) ((((Fk x) + (Fk v)) * ((Fk x) + (Fk v))) - (((Fk x) - (Fk v)) * ((Fk x) - (Fk v)))) (rfl) (Fk_K _)) M28.size rfl rfl ?_
  refine SeqA.call _ _ _ (fun w' => by go_simp) (fun w' hI _ => radd_c w' (K (((Fk x) + (Fk v)) * ((Fk x) + (Fk v)))) (K ((Fk u) * ((((Fk x) + (Fk v)) * ((Fk x) + (Fk v))) - (((Fk x) - (Fk v)) * ((Fk x) - (Fk v)))))) (by simp [hx, hv, hu]) (by simp [hx, hv, hu]) (((Fk x) + (Fk v)) * ((Fk x) + (Fk v))) ((Fk u) * ((((Fk x) + (Fk v)) * ((Fk x) + (Fk v))) - (((Fk x) - (Fk v)) * ((Fk x) - (Fk v))))) (Fk_K _) (Fk_K _)) M28.size rfl rfl ?_
  refine SeqA.call _ _ _ (fun w' => by go_simp) (fun w' hI _ => rmul_c w' (K ((((Fk x) + (Fk v)) * ((Fk x) + (Fk v))) - (((Fk x) - (Fk v)) * ((Fk x) - (Fk v))))) (K ((((Fk x) + (Fk v)) * ((Fk x) + (Fk v))) + ((Fk u) * ((((Fk x) + (Fk v)) * ((Fk x) + (Fk v))) - (((Fk x) - (Fk v)) * ((Fk x) - (Fk v))))))) (by simp [hx, hv, hu]) (by simp [hx, hv, hu]) ((((Fk x) + (Fk v)) * ((Fk x) + (Fk v))) - (((Fk x) - (Fk v)) * ((Fk x) - (Fk v)))) ((((Fk x) + (Fk v)) * ((Fk x) + (Fk v))) + ((Fk u) * ((((Fk x) + (Fk v)) * ((Fk x) + (Fk v))) - (((Fk x) - (Fk v)) * ((Fk x) - (Fk v)))))) (Fk_K _) (Fk_K _)) M28.size rfl rfl ?_
  refine SeqA.pure (.agg (cs U8 (K ((((Fk x) + (Fk v)) * ((Fk x) + (Fk v))) * (((Fk x) - (Fk v)) * ((Fk x) - (Fk v)))) ++ K (((((Fk x) + (Fk v)) * ((Fk x) + (Fk v))) - (((Fk x) - (Fk v)) * ((Fk x) - (Fk v)))) * ((((Fk x) + (Fk v)) * ((Fk x) + (Fk v))) + ((Fk u) * ((((Fk x) + (Fk v)) * ((Fk x) + (Fk v))) - (((Fk x) - (Fk v)) * ((Fk x) - (Fk v)))))))))) (fun w' => by have q := xb_pair2 w' (K (((((Fk x) + (Fk v)) * ((Fk x) + (Fk v))) * (((Fk x) - (Fk v)) * ((Fk x) - (Fk v)))))) (K ((((((Fk x) + (Fk v)) * ((Fk x) + (Fk v))) - (((Fk x) - (Fk v)) * ((Fk x) - (Fk v)))) * ((((Fk x) + (Fk v)) * ((Fk x) + (Fk v))) + ((Fk u) * ((((Fk x) + (Fk v)) * ((Fk x) + (Fk v))) - (((Fk x) - (Fk v)) * ((Fk x) - (Fk v))))))))) (by simp) (by simp); go_simp) rfl rfl ?_
  refine SeqA.nil (fun w29 M30 hz => ?_)
  show wpT _ _ _ _ _ _
  simp only [Act.put, List.setIfInBounds_toArray, List.set_cons_succ, List.set_cons_zero]
  refine wpT_st0 M30 5 (cs U8 (K ((((Fk x) + (Fk v)) * ((Fk x) + (Fk v))) * (((Fk x) - (Fk v)) * ((Fk x) - (Fk v)))) ++ K (((((Fk x) + (Fk v)) * ((Fk x) + (Fk v))) - (((Fk x) - (Fk v)) * ((Fk x) - (Fk v)))) * ((((Fk x) + (Fk v)) * ((Fk x) + (Fk v))) + ((Fk u) * ((((Fk x) + (Fk v)) * ((Fk x) + (Fk v))) - (((Fk x) - (Fk v)) * ((Fk x) - (Fk v))))))))) inf_pair rfl rfl rfl rfl (by go_simp) (by go_simp) (by simp [hx, hv, hu]) (by simp [hx, hv, hu]) (by simp [go_sem]) rfl (fun w31 M32 => ?_)
  dsimp only [List.set] at M32
  dsimp only [wpT]
  go_wp2_with fail
  have r33 := M32.row (b := w.heap.size + 1 + 1) (c := cs U8 (K ((((Fk x) + (Fk v)) * ((Fk x) + (Fk v))) * (((Fk x) - (Fk v)) * ((Fk x) - (Fk v)))) ++ K (((((Fk x) + (Fk v)) * ((Fk x) + (Fk v))) - (((Fk x) - (Fk v)) * ((Fk x) - (Fk v)))) * ((((Fk x) + (Fk v)) * ((Fk x) + (Fk v))) + ((Fk u) * ((((Fk x) + (Fk v)) * ((Fk x) + (Fk v))) - (((Fk x) - (Fk v)) * ((Fk x) - (Fk v))))))))) (by simp)
  refine bodyPost_ret (res_row (b := w.heap.size + 1 + 1) rfl Try.underlying66 rfl inf_pair _ _ rfl (by rw [r33]; simp [hx, hv, hu])) rfl ?_
  rw [r33]
  exact ⟨rfl, M32.end_⟩
theorem twice_any (w : World) (x v u : List (BitVec 8)) (hx : x.length = 32) (hv : v.length = 32) (hu : u.length = 32) (hu2 : Fk u = 121665) :
    Calls Try.prog 65 #[.agg (cs U8 (x ++ v)), .agg (cs U8 u)] w fun e w' => e = .returned (.agg (cs U8 (K (twX (Fk x) (Fk v)) ++ K (twZ (Fk x) (Fk v))))) ∧ Below w.heap.size w w' := by
  have h := twice_u w x v u hx hv hu
  rw [hu2] at h
  exact h
end Go.Proofs.Ytgneclfnfnpmkaa
