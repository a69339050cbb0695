/-
  Walks of package chacha: a word turned left; own work.
  Walks of package chacha: a quarter of a round; own work.
  Walks of package chacha: two rounds, a word; own work.
-/
import Derived.Test.YtbigmnhjnjeeaaaDoorChaS
import Derived.Test.YtbigmnhjnjeeaaaDoorLin
import Derived.Test.YtbigmnhjnjeeaaaDoorTx
import Derived.Deep.Cut
import Derived.Deep.CutBlock
set_option linter.unusedSimpArgs false
set_option linter.unusedVariables false
namespace Go.Proofs.YtbigmnhjnjeeaaaDoor
open Go.RowKit
theorem and31p (k : Int) (hk : 0 < k ∧ k < 32) : bits BinOp.and IntKind.u64 (IntKind.u64.wrap k) 31 = k := by
  have h := bits_mask .u64 64 (by decide) (fun n h0 h1 => by rw [wrap_u64']; omega) 5 (by decide) (IntKind.u64.wrap k) (by rw [wrap_u64']; omega) (by rw [wrap_u64']; omega)
  have e : (31 : Int) = 2 ^ 5 - 1 := by decide
  rw [e, h, wrap_u64']
  omega
set_option maxHeartbeats 400000 in
theorem rotl_pos (x : BitVec 32) (k : Nat) (K : Int) (hK : (k : Int) = K) (w : World) (hk : 0 < k ∧ k < 32) :
    Calls Tryd.prog 75 #[U32 x, .int .i64 K] w fun e w' => e = .returned (U32 (Ch.rl x k)) ∧ Below w.heap.size w w' := by
  have h1 := and31p K (by omega)
  rw [← hK] at h1 ⊢
  rw [show IntKind.u64.wrap (k : Int) = (k : Int) by rw [wrap_u64']; omega] at h1
  have h0 : (0 : Int) ≤ (k : Int) := by omega
  have h2 : (k : Int) ≤ 32 := by omega
  have h3 : (0 : Int) ≤ 32 - k := by omega
  clear hK
  go_enter Tryd.func75, Tryd.ntmps75
  go_wp2
  go_ret
  refine ⟨?_, Below.refl _ _⟩
  rfl
end Go.Proofs.YtbigmnhjnjeeaaaDoor
set_option linter.unusedSimpArgs false
set_option linter.unusedVariables false
namespace Go.Proofs.YtbigmnhjnjeeaaaDoor
open Go.RowKit
theorem inf_chs : (Tryd.prog.info? 103).map (·.size) = some 16 := by kernel_rfl
section
variable (ρ : Operand → Value) (dst : Option Tmp) (ty : TypeId) (pos : String) (after : Array Edge) (guard : Option (Nat × Bool)) (w : World)
@[go_sem ↓] theorem rl_chs (x : Operand) : (execOp ρ { dst, op := .load 103 x, type := ty, pos, after, guard }).run Tryd.prog w = exLoad Tryd.prog 103 (ρ x) w := x_load ..
@[go_sem ↓] theorem rs_chs (x y : Operand) : (execOp ρ { dst, op := .store 103 x y, type := ty, pos, after, guard }).run Tryd.prog w = exStore Tryd.prog 103 (ρ x) (ρ y) w := x_store ..
@[go_sem ↓] theorem ra_chs : (execOp ρ { dst, op := .alloc 103, type := ty, pos, after, guard }).run Tryd.prog w = .ok (.value (.pointer (some ⟨w.heap.size, 0, none⟩))) (w.alloc (.cells (cs U32 (zs 16)) 103)) :=
  (x_alloc ..).trans (x_alloc0 (v := .agg (cs U32 (zs 16))) _ (by kernel_rfl))
@[go_sem] theorem xl_chs (b : Nat) (h : (w.rowOf b).size = 16) : exLoad Tryd.prog 103 (.pointer (some ⟨b, 0, none⟩)) w = .ok (.value (.agg (w.rowOf b))) w := x_load0 _ Tryd.underlying103 rfl inf_chs b h
@[go_sem] theorem xlm_chs (b o : Nat) (ho : 0 < o) (h : o + 16 ≤ (w.rowOf b).size) : exLoad Tryd.prog 103 (.pointer (some ⟨b, o, none⟩)) w = .ok (.value (.agg ((w.rowOf b).extract o (o + 16)))) w := x_loadm _ Tryd.underlying103 rfl inf_chs b o h
@[go_sem] theorem xs_chs (b : Nat) (c : Array Value) (hl : c.size = 16) (h1 : ones c = true) (h : (w.rowOf b).size = 16) (hf : w.free b = true) : exStore Tryd.prog 103 (.pointer (some ⟨b, 0, none⟩)) (.agg c) w = .ok .skip (w.setRow b c) :=
  x_store0 _ inf_chs b c hl h hf (ones_all h1)
@[go_sem] theorem xsm_chs (b o : Nat) (ho : 0 < o) (c : Array Value) (hl : c.size = 16) (h1 : ones c = true) (h : o + 16 ≤ (w.rowOf b).size) (hf : w.free b = true) : exStore Tryd.prog 103 (.pointer (some ⟨b, o, none⟩)) (.agg c) w = .ok .skip (w.setSeg b o c) :=
  x_storem _ inf_chs b o c hl h hf (ones_all h1)
end
/-- at a step: a store, and a variable made -/
theorem wps_chs {a : Act} {w : World} {K : Act → World → Prop} {Q : Exit → Act → World → Prop} {o : Oper} (p x : Operand) (ho : o.op = .store 103 p x) (b : Nat) (c : Array Value) (hp : a.eval p = .pointer (some ⟨b, 0, none⟩)) (hx : a.eval x = .agg c)
    (hl : c.size = 16) (h1 : ones c = true) (h : (w.rowOf b).size = 16) (hf : w.free b = true) (hK : K (a.put o.dst undef) (w.setRow b c)) : o.wp Tryd.prog a w K Q := by
  obtain ⟨dst, op, ty, pos, after, guard⟩ := o
  subst ho
  unfold Oper.wp
  rw [rs_chs, hp, hx, xs_chs _ _ _ hl h1 h hf]
  simp only [Oper.upon]
  exact hK
theorem wpa_chs {a : Act} {w : World} {K : Act → World → Prop} {Q : Exit → Act → World → Prop} {o : Oper} (ho : o.op = .alloc 103)
    (hK : K (a.put o.dst (.pointer (some ⟨w.heap.size, 0, none⟩))) (w.alloc (.cells (cs U32 (zs 16)) 103))) : o.wp Tryd.prog a w K Q := by
  obtain ⟨dst, op, ty, pos, after, guard⟩ := o
  subst ho
  unfold Oper.wp
  rw [ra_chs]
  simp only [Oper.upon]
  exact hK

theorem inf_nonce : (Tryd.prog.info? 29).map (·.size) = some 12 := by kernel_rfl
section
variable (ρ : Operand → Value) (dst : Option Tmp) (ty : TypeId) (pos : String) (after : Array Edge) (guard : Option (Nat × Bool)) (w : World)
@[go_sem ↓] theorem rl_nonce (x : Operand) : (execOp ρ { dst, op := .load 29 x, type := ty, pos, after, guard }).run Tryd.prog w = exLoad Tryd.prog 29 (ρ x) w := x_load ..
@[go_sem ↓] theorem rs_nonce (x y : Operand) : (execOp ρ { dst, op := .store 29 x y, type := ty, pos, after, guard }).run Tryd.prog w = exStore Tryd.prog 29 (ρ x) (ρ y) w := x_store ..
@[go_sem ↓] theorem ra_nonce : (execOp ρ { dst, op := .alloc 29, type := ty, pos, after, guard }).run Tryd.prog w = .ok (.value (.pointer (some ⟨w.heap.size, 0, none⟩))) (w.alloc (.cells (cs U8 (zs 12)) 29)) :=
  (x_alloc ..).trans (x_alloc0 (v := .agg (cs U8 (zs 12))) _ (by kernel_rfl))
@[go_sem] theorem xl_nonce (b : Nat) (h : (w.rowOf b).size = 12) : exLoad Tryd.prog 29 (.pointer (some ⟨b, 0, none⟩)) w = .ok (.value (.agg (w.rowOf b))) w := x_load0 _ Tryd.underlying29 rfl inf_nonce b h
@[go_sem] theorem xlm_nonce (b o : Nat) (ho : 0 < o) (h : o + 12 ≤ (w.rowOf b).size) : exLoad Tryd.prog 29 (.pointer (some ⟨b, o, none⟩)) w = .ok (.value (.agg ((w.rowOf b).extract o (o + 12)))) w := x_loadm _ Tryd.underlying29 rfl inf_nonce b o h
@[go_sem] theorem xs_nonce (b : Nat) (c : Array Value) (hl : c.size = 12) (h1 : ones c = true) (h : (w.rowOf b).size = 12) (hf : w.free b = true) : exStore Tryd.prog 29 (.pointer (some ⟨b, 0, none⟩)) (.agg c) w = .ok .skip (w.setRow b c) :=
  x_store0 _ inf_nonce b c hl h hf (ones_all h1)
@[go_sem] theorem xsm_nonce (b o : Nat) (ho : 0 < o) (c : Array Value) (hl : c.size = 12) (h1 : ones c = true) (h : o + 12 ≤ (w.rowOf b).size) (hf : w.free b = true) : exStore Tryd.prog 29 (.pointer (some ⟨b, o, none⟩)) (.agg c) w = .ok .skip (w.setSeg b o c) :=
  x_storem _ inf_nonce b o c hl h hf (ones_all h1)
end
/-- at a step: a store, and a variable made -/
theorem wps_nonce {a : Act} {w : World} {K : Act → World → Prop} {Q : Exit → Act → World → Prop} {o : Oper} (p x : Operand) (ho : o.op = .store 29 p x) (b : Nat) (c : Array Value) (hp : a.eval p = .pointer (some ⟨b, 0, none⟩)) (hx : a.eval x = .agg c)
    (hl : c.size = 12) (h1 : ones c = true) (h : (w.rowOf b).size = 12) (hf : w.free b = true) (hK : K (a.put o.dst undef) (w.setRow b c)) : o.wp Tryd.prog a w K Q := by
  obtain ⟨dst, op, ty, pos, after, guard⟩ := o
  subst ho
  unfold Oper.wp
  rw [rs_nonce, hp, hx, xs_nonce _ _ _ hl h1 h hf]
  simp only [Oper.upon]
  exact hK
theorem wpa_nonce {a : Act} {w : World} {K : Act → World → Prop} {Q : Exit → Act → World → Prop} {o : Oper} (ho : o.op = .alloc 29)
    (hK : K (a.put o.dst (.pointer (some ⟨w.heap.size, 0, none⟩))) (w.alloc (.cells (cs U8 (zs 12)) 29))) : o.wp Tryd.prog a w K Q := by
  obtain ⟨dst, op, ty, pos, after, guard⟩ := o
  subst ho
  unfold Oper.wp
  rw [ra_nonce]
  simp only [Oper.upon]
  exact hK

theorem inf_b64 : (Tryd.prog.info? 88).map (·.size) = some 64 := by kernel_rfl
section
variable (ρ : Operand → Value) (dst : Option Tmp) (ty : TypeId) (pos : String) (after : Array Edge) (guard : Option (Nat × Bool)) (w : World)
@[go_sem ↓] theorem rl_b64 (x : Operand) : (execOp ρ { dst, op := .load 88 x, type := ty, pos, after, guard }).run Tryd.prog w = exLoad Tryd.prog 88 (ρ x) w := x_load ..
@[go_sem ↓] theorem rs_b64 (x y : Operand) : (execOp ρ { dst, op := .store 88 x y, type := ty, pos, after, guard }).run Tryd.prog w = exStore Tryd.prog 88 (ρ x) (ρ y) w := x_store ..
@[go_sem ↓] theorem ra_b64 : (execOp ρ { dst, op := .alloc 88, type := ty, pos, after, guard }).run Tryd.prog w = .ok (.value (.pointer (some ⟨w.heap.size, 0, none⟩))) (w.alloc (.cells (cs U8 (zs 64)) 88)) :=
  (x_alloc ..).trans (x_alloc0 (v := .agg (cs U8 (zs 64))) _ (by kernel_rfl))
@[go_sem] theorem xl_b64 (b : Nat) (h : (w.rowOf b).size = 64) : exLoad Tryd.prog 88 (.pointer (some ⟨b, 0, none⟩)) w = .ok (.value (.agg (w.rowOf b))) w := x_load0 _ Tryd.underlying88 rfl inf_b64 b h
@[go_sem] theorem xlm_b64 (b o : Nat) (ho : 0 < o) (h : o + 64 ≤ (w.rowOf b).size) : exLoad Tryd.prog 88 (.pointer (some ⟨b, o, none⟩)) w = .ok (.value (.agg ((w.rowOf b).extract o (o + 64)))) w := x_loadm _ Tryd.underlying88 rfl inf_b64 b o h
@[go_sem] theorem xs_b64 (b : Nat) (c : Array Value) (hl : c.size = 64) (h1 : ones c = true) (h : (w.rowOf b).size = 64) (hf : w.free b = true) : exStore Tryd.prog 88 (.pointer (some ⟨b, 0, none⟩)) (.agg c) w = .ok .skip (w.setRow b c) :=
  x_store0 _ inf_b64 b c hl h hf (ones_all h1)
@[go_sem] theorem xsm_b64 (b o : Nat) (ho : 0 < o) (c : Array Value) (hl : c.size = 64) (h1 : ones c = true) (h : o + 64 ≤ (w.rowOf b).size) (hf : w.free b = true) : exStore Tryd.prog 88 (.pointer (some ⟨b, o, none⟩)) (.agg c) w = .ok .skip (w.setSeg b o c) :=
  x_storem _ inf_b64 b o c hl h hf (ones_all h1)
end
/-- at a step: a store, and a variable made -/
theorem wps_b64 {a : Act} {w : World} {K : Act → World → Prop} {Q : Exit → Act → World → Prop} {o : Oper} (p x : Operand) (ho : o.op = .store 88 p x) (b : Nat) (c : Array Value) (hp : a.eval p = .pointer (some ⟨b, 0, none⟩)) (hx : a.eval x = .agg c)
    (hl : c.size = 64) (h1 : ones c = true) (h : (w.rowOf b).size = 64) (hf : w.free b = true) (hK : K (a.put o.dst undef) (w.setRow b c)) : o.wp Tryd.prog a w K Q := by
  obtain ⟨dst, op, ty, pos, after, guard⟩ := o
  subst ho
  unfold Oper.wp
  rw [rs_b64, hp, hx, xs_b64 _ _ _ hl h1 h hf]
  simp only [Oper.upon]
  exact hK
theorem wpa_b64 {a : Act} {w : World} {K : Act → World → Prop} {Q : Exit → Act → World → Prop} {o : Oper} (ho : o.op = .alloc 88)
    (hK : K (a.put o.dst (.pointer (some ⟨w.heap.size, 0, none⟩))) (w.alloc (.cells (cs U8 (zs 64)) 88))) : o.wp Tryd.prog a w K Q := by
  obtain ⟨dst, op, ty, pos, after, guard⟩ := o
  subst ho
  unfold Oper.wp
  rw [ra_b64]
  simp only [Oper.upon]
  exact hK

theorem cell_cs {α : Type} {f : α → Value} (d : α) {w : World} {b : Nat} {L : List α} (h : w.rowOf b = cs f L) {i : Nat} (hi : i < L.length) : w.cell? ⟨b, i, none⟩ = some (f (L.getD i d)) := by
  rw [cell_rowOf, h, cs_get_lt hi, List.getD_eq_getElem?_getD, List.getElem?_eq_getElem hi]; rfl
def g32 (l : List (BitVec 32)) (i : Nat) : BitVec 32 := l.getD i 0
theorem cell_g32 {w : World} {b : Nat} {L : List (BitVec 32)} (h : w.rowOf b = cs U32 L) {i : Nat} (hi : i < L.length) : w.cell? ⟨b, i, none⟩ = some (U32 (g32 L i)) := cell_cs (f := U32) 0 h hi
theorem stcX {P : Program} {ops : Array Oper} {Q : Exit → Act → World → Prop} {i : Nat} {a : Act} {o : Oper} {S : Nat → Prop} {w0 w : World} {H : List (Nat × Array Value)} {K : Act → World → Prop} {T : TypeId} {p x : Operand} {b off : Nat} {C : Array Value} (M : Mm S w0 H w) (k : Nat) (v : Value) (C' : Array Value) (hi : (P.info? T).map (·.size) = some 1) (hk : H[k]? = some (b, C)) (ho : ops[i]? = some o) (hop : o.op = .store T p x) (hd : o.dst = none)
    (hp : a.eval p = .pointer (some ⟨b, off, none⟩)) (hx : a.eval x = v) (hoff : off < C.size) (hv : ones1 v = true) (hC' : C.setIfInBounds off v = C') (hw : Region.wanted o (yielded ops a.tmps) = true)
    (h : ∀ w', Mm S w0 (H.set k (b, C')) w' → K a w') : wpOp P ops Q i K a w := by
  have hm := List.mem_of_getElem? hk
  unfold wpOp
  rw [ho]
  simp only [hw, if_true]
  refine .inl ?_
  unfold Oper.wp
  have hrun : (execOp a.eval o).run P w = .ok .skip (w.setRow b C') := by
    obtain ⟨dst, op, ty, pos, after, guard⟩ := o
    subst hop
    rw [x_store, hp, hx, x_storec hi w b off v hv (by rw [M.row hm]; exact hoff) (M.free hm), M.row hm, hC']
  rw [hrun]
  show K (a.put o.dst undef) _
  rw [hd]; exact h _ (M.set k C' hk)
theorem rotl_v (w : World) (x : BitVec 32) (k : Nat) (K : Int) (hK : (k : Int) = K) (hk : 0 < k ∧ k < 32) (y : BitVec 32) (hy : Ch.rl x k = y) :
    Calls Tryd.prog 75 #[U32 x, .int .i64 K] w fun e w' => e = .returned (U32 y) ∧ Below w.heap.size w w' := by
  subst hy; exact rotl_pos x k K hK w hk
theorem qr_eq {s : List (BitVec 32)} {i j k l : Nat} {a0 b0 c0 d0 a1 d1 c1 b1 a2 d2 c2 b2 : BitVec 32} (ha : g32 s i = a0) (hb : g32 s j = b0) (hc : g32 s k = c0) (hd : g32 s l = d0)
    (h1 : a0 + b0 = a1) (h2 : Ch.rl (d0 ^^^ a1) 16 = d1) (h3 : c0 + d1 = c1) (h4 : Ch.rl (b0 ^^^ c1) 12 = b1) (h5 : a1 + b1 = a2) (h6 : Ch.rl (d1 ^^^ a2) 8 = d2) (h7 : c1 + d2 = c2) (h8 : Ch.rl (b1 ^^^ c2) 7 = b2) :
    (((s.set i a2).set j b2).set k c2).set l d2 = Ch.qr s i j k l := by
  subst ha hb hc hd h1 h2 h3 h4 h5 h6 h7 h8; rfl
attribute [local irreducible] Ch.rl
set_option maxRecDepth 100000 in
set_option maxHeartbeats 4000000 in
theorem quarter_m (w : World) (b : Nat) (s : List (BitVec 32)) (i j k l : Nat) (hs : s.length = 16) (hi : i < 16) (hj : j < 16) (hk : k < 16) (hl : l < 16) (M : Mm (fun g => g = b) w [(b, cs U32 s)] w) :
    Calls Tryd.prog 82 #[.pointer (some ⟨b, 0, none⟩), .int .i64 i, .int .i64 j, .int .i64 k, .int .i64 l] w fun e w' => e = .returned (.tuple #[]) ∧ Mm (fun g => g = b) w [(b, cs U32 (Ch.qr s i j k l))] w' := by
  obtain ⟨a0, ea0⟩ : ∃ x, g32 s i = x := ⟨_, rfl⟩
  obtain ⟨b0, eb0⟩ : ∃ x, g32 s j = x := ⟨_, rfl⟩
  obtain ⟨c0, ec0⟩ : ∃ x, g32 s k = x := ⟨_, rfl⟩
  obtain ⟨d0, ed0⟩ : ∃ x, g32 s l = x := ⟨_, rfl⟩
  obtain ⟨a1, ea1⟩ : ∃ x, a0 + b0 = x := ⟨_, rfl⟩
  obtain ⟨d1, ed1⟩ : ∃ x, Ch.rl (d0 ^^^ a1) 16 = x := ⟨_, rfl⟩
  obtain ⟨c1, ec1⟩ : ∃ x, c0 + d1 = x := ⟨_, rfl⟩
  obtain ⟨b1, eb1⟩ : ∃ x, Ch.rl (b0 ^^^ c1) 12 = x := ⟨_, rfl⟩
  obtain ⟨a2, ea2⟩ : ∃ x, a1 + b1 = x := ⟨_, rfl⟩
  obtain ⟨d2, ed2⟩ : ∃ x, Ch.rl (d1 ^^^ a2) 8 = x := ⟨_, rfl⟩
  obtain ⟨c2, ec2⟩ : ∃ x, c1 + d2 = x := ⟨_, rfl⟩
  obtain ⟨b2, eb2⟩ : ∃ x, Ch.rl (b1 ^^^ c2) 7 = x := ⟨_, rfl⟩
  have HQ := hid (qr_eq ea0 eb0 ec0 ed0 ea1 ed1 ec1 eb1 ea2 ed2 ec2 eb2)
  have Ha0 := hid ea0; have Hb0 := hid eb0; have Hc0 := hid ec0; have Hd0 := hid ed0
  have Ha1 := hid ea1; have Hd1 := hid ed1; have Hc1 := hid ec1; have Hb1 := hid eb1; have Ha2 := hid ea2; have Hd2 := hid ed2; have Hc2 := hid ec2; have Hb2 := hid eb2
  clear ea0 eb0 ec0 ed0 ea1 ed1 ec1 eb1 ea2 ed2 ec2 eb2
  have hi2 : (i : Int) < 16 := by omega
  have hj2 : (j : Int) < 16 := by omega
  have hk2 : (k : Int) < 16 := by omega
  have hl2 : (l : Int) < 16 := by omega
  have hi0 : (0 : Int) ≤ (i : Int) := by omega
  have hj0 : (0 : Int) ≤ (j : Int) := by omega
  have hk0 : (0 : Int) ≤ (k : Int) := by omega
  have hl0 : (0 : Int) ≤ (l : Int) := by omega
  go_enter Tryd.func82, Tryd.ntmps82
  go_upto_region 0 with fail
  refine wp_region_seq 24 [14, 15, 16, 17, 18, 19, 20, 21, 22, 23, 24, 25, 26, 27, 28, 29, 30, 31, 32, 33, 10, 11, 12, 13] [] [] [] (.done) (Mm (fun g => g = b) w _) (by kernel_rfl) (by kernel_rfl) (by kernel_rfl) (fun d _ _ _ _ h => by cases d <;> exact h) (by rfl) M.size (fun _ _ h k => h.sf k) M ?_
  simp only [List.take_succ_cons, List.take_zero]
  refine SeqA.pure (.pointer (some ⟨b, 0, none⟩)) (fun w' => by go_simp) rfl rfl ?_
  refine SeqA.pure (.int .i64 i) (fun w' => by go_simp) rfl rfl ?_
  refine SeqA.pure (.pointer (some ⟨b, 0, none⟩)) (fun w' => by go_simp) rfl rfl ?_
  refine SeqA.pure (.pointer (some ⟨b, i, none⟩)) (fun w' => by go_simp) rfl rfl ?_
  refine SeqA.read (U32 a0) (fun w' M => by have c0 := cell_g32 (M.row (b := b) (c := cs U32 s) (by simp)) (i := i) (by omega); rw [Ha0.out] at c0; go_simp) rfl rfl ?_
  simp only [Act.put, List.setIfInBounds_toArray, List.set_cons_succ, List.set_cons_zero]
  refine SeqA.pure (.pointer (some ⟨b, 0, none⟩)) (fun w' => by go_simp) rfl rfl ?_
  refine SeqA.pure (.int .i64 j) (fun w' => by go_simp) rfl rfl ?_
  refine SeqA.pure (.pointer (some ⟨b, 0, none⟩)) (fun w' => by go_simp) rfl rfl ?_
  refine SeqA.pure (.pointer (some ⟨b, j, none⟩)) (fun w' => by go_simp) rfl rfl ?_
  refine SeqA.read (U32 b0) (fun w' M => by have c0 := cell_g32 (M.row (b := b) (c := cs U32 s) (by simp)) (i := j) (by omega); rw [Hb0.out] at c0; go_simp) rfl rfl ?_
  refine SeqA.pure (.pointer (some ⟨b, 0, none⟩)) (fun w' => by go_simp) rfl rfl ?_
  simp only [Act.put, List.setIfInBounds_toArray, List.set_cons_succ, List.set_cons_zero]
  refine SeqA.pure (.int .i64 k) (fun w' => by go_simp) rfl rfl ?_
  refine SeqA.pure (.pointer (some ⟨b, 0, none⟩)) (fun w' => by go_simp) rfl rfl ?_
  refine SeqA.pure (.pointer (some ⟨b, k, none⟩)) (fun w' => by go_simp) rfl rfl ?_
  refine SeqA.read (U32 c0) (fun w' M => by have c0 := cell_g32 (M.row (b := b) (c := cs U32 s) (by simp)) (i := k) (by omega); rw [Hc0.out] at c0; go_simp) rfl rfl ?_
  refine SeqA.pure (.pointer (some ⟨b, 0, none⟩)) (fun w' => by go_simp) rfl rfl ?_
  refine SeqA.pure (.int .i64 l) (fun w' => by go_simp) rfl rfl ?_
  simp only [Act.put, List.setIfInBounds_toArray, List.set_cons_succ, List.set_cons_zero]
  refine SeqA.pure (.pointer (some ⟨b, 0, none⟩)) (fun w' => by go_simp) rfl rfl ?_
  refine SeqA.pure (.pointer (some ⟨b, l, none⟩)) (fun w' => by go_simp) rfl rfl ?_
  refine SeqA.read (U32 d0) (fun w' M => by have c0 := cell_g32 (M.row (b := b) (c := cs U32 s) (by simp)) (i := l) (by omega); rw [Hd0.out] at c0; go_simp) rfl rfl ?_
  refine SeqA.pure (U32 a0) (fun w' => by go_simp) rfl rfl ?_
  refine SeqA.pure (U32 b0) (fun w' => by go_simp) rfl rfl ?_
  refine SeqA.pure (U32 c0) (fun w' => by go_simp) rfl rfl ?_
  simp only [Act.put, List.setIfInBounds_toArray, List.set_cons_succ, List.set_cons_zero]
  refine SeqA.pure (U32 d0) (fun w' => by go_simp) rfl rfl ?_
  refine SeqA.nil (fun w1 M2 hz => ?_)
  show wpT _ _ _ _ _ _
  simp only [Act.put, List.setIfInBounds_toArray, List.set_cons_succ, List.set_cons_zero]
  dsimp only [wpT]
  go_upto_region 1 with fail
  refine wp_region_lin (.op 0 (.op 1 (.op 2 (.op 3 .done)))) (by rfl) ?_
  refine wpT_valp 34 (v := U32 a0) rfl rfl rfl (by go_simp) ?_
  refine wpT_valp 35 (v := U32 b0) rfl rfl rfl (by go_simp) ?_
  refine wpT_valp 36 (v := U32 a1) rfl rfl rfl (by have h := Ha1.out; go_simp) ?_
  refine wpT_valp 10 (v := U32 a1) rfl rfl rfl (by go_simp) ?_
  dsimp only [wpT]
  try simp only [Act.put, List.setIfInBounds_toArray, List.set_cons_succ, List.set_cons_zero]
  go_upto_region 2 with fail
  refine wp_region_lin (.op 0 (.op 1 (.op 2 (.op 3 (.op 4 .done))))) (by rfl) ?_
  refine wpT_valp 37 (v := U32 d0) rfl rfl rfl (by go_simp) ?_
  refine wpT_valp 38 (v := U32 a1) rfl rfl rfl (by go_simp) ?_
  refine wpT_valp 39 (v := U32 (d0 ^^^ a1)) rfl rfl rfl (by go_simp) ?_
  refine wpT_callv 40 M2 (v := U32 d1) rfl rfl rfl (by go_simp) (rotl_v w1 (d0 ^^^ a1) 16 16 rfl (by decide) d1 Hd1.out) (fun w3 M4 => ?_)
  try simp only [Act.put, List.setIfInBounds_toArray, List.set_cons_succ, List.set_cons_zero]
  refine wpT_valp 13 (v := U32 d1) rfl rfl rfl (by go_simp) ?_
  dsimp only [wpT]
  try simp only [Act.put, List.setIfInBounds_toArray, List.set_cons_succ, List.set_cons_zero]
  go_upto_region 3 with fail
  refine wp_region_lin (.op 0 (.op 1 (.op 2 (.op 3 .done)))) (by rfl) ?_
  refine wpT_valp 41 (v := U32 c0) rfl rfl rfl (by go_simp) ?_
  refine wpT_valp 42 (v := U32 d1) rfl rfl rfl (by go_simp) ?_
  refine wpT_valp 43 (v := U32 c1) rfl rfl rfl (by have h := Hc1.out; go_simp) ?_
  refine wpT_valp 12 (v := U32 c1) rfl rfl rfl (by go_simp) ?_
  dsimp only [wpT]
  try simp only [Act.put, List.setIfInBounds_toArray, List.set_cons_succ, List.set_cons_zero]
  go_upto_region 4 with fail
  refine wp_region_lin (.op 0 (.op 1 (.op 2 (.op 3 (.op 4 .done))))) (by rfl) ?_
  refine wpT_valp 44 (v := U32 b0) rfl rfl rfl (by go_simp) ?_
  refine wpT_valp 45 (v := U32 c1) rfl rfl rfl (by go_simp) ?_
  refine wpT_valp 46 (v := U32 (b0 ^^^ c1)) rfl rfl rfl (by go_simp) ?_
  refine wpT_callv 47 M4 (v := U32 b1) rfl rfl rfl (by go_simp) (rotl_v w3 (b0 ^^^ c1) 12 12 rfl (by decide) b1 Hb1.out) (fun w5 M6 => ?_)
  try simp only [Act.put, List.setIfInBounds_toArray, List.set_cons_succ, List.set_cons_zero]
  refine wpT_valp 11 (v := U32 b1) rfl rfl rfl (by go_simp) ?_
  dsimp only [wpT]
  try simp only [Act.put, List.setIfInBounds_toArray, List.set_cons_succ, List.set_cons_zero]
  go_upto_region 5 with fail
  refine wp_region_lin (.op 0 (.op 1 (.op 2 (.op 3 .done)))) (by rfl) ?_
  refine wpT_valp 48 (v := U32 a1) rfl rfl rfl (by go_simp) ?_
  refine wpT_valp 49 (v := U32 b1) rfl rfl rfl (by go_simp) ?_
  refine wpT_valp 50 (v := U32 a2) rfl rfl rfl (by have h := Ha2.out; go_simp) ?_
  refine wpT_valp 10 (v := U32 a2) rfl rfl rfl (by go_simp) ?_
  dsimp only [wpT]
  try simp only [Act.put, List.setIfInBounds_toArray, List.set_cons_succ, List.set_cons_zero]
  go_upto_region 6 with fail
  refine wp_region_lin (.op 0 (.op 1 (.op 2 (.op 3 (.op 4 .done))))) (by rfl) ?_
  refine wpT_valp 51 (v := U32 d1) rfl rfl rfl (by go_simp) ?_
  refine wpT_valp 52 (v := U32 a2) rfl rfl rfl (by go_simp) ?_
  refine wpT_valp 53 (v := U32 (d1 ^^^ a2)) rfl rfl rfl (by go_simp) ?_
  refine wpT_callv 54 M6 (v := U32 d2) rfl rfl rfl (by go_simp) (rotl_v w5 (d1 ^^^ a2) 8 8 rfl (by decide) d2 Hd2.out) (fun w7 M8 => ?_)
  try simp only [Act.put, List.setIfInBounds_toArray, List.set_cons_succ, List.set_cons_zero]
  refine wpT_valp 13 (v := U32 d2) rfl rfl rfl (by go_simp) ?_
  dsimp only [wpT]
  try simp only [Act.put, List.setIfInBounds_toArray, List.set_cons_succ, List.set_cons_zero]
  go_upto_region 7 with fail
  refine wp_region_lin (.op 0 (.op 1 (.op 2 (.op 3 .done)))) (by rfl) ?_
  refine wpT_valp 55 (v := U32 c1) rfl rfl rfl (by go_simp) ?_
  refine wpT_valp 56 (v := U32 d2) rfl rfl rfl (by go_simp) ?_
  refine wpT_valp 57 (v := U32 c2) rfl rfl rfl (by have h := Hc2.out; go_simp) ?_
  refine wpT_valp 12 (v := U32 c2) rfl rfl rfl (by go_simp) ?_
  dsimp only [wpT]
  try simp only [Act.put, List.setIfInBounds_toArray, List.set_cons_succ, List.set_cons_zero]
  go_upto_region 8 with fail
  refine wp_region_lin (.op 0 (.op 1 (.op 2 (.op 3 (.op 4 .done))))) (by rfl) ?_
  refine wpT_valp 58 (v := U32 b1) rfl rfl rfl (by go_simp) ?_
  refine wpT_valp 59 (v := U32 c2) rfl rfl rfl (by go_simp) ?_
  refine wpT_valp 60 (v := U32 (b1 ^^^ c2)) rfl rfl rfl (by go_simp) ?_
  refine wpT_callv 61 M8 (v := U32 b2) rfl rfl rfl (by go_simp) (rotl_v w7 (b1 ^^^ c2) 7 7 rfl (by decide) b2 Hb2.out) (fun w9 M10 => ?_)
  try simp only [Act.put, List.setIfInBounds_toArray, List.set_cons_succ, List.set_cons_zero]
  refine wpT_valp 11 (v := U32 b2) rfl rfl rfl (by go_simp) ?_
  dsimp only [wpT]
  try simp only [Act.put, List.setIfInBounds_toArray, List.set_cons_succ, List.set_cons_zero]
  go_upto_region 9 with fail
  refine wp_region_X (fun _ => True) (.yld [0, 1, 2, 3, 4, 5, 6, 7, 8, 9, 10, 11, 12, 15, 18, 21, 13] (.op 14 (.yld [16] (.op 17 (.yld [19] (.op 20 (.yld [22] (.op 23 .done)))))))) (by kernel_rfl) (by kernel_rfl) (by kernel_rfl) (fun d _ _ _ _ h => by cases d <;> exact h) ?_
  refine wpX_yld ?_
  refine wpYJd_op 62 (.pointer (some ⟨b, 0, none⟩)) rfl rfl rfl (fun w1 _ => by go_simp) ?_
  refine wpYJd_op 63 (.int .i64 i) rfl rfl rfl (fun w1 _ => by go_simp) ?_
  refine wpYJd_op 64 (.pointer (some ⟨b, 0, none⟩)) rfl rfl rfl (fun w1 _ => by go_simp) ?_
  refine wpYJd_op 65 (.int .i64 j) rfl rfl rfl (fun w1 _ => by go_simp) ?_
  refine wpYJd_op 66 (.pointer (some ⟨b, 0, none⟩)) rfl rfl rfl (fun w1 _ => by go_simp) ?_
  refine wpYJd_op 67 (.int .i64 k) rfl rfl rfl (fun w1 _ => by go_simp) ?_
  try simp only [Act.put, List.setIfInBounds_toArray, List.set_cons_succ, List.set_cons_zero]
  refine wpYJd_op 68 (.pointer (some ⟨b, 0, none⟩)) rfl rfl rfl (fun w1 _ => by go_simp) ?_
  refine wpYJd_op 69 (.int .i64 l) rfl rfl rfl (fun w1 _ => by go_simp) ?_
  refine wpYJd_op 70 (U32 a2) rfl rfl rfl (fun w1 _ => by go_simp) ?_
  refine wpYJd_op 71 (U32 b2) rfl rfl rfl (fun w1 _ => by go_simp) ?_
  refine wpYJd_op 72 (U32 c2) rfl rfl rfl (fun w1 _ => by go_simp) ?_
  refine wpYJd_op 73 (U32 d2) rfl rfl rfl (fun w1 _ => by go_simp) ?_
  try simp only [Act.put, List.setIfInBounds_toArray, List.set_cons_succ, List.set_cons_zero]
  refine wpYJd_op 74 (.pointer (some ⟨b, 0, none⟩)) rfl rfl rfl (fun w1 _ => by go_simp) ?_
  refine wpYJd_op 76 (.pointer (some ⟨b, 0, none⟩)) rfl rfl rfl (fun w1 _ => by go_simp) ?_
  refine wpYJd_op 78 (.pointer (some ⟨b, 0, none⟩)) rfl rfl rfl (fun w1 _ => by go_simp) ?_
  refine wpYJd_op 80 (.pointer (some ⟨b, 0, none⟩)) rfl rfl rfl (fun w1 _ => by go_simp) ?_
  refine wpYJd_op 75 (.pointer (some ⟨b, i, none⟩)) rfl rfl rfl (fun w1 _ => by go_simp) ?_
  show wpX _ _ _ _ _ _ _
  try simp only [Act.put, List.setIfInBounds_toArray, List.set_cons_succ, List.set_cons_zero]
  have N0 := M10.drewN 1
  change wpX _ _ _ _ _ _ (w9.drewN 1)
  refine ⟨trivial, stcX N0 0 (U32 a2) (cs U32 (s.set i a2)) inf_u32 rfl rfl rfl rfl (by go_simp) (by go_simp) (by simp; omega) (by simp [go_sem]) (cs_set32 _ _) rfl (fun v1 N1 => ?_)⟩
  dsimp only [List.set] at N1
  show wpX _ _ _ _ _ _ _
  refine wpX_yld ?_
  refine wpYJd_op 77 (.pointer (some ⟨b, j, none⟩)) rfl rfl rfl (fun w1 _ => by go_simp) ?_
  refine ⟨trivial, stcX N1 0 (U32 b2) (cs U32 ((s.set i a2).set j b2)) inf_u32 rfl rfl rfl rfl (by go_simp) (by go_simp) (by simp; omega) (by simp [go_sem]) (cs_set32 _ _) rfl (fun v2 N2 => ?_)⟩
  dsimp only [List.set] at N2
  show wpX _ _ _ _ _ _ _
  refine wpX_yld ?_
  refine wpYJd_op 79 (.pointer (some ⟨b, k, none⟩)) rfl rfl rfl (fun w1 _ => by go_simp) ?_
  refine ⟨trivial, stcX N2 0 (U32 c2) (cs U32 (((s.set i a2).set j b2).set k c2)) inf_u32 rfl rfl rfl rfl (by go_simp) (by go_simp) (by simp; omega) (by simp [go_sem]) (cs_set32 _ _) rfl (fun v3 N3 => ?_)⟩
  dsimp only [List.set] at N3
  show wpX _ _ _ _ _ _ _
  refine wpX_yld ?_
  refine wpYJd_op 81 (.pointer (some ⟨b, l, none⟩)) rfl rfl rfl (fun w1 _ => by go_simp) ?_
  refine ⟨trivial, stcX N3 0 (U32 d2) (cs U32 ((((s.set i a2).set j b2).set k c2).set l d2)) inf_u32 rfl rfl rfl rfl (by go_simp) (by go_simp) (by simp; omega) (by simp [go_sem]) (cs_set32 _ _) rfl (fun v4 N4 => ?_)⟩
  dsimp only [List.set] at N4
  refine ⟨trivial, ?_⟩
  rw [HQ.out] at N4
  go_end0
  exact ⟨rfl, N4⟩
end Go.Proofs.YtbigmnhjnjeeaaaDoor
set_option linter.unusedSimpArgs false
set_option linter.unusedVariables false
namespace Go.Proofs.YtbigmnhjnjeeaaaDoor
open Go.RowKit
theorem quarter_v (w : World) (b : Nat) (s s' : List (BitVec 32)) (i j k l : Nat) (hs : s.length = 16) (hi : i < 16) (hj : j < 16) (hk : k < 16) (hl : l < 16) (he : Ch.qr s i j k l = s') (M : Mm (fun g => g = b) w [(b, cs U32 s)] w) :
    Calls Tryd.prog 82 #[.pointer (some ⟨b, 0, none⟩), .int .i64 i, .int .i64 j, .int .i64 k, .int .i64 l] w fun e w' => e = .returned (.tuple #[]) ∧ Mm (fun g => g = b) w [(b, cs U32 s')] w' := by
  subst he; exact quarter_m w b s i j k l hs hi hj hk hl M
set_option maxRecDepth 100000 in
set_option maxHeartbeats 4000000 in
theorem double_m (w : World) (b : Nat) (s : List (BitVec 32)) (hs : s.length = 16) (M : Mm (fun g => g = b) w [(b, cs U32 s)] w) :
    Calls Tryd.prog 73 #[.pointer (some ⟨b, 0, none⟩)] w fun e w' => e = .returned (.tuple #[]) ∧ Mm (fun g => g = b) w [(b, cs U32 (Ch.dbl s))] w' := by
  obtain ⟨s0, e0⟩ : ∃ x, s = x := ⟨_, rfl⟩
  obtain ⟨s1, e1⟩ : ∃ x, Ch.qr s0 0 4 8 12 = x := ⟨_, rfl⟩
  obtain ⟨s2, e2⟩ : ∃ x, Ch.qr s1 1 5 9 13 = x := ⟨_, rfl⟩
  obtain ⟨s3, e3⟩ : ∃ x, Ch.qr s2 2 6 10 14 = x := ⟨_, rfl⟩
  obtain ⟨s4, e4⟩ : ∃ x, Ch.qr s3 3 7 11 15 = x := ⟨_, rfl⟩
  obtain ⟨s5, e5⟩ : ∃ x, Ch.qr s4 0 5 10 15 = x := ⟨_, rfl⟩
  obtain ⟨s6, e6⟩ : ∃ x, Ch.qr s5 1 6 11 12 = x := ⟨_, rfl⟩
  obtain ⟨s7, e7⟩ : ∃ x, Ch.qr s6 2 7 8 13 = x := ⟨_, rfl⟩
  obtain ⟨s8, e8⟩ : ∃ x, Ch.qr s7 3 4 9 14 = x := ⟨_, rfl⟩
  have hd : Ch.dbl s = s8 := by unfold Ch.dbl; rw [e0, e1, e2, e3, e4, e5, e6, e7, e8]
  have l0 : s0.length = 16 := by rw [← e0, hs]
  have l1 : s1.length = 16 := by rw [← e1, qr_len, l0]
  have l2 : s2.length = 16 := by rw [← e2, qr_len, l1]
  have l3 : s3.length = 16 := by rw [← e3, qr_len, l2]
  have l4 : s4.length = 16 := by rw [← e4, qr_len, l3]
  have l5 : s5.length = 16 := by rw [← e5, qr_len, l4]
  have l6 : s6.length = 16 := by rw [← e6, qr_len, l5]
  have l7 : s7.length = 16 := by rw [← e7, qr_len, l6]
  rw [hd]
  rw [e0] at M
  have HL0 := hid l0; have HL1 := hid l1; have HL2 := hid l2; have HL3 := hid l3; have HL4 := hid l4; have HL5 := hid l5; have HL6 := hid l6; have HL7 := hid l7
  have HE0 := hid e1; have HE1 := hid e2; have HE2 := hid e3; have HE3 := hid e4; have HE4 := hid e5; have HE5 := hid e6; have HE6 := hid e7; have HE7 := hid e8
  clear l0 l1 l2 l3 l4 l5 l6 l7 e0 e1 e2 e3 e4 e5 e6 e7 e8 hd hs
  go_enter Tryd.func73, Tryd.ntmps73
  go_upto_region 0 with fail
  refine wp_region_lin (.op 0 (.op 1 .done)) (by rfl) ?_
  refine wpT_valp 2 (v := .pointer (some ⟨b, 0, none⟩)) rfl rfl rfl (by go_simp) ?_
  refine wpT_callm 3 M 0 (C' := cs U32 s1) (v := .tuple #[]) rfl rfl rfl rfl (by go_simp) (quarter_v w b s0 s1 0 4 8 12 HL0.out (by decide) (by decide) (by decide) (by decide) HE0.out (M.loc' (k := 0) rfl)) (fun w1 M2 _ => ?_)
  dsimp only [List.set] at M2
  dsimp only [wpT]
  try simp only [Act.put, List.setIfInBounds_toArray, List.set_cons_succ, List.set_cons_zero]
  go_upto_region 1 with fail
  refine wp_region_lin (.op 0 (.op 1 .done)) (by rfl) ?_
  refine wpT_valp 4 (v := .pointer (some ⟨b, 0, none⟩)) rfl rfl rfl (by go_simp) ?_
  refine wpT_callm 5 M2 0 (C' := cs U32 s2) (v := .tuple #[]) rfl rfl rfl rfl (by go_simp) (quarter_v w1 b s1 s2 1 5 9 13 HL1.out (by decide) (by decide) (by decide) (by decide) HE1.out (M2.loc' (k := 0) rfl)) (fun w3 M4 _ => ?_)
  dsimp only [List.set] at M4
  dsimp only [wpT]
  try simp only [Act.put, List.setIfInBounds_toArray, List.set_cons_succ, List.set_cons_zero]
  go_upto_region 2 with fail
  refine wp_region_lin (.op 0 (.op 1 .done)) (by rfl) ?_
  refine wpT_valp 6 (v := .pointer (some ⟨b, 0, none⟩)) rfl rfl rfl (by go_simp) ?_
  refine wpT_callm 7 M4 0 (C' := cs U32 s3) (v := .tuple #[]) rfl rfl rfl rfl (by go_simp) (quarter_v w3 b s2 s3 2 6 10 14 HL2.out (by decide) (by decide) (by decide) (by decide) HE2.out (M4.loc' (k := 0) rfl)) (fun w5 M6 _ => ?_)
  dsimp only [List.set] at M6
  dsimp only [wpT]
  try simp only [Act.put, List.setIfInBounds_toArray, List.set_cons_succ, List.set_cons_zero]
  go_upto_region 3 with fail
  refine wp_region_lin (.op 0 (.op 1 .done)) (by rfl) ?_
  refine wpT_valp 8 (v := .pointer (some ⟨b, 0, none⟩)) rfl rfl rfl (by go_simp) ?_
  refine wpT_callm 9 M6 0 (C' := cs U32 s4) (v := .tuple #[]) rfl rfl rfl rfl (by go_simp) (quarter_v w5 b s3 s4 3 7 11 15 HL3.out (by decide) (by decide) (by decide) (by decide) HE3.out (M6.loc' (k := 0) rfl)) (fun w7 M8 _ => ?_)
  dsimp only [List.set] at M8
  dsimp only [wpT]
  try simp only [Act.put, List.setIfInBounds_toArray, List.set_cons_succ, List.set_cons_zero]
  go_upto_region 4 with fail
  refine wp_region_lin (.op 0 (.op 1 .done)) (by rfl) ?_
  refine wpT_valp 10 (v := .pointer (some ⟨b, 0, none⟩)) rfl rfl rfl (by go_simp) ?_
  refine wpT_callm 11 M8 0 (C' := cs U32 s5) (v := .tuple #[]) rfl rfl rfl rfl (by go_simp) (quarter_v w7 b s4 s5 0 5 10 15 HL4.out (by decide) (by decide) (by decide) (by decide) HE4.out (M8.loc' (k := 0) rfl)) (fun w9 M10 _ => ?_)
  dsimp only [List.set] at M10
  dsimp only [wpT]
  try simp only [Act.put, List.setIfInBounds_toArray, List.set_cons_succ, List.set_cons_zero]
  go_upto_region 5 with fail
  refine wp_region_lin (.op 0 (.op 1 .done)) (by rfl) ?_
  refine wpT_valp 12 (v := .pointer (some ⟨b, 0, none⟩)) rfl rfl rfl (by go_simp) ?_
  refine wpT_callm 13 M10 0 (C' := cs U32 s6) (v := .tuple #[]) rfl rfl rfl rfl (by go_simp) (quarter_v w9 b s5 s6 1 6 11 12 HL5.out (by decide) (by decide) (by decide) (by decide) HE5.out (M10.loc' (k := 0) rfl)) (fun w11 M12 _ => ?_)
  dsimp only [List.set] at M12
  dsimp only [wpT]
  try simp only [Act.put, List.setIfInBounds_toArray, List.set_cons_succ, List.set_cons_zero]
  go_upto_region 6 with fail
  refine wp_region_lin (.op 0 (.op 1 .done)) (by rfl) ?_
  refine wpT_valp 14 (v := .pointer (some ⟨b, 0, none⟩)) rfl rfl rfl (by go_simp) ?_
  refine wpT_callm 15 M12 0 (C' := cs U32 s7) (v := .tuple #[]) rfl rfl rfl rfl (by go_simp) (quarter_v w11 b s6 s7 2 7 8 13 HL6.out (by decide) (by decide) (by decide) (by decide) HE6.out (M12.loc' (k := 0) rfl)) (fun w13 M14 _ => ?_)
  dsimp only [List.set] at M14
  dsimp only [wpT]
  try simp only [Act.put, List.setIfInBounds_toArray, List.set_cons_succ, List.set_cons_zero]
  go_upto_region 7 with fail
  refine wp_region_lin (.op 0 (.op 1 .done)) (by rfl) ?_
  refine wpT_valp 16 (v := .pointer (some ⟨b, 0, none⟩)) rfl rfl rfl (by go_simp) ?_
  refine wpT_callm 17 M14 0 (C' := cs U32 s8) (v := .tuple #[]) rfl rfl rfl rfl (by go_simp) (quarter_v w13 b s7 s8 3 4 9 14 HL7.out (by decide) (by decide) (by decide) (by decide) HE7.out (M14.loc' (k := 0) rfl)) (fun w15 M16 _ => ?_)
  dsimp only [List.set] at M16
  dsimp only [wpT]
  try simp only [Act.put, List.setIfInBounds_toArray, List.set_cons_succ, List.set_cons_zero]
  go_wp2_with fail
  go_end0
  exact ⟨rfl, M16⟩
/-- four bytes at a place -/
def C4 (w : World) (b o : Nat) (x0 x1 x2 x3 : BitVec 8) : Prop := w.cell? ⟨b, o, none⟩ = some (U8 x0) ∧ w.cell? ⟨b, o + 1, none⟩ = some (U8 x1) ∧ w.cell? ⟨b, o + 2, none⟩ = some (U8 x2) ∧ w.cell? ⟨b, o + 3, none⟩ = some (U8 x3)
theorem cell_bel {w w' : World} {b o : Nat} {v : Value} (h : w.cell? ⟨b, o, none⟩ = some v) (hb : Below w.heap.size w w') : w'.cell? ⟨b, o, none⟩ = some v := by
  rw [← h]
  rw [cell_rowOf] at h
  exact World.cell?_of_block (a := ⟨b, o, none⟩) (hb.block b (row_lt (Array.getElem?_eq_some_iff.1 h).1))
theorem C4.below {w w' : World} {b o : Nat} {x0 x1 x2 x3 : BitVec 8} (h : C4 w b o x0 x1 x2 x3) (hb : Below w.heap.size w w') : C4 w' b o x0 x1 x2 x3 := ⟨cell_bel h.1 hb, cell_bel h.2.1 hb, cell_bel h.2.2.1 hb, cell_bel h.2.2.2 hb⟩
set_option maxRecDepth 100000 in
set_option maxHeartbeats 2000000 in
theorem chword (w : World) (b o n c : Nat) (x0 x1 x2 x3 : BitVec 8) (h4 : 4 ≤ n) (h : C4 w b o x0 x1 x2 x3) :
    Calls Tryd.prog 81 #[.slice (some ⟨b, o, none⟩) n c] w fun e w' => e = .returned (U32 (x0.setWidth 32 ||| (x1.setWidth 32 <<< 8) ||| (x2.setWidth 32 <<< 16) ||| (x3.setWidth 32 <<< 24))) ∧ Below w.heap.size w w' := by
  have HC := hid (fun H w' (M : Mm no w H w') => h.below M.end_)
  have n0 : ¬ n = 0 := by omega
  have n1 : (1 : Int) < (n : Int) := by omega
  have n2 : (2 : Int) < (n : Int) := by omega
  have n3 : (3 : Int) < (n : Int) := by omega
  clear h
  have M0 := Mm.start no w
  go_enter Tryd.func81, Tryd.ntmps81
  go_upto_region 1 with fail
  refine wp_region_seq 23 [3, 4, 5, 6, 7, 8, 9, 10, 11, 12, 13, 14, 15, 16, 17, 18, 19, 20, 21, 22, 23, 24, 2] [] [] [] (.done) (Mm no w _) (by kernel_rfl) (by kernel_rfl) (by kernel_rfl) (fun d _ _ _ _ h => by cases d <;> exact h) (by rfl) M0.size (fun _ _ h k => h.sf k) M0 ?_
  simp only [List.take_succ_cons, List.take_zero]
  refine SeqA.pure (.slice (some ⟨b, o, none⟩) n c) (fun w' => by go_simp) rfl rfl ?_
  refine SeqA.pure (.pointer (some ⟨b, o, none⟩)) (fun w' => by go_simp) rfl rfl ?_
  refine SeqA.read (U8 x0) (fun w' M => by have c0 := (HC.out _ _ M).1; go_simp) rfl rfl ?_
  refine SeqA.pure (U32 (x0.setWidth 32)) (fun w' => by go_simp) rfl rfl ?_
  refine SeqA.pure (.slice (some ⟨b, o, none⟩) n c) (fun w' => by go_simp) rfl rfl ?_
  simp only [Act.put, List.setIfInBounds_toArray, List.set_cons_succ, List.set_cons_zero]
  refine SeqA.pure (.pointer (some ⟨b, o + 1, none⟩)) (fun w' => by go_simp) rfl rfl ?_
  refine SeqA.read (U8 x1) (fun w' M => by have c0 := (HC.out _ _ M).2.1; go_simp) rfl rfl ?_
  refine SeqA.pure (U32 (x1.setWidth 32)) (fun w' => by go_simp) rfl rfl ?_
  refine SeqA.pure (U32 (x1.setWidth 32 <<< 8)) (fun w' => by go_simp) rfl rfl ?_
  refine SeqA.pure (U32 (x0.setWidth 32 ||| (x1.setWidth 32 <<< 8))) (fun w' => by go_simp) rfl rfl ?_
  refine SeqA.pure (.slice (some ⟨b, o, none⟩) n c) (fun w' => by go_simp) rfl rfl ?_
  simp only [Act.put, List.setIfInBounds_toArray, List.set_cons_succ, List.set_cons_zero]
  refine SeqA.pure (.pointer (some ⟨b, o + 2, none⟩)) (fun w' => by go_simp) rfl rfl ?_
  refine SeqA.read (U8 x2) (fun w' M => by have c0 := (HC.out _ _ M).2.2.1; go_simp) rfl rfl ?_
  refine SeqA.pure (U32 (x2.setWidth 32)) (fun w' => by go_simp) rfl rfl ?_
  refine SeqA.pure (U32 (x2.setWidth 32 <<< 16)) (fun w' => by go_simp) rfl rfl ?_
  refine SeqA.pure (U32 (x0.setWidth 32 ||| (x1.setWidth 32 <<< 8) ||| (x2.setWidth 32 <<< 16))) (fun w' => by go_simp) rfl rfl ?_
  refine SeqA.pure (.slice (some ⟨b, o, none⟩) n c) (fun w' => by go_simp) rfl rfl ?_
  simp only [Act.put, List.setIfInBounds_toArray, List.set_cons_succ, List.set_cons_zero]
  refine SeqA.pure (.pointer (some ⟨b, o + 3, none⟩)) (fun w' => by go_simp) rfl rfl ?_
  refine SeqA.read (U8 x3) (fun w' M => by have c0 := (HC.out _ _ M).2.2.2; go_simp) rfl rfl ?_
  refine SeqA.pure (U32 (x3.setWidth 32)) (fun w' => by go_simp) rfl rfl ?_
  refine SeqA.pure (U32 (x3.setWidth 32 <<< 24)) (fun w' => by go_simp) rfl rfl ?_
  refine SeqA.pure (U32 (x0.setWidth 32 ||| (x1.setWidth 32 <<< 8) ||| (x2.setWidth 32 <<< 16) ||| (x3.setWidth 32 <<< 24))) (fun w' => by go_simp) rfl rfl ?_
  refine SeqA.pure (U32 (x0.setWidth 32 ||| (x1.setWidth 32 <<< 8) ||| (x2.setWidth 32 <<< 16) ||| (x3.setWidth 32 <<< 24))) (fun w' => by go_simp) rfl rfl ?_
  refine SeqA.nil (fun w1 M2 hz => ?_)
  show wpT _ _ _ _ _ _
  simp only [Act.put, List.setIfInBounds_toArray, List.set_cons_succ, List.set_cons_zero]
  dsimp only [wpT]
  go_wp2_with fail
  go_ret
  exact ⟨rfl, M2.end_⟩
end Go.Proofs.YtbigmnhjnjeeaaaDoor
