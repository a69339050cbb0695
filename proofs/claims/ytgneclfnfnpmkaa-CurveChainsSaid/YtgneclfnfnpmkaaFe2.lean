/-
  Walks of package fe: sums; own work.
-/
import Derived.Test.YtgneclfnfnpmkaaFlow2
import Derived.Test.YtgneclfnfnpmkaaSeq3
import Derived.Test.YtgneclfnfnpmkaaFeP
import Derived.Deep.Cut
import Derived.Deep.CutBlock
set_option linter.unusedSimpArgs false
set_option linter.unusedVariables false
namespace Go.Proofs.Ytgneclfnfnpmkaa
open Go.RowKit Fp
theorem inf_num : (Try.prog.info? 42).map (·.size) = some 4 := by kernel_rfl
section
variable (ρ : Operand → Value) (dst : Option Tmp) (ty : TypeId) (pos : String) (after : Array Edge) (guard : Option (Nat × Bool)) (w : World)
@[go_sem ↓] theorem rl_num (x : Operand) : (execOp ρ { dst, op := .load 42 x, type := ty, pos, after, guard }).run Try.prog w = exLoad Try.prog 42 (ρ x) w := x_load ..
@[go_sem ↓] theorem rs_num (x y : Operand) : (execOp ρ { dst, op := .store 42 x y, type := ty, pos, after, guard }).run Try.prog w = exStore Try.prog 42 (ρ x) (ρ y) w := x_store ..
@[go_sem ↓] theorem ra_num : (execOp ρ { dst, op := .alloc 42, type := ty, pos, after, guard }).run Try.prog w = .ok (.value (.pointer (some ⟨w.heap.size, 0, none⟩))) (w.alloc (.cells (cs N64 (limbs 0)) 42)) :=
  (x_alloc ..).trans (x_alloc0 (v := .agg (cs N64 (limbs 0))) _ (by kernel_rfl))
@[go_sem] theorem xl_num (b : Nat) (h : (w.rowOf b).size = 4) : exLoad Try.prog 42 (.pointer (some ⟨b, 0, none⟩)) w = .ok (.value (.agg (w.rowOf b))) w := x_load0 _ Try.underlying42 rfl inf_num b h
@[go_sem] theorem xlm_num (b o : Nat) (ho : 0 < o) (h : o + 4 ≤ (w.rowOf b).size) : exLoad Try.prog 42 (.pointer (some ⟨b, o, none⟩)) w = .ok (.value (.agg ((w.rowOf b).extract o (o + 4)))) w := x_loadm _ Try.underlying42 rfl inf_num b o h
@[go_sem] theorem xs_num (b : Nat) (c : Array Value) (hl : c.size = 4) (h1 : ones c = true) (h : (w.rowOf b).size = 4) (hf : w.free b = true) : exStore Try.prog 42 (.pointer (some ⟨b, 0, none⟩)) (.agg c) w = .ok .skip (w.setRow b c) :=
  x_store0 _ inf_num b c hl h hf (ones_all h1)
@[go_sem] theorem xsm_num (b o : Nat) (ho : 0 < o) (c : Array Value) (hl : c.size = 4) (h1 : ones c = true) (h : o + 4 ≤ (w.rowOf b).size) (hf : w.free b = true) : exStore Try.prog 42 (.pointer (some ⟨b, o, none⟩)) (.agg c) w = .ok .skip (w.setSeg b o c) :=
  x_storem _ inf_num b o c hl h hf (ones_all h1)
end
/-- at a step: a store, and a variable made -/
theorem wps_num {a : Act} {w : World} {K : Act → World → Prop} {Q : Exit → Act → World → Prop} {o : Oper} (p x : Operand) (ho : o.op = .store 42 p x) (b : Nat) (c : Array Value) (hp : a.eval p = .pointer (some ⟨b, 0, none⟩)) (hx : a.eval x = .agg c)
    (hl : c.size = 4) (h1 : ones c = true) (h : (w.rowOf b).size = 4) (hf : w.free b = true) (hK : K (a.put o.dst undef) (w.setRow b c)) : o.wp Try.prog a w K Q := by
  obtain ⟨dst, op, ty, pos, after, guard⟩ := o
  subst ho
  unfold Oper.wp
  rw [rs_num, hp, hx, xs_num _ _ _ hl h1 h hf]
  simp only [Oper.upon]
  exact hK
theorem wpa_num {a : Act} {w : World} {K : Act → World → Prop} {Q : Exit → Act → World → Prop} {o : Oper} (ho : o.op = .alloc 42)
    (hK : K (a.put o.dst (.pointer (some ⟨w.heap.size, 0, none⟩))) (w.alloc (.cells (cs N64 (limbs 0)) 42))) : o.wp Try.prog a w K Q := by
  obtain ⟨dst, op, ty, pos, after, guard⟩ := o
  subst ho
  unfold Oper.wp
  rw [ra_num]
  simp only [Oper.upon]
  exact hK

theorem inf_u64 : (Try.prog.info? 40).map (·.size) = some 1 := by kernel_rfl
section
variable (ρ : Operand → Value) (dst : Option Tmp) (ty : TypeId) (pos : String) (after : Array Edge) (guard : Option (Nat × Bool)) (w : World)
@[go_sem ↓] theorem rs_u64 (x y : Operand) : (execOp ρ { dst, op := .store 40 x y, type := ty, pos, after, guard }).run Try.prog w = exStore Try.prog 40 (ρ x) (ρ y) w := x_store ..
@[go_sem] theorem xs_u64 (b o : Nat) (v : Value) (hv : ones1 v = true) (ho : o < (w.rowOf b).size) (hf : w.free b = true) : exStore Try.prog 40 (.pointer (some ⟨b, o, none⟩)) v w = .ok .skip (w.setRow b ((w.rowOf b).setIfInBounds o v)) :=
  x_storec inf_u64 w b o v hv ho hf
end

theorem cell_cs {α : Type} {f : α → Value} (d : α) {w : World} {b : Nat} {L : List α} (h : w.rowOf b = cs f L) {i : Nat} (hi : i < L.length) : w.cell? ⟨b, i, none⟩ = some (f (L.getD i d)) := by
  rw [cell_rowOf, h, cs_get_lt hi, List.getD_eq_getElem?_getD, List.getElem?_eq_getElem hi]; rfl
def gN (l : List Nat) (i : Nat) : Nat := l.getD i 0
def g8 (l : List (BitVec 8)) (i : Nat) : BitVec 8 := l.getD i 0
theorem cell_gN {w : World} {b : Nat} {L : List Nat} (h : w.rowOf b = cs N64 L) {i : Nat} (hi : i < L.length) : w.cell? ⟨b, i, none⟩ = some (N64 (gN L i)) := cell_cs (f := N64) 0 h hi
theorem cell_g8 {w : World} {b : Nat} {L : List (BitVec 8)} (h : w.rowOf b = cs U8 L) {i : Nat} (hi : i < L.length) : w.cell? ⟨b, i, none⟩ = some (U8 (g8 L i)) := cell_cs (f := U8) 0 h hi
theorem add64i (x y c : Nat) (X Y C : Int) (hX : (x : Int) = X) (hY : (y : Int) = Y) (hC : (c : Int) = C) (hc : c ≤ 1) (w : World) : (callFunc 56 #[.int .u64 X, .int .u64 Y, .int .u64 C]).run Try.prog w =
    .ok (.value (.tuple #[N64 ((x + y + c) % 18446744073709551616), N64 ((x + y + c) / 18446744073709551616)])) w := by
  subst hX; subst hY; subst hC; exact add64 x y c hc w
def bw (a c : Nat) : Nat := if a < c then 1 else 0
theorem sub64i (x y b : Nat) (X Y B : Int) (hX : (x : Int) = X) (hY : (y : Int) = Y) (hB : (b : Int) = B) (hb : b ≤ 1) (w : World) : (callFunc 59 #[.int .u64 X, .int .u64 Y, .int .u64 B]).run Try.prog w =
    .ok (.value (.tuple #[N64 ((x + 18446744073709551616 - y - b) % 18446744073709551616), N64 (bw x (y + b))])) w := by
  subst hX; subst hY; subst hB; exact sub64 x y b hb w
theorem Mm.loc {S : Nat → Prop} {w0 w : World} {H : List (Nat × Array Value)} {b : Nat} {C : Array Value} (M : Mm S w0 H w) {k : Nat} (hk : H[k]? = some (b, C)) : Mm (fun g => g = b) w [(b, C)] w :=
  ⟨Fr.refl _ _, fun p hp => by rw [List.mem_singleton] at hp; subst hp; exact ⟨.inl rfl, (M.own _ (List.mem_of_getElem? hk)).2⟩, by simp⟩
theorem Mm.back {S : Nat → Prop} {w0 w w' : World} {H G : List (Nat × Array Value)} {b : Nat} {C C' : Array Value} (M : Mm S w0 H w) {k : Nat} (hk : H[k]? = some (b, C)) (N : Mm (fun g => g = b) w ((b, C') :: G) w') : Mm S w0 (H.set k (b, C')) w' := by
  have M2 := M.set k C' hk
  have hm := List.mem_of_getElem? hk
  obtain ⟨h1, T, hT, hb⟩ := M.own _ hm
  refine ⟨M.fr.trans (N.fr.mono (fun g _ e => by subst e; exact h1)), fun p hp => ?_, M2.nd⟩
  obtain ⟨h2, T2, hT2, hb2⟩ := M2.own p hp
  refine ⟨h2, ?_⟩
  by_cases e : p.1 = b
  · rw [e] at hb2
    rw [heap_setRow_same hb] at hb2
    injection hb2 with hb2
    injection hb2 with e1 e2 _
    obtain ⟨_, T3, hT3, hb3⟩ := N.own (b, C') (by simp)
    exact ⟨T3, hT3, by rw [e, ← e1]; exact hb3⟩
  · rw [heap_setRow_other e] at hb2
    exact ⟨T2, hT2, by rw [N.fr.block p.1 (Array.getElem?_eq_some_iff.1 hb2).1 e]; exact hb2⟩
theorem rip_c {l : List Nat} (h : Lm l) (n : Nat) (hn : n < M64) : ∀ i, (rip l n (i + 1)).2 ≤ 1 ∧ Lm (rip l n i).1
  | 0 => ⟨by have := h.getD 0; simp only [rip]; simp only [M64] at *; omega, h⟩
  | i + 1 => by
    obtain ⟨h1, h2⟩ := rip_c h n hn i
    have h3 : Lm (rip l n (i + 1)).1 := h2.set _ _ (Nat.mod_lt _ (by decide))
    refine ⟨?_, h3⟩
    have := h3.getD (i + 1)
    show ((rip l n (i + 1)).1.getD (i + 1) 0 + (rip l n (i + 1)).2) / M64 ≤ 1
    simp only [M64] at *
    omega
theorem aL_succ (l m : List Nat) (i : Nat) : aL l m (i + 1) = ((aL l m i).1.set i (((aL l m i).1.getD i 0 + m.getD i 0 + (aL l m i).2) % M64), ((aL l m i).1.getD i 0 + m.getD i 0 + (aL l m i).2) / M64) := rfl
theorem rip_zero (l : List Nat) (n : Nat) : rip l n 0 = (l, n) := rfl
theorem rip_succ (l : List Nat) (n i : Nat) : rip l n (i + 1) = ((rip l n i).1.set i (((rip l n i).1.getD i 0 + (rip l n i).2) % M64), ((rip l n i).1.getD i 0 + (rip l n i).2) / M64) := rfl
theorem aL_zero (l m : List Nat) : aL l m 0 = (l, 0) := rfl
attribute [local irreducible] rip aL dL sL
set_option maxRecDepth 100000 in
set_option maxHeartbeats 2000000 in
theorem plus_any (w : World) (b x n : Nat) (hn : n < M64) (M : Mm (fun g => g = b) w [(b, cs N64 (limbs x))] w) :
    Calls Try.prog 67 #[.pointer (some ⟨b, 0, none⟩), N64 n] w fun e w' => e = .returned (N64 ((x % M256 + n) / M256)) ∧ Mm (fun g => g = b) w [(b, cs N64 (limbs (x % M256 + n)))] w' := by
  have hc0 := hid (rip_c (limbs_lm x) n hn)
  have HR0 := hid (rip_zero (limbs x) n)
  have HR := hid (rip_succ (limbs x) n)
  have H4 := hid (rip4 x n)
  go_enter Try.func67, Try.ntmps67
  go_upto_region 2 with fail
  refine wp_region_seq 12 [8, 9, 10, 11, 12, 13, 14, 7, 15, 16, 17, 18] [] [9] [] (.op 12 (.op 13 .done)) (Mm (fun g => g = b) w _) (by kernel_rfl) (by kernel_rfl) (by kernel_rfl) (fun d _ _ _ _ h => by cases d <;> exact h) (by rfl) M.size (fun _ _ h k => h.sf k) M ?_
  simp only [List.take_succ_cons, List.take_zero]
  refine SeqA.pure (.pointer (some ⟨b, 0, none⟩)) (fun w' => by go_simp) rfl rfl ?_
  refine SeqA.pure (.pointer (some ⟨b, 0, none⟩)) (fun w' => by go_simp) rfl rfl ?_
  refine SeqA.pure (.pointer (some ⟨b, 0, none⟩)) (fun w' => by go_simp) rfl rfl ?_
  refine SeqA.pure (.pointer (some ⟨b, 0, none⟩)) (fun w' => by go_simp) rfl rfl ?_
  refine SeqA.read (N64 (gN (limbs x) 0)) (fun w' M => by have c0 := cell_gN (M.row (b := b) (c := cs N64 (limbs x)) (by simp)) (i := 0) (by simp); go_simp) rfl rfl ?_
  simp only [Act.put, List.setIfInBounds_toArray, List.set_cons_succ, List.set_cons_zero]
  refine SeqA.pure (N64 n) (fun w' => by go_simp) rfl rfl ?_
  refine SeqA.pure (.tuple #[N64 (((gN (limbs x) 0) + n) % 18446744073709551616), N64 (((gN (limbs x) 0) + n) / 18446744073709551616)]) (fun w' => by have q := add64i (gN (limbs x) 0) n 0 _ _ 0 rfl rfl rfl (by decide) w'; (try simp only [Nat.add_zero] at q); go_simp) rfl rfl ?_
  refine SeqA.pure (.tuple #[N64 (((gN (limbs x) 0) + n) % 18446744073709551616), N64 (((gN (limbs x) 0) + n) / 18446744073709551616)]) (fun w' => by go_simp) rfl rfl ?_
  refine SeqA.pure (N64 (((gN (limbs x) 0) + n) % 18446744073709551616)) (fun w' => by go_simp) rfl rfl ?_
  refine SeqA.pure (N64 (((gN (limbs x) 0) + n) / 18446744073709551616)) (fun w' => by go_simp) rfl rfl ?_
  refine SeqA.pure (.pointer (some ⟨b, 0, none⟩)) (fun w' => by go_simp) rfl rfl ?_
  simp only [Act.put, List.setIfInBounds_toArray, List.set_cons_succ, List.set_cons_zero]
  refine SeqA.pure (.pointer (some ⟨b, 0, none⟩)) (fun w' => by go_simp) rfl rfl ?_
  refine SeqA.nil (fun w1 M2 hz => ?_)
  show wpT _ _ _ _ _ _
  simp only [Act.put, List.setIfInBounds_toArray, List.set_cons_succ, List.set_cons_zero]
  refine wpT_stc M2 0 (N64 (((gN (limbs x) 0) + n) % 18446744073709551616)) (cs N64 ((limbs x).set 0 (((gN (limbs x) 0) + n) % 18446744073709551616))) inf_u64 rfl rfl rfl rfl (by go_simp) (by go_simp) (by have := (by simp : 0 < (limbs x).length); first | (simp; done) | (simpa using this) | (simp; omega)) (by simp [go_sem]) (cs_set _ _) rfl (fun w3 M4 => ?_)
  dsimp only [List.set] at M4
  refine wpT_val (v := N64 (((gN (limbs x) 0) + n) / 18446744073709551616)) rfl rfl rfl ?_
  dsimp only [wpT]
  simp only [Act.put, List.setIfInBounds_toArray, List.set_cons_succ, List.set_cons_zero]
  go_wp2_with fail
  have M1 : Mm (fun g => g = b) w [(b, cs N64 (rip (limbs x) n 1).1)] w3 := by rw [HR.out, HR0.out]; exact M4
  clear M M2 M4
  go_loopw [5, 6] (fun c t wr => ∃ i : Nat, 1 ≤ i ∧ i ≤ 4 ∧ t = .int .i64 i ∧ c = N64 (rip (limbs x) n i).2 ∧ Mm (fun g => g = b) w [(b, cs N64 (rip (limbs x) n i).1)] wr) (fun _ t _ => 4 - (intOf t).toNat)
  case atStart => exact ⟨1, by omega, by omega, rfl, by rw [HR.out, HR0.out]; rfl, M1⟩
  case round =>
    clear M1
    obtain ⟨i, hi1, hi, rfl, rfl, M⟩ := hrel
    have hL := hid (hc0.out i).2.len
    have hc : (rip (limbs x) n i).2 ≤ 1 := by
      obtain ⟨j, rfl⟩ : ∃ j, i = j + 1 := ⟨i - 1, by omega⟩
      exact (hc0.out j).1
    by_cases hlt : i < 4
    · go_upto_region 6 with fail
      refine wp_region_seq 14 [24, 25, 26, 27, 28, 29, 30, 31, 32, 23, 33, 34, 35, 36] [] [11] [] (.op 14 (.op 15 .done)) (Mm (fun g => g = b) w _) (by kernel_rfl) (by kernel_rfl) (by kernel_rfl) (fun d _ _ _ _ h => by cases d <;> exact h) (by rfl) M.size (fun _ _ h k => h.sf k) M ?_
      simp only [List.take_succ_cons, List.take_zero]
      refine SeqA.pure (.pointer (some ⟨b, 0, none⟩)) (fun w' => by go_simp) rfl rfl ?_
      refine SeqA.pure (.int .i64 i) (fun w' => by go_simp) rfl rfl ?_
      refine SeqA.pure (.pointer (some ⟨b, 0, none⟩)) (fun w' => by go_simp) rfl rfl ?_
      refine SeqA.pure (.int .i64 i) (fun w' => by go_simp) rfl rfl ?_
      refine SeqA.pure (.pointer (some ⟨b, 0, none⟩)) (fun w' => by go_simp) rfl rfl ?_
      simp only [Act.put, List.setIfInBounds_toArray, List.set_cons_succ, List.set_cons_zero]
      refine SeqA.pure (.pointer (some ⟨b, i, none⟩)) (fun w' => by go_simp) rfl rfl ?_
      refine SeqA.read (N64 (gN (rip (limbs x) n i).1 i)) (fun w' M => by have c0 := cell_gN (M.row (b := b) (c := cs N64 (rip (limbs x) n i).1) (by simp)) (i := i) (by rw [hL]; exact hlt); go_simp) rfl rfl ?_
      refine SeqA.pure (N64 (rip (limbs x) n i).2) (fun w' => by go_simp) rfl rfl ?_
      refine SeqA.pure (.tuple #[N64 (((gN (rip (limbs x) n i).1 i) + ((rip (limbs x) n i).2)) % 18446744073709551616), N64 (((gN (rip (limbs x) n i).1 i) + ((rip (limbs x) n i).2)) / 18446744073709551616)]) (fun w' => by have q := add64i (gN (rip (limbs x) n i).1 i) 0 ((rip (limbs x) n i).2) _ 0 _ rfl rfl rfl (by omega) w'; (try simp only [Nat.add_zero] at q); go_simp) rfl rfl ?_
      refine SeqA.pure (.tuple #[N64 (((gN (rip (limbs x) n i).1 i) + ((rip (limbs x) n i).2)) % 18446744073709551616), N64 (((gN (rip (limbs x) n i).1 i) + ((rip (limbs x) n i).2)) / 18446744073709551616)]) (fun w' => by go_simp) rfl rfl ?_
      refine SeqA.pure (N64 (((gN (rip (limbs x) n i).1 i) + ((rip (limbs x) n i).2)) % 18446744073709551616)) (fun w' => by go_simp) rfl rfl ?_
      simp only [Act.put, List.setIfInBounds_toArray, List.set_cons_succ, List.set_cons_zero]
      refine SeqA.pure (N64 (((gN (rip (limbs x) n i).1 i) + ((rip (limbs x) n i).2)) / 18446744073709551616)) (fun w' => by go_simp) rfl rfl ?_
      refine SeqA.pure (.pointer (some ⟨b, 0, none⟩)) (fun w' => by go_simp) rfl rfl ?_
      refine SeqA.pure (.pointer (some ⟨b, i, none⟩)) (fun w' => by go_simp) rfl rfl ?_
      refine SeqA.nil (fun w1 M2 hz => ?_)
      show wpT _ _ _ _ _ _
      simp only [Act.put, List.setIfInBounds_toArray, List.set_cons_succ, List.set_cons_zero]
      refine wpT_stc M2 0 (N64 (((gN (rip (limbs x) n i).1 i) + ((rip (limbs x) n i).2)) % 18446744073709551616)) (cs N64 ((rip (limbs x) n i).1.set i (((gN (rip (limbs x) n i).1 i) + ((rip (limbs x) n i).2)) % 18446744073709551616))) inf_u64 rfl rfl rfl rfl (by go_simp) (by go_simp) (by have := (by rw [hL]; exact hlt : i < (rip (limbs x) n i).1.length); first | (simp; done) | (simpa using this) | (simp; omega)) (by simp [go_sem]) (cs_set _ _) rfl (fun w3 M4 => ?_)
      dsimp only [List.set] at M4
      refine wpT_val (v := N64 (((gN (rip (limbs x) n i).1 i) + ((rip (limbs x) n i).2)) / 18446744073709551616)) rfl rfl rfl ?_
      dsimp only [wpT]
      simp only [Act.put, List.setIfInBounds_toArray, List.set_cons_succ, List.set_cons_zero]
      go_wp2_with fail
      go_roundw
      case rel => exact ⟨i + 1, by omega, by omega, by go_num, by rw [HR.out]; rfl, by rw [HR.out]; exact M4⟩
      case measure => simp [intOf]; omega
    · have : i = 4 := by omega
      subst this
      go_wp2_with fail
      go_ret
      rw [H4.out.1] at M
      exact ⟨by rw [H4.out.2]; rfl, M⟩
def mvn (c : Array Value) : Nat := vn (c.toList.map fun v => (intOf v).toNat)
theorem mvn_cs (l : List Nat) : mvn (cs N64 l) = vn l := by
  unfold mvn
  congr 1
  simp [cs, intOf, Function.comp_def]
theorem fold1_small {n : Nat} (h : n < M256 * 288230376151711744) (h2 : M256 ≤ n) : fold1 n < n ∧ fold1 n < M256 * 288230376151711744 ∧ red (fold1 n) = red n ∧ n / M256 * 38 < M64 ∧ 0 < n / M256 := by
  have h1 : n / M256 < 288230376151711744 := Nat.div_lt_of_lt_mul h
  have h3 := Nat.mod_lt n (show 0 < M256 by decide)
  have h4 := Nat.mod_add_div n M256
  have h5 : 0 < n / M256 := Nat.div_pos h2 (by decide)
  have h6 : M256 * (n / M256) ≥ M256 * 1 := Nat.mul_le_mul_left _ h5
  have h7 : M256 * (n / M256) ≥ 39 * (n / M256) := Nat.mul_le_mul_right _ (by decide)
  refine ⟨?_, ?_, ?_, ?_, h5⟩
  · unfold fold1; omega
  · unfold fold1; simp only [M256] at *; omega
  · have := red_lt h
    show fold1 (fold1 (fold1 n)) = red n
    exact fold1_lt this
  · simp only [M64]; omega
theorem red_id {n : Nat} (h : n < M256) : red n = n := by unfold red; rw [fold1_lt h, fold1_lt h]
set_option maxRecDepth 100000 in
set_option maxHeartbeats 2000000 in
theorem settle_any (w : World) (b n : Nat) (hn : n < M256 * 288230376151711744) (M : Mm (fun g => g = b) w [(b, cs N64 (limbs n))] w) :
    Calls Try.prog 57 #[.pointer (some ⟨b, 0, none⟩), N64 (n / M256)] w fun e w' => e = .returned (.tuple #[]) ∧ Mm (fun g => g = b) w [(b, cs N64 (limbs (red n)))] w' := by
  have HN := hid hn
  clear hn
  go_enter Try.func57, Try.ntmps57
  go_wp2_with fail
  go_loopw [1] (fun c wr => ∃ v : Nat, v < M256 * 288230376151711744 ∧ red v = red n ∧ c = N64 (v / M256) ∧ Mm (fun g => g = b) w [(b, cs N64 (limbs v))] wr) (fun c wr => mvn (wr.rowOf b) + M256 * (intOf c).toNat)
  case atStart => exact ⟨n, HN.out, rfl, rfl, M⟩
  case round =>
    clear M
    obtain ⟨v, hv, hr, rfl, M⟩ := hrel
    have HV := hid hv; have HR := hid hr
    clear hv hr
    have hmv : mvn (wr.rowOf b) = v % M256 := by rw [M.row (b := b) (c := cs N64 (limbs v)) (by simp), mvn_cs, vn_limbs]
    have HMV := hid hmv
    clear hmv
    by_cases h : M256 ≤ v
    · obtain ⟨k1, k2, k3, k4, k5⟩ := fold1_small HV.out h
      obtain ⟨o, ho⟩ : ∃ o, o = v / M256 := ⟨_, rfl⟩
      rw [← ho] at k4 k5 ⊢
      obtain ⟨p, hp⟩ : ∃ p, p = o * 38 := ⟨_, rfl⟩
      rw [← hp] at k4
      have q : IntKind.u64.wrap ((o : Int) * 38) = (p : Int) := by simp only [M64] at k4; rw [wrap_u64']; omega
      have HO := hid ho; have HP := hid hp; have K1 := hid k1; have K2 := hid k2; have K3 := hid k3
      clear ho hp k1 k2 k3 h
      go_wp2_with fail
      with_reducible refine ((plus_any wr b v p k4 (M.loc (k := 0) rfl)).mono ?_)
      rintro e w2 ⟨rfl, N2⟩
      have M2 := M.back (k := 0) rfl N2
      have e1 : v % M256 + p = fold1 v := by unfold fold1; rw [HP.out, HO.out]; omega
      rw [e1] at M2 ⊢
      dsimp only [List.set] at M2
      have E1 := hid e1
      clear e1 q
      dsimp only
      go_wp2_with fail
      go_roundw
      case rel => exact ⟨fold1 v, K2.out, by rw [K3.out]; exact HR.out, rfl, M2⟩
      case measure =>
        rw [M2.row (b := b) (c := cs N64 (limbs (fold1 v))) (by simp), mvn_cs, vn_limbs, HMV.out, HO.out]
        show fold1 v % M256 + M256 * (fold1 v / M256) < v % M256 + M256 * (v / M256)
        rw [Nat.mod_add_div, Nat.mod_add_div]; exact K1.out
    · have h2 : v / M256 = 0 := Nat.div_eq_of_lt (by omega)
      rw [h2]
      have HH := hid h
      clear h h2
      go_wp2_with fail
      go_end0
      exact ⟨rfl, by rw [← HR.out, red_id (by have := HH.out; omega)]; exact M⟩
set_option maxRecDepth 100000 in
set_option maxHeartbeats 2000000 in
theorem nadd_any (w : World) (x y : Nat) :
    Calls Try.prog 44 #[.agg (cs N64 (limbs x)), .agg (cs N64 (limbs y))] w fun e w' => e = .returned (.agg (cs N64 (limbs (addV x y)))) ∧ Below w.heap.size w w' := by
  have M0 := Mm.start no w
  have M1 := (((M0.alloc (cs N64 (limbs x)) 42 (by decide)).alloc (cs N64 (limbs y)) 42 (by decide)).alloc (cs N64 (limbs 0)) 42 (by decide))
  simp only [World.size_alloc] at M1
  have HA0 := hid (aL_zero (limbs x) (limbs y))
  go_enter Try.func44, Try.ntmps44
  go_wp2_with fail
  go_loopw [5, 7] (fun c t wr => ∃ i : Nat, i ≤ 4 ∧ t = .int .i64 i ∧ c = N64 (aL (limbs x) (limbs y) i).2 ∧ Mm no w [(w.heap.size + 1 + 1, cs N64 (limbs 0)), (w.heap.size + 1, cs N64 (limbs y)), (w.heap.size, cs N64 (aL (limbs x) (limbs y) i).1)] wr) (fun _ t _ => 4 - (intOf t).toNat)
  case atStart => exact ⟨0, by omega, rfl, by rw [HA0.out]; rfl, by rw [HA0.out]; exact M1⟩
  case round =>
    clear M1 M0
    obtain ⟨i, hi, rfl, rfl, M⟩ := hrel
    obtain ⟨hl, hc, -⟩ := aL_spec (limbs_lm x) (limbs_lm y) i hi
    have hL := hid hl.len
    clear hl
    by_cases hlt : i < 4
    · go_upto_region 5 with fail
      refine wp_region_seq 13 [11, 12, 13, 14, 15, 16, 17, 18, 19, 10, 20, 21, 22] [] [11] [] (.op 13 (.op 14 .done)) (Mm no w _) (by kernel_rfl) (by kernel_rfl) (by kernel_rfl) (fun d _ _ _ _ h => by cases d <;> exact h) (by rfl) M.size (fun _ _ h k => h.sf k) M ?_
      simp only [List.take_succ_cons, List.take_zero]
      refine SeqA.pure (.int .i64 i) (fun w' => by go_simp) rfl rfl ?_
      refine SeqA.pure (.int .i64 i) (fun w' => by go_simp) rfl rfl ?_
      refine SeqA.pure (.pointer (some ⟨w.heap.size, i, none⟩)) (fun w' => by go_simp) rfl rfl ?_
      refine SeqA.read (N64 (gN (aL (limbs x) (limbs y) i).1 i)) (fun w' M => by have c0 := cell_gN (M.row (b := w.heap.size) (c := cs N64 (aL (limbs x) (limbs y) i).1) (by simp)) (i := i) (by rw [hL]; exact hlt); go_simp) rfl rfl ?_
      refine SeqA.pure (.int .i64 i) (fun w' => by go_simp) rfl rfl ?_
      simp only [Act.put, List.setIfInBounds_toArray, List.set_cons_succ, List.set_cons_zero]
      refine SeqA.pure (.pointer (some ⟨w.heap.size + 1, i, none⟩)) (fun w' => by go_simp) rfl rfl ?_
      refine SeqA.read (N64 (gN (limbs y) i)) (fun w' M => by have c0 := cell_gN (M.row (b := w.heap.size + 1) (c := cs N64 (limbs y)) (by simp)) (i := i) (by exact hlt); go_simp) rfl rfl ?_
      refine SeqA.pure (N64 (aL (limbs x) (limbs y) i).2) (fun w' => by go_simp) rfl rfl ?_
      refine SeqA.pure (.tuple #[N64 (((gN (aL (limbs x) (limbs y) i).1 i) + (gN (limbs y) i) + ((aL (limbs x) (limbs y) i).2)) % 18446744073709551616), N64 (((gN (aL (limbs x) (limbs y) i).1 i) + (gN (limbs y) i) + ((aL (limbs x) (limbs y) i).2)) / 18446744073709551616)]) (fun w' => by have q := add64i (gN (aL (limbs x) (limbs y) i).1 i) (gN (limbs y) i) ((aL (limbs x) (limbs y) i).2) _ _ _ rfl rfl rfl (by omega) w'; (try simp only [Nat.add_zero] at q); go_simp) rfl rfl ?_
      refine SeqA.pure (.tuple #[N64 (((gN (aL (limbs x) (limbs y) i).1 i) + (gN (limbs y) i) + ((aL (limbs x) (limbs y) i).2)) % 18446744073709551616), N64 (((gN (aL (limbs x) (limbs y) i).1 i) + (gN (limbs y) i) + ((aL (limbs x) (limbs y) i).2)) / 18446744073709551616)]) (fun w' => by go_simp) rfl rfl ?_
      refine SeqA.pure (N64 (((gN (aL (limbs x) (limbs y) i).1 i) + (gN (limbs y) i) + ((aL (limbs x) (limbs y) i).2)) % 18446744073709551616)) (fun w' => by go_simp) rfl rfl ?_
      simp only [Act.put, List.setIfInBounds_toArray, List.set_cons_succ, List.set_cons_zero]
      refine SeqA.pure (N64 (((gN (aL (limbs x) (limbs y) i).1 i) + (gN (limbs y) i) + ((aL (limbs x) (limbs y) i).2)) / 18446744073709551616)) (fun w' => by go_simp) rfl rfl ?_
      refine SeqA.pure (.pointer (some ⟨w.heap.size, i, none⟩)) (fun w' => by go_simp) rfl rfl ?_
      refine SeqA.nil (fun w1 M2 hz => ?_)
      show wpT _ _ _ _ _ _
      simp only [Act.put, List.setIfInBounds_toArray, List.set_cons_succ, List.set_cons_zero]
      refine wpT_stc M2 2 (N64 (((gN (aL (limbs x) (limbs y) i).1 i) + (gN (limbs y) i) + ((aL (limbs x) (limbs y) i).2)) % 18446744073709551616)) (cs N64 ((aL (limbs x) (limbs y) i).1.set i (((gN (aL (limbs x) (limbs y) i).1 i) + (gN (limbs y) i) + ((aL (limbs x) (limbs y) i).2)) % 18446744073709551616))) inf_u64 rfl rfl rfl rfl (by go_simp) (by go_simp) (by have := (by rw [hL]; exact hlt : i < (aL (limbs x) (limbs y) i).1.length); first | (simp; done) | (simpa using this) | (simp; omega)) (by simp [go_sem]) (cs_set _ _) rfl (fun w3 M4 => ?_)
      dsimp only [List.set] at M4
      refine wpT_val (v := N64 (((gN (aL (limbs x) (limbs y) i).1 i) + (gN (limbs y) i) + ((aL (limbs x) (limbs y) i).2)) / 18446744073709551616)) rfl rfl rfl ?_
      dsimp only [wpT]
      simp only [Act.put, List.setIfInBounds_toArray, List.set_cons_succ, List.set_cons_zero]
      go_wp2_with fail
      go_roundw
      case rel => exact ⟨i + 1, by omega, by go_num, by rw [aL_succ]; rfl, by rw [aL_succ]; exact M4⟩
      case measure => simp [intOf]; omega
    · have : i = 4 := by omega
      subst this
      have e4 := aL4 x y
      rw [e4.1] at M
      rw [e4.2]
      obtain ⟨s, hs⟩ : ∃ s, s = x % M256 + y % M256 := ⟨_, rfl⟩
      rw [← hs] at M ⊢
      have hs2 : s < M256 * 288230376151711744 := by have h1 := mod256_lt x; have h2 := mod256_lt y; rw [hs]; simp only [M256] at *; omega
      have HS := hid hs; have HS2 := hid hs2
      clear e4 hs hs2 hL hc
      go_wp2_with fail
      with_reducible refine ((settle_any wr _ s HS2.out (M.loc (k := 2) rfl)).mono ?_)
      rintro e w2 ⟨rfl, N2⟩
      have M2 := M.back (k := 2) rfl N2
      dsimp only [List.set] at M2
      have r2 := M2.row (b := w.heap.size) (c := cs N64 (limbs (red s))) (by simp)
      have f2 := M2.free (b := w.heap.size + 1 + 1) (c := cs N64 (limbs 0)) (by simp)
      have r3 := M2.row (b := w.heap.size + 1 + 1) (c := cs N64 (limbs 0)) (by simp)
      dsimp only
      go_wp2_with fail
      have M3 := M2.set 0 (cs N64 (limbs (red s))) rfl
      dsimp only [List.set] at M3
      have r4 := M3.row (b := w.heap.size + 1 + 1) (c := cs N64 (limbs (red s))) (by simp)
      refine bodyPost_ret (res_row (b := w.heap.size + 1 + 1) rfl Try.underlying42 rfl inf_num _ _ rfl (by rw [r4]; simp)) rfl ?_
      rw [r4]
      exact ⟨by unfold addV; rw [HS.out], M3.end_⟩
end Go.Proofs.Ytgneclfnfnpmkaa
