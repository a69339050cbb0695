/-
  Walks of package fe: sums; own work.
  Walks of package fe: differences; own work.
  Walks of package fe: what is left of a number; own work.
  Walks of package fe: the key of a number; own work.
  Walks of package fe: the parts of a key; own work.
  Walks of package fe: products; own work.
  Slices of ints; own work.
  Walks of package field, and of the inverse in package fe; own work.
-/
import Derived.Test.YtgclegdgngldoaaDoorFlow3
import Derived.Test.YtgclegdgngldoaaDoorSeq3
import Derived.Test.YtgclegdgngldoaaDoorEdw
import Derived.Deep.Cut
import Derived.Deep.CutBlock
set_option linter.unusedSimpArgs false
set_option linter.unusedVariables false
namespace Go.Proofs.YtgclegdgngldoaaDoor
open Go.RowKit Fp
theorem inf_num : (Tryd.prog.info? 97).map (·.size) = some 4 := by kernel_rfl
section
variable (ρ : Operand → Value) (dst : Option Tmp) (ty : TypeId) (pos : String) (after : Array Edge) (guard : Option (Nat × Bool)) (w : World)
@[go_sem ↓] theorem rl_num (x : Operand) : (execOp ρ { dst, op := .load 97 x, type := ty, pos, after, guard }).run Tryd.prog w = exLoad Tryd.prog 97 (ρ x) w := x_load ..
@[go_sem ↓] theorem rs_num (x y : Operand) : (execOp ρ { dst, op := .store 97 x y, type := ty, pos, after, guard }).run Tryd.prog w = exStore Tryd.prog 97 (ρ x) (ρ y) w := x_store ..
@[go_sem ↓] theorem ra_num : (execOp ρ { dst, op := .alloc 97, type := ty, pos, after, guard }).run Tryd.prog w = .ok (.value (.pointer (some ⟨w.heap.size, 0, none⟩))) (w.alloc (.cells (cs N64 (limbs 0)) 97)) :=
  (x_alloc ..).trans (x_alloc0 (v := .agg (cs N64 (limbs 0))) _ (by kernel_rfl))
@[go_sem] theorem xl_num (b : Nat) (h : (w.rowOf b).size = 4) : exLoad Tryd.prog 97 (.pointer (some ⟨b, 0, none⟩)) w = .ok (.value (.agg (w.rowOf b))) w := x_load0 _ Tryd.underlying97 rfl inf_num b h
@[go_sem] theorem xlm_num (b o : Nat) (ho : 0 < o) (h : o + 4 ≤ (w.rowOf b).size) : exLoad Tryd.prog 97 (.pointer (some ⟨b, o, none⟩)) w = .ok (.value (.agg ((w.rowOf b).extract o (o + 4)))) w := x_loadm _ Tryd.underlying97 rfl inf_num b o h
@[go_sem] theorem xs_num (b : Nat) (c : Array Value) (hl : c.size = 4) (h1 : ones c = true) (h : (w.rowOf b).size = 4) (hf : w.free b = true) : exStore Tryd.prog 97 (.pointer (some ⟨b, 0, none⟩)) (.agg c) w = .ok .skip (w.setRow b c) :=
  x_store0 _ inf_num b c hl h hf (ones_all h1)
@[go_sem] theorem xsm_num (b o : Nat) (ho : 0 < o) (c : Array Value) (hl : c.size = 4) (h1 : ones c = true) (h : o + 4 ≤ (w.rowOf b).size) (hf : w.free b = true) : exStore Tryd.prog 97 (.pointer (some ⟨b, o, none⟩)) (.agg c) w = .ok .skip (w.setSeg b o c) :=
  x_storem _ inf_num b o c hl h hf (ones_all h1)
end
theorem inf_u64 : (Tryd.prog.info? 95).map (·.size) = some 1 := by kernel_rfl
section
variable (ρ : Operand → Value) (dst : Option Tmp) (ty : TypeId) (pos : String) (after : Array Edge) (guard : Option (Nat × Bool)) (w : World)
@[go_sem ↓] theorem rs_u64 (x y : Operand) : (execOp ρ { dst, op := .store 95 x y, type := ty, pos, after, guard }).run Tryd.prog w = exStore Tryd.prog 95 (ρ x) (ρ y) w := x_store ..
@[go_sem] theorem xs_u64 (b o : Nat) (v : Value) (hv : ones1 v = true) (ho : o < (w.rowOf b).size) (hf : w.free b = true) : exStore Tryd.prog 95 (.pointer (some ⟨b, o, none⟩)) v w = .ok .skip (w.setRow b ((w.rowOf b).setIfInBounds o v)) :=
  x_storec inf_u64 w b o v hv ho hf
end

theorem cell_cs {α : Type} {f : α → Value} (d : α) {w : World} {b : Nat} {L : List α} (h : w.rowOf b = cs f L) {i : Nat} (hi : i < L.length) : w.cell? ⟨b, i, none⟩ = some (f (L.getD i d)) := by
  rw [cell_rowOf, h, cs_get_lt hi, List.getD_eq_getElem?_getD, List.getElem?_eq_getElem hi]; rfl
def gN (l : List Nat) (i : Nat) : Nat := l.getD i 0
def g8 (l : List (BitVec 8)) (i : Nat) : BitVec 8 := l.getD i 0
theorem cell_gN {w : World} {b : Nat} {L : List Nat} (h : w.rowOf b = cs N64 L) {i : Nat} (hi : i < L.length) : w.cell? ⟨b, i, none⟩ = some (N64 (gN L i)) := cell_cs (f := N64) 0 h hi
theorem cell_g8 {w : World} {b : Nat} {L : List (BitVec 8)} (h : w.rowOf b = cs U8 L) {i : Nat} (hi : i < L.length) : w.cell? ⟨b, i, none⟩ = some (U8 (g8 L i)) := cell_cs (f := U8) 0 h hi
theorem add64i (x y c : Nat) (X Y C : Int) (hX : (x : Int) = X) (hY : (y : Int) = Y) (hC : (c : Int) = C) (hc : c ≤ 1) (w : World) : (callFunc 98 #[.int .u64 X, .int .u64 Y, .int .u64 C]).run Tryd.prog w =
    .ok (.value (.tuple #[N64 ((x + y + c) % 18446744073709551616), N64 ((x + y + c) / 18446744073709551616)])) w := by
  subst hX; subst hY; subst hC; exact add64 x y c hc w
def bw (a c : Nat) : Nat := if a < c then 1 else 0
theorem sub64i (x y b : Nat) (X Y B : Int) (hX : (x : Int) = X) (hY : (y : Int) = Y) (hB : (b : Int) = B) (hb : b ≤ 1) (w : World) : (callFunc 99 #[.int .u64 X, .int .u64 Y, .int .u64 B]).run Tryd.prog w =
    .ok (.value (.tuple #[N64 ((x + 18446744073709551616 - y - b) % 18446744073709551616), N64 (bw x (y + b))])) w := by
  subst hX; subst hY; subst hB; exact sub64 x y b hb w
theorem Mm.loc {S : Nat → Prop} {w0 w : World} {H : List (Nat × Array Value)} {b : Nat} {C : Array Value} (M : Mm S w0 H w) {k : Nat} (hk : H[k]? = some (b, C)) : Mm (fun g => g = b) w [(b, C)] w :=
  ⟨Fr.refl _ _, fun p hp => by rw [List.mem_singleton] at hp; subst hp; exact ⟨.inl rfl, (M.own _ (List.mem_of_getElem? hk)).2⟩, by simp⟩
theorem Mm.back {S : Nat → Prop} {w0 w w' : World} {H G : List (Nat × Array Value)} {b : Nat} {C C' : Array Value} (M : Mm S w0 H w) {k : Nat} (hk : H[k]? = some (b, C)) (N : Mm (fun g => g = b) w ((b, C') :: G) w') : Mm S w0 (H.set k (b, C')) w' := by
  have M2 := M.set k C' hk
  have hm := List.mem_of_getElem? hk
  obtain ⟨h1, T, hT, hb⟩ := M.own _ hm
  refine ⟨M.fr.trans (N.fr.mono (fun g _ e => by subst e; exact h1)), fun p hp => ?_, M2.nd⟩
  obtain ⟨h2, T2, hT2, hb2⟩ := M2.own p hp
  refine ⟨h2, ?_⟩
  by_cases e : p.1 = b
  · rw [e] at hb2
    rw [heap_setRow_same hb] at hb2
    injection hb2 with hb2
    injection hb2 with e1 e2 _
    obtain ⟨_, T3, hT3, hb3⟩ := N.own (b, C') (by simp)
    exact ⟨T3, hT3, by rw [e, ← e1]; exact hb3⟩
  · rw [heap_setRow_other e] at hb2
    exact ⟨T2, hT2, by rw [N.fr.block p.1 (Array.getElem?_eq_some_iff.1 hb2).1 e]; exact hb2⟩
theorem rip_c {l : List Nat} (h : Lm l) (n : Nat) (hn : n < M64) : ∀ i, (rip l n (i + 1)).2 ≤ 1 ∧ Lm (rip l n i).1
  | 0 => ⟨by have := h.getD 0; simp only [rip]; simp only [M64] at *; omega, h⟩
  | i + 1 => by
    obtain ⟨h1, h2⟩ := rip_c h n hn i
    have h3 : Lm (rip l n (i + 1)).1 := h2.set _ _ (Nat.mod_lt _ (by decide))
    refine ⟨?_, h3⟩
    have := h3.getD (i + 1)
    show ((rip l n (i + 1)).1.getD (i + 1) 0 + (rip l n (i + 1)).2) / M64 ≤ 1
    simp only [M64] at *
    omega
theorem aL_succ (l m : List Nat) (i : Nat) : aL l m (i + 1) = ((aL l m i).1.set i (((aL l m i).1.getD i 0 + m.getD i 0 + (aL l m i).2) % M64), ((aL l m i).1.getD i 0 + m.getD i 0 + (aL l m i).2) / M64) := rfl
theorem rip_zero (l : List Nat) (n : Nat) : rip l n 0 = (l, n) := rfl
theorem rip_succ (l : List Nat) (n i : Nat) : rip l n (i + 1) = ((rip l n i).1.set i (((rip l n i).1.getD i 0 + (rip l n i).2) % M64), ((rip l n i).1.getD i 0 + (rip l n i).2) / M64) := rfl
theorem aL_zero (l m : List Nat) : aL l m 0 = (l, 0) := rfl
attribute [local irreducible] rip aL dL sL
set_option maxRecDepth 100000 in
set_option maxHeartbeats 2000000 in
theorem plus_any (w : World) (b x n : Nat) (hn : n < M64) (M : Mm (fun g => g = b) w [(b, cs N64 (limbs x))] w) :
    Calls Tryd.prog 101 #[.pointer (some ⟨b, 0, none⟩), N64 n] w fun e w' => e = .returned (N64 ((x % M256 + n) / M256)) ∧ Mm (fun g => g = b) w [(b, cs N64 (limbs (x % M256 + n)))] w' := by
  have hc0 := hid (rip_c (limbs_lm x) n hn)
  have HR0 := hid (rip_zero (limbs x) n)
  have HR := hid (rip_succ (limbs x) n)
  have H4 := hid (rip4 x n)
  go_enter Tryd.func101, Tryd.ntmps101
  go_upto_region 2 with fail
  refine wp_region_seq 12 [8, 9, 10, 11, 12, 13, 14, 7, 15, 16, 17, 18] [] [9] [] (.op 12 (.op 13 .done)) (Mm (fun g => g = b) w _) (by kernel_rfl) (by kernel_rfl) (by kernel_rfl) (fun d _ _ _ _ h => by cases d <;> exact h) (by rfl) M.size (fun _ _ h k => h.sf k) M ?_
  simp only [List.take_succ_cons, List.take_zero]
  refine SeqA.pure (.pointer (some ⟨b, 0, none⟩)) (fun w' => by go_simp) rfl rfl ?_
  refine SeqA.pure (.pointer (some ⟨b, 0, none⟩)) (fun w' => by go_simp) rfl rfl ?_
  refine SeqA.pure (.pointer (some ⟨b, 0, none⟩)) (fun w' => by go_simp) rfl rfl ?_
  refine SeqA.pure (.pointer (some ⟨b, 0, none⟩)) (fun w' => by go_simp) rfl rfl ?_
  refine SeqA.read (N64 (gN (limbs x) 0)) (fun w' M => by have c0 := cell_gN (M.row (b := b) (c := cs N64 (limbs x)) (by simp)) (i := 0) (by simp); go_simp) rfl rfl ?_
  simp only [Act.put, List.setIfInBounds_toArray, List.set_cons_succ, List.set_cons_zero]
  refine SeqA.pure (N64 n) (fun w' => by go_simp) rfl rfl ?_
  refine SeqA.pure (.tuple #[N64 (((gN (limbs x) 0) + n) % 18446744073709551616), N64 (((gN (limbs x) 0) + n) / 18446744073709551616)]) (fun w' => by have q := add64i (gN (limbs x) 0) n 0 _ _ 0 rfl rfl rfl (by decide) w'; (try simp only [Nat.add_zero] at q); go_simp) rfl rfl ?_
  refine SeqA.pure (.tuple #[N64 (((gN (limbs x) 0) + n) % 18446744073709551616), N64 (((gN (limbs x) 0) + n) / 18446744073709551616)]) (fun w' => by go_simp) rfl rfl ?_
  refine SeqA.pure (N64 (((gN (limbs x) 0) + n) % 18446744073709551616)) (fun w' => by go_simp) rfl rfl ?_
  refine SeqA.pure (N64 (((gN (limbs x) 0) + n) / 18446744073709551616)) (fun w' => by go_simp) rfl rfl ?_
  refine SeqA.pure (.pointer (some ⟨b, 0, none⟩)) (fun w' => by go_simp) rfl rfl ?_
  simp only [Act.put, List.setIfInBounds_toArray, List.set_cons_succ, List.set_cons_zero]
  refine SeqA.pure (.pointer (some ⟨b, 0, none⟩)) (fun w' => by go_simp) rfl rfl ?_
  refine SeqA.nil (fun w1 M2 hz => ?_)
  show wpT _ _ _ _ _ _
  simp only [Act.put, List.setIfInBounds_toArray, List.set_cons_succ, List.set_cons_zero]
  refine wpT_stc M2 0 (N64 (((gN (limbs x) 0) + n) % 18446744073709551616)) (cs N64 ((limbs x).set 0 (((gN (limbs x) 0) + n) % 18446744073709551616))) inf_u64 rfl rfl rfl rfl (by go_simp) (by go_simp) (by have := (by simp : 0 < (limbs x).length); first | (simp; done) | (simpa using this) | (simp; omega)) (by simp [go_sem]) (cs_set _ _) rfl (fun w3 M4 => ?_)
  dsimp only [List.set] at M4
  refine wpT_val (v := N64 (((gN (limbs x) 0) + n) / 18446744073709551616)) rfl rfl rfl ?_
  dsimp only [wpT]
  simp only [Act.put, List.setIfInBounds_toArray, List.set_cons_succ, List.set_cons_zero]
  go_wp2_with fail
  have M1 : Mm (fun g => g = b) w [(b, cs N64 (rip (limbs x) n 1).1)] w3 := by rw [HR.out, HR0.out]; exact M4
  clear M M2 M4
  go_loopw [5, 6] (fun c t wr => ∃ i : Nat, 1 ≤ i ∧ i ≤ 4 ∧ t = .int .i64 i ∧ c = N64 (rip (limbs x) n i).2 ∧ Mm (fun g => g = b) w [(b, cs N64 (rip (limbs x) n i).1)] wr) (fun _ t _ => 4 - (intOf t).toNat)
  case atStart => exact ⟨1, by omega, by omega, rfl, by rw [HR.out, HR0.out]; rfl, M1⟩
  case round =>
    clear M1
    obtain ⟨i, hi1, hi, rfl, rfl, M⟩ := hrel
    have hL := hid (hc0.out i).2.len
    have hc : (rip (limbs x) n i).2 ≤ 1 := by
      obtain ⟨j, rfl⟩ : ∃ j, i = j + 1 := ⟨i - 1, by omega⟩
      exact (hc0.out j).1
    by_cases hlt : i < 4
    · go_upto_region 6 with fail
      refine wp_region_seq 14 [24, 25, 26, 27, 28, 29, 30, 31, 32, 23, 33, 34, 35, 36] [] [11] [] (.op 14 (.op 15 .done)) (Mm (fun g => g = b) w _) (by kernel_rfl) (by kernel_rfl) (by kernel_rfl) (fun d _ _ _ _ h => by cases d <;> exact h) (by rfl) M.size (fun _ _ h k => h.sf k) M ?_
      simp only [List.take_succ_cons, List.take_zero]
      refine SeqA.pure (.pointer (some ⟨b, 0, none⟩)) (fun w' => by go_simp) rfl rfl ?_
      refine SeqA.pure (.int .i64 i) (fun w' => by go_simp) rfl rfl ?_
      refine SeqA.pure (.pointer (some ⟨b, 0, none⟩)) (fun w' => by go_simp) rfl rfl ?_
      refine SeqA.pure (.int .i64 i) (fun w' => by go_simp) rfl rfl ?_
      refine SeqA.pure (.pointer (some ⟨b, 0, none⟩)) (fun w' => by go_simp) rfl rfl ?_
      simp only [Act.put, List.setIfInBounds_toArray, List.set_cons_succ, List.set_cons_zero]
      refine SeqA.pure (.pointer (some ⟨b, i, none⟩)) (fun w' => by go_simp) rfl rfl ?_
      refine SeqA.read (N64 (gN (rip (limbs x) n i).1 i)) (fun w' M => by have c0 := cell_gN (M.row (b := b) (c := cs N64 (rip (limbs x) n i).1) (by simp)) (i := i) (by rw [hL]; exact hlt); go_simp) rfl rfl ?_
      refine SeqA.pure (N64 (rip (limbs x) n i).2) (fun w' => by go_simp) rfl rfl ?_
      refine SeqA.pure (.tuple #[N64 (((gN (rip (limbs x) n i).1 i) + ((rip (limbs x) n i).2)) % 18446744073709551616), N64 (((gN (rip (limbs x) n i).1 i) + ((rip (limbs x) n i).2)) / 18446744073709551616)]) (fun w' => by have q := add64i (gN (rip (limbs x) n i).1 i) 0 ((rip (limbs x) n i).2) _ 0 _ rfl rfl rfl (by omega) w'; (try simp only [Nat.add_zero] at q); go_simp) rfl rfl ?_
      refine SeqA.pure (.tuple #[N64 (((gN (rip (limbs x) n i).1 i) + ((rip (limbs x) n i).2)) % 18446744073709551616), N64 (((gN (rip (limbs x) n i).1 i) + ((rip (limbs x) n i).2)) / 18446744073709551616)]) (fun w' => by go_simp) rfl rfl ?_
      refine SeqA.pure (N64 (((gN (rip (limbs x) n i).1 i) + ((rip (limbs x) n i).2)) % 18446744073709551616)) (fun w' => by go_simp) rfl rfl ?_
      simp only [Act.put, List.setIfInBounds_toArray, List.set_cons_succ, List.set_cons_zero]
      refine SeqA.pure (N64 (((gN (rip (limbs x) n i).1 i) + ((rip (limbs x) n i).2)) / 18446744073709551616)) (fun w' => by go_simp) rfl rfl ?_
      refine SeqA.pure (.pointer (some ⟨b, 0, none⟩)) (fun w' => by go_simp) rfl rfl ?_
      refine SeqA.pure (.pointer (some ⟨b, i, none⟩)) (fun w' => by go_simp) rfl rfl ?_
      refine SeqA.nil (fun w1 M2 hz => ?_)
      show wpT _ _ _ _ _ _
      simp only [Act.put, List.setIfInBounds_toArray, List.set_cons_succ, List.set_cons_zero]
      refine wpT_stc M2 0 (N64 (((gN (rip (limbs x) n i).1 i) + ((rip (limbs x) n i).2)) % 18446744073709551616)) (cs N64 ((rip (limbs x) n i).1.set i (((gN (rip (limbs x) n i).1 i) + ((rip (limbs x) n i).2)) % 18446744073709551616))) inf_u64 rfl rfl rfl rfl (by go_simp) (by go_simp) (by have := (by rw [hL]; exact hlt : i < (rip (limbs x) n i).1.length); first | (simp; done) | (simpa using this) | (simp; omega)) (by simp [go_sem]) (cs_set _ _) rfl (fun w3 M4 => ?_)
      dsimp only [List.set] at M4
      refine wpT_val (v := N64 (((gN (rip (limbs x) n i).1 i) + ((rip (limbs x) n i).2)) / 18446744073709551616)) rfl rfl rfl ?_
      dsimp only [wpT]
      simp only [Act.put, List.setIfInBounds_toArray, List.set_cons_succ, List.set_cons_zero]
      go_wp2_with fail
      go_roundw
      case rel => exact ⟨i + 1, by omega, by omega, by go_num, by rw [HR.out]; rfl, by rw [HR.out]; exact M4⟩
      case measure => simp [intOf]; omega
    · have : i = 4 := by omega
      subst this
      go_wp2_with fail
      go_ret
      rw [H4.out.1] at M
      exact ⟨by rw [H4.out.2]; rfl, M⟩
def mvn (c : Array Value) : Nat := vn (c.toList.map fun v => (intOf v).toNat)
theorem mvn_cs (l : List Nat) : mvn (cs N64 l) = vn l := by
  unfold mvn
  congr 1
  simp [cs, intOf, Function.comp_def]
theorem fold1_small {n : Nat} (h : n < M256 * 288230376151711744) (h2 : M256 ≤ n) : fold1 n < n ∧ fold1 n < M256 * 288230376151711744 ∧ red (fold1 n) = red n ∧ n / M256 * 38 < M64 ∧ 0 < n / M256 := by
  have h1 : n / M256 < 288230376151711744 := Nat.div_lt_of_lt_mul h
  have h3 := Nat.mod_lt n (show 0 < M256 by decide)
  have h4 := Nat.mod_add_div n M256
  have h5 : 0 < n / M256 := Nat.div_pos h2 (by decide)
  have h6 : M256 * (n / M256) ≥ M256 * 1 := Nat.mul_le_mul_left _ h5
  have h7 : M256 * (n / M256) ≥ 39 * (n / M256) := Nat.mul_le_mul_right _ (by decide)
  refine ⟨?_, ?_, ?_, ?_, h5⟩
  · unfold fold1; omega
  · unfold fold1; simp only [M256] at *; omega
  · have := red_lt h
    show fold1 (fold1 (fold1 n)) = red n
    exact fold1_lt this
  · simp only [M64]; omega
theorem red_id {n : Nat} (h : n < M256) : red n = n := by unfold red; rw [fold1_lt h, fold1_lt h]
set_option maxRecDepth 100000 in
set_option maxHeartbeats 2000000 in
theorem settle_any (w : World) (b n : Nat) (hn : n < M256 * 288230376151711744) (M : Mm (fun g => g = b) w [(b, cs N64 (limbs n))] w) :
    Calls Tryd.prog 82 #[.pointer (some ⟨b, 0, none⟩), N64 (n / M256)] w fun e w' => e = .returned (.tuple #[]) ∧ Mm (fun g => g = b) w [(b, cs N64 (limbs (red n)))] w' := by
  have HN := hid hn
  clear hn
  go_enter Tryd.func82, Tryd.ntmps82
  go_wp2_with fail
  go_loopw [1] (fun c wr => ∃ v : Nat, v < M256 * 288230376151711744 ∧ red v = red n ∧ c = N64 (v / M256) ∧ Mm (fun g => g = b) w [(b, cs N64 (limbs v))] wr) (fun c wr => mvn (wr.rowOf b) + M256 * (intOf c).toNat)
  case atStart => exact ⟨n, HN.out, rfl, rfl, M⟩
  case round =>
    clear M
    obtain ⟨v, hv, hr, rfl, M⟩ := hrel
    have HV := hid hv; have HR := hid hr
    clear hv hr
    have hmv : mvn (wr.rowOf b) = v % M256 := by rw [M.row (b := b) (c := cs N64 (limbs v)) (by simp), mvn_cs, vn_limbs]
    have HMV := hid hmv
    clear hmv
    by_cases h : M256 ≤ v
    · obtain ⟨k1, k2, k3, k4, k5⟩ := fold1_small HV.out h
      obtain ⟨o, ho⟩ : ∃ o, o = v / M256 := ⟨_, rfl⟩
      rw [← ho] at k4 k5 ⊢
      obtain ⟨p, hp⟩ : ∃ p, p = o * 38 := ⟨_, rfl⟩
      rw [← hp] at k4
      have q : IntKind.u64.wrap ((o : Int) * 38) = (p : Int) := by simp only [M64] at k4; rw [wrap_u64']; omega
      have HO := hid ho; have HP := hid hp; have K1 := hid k1; have K2 := hid k2; have K3 := hid k3
      clear ho hp k1 k2 k3 h
      go_wp2_with fail
      with_reducible refine ((plus_any wr b v p k4 (M.loc (k := 0) rfl)).mono ?_)
      rintro e w2 ⟨rfl, N2⟩
      have M2 := M.back (k := 0) rfl N2
      have e1 : v % M256 + p = fold1 v := by unfold fold1; rw [HP.out, HO.out]; omega
      rw [e1] at M2 ⊢
      dsimp only [List.set] at M2
      have E1 := hid e1
      clear e1 q
      dsimp only
      go_wp2_with fail
      go_roundw
      case rel => exact ⟨fold1 v, K2.out, by rw [K3.out]; exact HR.out, rfl, M2⟩
      case measure =>
        rw [M2.row (b := b) (c := cs N64 (limbs (fold1 v))) (by simp), mvn_cs, vn_limbs, HMV.out, HO.out]
        show fold1 v % M256 + M256 * (fold1 v / M256) < v % M256 + M256 * (v / M256)
        rw [Nat.mod_add_div, Nat.mod_add_div]; exact K1.out
    · have h2 : v / M256 = 0 := Nat.div_eq_of_lt (by omega)
      rw [h2]
      have HH := hid h
      clear h h2
      go_wp2_with fail
      go_end0
      exact ⟨rfl, by rw [← HR.out, red_id (by have := HH.out; omega)]; exact M⟩
set_option maxRecDepth 100000 in
set_option maxHeartbeats 2000000 in
theorem nadd_any (w : World) (x y : Nat) :
    Calls Tryd.prog 79 #[.agg (cs N64 (limbs x)), .agg (cs N64 (limbs y))] w fun e w' => e = .returned (.agg (cs N64 (limbs (addV x y)))) ∧ Below w.heap.size w w' := by
  have M0 := Mm.start no w
  have M1 := (((M0.alloc (cs N64 (limbs x)) 97 (by decide)).alloc (cs N64 (limbs y)) 97 (by decide)).alloc (cs N64 (limbs 0)) 97 (by decide))
  simp only [World.size_alloc] at M1
  have HA0 := hid (aL_zero (limbs x) (limbs y))
  go_enter Tryd.func79, Tryd.ntmps79
  go_wp2_with fail
  go_loopw [5, 7] (fun c t wr => ∃ i : Nat, i ≤ 4 ∧ t = .int .i64 i ∧ c = N64 (aL (limbs x) (limbs y) i).2 ∧ Mm no w [(w.heap.size + 1 + 1, cs N64 (limbs 0)), (w.heap.size + 1, cs N64 (limbs y)), (w.heap.size, cs N64 (aL (limbs x) (limbs y) i).1)] wr) (fun _ t _ => 4 - (intOf t).toNat)
  case atStart => exact ⟨0, by omega, rfl, by rw [HA0.out]; rfl, by rw [HA0.out]; exact M1⟩
  case round =>
    clear M1 M0
    obtain ⟨i, hi, rfl, rfl, M⟩ := hrel
    obtain ⟨hl, hc, -⟩ := aL_spec (limbs_lm x) (limbs_lm y) i hi
    have hL := hid hl.len
    clear hl
    by_cases hlt : i < 4
    · go_upto_region 5 with fail
      refine wp_region_seq 13 [11, 12, 13, 14, 15, 16, 17, 18, 19, 10, 20, 21, 22] [] [11] [] (.op 13 (.op 14 .done)) (Mm no w _) (by kernel_rfl) (by kernel_rfl) (by kernel_rfl) (fun d _ _ _ _ h => by cases d <;> exact h) (by rfl) M.size (fun _ _ h k => h.sf k) M ?_
      simp only [List.take_succ_cons, List.take_zero]
      refine SeqA.pure (.int .i64 i) (fun w' => by go_simp) rfl rfl ?_
      refine SeqA.pure (.int .i64 i) (fun w' => by go_simp) rfl rfl ?_
      refine SeqA.pure (.pointer (some ⟨w.heap.size, i, none⟩)) (fun w' => by go_simp) rfl rfl ?_
      refine SeqA.read (N64 (gN (aL (limbs x) (limbs y) i).1 i)) (fun w' M => by have c0 := cell_gN (M.row (b := w.heap.size) (c := cs N64 (aL (limbs x) (limbs y) i).1) (by simp)) (i := i) (by rw [hL]; exact hlt); go_simp) rfl rfl ?_
      refine SeqA.pure (.int .i64 i) (fun w' => by go_simp) rfl rfl ?_
      simp only [Act.put, List.setIfInBounds_toArray, List.set_cons_succ, List.set_cons_zero]
      refine SeqA.pure (.pointer (some ⟨w.heap.size + 1, i, none⟩)) (fun w' => by go_simp) rfl rfl ?_
      refine SeqA.read (N64 (gN (limbs y) i)) (fun w' M => by have c0 := cell_gN (M.row (b := w.heap.size + 1) (c := cs N64 (limbs y)) (by simp)) (i := i) (by exact hlt); go_simp) rfl rfl ?_
      refine SeqA.pure (N64 (aL (limbs x) (limbs y) i).2) (fun w' => by go_simp) rfl rfl ?_
      refine SeqA.pure (.tuple #[N64 (((gN (aL (limbs x) (limbs y) i).1 i) + (gN (limbs y) i) + ((aL (limbs x) (limbs y) i).2)) % 18446744073709551616), N64 (((gN (aL (limbs x) (limbs y) i).1 i) + (gN (limbs y) i) + ((aL (limbs x) (limbs y) i).2)) / 18446744073709551616)]) (fun w' => by have q := add64i (gN (aL (limbs x) (limbs y) i).1 i) (gN (limbs y) i) ((aL (limbs x) (limbs y) i).2) _ _ _ rfl rfl rfl (by omega) w'; (try simp only [Nat.add_zero] at q); go_simp) rfl rfl ?_
      refine SeqA.pure (.tuple #[N64 (((gN (aL (limbs x) (limbs y) i).1 i) + (gN (limbs y) i) + ((aL (limbs x) (limbs y) i).2)) % 18446744073709551616), N64 (((gN (aL (limbs x) (limbs y) i).1 i) + (gN (limbs y) i) + ((aL (limbs x) (limbs y) i).2)) / 18446744073709551616)]) (fun w' => by go_simp) rfl rfl ?_
      refine SeqA.pure (N64 (((gN (aL (limbs x) (limbs y) i).1 i) + (gN (limbs y) i) + ((aL (limbs x) (limbs y) i).2)) % 18446744073709551616)) (fun w' => by go_simp) rfl rfl ?_
      simp only [Act.put, List.setIfInBounds_toArray, List.set_cons_succ, List.set_cons_zero]
      refine SeqA.pure (N64 (((gN (aL (limbs x) (limbs y) i).1 i) + (gN (limbs y) i) + ((aL (limbs x) (limbs y) i).2)) / 18446744073709551616)) (fun w' => by go_simp) rfl rfl ?_
      refine SeqA.pure (.pointer (some ⟨w.heap.size, i, none⟩)) (fun w' => by go_simp) rfl rfl ?_
      refine SeqA.nil (fun w1 M2 hz => ?_)
      show wpT _ _ _ _ _ _
      simp only [Act.put, List.setIfInBounds_toArray, List.set_cons_succ, List.set_cons_zero]
      refine wpT_stc M2 2 (N64 (((gN (aL (limbs x) (limbs y) i).1 i) + (gN (limbs y) i) + ((aL (limbs x) (limbs y) i).2)) % 18446744073709551616)) (cs N64 ((aL (limbs x) (limbs y) i).1.set i (((gN (aL (limbs x) (limbs y) i).1 i) + (gN (limbs y) i) + ((aL (limbs x) (limbs y) i).2)) % 18446744073709551616))) inf_u64 rfl rfl rfl rfl (by go_simp) (by go_simp) (by have := (by rw [hL]; exact hlt : i < (aL (limbs x) (limbs y) i).1.length); first | (simp; done) | (simpa using this) | (simp; omega)) (by simp [go_sem]) (cs_set _ _) rfl (fun w3 M4 => ?_)
      dsimp only [List.set] at M4
      refine wpT_val (v := N64 (((gN (aL (limbs x) (limbs y) i).1 i) + (gN (limbs y) i) + ((aL (limbs x) (limbs y) i).2)) / 18446744073709551616)) rfl rfl rfl ?_
      dsimp only [wpT]
      simp only [Act.put, List.setIfInBounds_toArray, List.set_cons_succ, List.set_cons_zero]
      go_wp2_with fail
      go_roundw
      case rel => exact ⟨i + 1, by omega, by go_num, by rw [aL_succ]; rfl, by rw [aL_succ]; exact M4⟩
      case measure => simp [intOf]; omega
    · have : i = 4 := by omega
      subst this
      have e4 := aL4 x y
      rw [e4.1] at M
      rw [e4.2]
      obtain ⟨s, hs⟩ : ∃ s, s = x % M256 + y % M256 := ⟨_, rfl⟩
      rw [← hs] at M ⊢
      have hs2 : s < M256 * 288230376151711744 := by have h1 := mod256_lt x; have h2 := mod256_lt y; rw [hs]; simp only [M256] at *; omega
      have HS := hid hs; have HS2 := hid hs2
      clear e4 hs hs2 hL hc
      go_wp2_with fail
      with_reducible refine ((settle_any wr _ s HS2.out (M.loc (k := 2) rfl)).mono ?_)
      rintro e w2 ⟨rfl, N2⟩
      have M2 := M.back (k := 2) rfl N2
      dsimp only [List.set] at M2
      have r2 := M2.row (b := w.heap.size) (c := cs N64 (limbs (red s))) (by simp)
      have f2 := M2.free (b := w.heap.size + 1 + 1) (c := cs N64 (limbs 0)) (by simp)
      have r3 := M2.row (b := w.heap.size + 1 + 1) (c := cs N64 (limbs 0)) (by simp)
      dsimp only
      go_wp2_with fail
      have M3 := M2.set 0 (cs N64 (limbs (red s))) rfl
      dsimp only [List.set] at M3
      have r4 := M3.row (b := w.heap.size + 1 + 1) (c := cs N64 (limbs (red s))) (by simp)
      refine bodyPost_ret (res_row (b := w.heap.size + 1 + 1) rfl Tryd.underlying97 rfl inf_num _ _ rfl (by rw [r4]; simp)) rfl ?_
      rw [r4]
      exact ⟨by unfold addV; rw [HS.out], M3.end_⟩
end Go.Proofs.YtgclegdgngldoaaDoor
set_option linter.unusedSimpArgs false
set_option linter.unusedVariables false
namespace Go.Proofs.YtgclegdgngldoaaDoor.Fp
/-- a borrow goes up -/
def bL (l : List Nat) (n : Nat) : Nat → List Nat × Nat
  | 0 => (l, n)
  | i + 1 => ((bL l n i).1.set i (((bL l n i).1.getD i 0 + 18446744073709551616 - (bL l n i).2) % 18446744073709551616), if (bL l n i).1.getD i 0 < (bL l n i).2 then 1 else 0)
theorem bL_step {a c : Nat} (ha : a < M64) (hc : c ≤ M64) : (a + 18446744073709551616 - c) % 18446744073709551616 + c = a + M64 * (if a < c then 1 else 0) := by
  simp only [M64] at *
  split <;> omega
theorem bL_spec {l : List Nat} (h : Lm l) (n : Nat) (hn : n ≤ M64) : ∀ i, i ≤ 4 → Lm (bL l n i).1 ∧ (bL l n i).2 ≤ M64 ∧ (0 < i → (bL l n i).2 ≤ 1) ∧ vn (bL l n i).1 + n = vn l + M64 ^ i * (bL l n i).2
  | 0, _ => ⟨h, hn, fun h => absurd h (Nat.lt_irrefl _), by simp [bL]⟩
  | i + 1, hi => by
    obtain ⟨h1, h0, _, h2⟩ := bL_spec h n hn i (by omega)
    have h5 := bL_step (h1.getD i) h0
    refine ⟨h1.set _ _ (Nat.mod_lt _ (by decide)), by simp only [bL]; simp only [M64]; split <;> omega, fun _ => by simp only [bL]; split <;> omega, ?_⟩
    have h3 := vn_set h1 (show i < 4 by omega) (((bL l n i).1.getD i 0 + 18446744073709551616 - (bL l n i).2) % 18446744073709551616)
    have h6 := congrArg (M64 ^ i * ·) h5
    simp only [Nat.mul_add] at h6
    simp only [bL, Nat.pow_succ]
    rw [Nat.mul_assoc]
    omega
theorem bL4 (x : Nat) : (bL (limbs x) 38 4).1 = limbs (if 38 ≤ x % M256 then x % M256 - 38 else x % M256 + M256 - 38) ∧ (bL (limbs x) 38 4).2 = if x % M256 < 38 then 1 else 0 := by
  obtain ⟨h1, _, h0, h2⟩ := bL_spec (limbs_lm x) 38 (by decide) 4 (Nat.le_refl _)
  rw [M64_pow4, vn_limbs] at h2
  exact lm_sub h1 (mod256_lt x) (by decide) (h0 (by decide)) h2
theorem bL_zero (l : List Nat) (n : Nat) : bL l n 0 = (l, n) := rfl
theorem bL_succ (l : List Nat) (n i : Nat) : bL l n (i + 1) = ((bL l n i).1.set i (((bL l n i).1.getD i 0 + 18446744073709551616 - (bL l n i).2) % 18446744073709551616), if (bL l n i).1.getD i 0 < (bL l n i).2 then 1 else 0) := rfl
theorem dL_zero (l m : List Nat) (b : Nat) : dL l m b 0 = (l, b) := rfl
theorem dL_succ (l m : List Nat) (b i : Nat) : dL l m b (i + 1) = ((dL l m b i).1.set i (((dL l m b i).1.getD i 0 + 18446744073709551616 - m.getD i 0 - (dL l m b i).2) % 18446744073709551616), if (dL l m b i).1.getD i 0 < m.getD i 0 + (dL l m b i).2 then 1 else 0) := rfl
/-- what comes of a number, if 2^256 has been borrowed -/
def unb (v b : Nat) : Nat := if b = 0 then v else if 38 ≤ v then v - 38 else v + M256 - 76
theorem unb_step {v : Nat} (hv : v < M256) : unb (if 38 ≤ v then v - 38 else v + M256 - 38) (if v < 38 then 1 else 0) = unb v 1 ∧ (if 38 ≤ v then v - 38 else v + M256 - 38) < M256 := by
  unfold unb
  simp only [M256] at *
  by_cases h : 38 ≤ v
  · have h2 : ¬ v < 38 := by omega
    simp only [h, h2, if_true, if_false, Nat.one_ne_zero]; exact ⟨trivial, by omega⟩
  · have h2 : v < 38 := by omega
    have h3 : 38 ≤ v + 115792089237316195423570985008687907853269984665640564039457584007913129639936 - 38 := by omega
    simp only [h, h2, h3, if_true, if_false, Nat.one_ne_zero]; omega
theorem unb_sub (x y : Nat) : unb (if y % M256 ≤ x % M256 then x % M256 - y % M256 else x % M256 + M256 - y % M256) (if x % M256 < y % M256 then 1 else 0) = subV x y ∧ (if y % M256 ≤ x % M256 then x % M256 - y % M256 else x % M256 + M256 - y % M256) < M256 := by
  have h1 := mod256_lt x
  have h2 := mod256_lt y
  unfold unb subV
  by_cases h : y % M256 ≤ x % M256
  · have h3 : ¬ x % M256 < y % M256 := by omega
    simp only [h, h3, if_true, if_false]
    exact ⟨trivial, by omega⟩
  · have h3 : x % M256 < y % M256 := by omega
    simp only [h, h3, if_true, if_false, Nat.one_ne_zero]
    exact ⟨trivial, by omega⟩
end Go.Proofs.YtgclegdgngldoaaDoor.Fp
namespace Go.Proofs.YtgclegdgngldoaaDoor
open Go.RowKit Fp
def msub (c : Value) (w : World) (b : Nat) : Nat := (intOf c).toNat * (if 38 ≤ mvn (w.rowOf b) then 1 else 2)
attribute [local irreducible] dL bL
set_option maxRecDepth 100000 in
set_option maxHeartbeats 4000000 in
theorem nsub_any (w : World) (x y : Nat) :
    Calls Tryd.prog 80 #[.agg (cs N64 (limbs x)), .agg (cs N64 (limbs y))] w fun e w' => e = .returned (.agg (cs N64 (limbs (subV x y)))) ∧ Below w.heap.size w w' := by
  have M0 := Mm.start no w
  have M1 := (((M0.alloc (cs N64 (limbs x)) 97 (by decide)).alloc (cs N64 (limbs y)) 97 (by decide)).alloc (cs N64 (limbs 0)) 97 (by decide))
  simp only [World.size_alloc] at M1
  have HA0 := hid (dL_zero (limbs x) (limbs y) 0)
  have HAS := hid (dL_succ (limbs x) (limbs y) 0)
  go_enter Tryd.func80, Tryd.ntmps80
  go_wp2_with fail
  go_loopw [5, 8] (fun c t wr => ∃ i : Nat, i ≤ 4 ∧ t = .int .i64 i ∧ c = N64 (dL (limbs x) (limbs y) 0 i).2 ∧ Mm no w [(w.heap.size + 1 + 1, cs N64 (limbs 0)), (w.heap.size + 1, cs N64 (limbs y)), (w.heap.size, cs N64 (dL (limbs x) (limbs y) 0 i).1)] wr) (fun _ t _ => 4 - (intOf t).toNat)
  case atStart => exact ⟨0, by omega, rfl, by rw [HA0.out]; rfl, by rw [HA0.out]; exact M1⟩
  case round =>
    clear M1 M0
    obtain ⟨i, hi, rfl, rfl, M⟩ := hrel
    obtain ⟨hl, hc, -⟩ := dL_spec (limbs_lm x) (limbs_lm y) 0 (by decide) i hi
    have hL := hid hl.len
    clear hl
    by_cases hlt : i < 4
    · go_upto_region 5 with fail
      refine wp_region_seq 13 [12, 13, 14, 15, 16, 17, 18, 19, 20, 11, 21, 22, 23] [] [11] [] (.op 13 (.op 14 .done)) (Mm no w _) (by kernel_rfl) (by kernel_rfl) (by kernel_rfl) (fun d _ _ _ _ h => by cases d <;> exact h) (by rfl) M.size (fun _ _ h k => h.sf k) M ?_
      simp only [List.take_succ_cons, List.take_zero]
      refine SeqA.pure (.int .i64 i) (fun w' => by go_simp) rfl rfl ?_
      refine SeqA.pure (.int .i64 i) (fun w' => by go_simp) rfl rfl ?_
      refine SeqA.pure (.pointer (some ⟨w.heap.size, i, none⟩)) (fun w' => by go_simp) rfl rfl ?_
      refine SeqA.read (N64 (gN (dL (limbs x) (limbs y) 0 i).1 i)) (fun w' M => by have c0 := cell_gN (M.row (b := w.heap.size) (c := cs N64 (dL (limbs x) (limbs y) 0 i).1) (by simp)) (i := i) (by rw [hL]; exact hlt); go_simp) rfl rfl ?_
      refine SeqA.pure (.int .i64 i) (fun w' => by go_simp) rfl rfl ?_
      simp only [Act.put, List.setIfInBounds_toArray, List.set_cons_succ, List.set_cons_zero]
      refine SeqA.pure (.pointer (some ⟨w.heap.size + 1, i, none⟩)) (fun w' => by go_simp) rfl rfl ?_
      refine SeqA.read (N64 (gN (limbs y) i)) (fun w' M => by have c0 := cell_gN (M.row (b := w.heap.size + 1) (c := cs N64 (limbs y)) (by simp)) (i := i) (by exact hlt); go_simp) rfl rfl ?_
      refine SeqA.pure (N64 (dL (limbs x) (limbs y) 0 i).2) (fun w' => by go_simp) rfl rfl ?_
      refine SeqA.pure (.tuple #[N64 (((gN (dL (limbs x) (limbs y) 0 i).1 i) + 18446744073709551616 - (gN (limbs y) i) - ((dL (limbs x) (limbs y) 0 i).2)) % 18446744073709551616), N64 (bw (gN (dL (limbs x) (limbs y) 0 i).1 i) ((gN (limbs y) i) + ((dL (limbs x) (limbs y) 0 i).2)))]) (fun w' => by have q := sub64i (gN (dL (limbs x) (limbs y) 0 i).1 i) (gN (limbs y) i) ((dL (limbs x) (limbs y) 0 i).2) _ _ _ rfl rfl rfl (by omega) w'; (try simp only [Nat.add_zero, Nat.zero_add, Nat.sub_zero] at q); go_simp) rfl rfl ?_
      refine SeqA.pure (.tuple #[N64 (((gN (dL (limbs x) (limbs y) 0 i).1 i) + 18446744073709551616 - (gN (limbs y) i) - ((dL (limbs x) (limbs y) 0 i).2)) % 18446744073709551616), N64 (bw (gN (dL (limbs x) (limbs y) 0 i).1 i) ((gN (limbs y) i) + ((dL (limbs x) (limbs y) 0 i).2)))]) (fun w' => by go_simp) rfl rfl ?_
      refine SeqA.pure (N64 (((gN (dL (limbs x) (limbs y) 0 i).1 i) + 18446744073709551616 - (gN (limbs y) i) - ((dL (limbs x) (limbs y) 0 i).2)) % 18446744073709551616)) (fun w' => by go_simp) rfl rfl ?_
      simp only [Act.put, List.setIfInBounds_toArray, List.set_cons_succ, List.set_cons_zero]
      refine SeqA.pure (N64 (bw (gN (dL (limbs x) (limbs y) 0 i).1 i) ((gN (limbs y) i) + ((dL (limbs x) (limbs y) 0 i).2)))) (fun w' => by go_simp) rfl rfl ?_
      refine SeqA.pure (.pointer (some ⟨w.heap.size, i, none⟩)) (fun w' => by go_simp) rfl rfl ?_
      refine SeqA.nil (fun w1 M2 hz => ?_)
      show wpT _ _ _ _ _ _
      simp only [Act.put, List.setIfInBounds_toArray, List.set_cons_succ, List.set_cons_zero]
      refine wpT_stc M2 2 (N64 (((gN (dL (limbs x) (limbs y) 0 i).1 i) + 18446744073709551616 - (gN (limbs y) i) - ((dL (limbs x) (limbs y) 0 i).2)) % 18446744073709551616)) (cs N64 ((dL (limbs x) (limbs y) 0 i).1.set i (((gN (dL (limbs x) (limbs y) 0 i).1 i) + 18446744073709551616 - (gN (limbs y) i) - ((dL (limbs x) (limbs y) 0 i).2)) % 18446744073709551616))) inf_u64 rfl rfl rfl rfl (by go_simp) (by go_simp) (by have := (by rw [hL]; exact hlt : i < (dL (limbs x) (limbs y) 0 i).1.length); first | (simp; done) | (simpa using this) | (simp; omega)) (by simp [go_sem]) (cs_set _ _) rfl (fun w3 M4 => ?_)
      dsimp only [List.set] at M4
      refine wpT_val (v := N64 (bw (gN (dL (limbs x) (limbs y) 0 i).1 i) ((gN (limbs y) i) + ((dL (limbs x) (limbs y) 0 i).2)))) rfl rfl rfl ?_
      dsimp only [wpT]
      simp only [Act.put, List.setIfInBounds_toArray, List.set_cons_succ, List.set_cons_zero]
      go_wp2_with fail
      go_roundw
      case rel => exact ⟨i + 1, by omega, by go_num, by rw [HAS.out]; rfl, by rw [HAS.out]; exact M4⟩
      case measure => simp [intOf]; omega
    · have : i = 4 := by omega
      subst this
      have e4 := dL4 x y
      obtain ⟨hu, hv0⟩ := unb_sub x y
      rw [e4.1] at M
      rw [e4.2]
      obtain ⟨s, hs⟩ : ∃ s, s = if y % M256 ≤ x % M256 then x % M256 - y % M256 else x % M256 + M256 - y % M256 := ⟨_, rfl⟩
      obtain ⟨b0, hb0⟩ : ∃ b, b = if x % M256 < y % M256 then 1 else 0 := ⟨_, rfl⟩
      have hb1 : b0 ≤ 1 := by rw [hb0]; split <;> omega
      rw [← hs] at M hu hv0
      rw [← hb0] at hu ⊢
      have HU := hid hu; have HV0 := hid hv0
      clear e4 hs hb0 hu hv0 hL hc hi hlt
      rw [show ((4 : Nat) : Int) = 4 from rfl]
      go_upto_block 2 with fail
      obtain ⟨wo, hwo⟩ : ∃ wo, wo = wr := ⟨_, rfl⟩
      rw [← hwo] at M ⊢
      clear hwo
      go_wp2_with fail
      go_loopw [5] (fun c wr => ∃ v b : Nat, v < M256 ∧ b ≤ 1 ∧ unb v b = subV x y ∧ c = N64 b ∧ Mm no w [(w.heap.size + 1 + 1, cs N64 (limbs 0)), (w.heap.size + 1, cs N64 (limbs y)), (w.heap.size, cs N64 (limbs v))] wr) (fun c wr => msub c wr w.heap.size)
      case atStart => exact ⟨s, b0, HV0.out, hb1, HU.out, rfl, M⟩
      case round =>
        clear M hb1
        obtain ⟨v, b, hv, hb, hu, rfl, M⟩ := hrel
        have hmv : mvn (wr.rowOf w.heap.size) = v := by rw [M.row (b := w.heap.size) (c := cs N64 (limbs v)) (by simp), mvn_cs, vn_limbs, Nat.mod_eq_of_lt hv]
        have HMV := hid hmv; have HV := hid hv; have HU2 := hid hu
        clear hmv hv hu
        by_cases hb0 : b = 0
        · subst hb0
          go_upto_region 13 with fail
          have r2 := M.row (b := w.heap.size) (c := cs N64 (limbs v)) (by simp)
          have f3 := M.free (b := w.heap.size + 1 + 1) (c := cs N64 (limbs 0)) (by simp)
          have r3 := M.row (b := w.heap.size + 1 + 1) (c := cs N64 (limbs 0)) (by simp)
          go_wp2_with fail
          have M3 := M.set 0 (cs N64 (limbs v)) rfl
          dsimp only [List.set] at M3
          have r4 := M3.row (b := w.heap.size + 1 + 1) (c := cs N64 (limbs v)) (by simp)
          refine bodyPost_ret (res_row (b := w.heap.size + 1 + 1) rfl Tryd.underlying97 rfl inf_num _ _ rfl (by rw [r4]; simp)) rfl ?_
          rw [r4]
          exact ⟨by rw [← HU2.out]; rfl, M3.end_⟩
        · have hb2 : b = 1 := by omega
          subst hb2
          have hb0 : True := trivial
          clear hb
          go_upto_region 8 with fail
          refine wp_region_seqF 7 [28, 29, 30, 27, 31, 32, 33] [] [5] [] (.op 7 (.op 8 .done)) (Mm no w _) (by kernel_rfl) (by kernel_rfl) (fun d _ _ _ _ h => by cases d <;> exact h) (by rfl) M.size (fun _ _ h k => h.sf k) M (by kernel_rfl) ?_
          simp only [List.take_succ_cons, List.take_zero]
          refine SeqA.pure (.pointer (some ⟨w.heap.size, 0, none⟩)) (fun w' => by go_simp) rfl rfl ?_
          refine SeqA.read (N64 (gN (limbs v) 0)) (fun w' M => by have c0 := cell_gN (M.row (b := w.heap.size) (c := cs N64 (limbs v)) (by simp)) (i := 0) (by simp); go_simp) rfl rfl ?_
          refine SeqA.pure (.tuple #[N64 (((gN (limbs v) 0) + 18446744073709551616 - 38) % 18446744073709551616), N64 (bw (gN (limbs v) 0) (38))]) (fun w' => by have q := sub64i (gN (limbs v) 0) 38 0 _ 38 0 rfl rfl rfl (by decide) w'; (try simp only [Nat.add_zero, Nat.zero_add, Nat.sub_zero] at q); go_simp) rfl rfl ?_
          refine SeqA.pure (.tuple #[N64 (((gN (limbs v) 0) + 18446744073709551616 - 38) % 18446744073709551616), N64 (bw (gN (limbs v) 0) (38))]) (fun w' => by go_simp) rfl rfl ?_
          refine SeqA.pure (N64 (((gN (limbs v) 0) + 18446744073709551616 - 38) % 18446744073709551616)) (fun w' => by go_simp) rfl rfl ?_
          simp only [Act.put, List.setIfInBounds_toArray, List.set_cons_succ, List.set_cons_zero]
          refine SeqA.pure (N64 (bw (gN (limbs v) 0) (38))) (fun w' => by go_simp) rfl rfl ?_
          refine SeqA.pure (.pointer (some ⟨w.heap.size, 0, none⟩)) (fun w' => by go_simp) rfl rfl ?_
          refine SeqA.nil (fun w1 M2 hz => ?_)
          show wpT _ _ _ _ _ _
          simp only [Act.put, List.setIfInBounds_toArray, List.set_cons_succ, List.set_cons_zero]
          refine wpT_stc M2 2 (N64 (((gN (limbs v) 0) + 18446744073709551616 - 38) % 18446744073709551616)) (cs N64 ((limbs v).set 0 (((gN (limbs v) 0) + 18446744073709551616 - 38) % 18446744073709551616))) inf_u64 rfl rfl rfl rfl (by go_simp) (by go_simp) (by have := (by simp : 0 < (limbs v).length); first | (simp; done) | (simpa using this) | (simp; omega)) (by simp [go_sem]) (cs_set _ _) rfl (fun w3 M4 => ?_)
          dsimp only [List.set] at M4
          refine wpT_val (v := N64 (bw (gN (limbs v) 0) (38))) rfl rfl rfl ?_
          dsimp only [wpT]
          simp only [Act.put, List.setIfInBounds_toArray, List.set_cons_succ, List.set_cons_zero]
          go_wp2_with fail
          obtain ⟨wp, hwp⟩ : ∃ wp, wp = w3 := ⟨_, rfl⟩
          rw [← hwp] at M4 ⊢
          clear hwp M M2
          have HB0 := hid (bL_zero (limbs v) 38)
          have HBS := hid (bL_succ (limbs v) 38)
          have M5 : Mm no w [(w.heap.size + 1 + 1, cs N64 (limbs 0)), (w.heap.size + 1, cs N64 (limbs y)), (w.heap.size, cs N64 (bL (limbs v) 38 1).1)] wp := by rw [HBS.out, HB0.out]; exact M4
          clear M4
          go_loopw [5, 7] (fun c t ws => ∃ i : Nat, 1 ≤ i ∧ i ≤ 4 ∧ t = .int .i64 i ∧ c = N64 (bL (limbs v) 38 i).2 ∧ Mm no w [(w.heap.size + 1 + 1, cs N64 (limbs 0)), (w.heap.size + 1, cs N64 (limbs y)), (w.heap.size, cs N64 (bL (limbs v) 38 i).1)] ws) (fun _ t _ => 4 - (intOf t).toNat)
          case atStart => exact ⟨1, by omega, by omega, rfl, by rw [HBS.out, HB0.out]; rfl, M5⟩
          case round =>
            clear M5
            obtain ⟨i, hi1, hi, rfl, rfl, M⟩ := hrel
            obtain ⟨hl, _, hc, -⟩ := bL_spec (limbs_lm v) 38 (by decide) i hi
            have hc := hc hi1
            have hL := hid hl.len
            clear hl
            by_cases hlt : i < 4
            · go_upto_region 12 with fail
              refine wp_region_seqF 10 [39, 40, 41, 42, 43, 44, 38, 45, 46, 47] [] [8] [] (.op 10 (.op 11 .done)) (Mm no w _) (by kernel_rfl) (by kernel_rfl) (fun d _ _ _ _ h => by cases d <;> exact h) (by rfl) M.size (fun _ _ h k => h.sf k) M (by kernel_rfl) ?_
              simp only [List.take_succ_cons, List.take_zero]
              refine SeqA.pure (.int .i64 i) (fun w' => by go_simp) rfl rfl ?_
              refine SeqA.pure (.int .i64 i) (fun w' => by go_simp) rfl rfl ?_
              refine SeqA.pure (.pointer (some ⟨w.heap.size, i, none⟩)) (fun w' => by go_simp) rfl rfl ?_
              refine SeqA.read (N64 (gN (bL (limbs v) 38 i).1 i)) (fun w' M => by have c0 := cell_gN (M.row (b := w.heap.size) (c := cs N64 (bL (limbs v) 38 i).1) (by simp)) (i := i) (by rw [hL]; exact hlt); go_simp) rfl rfl ?_
              refine SeqA.pure (N64 (bL (limbs v) 38 i).2) (fun w' => by go_simp) rfl rfl ?_
              simp only [Act.put, List.setIfInBounds_toArray, List.set_cons_succ, List.set_cons_zero]
              refine SeqA.pure (.tuple #[N64 (((gN (bL (limbs v) 38 i).1 i) + 18446744073709551616 - ((bL (limbs v) 38 i).2)) % 18446744073709551616), N64 (bw (gN (bL (limbs v) 38 i).1 i) (((bL (limbs v) 38 i).2)))]) (fun w' => by have q := sub64i (gN (bL (limbs v) 38 i).1 i) 0 ((bL (limbs v) 38 i).2) _ 0 _ rfl rfl rfl (by omega) w'; (try simp only [Nat.add_zero, Nat.zero_add, Nat.sub_zero] at q); go_simp) rfl rfl ?_
              refine SeqA.pure (.tuple #[N64 (((gN (bL (limbs v) 38 i).1 i) + 18446744073709551616 - ((bL (limbs v) 38 i).2)) % 18446744073709551616), N64 (bw (gN (bL (limbs v) 38 i).1 i) (((bL (limbs v) 38 i).2)))]) (fun w' => by go_simp) rfl rfl ?_
              refine SeqA.pure (N64 (((gN (bL (limbs v) 38 i).1 i) + 18446744073709551616 - ((bL (limbs v) 38 i).2)) % 18446744073709551616)) (fun w' => by go_simp) rfl rfl ?_
              refine SeqA.pure (N64 (bw (gN (bL (limbs v) 38 i).1 i) (((bL (limbs v) 38 i).2)))) (fun w' => by go_simp) rfl rfl ?_
              refine SeqA.pure (.pointer (some ⟨w.heap.size, i, none⟩)) (fun w' => by go_simp) rfl rfl ?_
              refine SeqA.nil (fun w1 M2 hz => ?_)
              show wpT _ _ _ _ _ _
              simp only [Act.put, List.setIfInBounds_toArray, List.set_cons_succ, List.set_cons_zero]
              refine wpT_stc M2 2 (N64 (((gN (bL (limbs v) 38 i).1 i) + 18446744073709551616 - ((bL (limbs v) 38 i).2)) % 18446744073709551616)) (cs N64 ((bL (limbs v) 38 i).1.set i (((gN (bL (limbs v) 38 i).1 i) + 18446744073709551616 - ((bL (limbs v) 38 i).2)) % 18446744073709551616))) inf_u64 rfl rfl rfl rfl (by go_simp) (by go_simp) (by have := (by rw [hL]; exact hlt : i < (bL (limbs v) 38 i).1.length); first | (simp; done) | (simpa using this) | (simp; omega)) (by simp [go_sem]) (cs_set _ _) rfl (fun w3 M4 => ?_)
              dsimp only [List.set] at M4
              refine wpT_val (v := N64 (bw (gN (bL (limbs v) 38 i).1 i) (((bL (limbs v) 38 i).2)))) rfl rfl rfl ?_
              dsimp only [wpT]
              simp only [Act.put, List.setIfInBounds_toArray, List.set_cons_succ, List.set_cons_zero]
              go_wp2_with fail
              go_roundw
              case rel => exact ⟨i + 1, by omega, by omega, by go_num, by rw [HBS.out]; rfl, by rw [HBS.out]; exact M4⟩
              case measure => simp [intOf]; omega
            · have : i = 4 := by omega
              subst this
              have e4 := bL4 v
              rw [Nat.mod_eq_of_lt HV.out] at e4
              obtain ⟨k1, k2⟩ := unb_step HV.out
              rw [e4.1] at M
              rw [e4.2]
              obtain ⟨v2, hv2⟩ : ∃ s, s = if 38 ≤ v then v - 38 else v + M256 - 38 := ⟨_, rfl⟩
              obtain ⟨b2, hb2⟩ : ∃ b, b = if v < 38 then 1 else 0 := ⟨_, rfl⟩
              have hb3 : b2 ≤ 1 := by rw [hb2]; split <;> omega
              rw [← hv2] at M k1 k2
              rw [← hb2] at k1 ⊢
              have HK1 := hid k1; have HK2 := hid k2; have HV2 := hid hv2; have HB2 := hid hb2
              clear e4 k1 k2 hv2 hb2 hL hc hi hlt hi1
              go_wp2_with fail
              go_roundw
              case rel => exact ⟨v2, b2, HK2.out, hb3, by rw [HK1.out]; exact HU2.out, rfl, M⟩
              case measure =>
                unfold msub
                rw [M.row (b := w.heap.size) (c := cs N64 (limbs v2)) (by simp), mvn_cs, vn_limbs, HMV.out, Nat.mod_eq_of_lt HK2.out]
                have h1 := HV2.out
                have h2 := HB2.out
                have h3 := HV.out
                simp only [intOf, M256] at *
                by_cases h : 38 ≤ v
                · rw [if_neg (by omega)] at h2; subst h2; simp [h]
                · rw [if_neg h] at h1
                  rw [if_pos (by omega)] at h2
                  subst h2
                  rw [if_neg h, if_pos (by omega)]; decide
end Go.Proofs.YtgclegdgngldoaaDoor
set_option linter.unusedSimpArgs false
set_option linter.unusedVariables false
namespace Go.Proofs.YtgclegdgngldoaaDoor.Fp
theorem sL_zero (r l m : List Nat) (b : Nat) : sL r l m b 0 = (r, b) := rfl
theorem sL_succ (r l m : List Nat) (b i : Nat) : sL r l m b (i + 1) = ((sL r l m b i).1.set i ((l.getD i 0 + 18446744073709551616 - m.getD i 0 - (sL r l m b i).2) % 18446744073709551616), if l.getD i 0 < m.getD i 0 + (sL r l m b i).2 then 1 else 0) := rfl
theorem sL_len (l m : List Nat) (b : Nat) {r : List Nat} (hr : r.length = 4) (hb : b ≤ 1) : ∀ i, (sL r l m b i).1.length = 4 ∧ (sL r l m b i).2 ≤ 1
  | 0 => ⟨hr, hb⟩
  | i + 1 => ⟨by simp [sL, (sL_len l m b hr hb i).1], by simp only [sL]; split <;> omega⟩
theorem P_limbs : limbs P = [18446744073709551597, 18446744073709551615, 18446744073709551615, 9223372036854775807] := by decide
end Go.Proofs.YtgclegdgngldoaaDoor.Fp
namespace Go.Proofs.YtgclegdgngldoaaDoor
open Go.RowKit Fp
attribute [local irreducible] sL
theorem idx_num (w : World) (l : List Nat) (i : Nat) (h : i < 4) (hl : l.length = 4) : (Instr.index 97 (.agg (cs N64 l)) (.int .i64 i)).run Tryd.prog w = .ok (N64 (gN l i)) w := by
  have hx : (cs N64 l)[i]? = some (N64 (gN l i)) := by unfold gN; rw [cs_get_lt (by omega), List.getD_eq_getElem?_getD, List.getElem?_eq_getElem (by omega)]; rfl
  have hi : (i : Int) < 4 := by omega
  simp [Instr.index, asIntOf, run_underlying Tryd.underlying97, h, hi, part, isAgg, run_underlying Tryd.underlying95, hx]
set_option maxRecDepth 100000 in
set_option maxHeartbeats 1000000 in
theorem prime_any (w : World) :
    Calls Tryd.prog 102 #[] w fun e w' => e = .returned (.agg (cs N64 (limbs P))) ∧ Below w.heap.size w w' := by
  have hb : ∀ w, (Instr.build 97 #[(0, .int .u64 18446744073709551597), (1, .int .u64 18446744073709551615), (2, .int .u64 18446744073709551615), (3, .int .u64 9223372036854775807)]).run Tryd.prog w = .ok (.agg (cs N64 [18446744073709551597, 18446744073709551615, 18446744073709551615, 9223372036854775807])) w := fun _ => by kernel_rfl
  rw [P_limbs]
  go_enter Tryd.func102, Tryd.ntmps102
  go_wp2_with fail
  refine bodyPost_ret (res_row (b := w.heap.size) rfl Tryd.underlying97 rfl inf_num _ _ rfl (by simp [go_sem])) rfl ?_
  exact ⟨by simp [go_sem]; rfl, (Below.refl _ _).alloc (Nat.le_refl _) _⟩
attribute [local irreducible] P
set_option maxRecDepth 100000 in
set_option maxHeartbeats 4000000 in
theorem ncanon_any (w : World) (x : Nat) :
    Calls Tryd.prog 84 #[.agg (cs N64 (limbs x))] w fun e w' => e = .returned (.agg (cs N64 (limbs (x % M256 % P)))) ∧ Below w.heap.size w w' := by
  have M0 := Mm.start no w
  have M1 := ((M0.alloc (cs N64 (limbs x)) 97 (by decide)).alloc (cs N64 (limbs 0)) 97 (by decide))
  simp only [World.size_alloc] at M1
  go_enter Tryd.func84, Tryd.ntmps84
  go_wp2_with fail
  go_loopw [4] (fun c wr => ∃ v : Nat, v < M256 ∧ v % P = x % M256 % P ∧ Mm no w [(w.heap.size + 1, cs N64 (limbs 0)), (w.heap.size, cs N64 (limbs v))] wr) (fun _ wr => mvn (wr.rowOf w.heap.size))
  case atStart => exact ⟨x % M256, mod256_lt x, rfl, by rw [limbs_mod]; exact M1⟩
  case round =>
    clear M1 M0
    obtain ⟨v, hv, hp, M⟩ := hrel
    have hmv : mvn (wr.rowOf w.heap.size) = v := by rw [M.row (b := w.heap.size) (c := cs N64 (limbs v)) (by simp), mvn_cs, vn_limbs, Nat.mod_eq_of_lt hv]
    have HMV := hid hmv; have HV := hid hv; have HP := hid hp
    clear hmv hv hp
    go_upto_region 3 with fail
    have M2 := M.alloc (cs N64 (limbs 0)) 97 (by decide)
    obtain ⟨b, hb⟩ : ∃ b, b = wr.heap.size := ⟨_, rfl⟩
    obtain ⟨w2, hw2⟩ : ∃ w2, w2 = wr.alloc (.cells (cs N64 (limbs 0)) 97) := ⟨_, rfl⟩
    rw [← hb, ← hw2] at M2
    rw [← hb, ← hw2]
    clear hb hw2
    go_wp2_with fail
    with_reducible refine ((prime_any w2).mono ?_)
    rintro e w3 ⟨rfl, hb3⟩
    have M3 := M2.below hb3
    have HS0 := hid (sL_zero (limbs 0) (limbs v) (limbs P) 0)
    have HSS := hid (sL_succ (limbs 0) (limbs v) (limbs P) 0)
    clear hb3 M2
    dsimp only
    go_wp2_with fail
    go_loopw [4, 8] (fun c t ws => ∃ i : Nat, i ≤ 4 ∧ t = .int .i64 i ∧ c = N64 (sL (limbs 0) (limbs v) (limbs P) 0 i).2 ∧ Mm no w [(b, cs N64 (sL (limbs 0) (limbs v) (limbs P) 0 i).1), (w.heap.size + 1, cs N64 (limbs 0)), (w.heap.size, cs N64 (limbs v))] ws) (fun _ t _ => 4 - (intOf t).toNat)
    case atStart => exact ⟨0, by omega, rfl, by rw [HS0.out]; rfl, by rw [HS0.out]; exact M3⟩
    case round =>
      clear M3
      obtain ⟨i, hi, rfl, rfl, M⟩ := hrel
      obtain ⟨hl, hc⟩ := sL_len (limbs v) (limbs P) 0 (limbs_len 0) (by decide) i
      have hL := hid hl
      clear hl
      by_cases hlt : i < 4
      · have hidx := idx_num wr (limbs P) i hlt (limbs_len P)
        go_upto_region 6 with fail
        clear hidx
        refine wp_region_seqF 11 [13, 14, 15, 16, 17, 18, 19, 12, 20, 21, 22] [] [9] [] (.op 11 (.op 12 .done)) (Mm no w _) (by kernel_rfl) (by kernel_rfl) (fun d _ _ _ _ h => by cases d <;> exact h) (by rfl) M.size (fun _ _ h k => h.sf k) M (by kernel_rfl) ?_
        simp only [List.take_succ_cons, List.take_zero]
        refine SeqA.pure (.int .i64 i) (fun w' => by go_simp) rfl rfl ?_
        refine SeqA.pure (.int .i64 i) (fun w' => by go_simp) rfl rfl ?_
        refine SeqA.pure (.pointer (some ⟨w.heap.size, i, none⟩)) (fun w' => by go_simp) rfl rfl ?_
        refine SeqA.read (N64 (gN (limbs v) i)) (fun w' M => by have c0 := cell_gN (M.row (b := w.heap.size) (c := cs N64 (limbs v)) (by simp)) (i := i) (by exact hlt); go_simp) rfl rfl ?_
        refine SeqA.pure (N64 (gN (limbs P) i)) (fun w' => by go_simp) rfl rfl ?_
        simp only [Act.put, List.setIfInBounds_toArray, List.set_cons_succ, List.set_cons_zero]
        refine SeqA.pure (N64 (sL (limbs 0) (limbs v) (limbs P) 0 i).2) (fun w' => by go_simp) rfl rfl ?_
        refine SeqA.pure (.tuple #[N64 (((gN (limbs v) i) + 18446744073709551616 - (gN (limbs P) i) - ((sL (limbs 0) (limbs v) (limbs P) 0 i).2)) % 18446744073709551616), N64 (bw (gN (limbs v) i) ((gN (limbs P) i) + ((sL (limbs 0) (limbs v) (limbs P) 0 i).2)))]) (fun w' => by have q := sub64i (gN (limbs v) i) (gN (limbs P) i) ((sL (limbs 0) (limbs v) (limbs P) 0 i).2) _ _ _ rfl rfl rfl (by omega) w'; (try simp only [Nat.add_zero, Nat.zero_add, Nat.sub_zero] at q); go_simp) rfl rfl ?_
        refine SeqA.pure (.tuple #[N64 (((gN (limbs v) i) + 18446744073709551616 - (gN (limbs P) i) - ((sL (limbs 0) (limbs v) (limbs P) 0 i).2)) % 18446744073709551616), N64 (bw (gN (limbs v) i) ((gN (limbs P) i) + ((sL (limbs 0) (limbs v) (limbs P) 0 i).2)))]) (fun w' => by go_simp) rfl rfl ?_
        refine SeqA.pure (N64 (((gN (limbs v) i) + 18446744073709551616 - (gN (limbs P) i) - ((sL (limbs 0) (limbs v) (limbs P) 0 i).2)) % 18446744073709551616)) (fun w' => by go_simp) rfl rfl ?_
        refine SeqA.pure (N64 (bw (gN (limbs v) i) ((gN (limbs P) i) + ((sL (limbs 0) (limbs v) (limbs P) 0 i).2)))) (fun w' => by go_simp) rfl rfl ?_
        refine SeqA.pure (.pointer (some ⟨b, i, none⟩)) (fun w' => by go_simp) rfl rfl ?_
        refine SeqA.nil (fun w1 M2 hz => ?_)
        show wpT _ _ _ _ _ _
        simp only [Act.put, List.setIfInBounds_toArray, List.set_cons_succ, List.set_cons_zero]
        refine wpT_stc M2 0 (N64 (((gN (limbs v) i) + 18446744073709551616 - (gN (limbs P) i) - ((sL (limbs 0) (limbs v) (limbs P) 0 i).2)) % 18446744073709551616)) (cs N64 ((sL (limbs 0) (limbs v) (limbs P) 0 i).1.set i (((gN (limbs v) i) + 18446744073709551616 - (gN (limbs P) i) - ((sL (limbs 0) (limbs v) (limbs P) 0 i).2)) % 18446744073709551616))) inf_u64 rfl rfl rfl rfl (by go_simp) (by go_simp) (by have := (by rw [hL]; exact hlt : i < (sL (limbs 0) (limbs v) (limbs P) 0 i).1.length); first | (simp; done) | (simpa using this) | (simp; omega)) (by simp [go_sem]) (cs_set _ _) rfl (fun w3 M4 => ?_)
        dsimp only [List.set] at M4
        refine wpT_val (v := N64 (bw (gN (limbs v) i) ((gN (limbs P) i) + ((sL (limbs 0) (limbs v) (limbs P) 0 i).2)))) rfl rfl rfl ?_
        dsimp only [wpT]
        simp only [Act.put, List.setIfInBounds_toArray, List.set_cons_succ, List.set_cons_zero]
        go_wp2_with fail
        go_roundw
        case rel => exact ⟨i + 1, by omega, by go_num, by rw [HSS.out]; rfl, by rw [HSS.out]; exact M4⟩
        case measure => simp [intOf]; omega
      · have : i = 4 := by omega
        subst this
        have e4 := sL4 v P (limbs_len 0)
        have hPm : P % M256 = P := Nat.mod_eq_of_lt P_lt
        rw [Nat.mod_eq_of_lt HV.out, hPm] at e4
        rw [e4.1] at M
        rw [e4.2]
        have HL := hid hL
        clear hL hc hi hlt hPm e4
        by_cases hlp : v < P
        · have e : (if v < P then 1 else 0) = 1 := if_pos hlp
          rw [e]
          have HLP := hid hlp
          clear e hlp
          go_upto_region 9 with fail
          have r2 := M.row (b := w.heap.size) (c := cs N64 (limbs v)) (by simp)
          have f3 := M.free (b := w.heap.size + 1) (c := cs N64 (limbs 0)) (by simp)
          have r3 := M.row (b := w.heap.size + 1) (c := cs N64 (limbs 0)) (by simp)
          go_wp2_with fail
          have M3 := M.set 1 (cs N64 (limbs v)) rfl
          dsimp only [List.set] at M3
          have r4 := M3.row (b := w.heap.size + 1) (c := cs N64 (limbs v)) (by simp)
          refine bodyPost_ret (res_row (b := w.heap.size + 1) rfl Tryd.underlying97 rfl inf_num _ _ rfl (by rw [r4]; simp)) rfl ?_
          rw [r4]
          exact ⟨by rw [← HP.out, Nat.mod_eq_of_lt HLP.out], M3.end_⟩
        · have e : (if v < P then 1 else 0) = 0 := if_neg hlp
          have e2 : (if P ≤ v then v - P else v + M256 - P) = v - P := if_pos (by omega)
          rw [e]
          rw [e2] at M
          have HLP := hid hlp
          clear e hlp e2
          go_upto_region 10 with fail
          have r2 := M.row (b := b) (c := cs N64 (limbs (v - P))) (by simp)
          have f3 := M.free (b := w.heap.size) (c := cs N64 (limbs v)) (by simp)
          have r3 := M.row (b := w.heap.size) (c := cs N64 (limbs v)) (by simp)
          go_wp2_with fail
          have M3 := M.set 2 (cs N64 (limbs (v - P))) rfl
          dsimp only [List.set] at M3
          have hlt2 : v - P < v := by have := P_pos; have := HLP.out; omega
          go_roundw
          case rel => exact ⟨v - P, by have := HV.out; omega, by rw [← HP.out]; exact (Nat.mod_eq_sub_mod (by have := HLP.out; omega)).symm, M3.sub (by simp)⟩
          case measure =>
            rw [M3.row (b := w.heap.size) (c := cs N64 (limbs (v - P))) (by simp), mvn_cs, vn_limbs, HMV.out, Nat.mod_eq_of_lt (by have := HV.out; omega)]
            exact hlt2
end Go.Proofs.YtgclegdgngldoaaDoor
set_option linter.unusedSimpArgs false
set_option linter.unusedVariables false
namespace Go.Proofs.YtgclegdgngldoaaDoor.Fp
theorem kbN_get : ∀ (k n j : Nat), j < k → (kbN k n)[j]? = some (BitVec.ofNat 8 (n / 256 ^ j))
  | k + 1, n, 0, _ => by simp [kbN]
  | k + 1, n, j + 1, h => by
    simp only [kbN, List.getElem?_cons_succ]
    rw [kbN_get k (n / 256) j (by omega), Nat.pow_succ, Nat.mul_comm, Nat.div_div_eq_div_mul]
theorem byte_limb (V i k : Nat) (hi : i < 4) (hk : k < 8) : BitVec.ofNat 8 ((limbs V).getD i 0 / 256 ^ k) = BitVec.ofNat 8 (V / 256 ^ (8 * i + k)) := by
  have h1 : (limbs V).getD i 0 = V / M64 ^ i % M64 := by
    match i, hi with
    | 0, _ => simp [limbs]
    | 1, _ => simp [limbs]
    | 2, _ => simp [limbs, Nat.div_div_eq_div_mul, Nat.pow_succ]
    | 3, _ => simp [limbs, Nat.div_div_eq_div_mul, Nat.pow_succ, Nat.mul_assoc]
  have h2 : M64 ^ i = 256 ^ (8 * i) := by rw [show M64 = 256 ^ 8 by decide, ← Nat.pow_mul]
  have h3 : M64 = 256 ^ k * (256 * 256 ^ (7 - k)) := by
    rw [show M64 = 256 ^ (k + (1 + (7 - k))) by rw [show k + (1 + (7 - k)) = 8 by omega]; decide, Nat.pow_add, Nat.pow_add]
  rw [h1, h2, Nat.pow_add, ← Nat.div_div_eq_div_mul]
  apply BitVec.eq_of_toNat_eq
  rw [BitVec.toNat_ofNat, BitVec.toNat_ofNat]
  conv => lhs; rw [h3, Nat.mod_mul_right_div_self]
  rw [Nat.mod_mul_right_mod]
theorem take_set_kb (V j : Nat) (hj : j < 32) : ((kb V).take j ++ (zs (32 - j) : List B8)).set j (BitVec.ofNat 8 (V / 256 ^ j)) = (kb V).take (j + 1) ++ zs (32 - (j + 1)) := by
  have hl : ((kb V).take j).length = j := by simp; omega
  rw [List.set_append_right _ _ (by omega), hl, Nat.sub_self]
  obtain ⟨m, hm⟩ : ∃ m, 32 - j = m + 1 := ⟨31 - j, by omega⟩
  have h2 : (kb V)[j]? = some (BitVec.ofNat 8 (V / 256 ^ j)) := kbN_get 32 V j hj
  have hj' : j < (kb V).length := by simp; omega
  rw [List.take_succ_eq_append_getElem hj', List.append_assoc]
  congr 1
  rw [hm, show 32 - (j + 1) = m by omega]
  simp only [zs, List.replicate_succ, List.set_cons_zero, List.singleton_append]
  congr 1
  rw [List.getElem?_eq_getElem hj'] at h2
  exact (Option.some.inj h2).symm
end Go.Proofs.YtgclegdgngldoaaDoor.Fp
namespace Go.Proofs.YtgclegdgngldoaaDoor
open Go.RowKit Fp
theorem i64w (n : Int) (h1 : -9223372036854775808 ≤ n) (h2 : n < 9223372036854775808) : IntKind.i64.wrap n = n := by rw [IntKind.wrap_i64]; omega
theorem shrN {t : TypeId} (x k : Nat) (hk : k < 8) : binOp .shr t (N64 x) (.int .i64 (8 * k : Int)) = pure (N64 (x / 256 ^ k)) := by
  show Op.shift .shr .u64 (x : Int) .i64 (8 * k : Int) = _
  unfold Op.shift
  rw [if_neg (by omega)]
  show Sem.pure (Value.int .u64 ((x : Int).fdiv (2 ^ (min (8 * k : Int).toNat 64)))) = Sem.pure (Value.int .u64 _)
  congr 2
  have h1 : min (8 * (k : Int)).toNat 64 = 8 * k := by omega
  rw [h1, Int.fdiv_eq_ediv_of_nonneg _ (by exact_mod_cast Nat.zero_le _)]
  have h2 : (2 : Int) ^ (8 * k) = ((256 ^ k : Nat) : Int) := by
    rw [show (256 : Nat) = 2 ^ 8 from rfl, ← Nat.pow_mul]; simp
  rw [h2]; exact_mod_cast rfl
theorem cvn_8 {P : Program} (w : World) (src dst : TypeId) (x : Nat) (hs : (P.underlying src).isSome = true) (hd : P.underlying dst = some (.int .u8)) : (convert src dst (N64 x)).run P w = .ok (U8 (BitVec.ofNat 8 x)) w := by
  obtain ⟨d, hd'⟩ := Option.isSome_iff_exists.mp hs
  have e : Value.int .u8 (IntKind.u8.wrap (x : Int)) = U8 (BitVec.ofNat 8 x) := by
    rw [u8_wrap]; congr 1 <;> (apply BitVec.eq_of_toNat_eq; rw [BitVec.toNat_ofInt, BitVec.toNat_ofNat]; omega)
  simp [convert, run_underlying hd', run_underlying hd, Conv.intToInt, e]
attribute [local irreducible] P kb
attribute [local go_sem ↓] cvn_8
set_option maxRecDepth 100000 in
set_option maxHeartbeats 4000000 in
theorem key_any (w : World) (x : Nat) :
    Calls Tryd.prog 63 #[.agg (cs N64 (limbs x))] w fun e w' => e = .returned (.agg (cs U8 (keyV x))) ∧ Below w.heap.size w w' := by
  have M0 := Mm.start no w
  have M1 := (((M0.alloc (cs N64 (limbs x)) 97 (by decide)).alloc (cs U8 (zs 32)) 23 (by decide)).alloc (cs U8 (zs 32)) 23 (by decide))
  simp only [World.size_alloc] at M1
  go_enter Tryd.func63, Tryd.ntmps63
  go_upto_region 2 with fail
  obtain ⟨w1, hw1⟩ : ∃ w1, w1 = ((w.alloc (.cells (cs N64 (limbs x)) 97)).alloc (.cells (cs U8 (zs 32)) 23)).alloc (.cells (cs U8 (zs 32)) 23) := ⟨_, rfl⟩
  rw [← hw1] at M1 ⊢
  clear hw1
  have r1 := M1.row (b := w.heap.size) (c := cs N64 (limbs x)) (by simp)
  go_wp2_with fail
  with_reducible refine ((ncanon_any w1 x).mono ?_)
  rintro e w2 ⟨rfl, hb2⟩
  have M2 := M1.below hb2
  obtain ⟨V, hV⟩ : ∃ V, V = x % M256 % P := ⟨_, rfl⟩
  rw [← hV]
  have hres : keyV x = kb V := by rw [hV]; rfl
  have HR := hid hres
  clear hb2 r1 M1 hV hres
  dsimp only
  go_wp2_with fail
  go_loopw [9] (fun t wr => ∃ i : Nat, i ≤ 4 ∧ t = .int .i64 i ∧ Mm no w [(w.heap.size + 1 + 1, cs U8 ((kb V).take (8 * i) ++ zs (32 - 8 * i))), (w.heap.size + 1, cs U8 (zs 32)), (w.heap.size, cs N64 (limbs x))] wr) (fun t _ => 4 - (intOf t).toNat)
  case atStart => exact ⟨0, by omega, rfl, by simpa using M2⟩
  case round =>
    clear M2
    obtain ⟨i, hi, rfl, M⟩ := hrel
    by_cases hlt : i < 4
    · have hidx := idx_num wr (limbs V) i hlt (limbs_len V)
      go_wp2_with fail
      clear hidx
      obtain ⟨wo, hwo⟩ : ∃ wo, wo = wr := ⟨_, rfl⟩
      rw [← hwo] at M ⊢
      clear hwo
      go_loopw [13] (fun t wr => ∃ k : Nat, k ≤ 8 ∧ t = .int .i64 k ∧ Mm no w [(w.heap.size + 1 + 1, cs U8 ((kb V).take (8 * i + k) ++ zs (32 - (8 * i + k)))), (w.heap.size + 1, cs U8 (zs 32)), (w.heap.size, cs N64 (limbs x))] wr) (fun t _ => 8 - (intOf t).toNat)
      case atStart => exact ⟨0, by omega, rfl, M⟩
      case round =>
        clear M
        obtain ⟨k, hk, rfl, M⟩ := hrel
        by_cases hk8 : k < 8
        · obtain ⟨j, hj⟩ : ∃ j, j = 8 * i + k := ⟨_, rfl⟩
          have hj32 : j < 32 := by omega
          have hjI : (8 * (i : Int) + (k : Int)) = (j : Int) := by omega
          have HJ := hid hjI
          have q1 : (j : Int) < 32 := by omega
          have q0 : (0 : Int) ≤ j := by omega
          have hL := hid (show ((kb V).take j ++ (zs (32 - j) : List (BitVec 8))).length = 32 by simp; omega)
          rw [← hj] at M
          have HJN := hid hj
          clear hj hjI
          go_upto_region 8 with fail
          refine wp_region_seqF 10 [16, 17, 18, 19, 20, 21, 22, 23, 24, 25] [] [] [] (.op 10 .done) (Mm no w _) (by kernel_rfl) (by kernel_rfl) (fun d _ _ _ _ h => by cases d <;> exact h) (by rfl) M.size (fun _ _ h k => h.sf k) M (by kernel_rfl) ?_
          simp only [List.take_succ_cons, List.take_zero]
          refine SeqA.pure (.int .i64 i) (fun w' => by go_simp) rfl rfl ?_
          refine SeqA.pure (.int .i64 (8 * i)) (fun w' => by have q := i64w (8 * (i : Int)) (by omega) (by omega); go_simp) rfl rfl ?_
          refine SeqA.pure (.int .i64 k) (fun w' => by go_simp) rfl rfl ?_
          refine SeqA.pure (.int .i64 j) (fun w' => by have q := HJ.out; have q2 := i64w (j : Int) (by omega) (by omega); go_simp) rfl rfl ?_
          refine SeqA.pure (N64 (gN (limbs V) i)) (fun w' => by go_simp) rfl rfl ?_
          simp only [Act.put, List.setIfInBounds_toArray, List.set_cons_succ, List.set_cons_zero]
          refine SeqA.pure (.int .i64 k) (fun w' => by go_simp) rfl rfl ?_
          refine SeqA.pure (.int .i64 (8 * k)) (fun w' => by have q := i64w (8 * (k : Int)) (by omega) (by omega); go_simp) rfl rfl ?_
          refine SeqA.pure (N64 (gN (limbs V) i / 256 ^ k)) (fun w' => by have q := shrN (t := 95) (gN (limbs V) i) k hk8; go_simp) rfl rfl ?_
          refine SeqA.pure (U8 (BitVec.ofNat 8 (gN (limbs V) i / 256 ^ k))) (fun w' => by go_simp) rfl rfl ?_
          refine SeqA.pure (.pointer (some ⟨w.heap.size + 1 + 1, j, none⟩)) (fun w' => by go_simp) rfl rfl ?_
          refine SeqA.nil (fun w1 M2 hz => ?_)
          show wpT _ _ _ _ _ _
          simp only [Act.put, List.setIfInBounds_toArray, List.set_cons_succ, List.set_cons_zero]
          refine wpT_stc M2 0 (U8 (BitVec.ofNat 8 (gN (limbs V) i / 256 ^ k))) (cs U8 (((kb V).take j ++ zs (32 - j)).set j (BitVec.ofNat 8 (gN (limbs V) i / 256 ^ k)))) inf_u8 rfl rfl rfl rfl (by go_simp) (by go_simp) (by have := (by rw [hL]; exact hj32 : j < ((kb V).take j ++ zs (32 - j)).length); first | (simp; done) | (simpa using this) | (simp; omega)) (by simp [go_sem]) (cs_set _ _) rfl (fun w3 M4 => ?_)
          dsimp only [List.set] at M4
          dsimp only [wpT]
          go_wp2_with fail
          go_roundw
          case rel => exact ⟨k + 1, by omega, by go_num, by
            have e1 : 8 * i + (k + 1) = j + 1 := by rw [HJN.out]; omega
            have e2 := byte_limb V i k hlt hk8
            rw [← HJN.out] at e2
            rw [e1, ← take_set_kb V j hj32, ← e2]; exact M4⟩
          case measure => simp [intOf]; omega
        · have : k = 8 := by omega
          subst this
          go_wp2_with fail
          go_roundw
          case rel => exact ⟨i + 1, by omega, by go_num, M⟩
          case measure => simp [intOf]; omega
    · have : i = 4 := by omega
      subst this
      have e : (kb V).take (8 * 4) ++ (zs (32 - 8 * 4) : List (BitVec 8)) = kb V := by rw [List.take_of_length_le (by simp)]; simp [zs]
      rw [e] at M
      clear e
      go_upto_region 11 with fail
      have r2 := M.row (b := w.heap.size + 1 + 1) (c := cs U8 (kb V)) (by simp)
      have f3 := M.free (b := w.heap.size + 1) (c := cs U8 (zs 32)) (by simp)
      have r3 := M.row (b := w.heap.size + 1) (c := cs U8 (zs 32)) (by simp)
      have hkl := kb_len V
      go_wp2_with fail
      have M3 := M.set 1 (cs U8 (kb V)) rfl
      dsimp only [List.set] at M3
      have r4 := M3.row (b := w.heap.size + 1) (c := cs U8 (kb V)) (by simp)
      refine bodyPost_ret (res_row (b := w.heap.size + 1) rfl Tryd.underlying23 rfl inf_key _ _ rfl (by rw [r4]; simp)) rfl ?_
      rw [r4]
      exact ⟨by rw [HR.out], M3.end_⟩
end Go.Proofs.YtgclegdgngldoaaDoor
set_option linter.unusedSimpArgs false
set_option linter.unusedVariables false
namespace Go.Proofs.YtgclegdgngldoaaDoor.Fp
/-- the highest j bytes of part i -/
def pb (a : List B8) (i j : Nat) : Nat := leN ((a.drop (8 * i + 8 - j)).take j)
def oL (a : List B8) (i j : Nat) : List Nat := (List.range 4).map fun m => if m < i then pb a m 8 else if m = i then pb a i j else 0
theorem oL_len (a : List B8) (i j : Nat) : (oL a i j).length = 4 := by simp [oL]
theorem oL_at (a : List B8) (i j : Nat) (hi : i < 4) : (oL a i j).getD i 0 = pb a i j := by simp [oL, List.getD_eq_getElem?_getD, hi]
theorem pb_lt (a : List B8) (i j : Nat) : pb a i j < 256 ^ j := by
  have h := leN_lt ((a.drop (8 * i + 8 - j)).take j)
  exact Nat.lt_of_lt_of_le h (Nat.pow_le_pow_right (by decide) (by simp; omega))
theorem pb_succ (a : List B8) (i j : Nat) (hj : j < 8) (hl : 8 * i + 8 ≤ a.length) : pb a i (j + 1) = pb a i j * 256 + (a.getD (8 * i + (7 - j)) 0).toNat := by
  unfold pb
  have e1 : 8 * i + 8 - (j + 1) = 8 * i + (7 - j) := by omega
  have e2 : 8 * i + 8 - j = 8 * i + (7 - j) + 1 := by omega
  have h : 8 * i + (7 - j) < a.length := by omega
  rw [e1, e2, List.drop_eq_getElem_cons h, List.take_succ_cons, leN_cons, List.getD_eq_getElem?_getD, List.getElem?_eq_getElem h]
  show _ = _ + (a[8 * i + (7 - j)]).toNat
  omega
theorem oL_set (a : List B8) (i j : Nat) (hi : i < 4) : (oL a i j).set i (pb a i (j + 1)) = oL a i (j + 1) := by
  apply List.ext_getElem?
  intro m
  rw [List.getElem?_set]
  by_cases h : i = m
  · subst h; simp [oL, hi]
  · rw [if_neg h]
    simp only [oL, List.getElem?_map]
    by_cases hm : m < 4
    · simp only [List.getElem?_range hm, Option.map_some]
      by_cases h2 : m < i
      · simp [h2]
      · simp [h2, Ne.symm h]
    · rw [List.getElem?_eq_none (by simp; omega)]; rfl
theorem oL_next (a : List B8) (i : Nat) (hi : i < 4) : oL a i 8 = oL a (i + 1) 0 := by
  apply List.ext_getElem?
  intro m
  simp only [oL, List.getElem?_map]
  by_cases hm : m < 4
  · simp only [List.getElem?_range hm, Option.map_some]
    by_cases h1 : m < i
    · simp [h1, show m < i + 1 by omega]
    · by_cases h2 : m = i
      · subst h2; simp
      · by_cases h3 : m = i + 1
        · subst h3; simp [pb, leN, vd]; intro h; omega
        · simp [h1, h2, h3, show ¬ m < i + 1 by omega]
  · rw [List.getElem?_eq_none (by simp; omega)]; rfl
theorem oL_zero (a : List B8) : oL a 0 0 = limbs 0 := by
  simp [oL, List.range_succ, pb, leN, vd, limbs]
theorem leN_app : ∀ (l m : List B8), leN (l ++ m) = leN l + 256 ^ l.length * leN m
  | [], m => by simp [leN, vd]
  | x :: r, m => by
    rw [List.cons_append, leN_cons, leN_cons, leN_app r m, List.length_cons, Nat.pow_succ, Nat.mul_add, Nat.mul_comm (256 ^ r.length) 256, Nat.mul_assoc]; omega
theorem oL_end (a : List B8) (ha : a.length = 32) : oL a 4 0 = limbs (leN a) := by
  have e : oL a 4 0 = [pb a 0 8, pb a 1 8, pb a 2 8, pb a 3 8] := by simp [oL, List.range_succ]
  have hlm : Lm (oL a 4 0) := by
    rw [e]
    have h : M64 = 256 ^ 8 := by decide
    exact Lm.mk4 (h ▸ pb_lt a 0 8) (h ▸ pb_lt a 1 8) (h ▸ pb_lt a 2 8) (h ▸ pb_lt a 3 8)
  rw [← limbs_vn hlm]
  congr 1
  rw [e]
  have hs : a = (a.drop 0).take 8 ++ ((a.drop 8).take 8 ++ ((a.drop 16).take 8 ++ (a.drop 24).take 8)) := by
    rw [List.take_of_length_le (l := a.drop 24) (by simp; omega)]
    rw [show a.drop 24 = (a.drop 16).drop 8 by simp, List.take_append_drop, show a.drop 16 = (a.drop 8).drop 8 by simp, List.take_append_drop]
    simp
  have h8 : (256 : Nat) ^ 8 = M64 := by decide
  conv => rhs; rw [hs]
  rw [leN_app, leN_app, leN_app]
  have l1 : ((a.drop 0).take 8).length = 8 := by simp; omega
  have l2 : ((a.drop 8).take 8).length = 8 := by simp; omega
  have l3 : ((a.drop 16).take 8).length = 8 := by simp; omega
  rw [l1, l2, l3, h8]
  simp only [vn, pb, Nat.mul_zero, Nat.zero_add, Nat.sub_self, Nat.mul_one, Nat.add_sub_cancel]
  rw [show 8 * 2 = 16 from rfl, show 8 * 3 = 24 from rfl]
  simp only [M64]; omega
end Go.Proofs.YtgclegdgngldoaaDoor.Fp
namespace Go.Proofs.YtgclegdgngldoaaDoor
open Go.RowKit Fp
theorem shlN {t : TypeId} (x : Nat) (hx : x < 72057594037927936) : binOp .shl t (N64 x) (.int .u64 8) = pure (N64 (x * 256)) := by
  show Op.shift .shl .u64 (x : Int) .u64 8 = _
  unfold Op.shift
  rw [if_neg (by decide)]
  show Sem.pure (Value.int .u64 (IntKind.u64.wrap ((x : Int) * 2 ^ 8))) = Sem.pure (Value.int .u64 _)
  congr 2
  rw [wrap_u64']; omega
theorem orN {t : TypeId} (x b : Nat) (hb : b < 256) (hx : x < 72057594037927936) : binOp .or t (N64 (x * 256)) (N64 b) = pure (N64 (x * 256 + b)) := by
  show Sem.pure (Value.int .u64 (IntKind.u64.wrap ((BitVec.ofInt 64 ((x * 256 : Nat) : Int) ||| BitVec.ofInt 64 (b : Int)).toNat : Int))) = Sem.pure (Value.int .u64 _)
  congr 2
  rw [wrap_u64', BitVec.toNat_or, BitVec.toNat_ofInt, BitVec.toNat_ofInt]
  have e1 : ((((x * 256 : Nat) : Int) % ((2 ^ 64 : Nat) : Int)).toNat) = x * 256 := by omega
  have e2 : (((b : Int) % ((2 ^ 64 : Nat) : Int)).toNat) = b := by omega
  rw [e1, e2]
  have h := Nat.shiftLeft_add_eq_or_of_lt (i := 8) (show b < 2 ^ 8 from hb) x
  rw [Nat.shiftLeft_eq] at h
  rw [show x * 256 = x * 2 ^ 8 from rfl, ← h]
  omega
theorem u64N (x : BitVec 8) : N64 x.toNat = U64 (x.setWidth 64) := by
  show Value.int .u64 _ = Value.int .u64 _
  rw [BitVec.toNat_setWidth, Nat.mod_eq_of_lt (by have := x.isLt; omega)]
attribute [local irreducible] oL
set_option maxRecDepth 100000 in
set_option maxHeartbeats 4000000 in
theorem of_any (w : World) (a : List (BitVec 8)) (ha : a.length = 32) :
    Calls Tryd.prog 58 #[.agg (cs U8 a)] w fun e w' => e = .returned (.agg (cs N64 (limbs (leN a)))) ∧ Below w.heap.size w w' := by
  have M0 := Mm.start no w
  have M1 := (((M0.alloc (cs U8 a) 23 (by decide)).alloc (cs N64 (limbs 0)) 97 (by decide)).alloc (cs N64 (limbs 0)) 97 (by decide))
  simp only [World.size_alloc] at M1
  have HA := hid ha
  clear ha
  go_enter Tryd.func58, Tryd.ntmps58
  go_wp2_with fail
  go_loopw [6] (fun t wr => ∃ i : Nat, i ≤ 4 ∧ t = .int .i64 i ∧ Mm no w [(w.heap.size + 1 + 1, cs N64 (oL a i 0)), (w.heap.size + 1, cs N64 (limbs 0)), (w.heap.size, cs U8 a)] wr) (fun t _ => 4 - (intOf t).toNat)
  case atStart => exact ⟨0, by omega, rfl, by rw [oL_zero]; exact M1⟩
  case round =>
    clear M1
    obtain ⟨i, hi, rfl, M⟩ := hrel
    by_cases hlt : i < 4
    · go_wp2_with fail
      obtain ⟨wo, hwo⟩ : ∃ wo, wo = wr := ⟨_, rfl⟩
      rw [← hwo] at M ⊢
      clear hwo
      go_loopw [5] (fun t wr => ∃ j : Nat, j ≤ 8 ∧ t = .int .i64 (7 - (j : Int)) ∧ Mm no w [(w.heap.size + 1 + 1, cs N64 (oL a i j)), (w.heap.size + 1, cs N64 (limbs 0)), (w.heap.size, cs U8 a)] wr) (fun t _ => (intOf t + 1).toNat)
      case atStart => exact ⟨0, by omega, rfl, M⟩
      case round =>
        clear M
        obtain ⟨j, hj, rfl, M⟩ := hrel
        by_cases hj8 : j < 8
        · obtain ⟨k, hk⟩ : ∃ k, k = 7 - j := ⟨_, rfl⟩
          obtain ⟨h, hh⟩ : ∃ h, h = 8 * i + k := ⟨_, rfl⟩
          have ek : (7 - (j : Int)) = (k : Int) := by omega
          rw [ek]
          have hh32 : h < 32 := by omega
          have hhI : (8 * (i : Int) + (k : Int)) = (h : Int) := by omega
          have HH := hid hhI
          have q1 : (h : Int) < 32 := by omega
          have q0 : (0 : Int) ≤ h := by omega
          have hk8 : k < 8 := by omega
          have HK := hid hk; have HHN := hid hh; have EK := hid ek
          have ha := HA.out
          have eo := oL_at a i j hlt
          have hsh : gN (oL a i j) i < 72057594037927936 := by
            unfold gN; rw [eo]
            exact Nat.lt_of_lt_of_le (pb_lt a i j) (Nat.pow_le_pow_right (n := 256) (by decide) (show j ≤ 7 by omega))
          have EO := hid eo
          clear hk hh hhI ek eo
          go_upto_region 8 with fail
          refine wp_region_seq 14 [13, 14, 15, 16, 17, 18, 19, 20, 21, 22, 23, 24, 25, 26] [] [] [] (.op 14 .done) (Mm no w _) (by kernel_rfl) (by kernel_rfl) (by kernel_rfl) (fun d _ _ _ _ h => by cases d <;> exact h) (by rfl) M.size (fun _ _ h k => h.sf k) M ?_
          simp only [List.take_succ_cons, List.take_zero]
          refine SeqA.pure (.int .i64 i) (fun w' => by go_simp) rfl rfl ?_
          refine SeqA.pure (.int .i64 i) (fun w' => by go_simp) rfl rfl ?_
          refine SeqA.pure (.pointer (some ⟨w.heap.size + 1 + 1, i, none⟩)) (fun w' => by go_simp) rfl rfl ?_
          refine SeqA.read (N64 (gN (oL a i j) i)) (fun w' M => by have c0 := cell_gN (M.row (b := w.heap.size + 1 + 1) (c := cs N64 (oL a i j)) (by simp)) (i := i) (by rw [oL_len]; exact hlt); go_simp) rfl rfl ?_
          refine SeqA.pure (N64 (gN (oL a i j) i * 256)) (fun w' => by have q := shlN (t := 95) (gN (oL a i j) i) hsh; go_simp) rfl rfl ?_
          simp only [Act.put, List.setIfInBounds_toArray, List.set_cons_succ, List.set_cons_zero]
          refine SeqA.pure (.int .i64 i) (fun w' => by go_simp) rfl rfl ?_
          refine SeqA.pure (.int .i64 (8 * i)) (fun w' => by have q := i64w (8 * (i : Int)) (by omega) (by omega); go_simp) rfl rfl ?_
          refine SeqA.pure (.int .i64 k) (fun w' => by go_simp) rfl rfl ?_
          refine SeqA.pure (.int .i64 h) (fun w' => by have q := HH.out; have q2 := i64w (h : Int) (by omega) (by omega); go_simp) rfl rfl ?_
          refine SeqA.pure (.pointer (some ⟨w.heap.size, h, none⟩)) (fun w' => by go_simp) rfl rfl ?_
          refine SeqA.read (U8 (g8 a h)) (fun w' M => by have c0 := cell_g8 (M.row (b := w.heap.size) (c := cs U8 a) (by simp)) (i := h) (by rw [ha]; exact hh32); go_simp) rfl rfl ?_
          simp only [Act.put, List.setIfInBounds_toArray, List.set_cons_succ, List.set_cons_zero]
          refine SeqA.pure (N64 (g8 a h).toNat) (fun w' => by rw [u64N]; go_simp) rfl rfl ?_
          refine SeqA.pure (N64 (gN (oL a i j) i * 256 + (g8 a h).toNat)) (fun w' => by have q := orN (t := 95) (gN (oL a i j) i) (g8 a h).toNat (g8 a h).isLt; go_simp) rfl rfl ?_
          refine SeqA.pure (.pointer (some ⟨w.heap.size + 1 + 1, i, none⟩)) (fun w' => by go_simp) rfl rfl ?_
          refine SeqA.nil (fun w1 M2 hz => ?_)
          show wpT _ _ _ _ _ _
          simp only [Act.put, List.setIfInBounds_toArray, List.set_cons_succ, List.set_cons_zero]
          refine wpT_stc M2 0 (N64 (gN (oL a i j) i * 256 + (g8 a h).toNat)) (cs N64 ((oL a i j).set i (gN (oL a i j) i * 256 + (g8 a h).toNat))) inf_u64 rfl rfl rfl rfl (by go_simp) (by go_simp) (by have := (by rw [oL_len]; exact hlt : i < (oL a i j).length); first | (simp; done) | (simpa using this) | (simp; omega)) (by simp [go_sem]) (cs_set _ _) rfl (fun w3 M4 => ?_)
          dsimp only [List.set] at M4
          dsimp only [wpT]
          go_wp2_with fail
          go_roundw
          case rel => exact ⟨j + 1, by omega, by have := EK.out; go_num, by
            have e2 := pb_succ a i j hj8 (by rw [HA.out]; omega)
            rw [← HK.out, ← HHN.out, ← EO.out] at e2
            rw [← oL_set a i j hlt, e2]; exact M4⟩
          case measure => simp [intOf]
        · have : j = 8 := by omega
          subst this
          rw [oL_next a i hlt] at M
          rw [show (7 - ((8 : Nat) : Int)) = -1 from rfl]
          go_wp2_with fail
          go_roundw
          case rel => exact ⟨i + 1, by omega, by go_num, M⟩
          case measure => simp [intOf]; omega
    · have : i = 4 := by omega
      subst this
      rw [oL_end a HA.out] at M
      go_upto_region 10 with fail
      have r2 := M.row (b := w.heap.size + 1 + 1) (c := cs N64 (limbs (leN a))) (by simp)
      have f3 := M.free (b := w.heap.size + 1) (c := cs N64 (limbs 0)) (by simp)
      have r3 := M.row (b := w.heap.size + 1) (c := cs N64 (limbs 0)) (by simp)
      go_wp2_with fail
      have M3 := M.set 1 (cs N64 (limbs (leN a))) rfl
      dsimp only [List.set] at M3
      have r4 := M3.row (b := w.heap.size + 1) (c := cs N64 (limbs (leN a))) (by simp)
      refine bodyPost_ret (res_row (b := w.heap.size + 1) rfl Tryd.underlying97 rfl inf_num _ _ rfl (by rw [r4]; simp)) rfl ?_
      rw [r4]
      exact ⟨rfl, M3.end_⟩
end Go.Proofs.YtgclegdgngldoaaDoor
set_option linter.unusedSimpArgs false
set_option linter.unusedVariables false
namespace Go.Proofs.YtgclegdgngldoaaDoor.Fp
theorem rL_zero (L l : List Nat) (off d : Nat) : rL L l off d 0 = (L, 0) := rfl
theorem rL_succ (L l : List Nat) (off d i : Nat) : rL L l off d (i + 1) = ((rL L l off d i).1.set (off + i) ((l.getD i 0 * d + (rL L l off d i).1.getD (off + i) 0 + (rL L l off d i).2) % M64), (l.getD i 0 * d + (rL L l off d i).1.getD (off + i) 0 + (rL L l off d i).2) / M64) := rfl
/-- the carries of a product with two numbers added -/
theorem mac_arith {p y c : Nat} (hy : y < M64) (hc : c < M64) (h : p + y + c < M64 * M64) :
    ((p % M64 + y) % M64 + c) % M64 = (p + y + c) % M64 ∧ p / M64 + (p % M64 + y) / M64 + ((p % M64 + y) % M64 + c) / M64 = (p + y + c) / M64 ∧ (p + y + c) / M64 < M64 := by
  have h3 : (p + y + c) / M64 < M64 := Nat.div_lt_of_lt_mul h
  refine ⟨?_, ?_, h3⟩
  · simp only [M64] at *; omega
  · simp only [M64] at *; omega
end Go.Proofs.YtgclegdgngldoaaDoor.Fp
namespace Go.Proofs.YtgclegdgngldoaaDoor
open Go.RowKit Fp
attribute [local irreducible] rL
set_option maxRecDepth 100000 in
set_option maxHeartbeats 4000000 in
theorem row_any (w : World) (b off cp l d : Nat) (L : List Nat) (hL0 : AL L) (hd : d < M64) (hlen : off + 4 ≤ L.length) (hcp : 4 ≤ cp) (hb : b < w.heap.size) (M : Mm (fun g => g = b) w [(b, cs N64 L)] w) :
    Calls Tryd.prog 81 #[.slice (some ⟨b, off, none⟩) 4 cp, .agg (cs N64 (limbs l)), N64 d] w fun e w' =>
      e = .returned (N64 (rL L (limbs l) off d 4).2) ∧ Mm (fun g => g = b) w [(b, cs N64 (rL L (limbs l) off d 4).1)] w' := by
  have M1 := M.alloc (cs N64 (limbs l)) 97 (by decide)
  have HR0 := hid (rL_zero L (limbs l) off d)
  have HRS := hid (rL_succ L (limbs l) off d)
  have HSP := hid (rL_spec hL0 (lmAL (limbs_lm l)) hd hlen)
  have HLN := hid hlen; have HD := hid hd
  clear hL0 hlen hd
  go_enter Tryd.func81, Tryd.ntmps81
  have r1 := M1.row (b := w.heap.size) (c := cs N64 (limbs l)) (by simp)
  go_wp2_with fail
  clear r1
  go_loopw [7, 14] (fun c t wr => ∃ i : Nat, i ≤ 4 ∧ t = .int .i64 i ∧ c = N64 (rL L (limbs l) off d i).2 ∧ Mm (fun g => g = b) w [(w.heap.size, cs N64 (limbs l)), (b, cs N64 (rL L (limbs l) off d i).1)] wr) (fun _ t _ => 4 - (intOf t).toNat)
  case atStart => exact ⟨0, by omega, rfl, by rw [HR0.out]; rfl, by rw [HR0.out]; exact M1⟩
  case round =>
    clear M M1
    obtain ⟨i, hi, rfl, rfl, M⟩ := hrel
    obtain ⟨k1, k2, k3, -, -⟩ := HSP.out i hi
    by_cases hlt : i < 4
    · have hL := hid k1
      have hoi : off + i < L.length := by have := HLN.out; omega
      have hoi2 : off + i < (rL L (limbs l) off d i).1.length := by rw [k1]; exact hoi
      obtain ⟨c, hc⟩ : ∃ c, c = (rL L (limbs l) off d i).2 := ⟨_, rfl⟩
      obtain ⟨X, hX⟩ : ∃ X, X = gN (limbs l) i := ⟨_, rfl⟩
      obtain ⟨y, hy⟩ : ∃ y, y = gN (rL L (limbs l) off d i).1 (off + i) := ⟨_, rfl⟩
      have c0 := cell_gN (M.row (b := b) (c := cs N64 (rL L (limbs l) off d i).1) (by simp)) hoi2
      rw [← hy] at c0
      have hidx := idx_num wr (limbs l) i hlt (limbs_len l)
      rw [← hX] at hidx
      have hyl : y < M64 := by rw [hy]; exact k2.getD _
      have hXl : X < M64 := by rw [hX]; exact (lmAL (limbs_lm l)).getD _
      rw [← hc] at k3 ⊢
      have ht : X * d + y + c < M64 * M64 := by
        have := tot_lt hXl HD.out hyl k3
        exact this
      obtain ⟨p, hp⟩ : ∃ p, p = X * d := ⟨_, rfl⟩
      rw [← hp] at ht
      obtain ⟨a1, a2, a3⟩ := mac_arith hyl k3 ht
      obtain ⟨lo, hlo⟩ : ∃ x, x = p % M64 := ⟨_, rfl⟩
      obtain ⟨hi0, hhi⟩ : ∃ x, x = p / M64 := ⟨_, rfl⟩
      rw [← hlo, ← hhi] at a2
      rw [← hlo] at a1
      have hmul := mul64 X d hXl HD.out wr
      rw [show (18446744073709551616 : Nat) = M64 from rfl, ← hp, ← hlo, ← hhi] at hmul
      have q1 := fun w => add64i lo y 0 _ _ 0 rfl rfl rfl (by decide) w
      simp only [Nat.add_zero] at q1
      rw [show (18446744073709551616 : Nat) = M64 from rfl] at q1
      obtain ⟨s1, hs1⟩ : ∃ x, x = (lo + y) % M64 := ⟨_, rfl⟩
      obtain ⟨c1, hc1⟩ : ∃ x, x = (lo + y) / M64 := ⟨_, rfl⟩
      rw [← hs1, ← hc1] at q1 a2
      rw [← hs1] at a1
      have q2 := fun w => add64i s1 c 0 _ _ 0 rfl rfl rfl (by decide) w
      simp only [Nat.add_zero] at q2
      rw [show (18446744073709551616 : Nat) = M64 from rfl] at q2
      obtain ⟨s2, hs2⟩ : ∃ x, x = (s1 + c) % M64 := ⟨_, rfl⟩
      obtain ⟨c2, hc2⟩ : ∃ x, x = (s1 + c) / M64 := ⟨_, rfl⟩
      rw [← hs2, ← hc2] at q2
      rw [← hs2] at a1
      rw [← hc2] at a2
      obtain ⟨h1, hh1⟩ : ∃ x, x = hi0 + c1 := ⟨_, rfl⟩
      obtain ⟨h2, hh2⟩ : ∃ x, x = h1 + c2 := ⟨_, rfl⟩
      rw [← hh1, ← hh2] at a2
      have qh1 : IntKind.u64.wrap ((hi0 : Int) + (c1 : Int)) = (h1 : Int) := by simp only [M64] at *; rw [wrap_u64']; omega
      have qh2 : IntKind.u64.wrap ((h1 : Int) + (c2 : Int)) = (h2 : Int) := by simp only [M64] at *; rw [wrap_u64']; omega
      have HM := hid hmul; have A1 := hid a1; have A2 := hid a2; have HP := hid hp; have HX := hid hX; have HY := hid hy; have HC := hid hc
      clear hmul a1 a2 a3 hp hX hy hc hlo hhi hs1 hc1 hs2 hc2 hh1 hh2 ht hyl hXl k1 k2 k3 hoi2
      go_upto_region 11 with (first | (with_reducible refine (HM.out).mono ?_; rintro e w' ⟨rfl, rfl⟩))
      clear c0 hidx q1 q2 qh1 qh2
      refine wp_region_seqF 5 [45, 46, 47, 48, 49] [] [3] [] (.op 5 (.op 6 .done)) (Mm (fun g => g = b) w _) (by kernel_rfl) (by kernel_rfl) (fun d _ _ _ _ h => by cases d <;> exact h) (by rfl) M.size (fun _ _ h k => h.sf k) M (by kernel_rfl) ?_
      simp only [List.take_succ_cons, List.take_zero]
      refine SeqA.pure (.slice (some ⟨b, off, none⟩) 4 cp) (fun w' => by go_simp) rfl rfl ?_
      refine SeqA.pure (.int .i64 i) (fun w' => by go_simp) rfl rfl ?_
      refine SeqA.pure (N64 s2) (fun w' => by go_simp) rfl rfl ?_
      refine SeqA.pure (N64 h2) (fun w' => by go_simp) rfl rfl ?_
      refine SeqA.pure (.pointer (some ⟨b, off + i, none⟩)) (fun w' => by go_simp) rfl rfl ?_
      refine SeqA.nil (fun w1 M2 hz => ?_)
      show wpT _ _ _ _ _ _
      simp only [Act.put, List.setIfInBounds_toArray, List.set_cons_succ, List.set_cons_zero]
      refine wpT_stc M2 1 (N64 s2) (cs N64 ((rL L (limbs l) off d i).1.set (off + i) s2)) inf_u64 rfl rfl rfl rfl (by go_simp) (by go_simp) (by have := (by rw [hL]; exact hoi : off + i < (rL L (limbs l) off d i).1.length); first | (simp; done) | (simpa using this) | (simp; omega)) (by simp [go_sem]) (cs_set _ _) rfl (fun w3 M4 => ?_)
      dsimp only [List.set] at M4
      refine wpT_val (v := N64 h2) rfl rfl rfl ?_
      dsimp only [wpT]
      simp only [Act.put, List.setIfInBounds_toArray, List.set_cons_succ, List.set_cons_zero]
      go_wp2_with fail
      go_roundw
      case rel => exact ⟨i + 1, by omega, by go_num, by
          rw [HRS.out]
          have e := A2.out
          rw [HP.out, HX.out, HY.out, HC.out] at e
          exact congrArg N64 e, by
          rw [HRS.out]
          have e := A1.out
          rw [HP.out, HX.out, HY.out, HC.out] at e
          rw [e] at M4
          exact M4⟩
      case measure => simp [intOf]; omega
    · have : i = 4 := by omega
      subst this
      go_wp2_with fail
      go_ret
      exact ⟨rfl, M.sub (by simp)⟩
@[go_sem] theorem arr_num (w : World) (a : Option Addr) (n c : Nat) (h : 4 ≤ n) : (Instr.arrayAt 97 (.slice a n c)).run Tryd.prog w = .ok (.pointer a) w := run_arrayAt _ _ 95 4 a n c Tryd.underlying97 h
theorem slw (w : World) (b i : Nat) (hi : i < 4) : (Instr.sliceAt 122 (.pointer (some ⟨b, 0, none⟩)) (some (.int .i64 i)) (some (.int .i64 ((i : Int) + 4))) none).run Tryd.prog w = .ok (.slice (some ⟨b, i, none⟩) 4 (8 - i)) w := by
  have hn : Tryd.prog.arrayLen 122 = 8 := by kernel_rfl
  rw [run_sliceAt_array_lh w 122 ⟨b, 0, none⟩ (by kernel_rfl) .i64 .i64 (i : Int) ((i : Int) + 4) (by omega) (by omega) (by rw [hn]; omega)]
  have hs : ∀ w, (sizeOf (Tryd.prog.elem 122)).run Tryd.prog w = .ok 1 w := fun _ => by kernel_rfl
  rw [hs]
  show Result.ok (slicedAt _ _ _ _ _) w = _
  unfold slicedAt
  rw [hn]
  have e1 : ((i : Int) + 4).toNat - (i : Int).toNat = 4 := by omega
  have e2 : (i : Int).toNat = i := by omega
  rw [e1, e2, if_neg (by omega)]
  simp [Addr.add]; omega
def z8 : List Nat := List.replicate 8 0
theorem inf_wide : (Tryd.prog.info? 122).map (·.size) = some 8 := by kernel_rfl
section
variable (ρ : Operand → Value) (dst : Option Tmp) (ty : TypeId) (pos : String) (after : Array Edge) (guard : Option (Nat × Bool)) (w : World)
@[go_sem ↓] theorem rl_wide (x : Operand) : (execOp ρ { dst, op := .load 122 x, type := ty, pos, after, guard }).run Tryd.prog w = exLoad Tryd.prog 122 (ρ x) w := x_load ..
@[go_sem ↓] theorem rs_wide (x y : Operand) : (execOp ρ { dst, op := .store 122 x y, type := ty, pos, after, guard }).run Tryd.prog w = exStore Tryd.prog 122 (ρ x) (ρ y) w := x_store ..
@[go_sem ↓] theorem ra_wide : (execOp ρ { dst, op := .alloc 122, type := ty, pos, after, guard }).run Tryd.prog w = .ok (.value (.pointer (some ⟨w.heap.size, 0, none⟩))) (w.alloc (.cells (cs N64 z8) 122)) :=
  (x_alloc ..).trans (x_alloc0 (v := .agg (cs N64 z8)) _ (by kernel_rfl))
@[go_sem] theorem xl_wide (b : Nat) (h : (w.rowOf b).size = 8) : exLoad Tryd.prog 122 (.pointer (some ⟨b, 0, none⟩)) w = .ok (.value (.agg (w.rowOf b))) w := x_load0 _ Tryd.underlying122 rfl inf_wide b h
@[go_sem] theorem xlm_wide (b o : Nat) (ho : 0 < o) (h : o + 8 ≤ (w.rowOf b).size) : exLoad Tryd.prog 122 (.pointer (some ⟨b, o, none⟩)) w = .ok (.value (.agg ((w.rowOf b).extract o (o + 8)))) w := x_loadm _ Tryd.underlying122 rfl inf_wide b o h
@[go_sem] theorem xs_wide (b : Nat) (c : Array Value) (hl : c.size = 8) (h1 : ones c = true) (h : (w.rowOf b).size = 8) (hf : w.free b = true) : exStore Tryd.prog 122 (.pointer (some ⟨b, 0, none⟩)) (.agg c) w = .ok .skip (w.setRow b c) :=
  x_store0 _ inf_wide b c hl h hf (ones_all h1)
@[go_sem] theorem xsm_wide (b o : Nat) (ho : 0 < o) (c : Array Value) (hl : c.size = 8) (h1 : ones c = true) (h : o + 8 ≤ (w.rowOf b).size) (hf : w.free b = true) : exStore Tryd.prog 122 (.pointer (some ⟨b, o, none⟩)) (.agg c) w = .ok .skip (w.setSeg b o c) :=
  x_storem _ inf_wide b o c hl h hf (ones_all h1)
end
theorem mW_zero (x y : Nat) : mW x y 0 = z8 := rfl
theorem mW_succ (x y i : Nat) : mW x y (i + 1) = (rL (mW x y i) (limbs x) i ((limbs y).getD i 0) 4).1.set (i + 4) (rL (mW x y i) (limbs x) i ((limbs y).getD i 0) 4).2 := by
  conv => lhs; unfold mW
attribute [local irreducible] mW
set_option maxRecDepth 100000 in
set_option maxHeartbeats 4000000 in
theorem nmul_any (w : World) (x y : Nat) :
    Calls Tryd.prog 61 #[.agg (cs N64 (limbs x)), .agg (cs N64 (limbs y))] w fun e w' => e = .returned (.agg (cs N64 (limbs (mulV x y)))) ∧ Below w.heap.size w w' := by
  have M0 := Mm.start no w
  have M1 := ((((M0.alloc (cs N64 (limbs x)) 97 (by decide)).alloc (cs N64 (limbs y)) 97 (by decide)).alloc (cs N64 (limbs 0)) 97 (by decide)).alloc (cs N64 z8) 122 (by decide))
  simp only [World.size_alloc] at M1
  have HW0 := hid (mW_zero x y); have HWS := hid (mW_succ x y); have HSP := hid (mW_spec x y)
  go_enter Tryd.func61, Tryd.ntmps61
  go_upto_region 2 with fail
  obtain ⟨w1, hw1⟩ : ∃ w1, w1 = (((w.alloc (.cells (cs N64 (limbs x)) 97)).alloc (.cells (cs N64 (limbs y)) 97)).alloc (.cells (cs N64 (limbs 0)) 97)).alloc (.cells (cs N64 z8) 122) := ⟨_, rfl⟩
  rw [← hw1] at M1 ⊢
  clear hw1
  have r1 := M1.row (b := w.heap.size + 1) (c := cs N64 (limbs y)) (by simp)
  go_wp2_with fail
  clear r1
  go_loopw [12] (fun t wr => ∃ i : Nat, i ≤ 4 ∧ t = .int .i64 i ∧ Mm no w [(w.heap.size + 1 + 1 + 1, cs N64 (mW x y i)), (w.heap.size + 1 + 1, cs N64 (limbs 0)), (w.heap.size + 1, cs N64 (limbs y)), (w.heap.size, cs N64 (limbs x))] wr) (fun t _ => 4 - (intOf t).toNat)
  case atStart => exact ⟨0, by omega, rfl, by rw [HW0.out]; exact M1⟩
  case round =>
    clear M1 M0
    obtain ⟨i, hi, rfl, M⟩ := hrel
    obtain ⟨k1, k2, -, -⟩ := HSP.out i hi
    by_cases hlt : i < 4
    · obtain ⟨d, hd⟩ : ∃ d, d = gN (limbs y) i := ⟨_, rfl⟩
      have hidx := idx_num wr (limbs y) i hlt (limbs_len y)
      rw [← hd] at hidx
      have hdl : d < M64 := by rw [hd]; exact (lmAL (limbs_lm y)).getD _
      have HD := hid hd; have K1 := hid k1; have K2 := hid k2
      clear hd k1 k2
      go_upto_region 5 with fail
      clear hidx
      have q0 : (0 : Int) ≤ i := by omega
      have q4 : (i : Int) + 4 ≤ 8 := by omega
      refine wp_region_seq 8 [16, 17, 18, 19, 20, 21, 22, 23] [] [0, 1] [] (.op 8 (.op 9 (.op 10 .done))) (Mm no w _) (by kernel_rfl) (by kernel_rfl) (by kernel_rfl) (fun d _ _ _ _ h => by cases d <;> exact h) (by rfl) M.size (fun _ _ h k => h.sf k) M ?_
      simp only [List.take_succ_cons, List.take_zero]
      refine SeqA.pure (.int .i64 i) (fun w' => by go_simp) rfl rfl ?_
      refine SeqA.pure (.int .i64 (i + 4)) (fun w' => by have q := i64w ((i : Int) + 4) (by omega) (by omega); go_simp) rfl rfl ?_
      refine SeqA.pure (.int .i64 i) (fun w' => by go_simp) rfl rfl ?_
      refine SeqA.pure (.int .i64 i) (fun w' => by go_simp) rfl rfl ?_
      refine SeqA.pure (.int .i64 (i + 4)) (fun w' => by have q := i64w ((i : Int) + 4) (by omega) (by omega); go_simp) rfl rfl ?_
      simp only [Act.put, List.setIfInBounds_toArray, List.set_cons_succ, List.set_cons_zero]
      refine SeqA.pure (.slice (some ⟨w.heap.size + 1 + 1 + 1, i, none⟩) 4 (8 - i)) (fun w' => by have q := slw w' (w.heap.size + 1 + 1 + 1) i hlt; go_simp) rfl rfl ?_
      refine SeqA.ld0 Tryd.underlying97 rfl inf_num (w.heap.size) (cs N64 (limbs x)) rfl (by go_simp) (fun _ M => M.row (by simp)) (by simp []) rfl ?_
      refine SeqA.pure (N64 d) (fun w' => by go_simp) rfl rfl ?_
      refine SeqA.nil (fun w1 M2 hz => ?_)
      show wpT _ _ _ _ _ _
      simp only [Act.put, List.setIfInBounds_toArray, List.set_cons_succ, List.set_cons_zero]
      have hlb := M2.lt (b := w.heap.size + 1 + 1 + 1) (c := cs N64 (mW x y i)) (by simp)
      refine wpT_call rfl rfl (by go_simp) (row_any w1 (w.heap.size + 1 + 1 + 1) i (8 - i) x d (mW x y i) K2.out hdl (by rw [K1.out]; omega) (by omega) hlb (M2.loc (k := 0) rfl)) ?_
      rintro e w3 ⟨rfl, N3⟩
      have M3 := M2.back (k := 0) rfl N3
      dsimp only [List.set] at M3
      refine ⟨_, rfl, ?_⟩
      have hl3 : (rL (mW x y i) (limbs x) i d 4).1.length = 8 := by rw [(rL_spec K2.out (lmAL (limbs_lm x)) hdl (by rw [K1.out]; omega) 4 (Nat.le_refl _)).1, K1.out]
      have HL3 := hid hl3
      clear hl3
      simp only [Act.put, List.setIfInBounds_toArray, List.set_cons_succ, List.set_cons_zero]
      have q5 : (0 : Int) ≤ (i : Int) + 4 := by omega
      have q6 : (i : Int) + 4 < 8 := by omega
      refine wpT_val (w' := w3) (v := .pointer (some ⟨w.heap.size + 1 + 1 + 1, i + 4, none⟩)) rfl rfl (by go_simp) ?_
      refine wpT_stc M3 0 (N64 (rL (mW x y i) (limbs x) i d 4).2) (cs N64 ((rL (mW x y i) (limbs x) i d 4).1.set (i + 4) (rL (mW x y i) (limbs x) i d 4).2)) inf_u64 rfl rfl rfl rfl (by go_simp) (by go_simp) (by rw [cs_size, HL3.out]; omega) (by simp [go_sem]) (cs_set _ _) rfl (fun w4 M4 => ?_)
      dsimp only [List.set] at M4
      dsimp only [wpT]
      simp only [Act.put, List.setIfInBounds_toArray, List.set_cons_succ, List.set_cons_zero]
      go_wp2_with fail
      go_roundw
      case rel => exact ⟨i + 1, by omega, by go_num, by rw [HWS.out]; rw [HD.out] at M4; exact M4⟩
      case measure => simp [intOf]; omega
    · have : i = 4 := by omega
      subst this
      obtain ⟨e1, e2, e3⟩ := mW_end x y
      obtain ⟨p, hp⟩ : ∃ p, p = (x % M256) * (y % M256) := ⟨_, rfl⟩
      rw [← hp] at e2 e3
      have HT := hid e2; have HDr := hid e3; have HW8 := hid e1; have HP := hid hp
      have hf := fold1_mul x y
      have hfl := fold1_mul_lt x y
      rw [← hp] at hf hfl
      have hr := row38 p
      rw [hf] at hr
      have HR := hid hr; have HFL := hid hfl
      clear e1 e2 e3 hp hf hfl hr k1 k2
      go_upto_region 7 with fail
      refine wp_region_seq 8 [27, 28, 29, 30, 31, 32, 8, 9] [] [] [] (.op 8 (.op 9 .done)) (Mm no w _) (by kernel_rfl) (by kernel_rfl) (by kernel_rfl) (fun d _ _ _ _ h => by cases d <;> exact h) (by rfl) M.size (fun _ _ h k => h.sf k) M ?_
      simp only [List.take_succ_cons, List.take_zero]
      refine SeqA.pure (.slice (some ⟨w.heap.size + 1 + 1 + 1, 0, none⟩) 4 8) (fun w' => by go_simp) rfl rfl ?_
      refine SeqA.pure (.pointer (some ⟨w.heap.size + 1 + 1 + 1, 0, none⟩)) (fun w' => by go_simp) rfl rfl ?_
      refine SeqA.ldm Tryd.underlying97 rfl inf_num (w.heap.size + 1 + 1 + 1) 0 (cs N64 (mW x y 4)) (cs N64 (limbs p)) rfl (by go_simp) (fun _ M => M.row (by simp)) (by simp [HW8.out]) (by rw [cs_extract, ← HT.out]; simp) rfl ?_
      refine SeqA.pure (.slice (some ⟨w.heap.size + 1 + 1 + 1, 4, none⟩) 4 4) (fun w' => by go_simp) rfl rfl ?_
      refine SeqA.pure (.pointer (some ⟨w.heap.size + 1 + 1 + 1, 4, none⟩)) (fun w' => by go_simp) rfl rfl ?_
      simp only [Act.put, List.setIfInBounds_toArray, List.set_cons_succ, List.set_cons_zero]
      refine SeqA.ldm Tryd.underlying97 rfl inf_num (w.heap.size + 1 + 1 + 1) 4 (cs N64 (mW x y 4)) (cs N64 (limbs (p / M256))) rfl (by go_simp) (fun _ M => M.row (by simp)) (by simp [HW8.out]) (by rw [cs_extract, ← HDr.out, List.take_of_length_le (by simp [HW8.out])]) rfl ?_
      refine SeqA.var (z := .agg (cs N64 (limbs 0))) (by kernel_rfl) rfl rfl (by decide) rfl ?_
      refine SeqA.var (z := .agg (cs N64 (limbs 0))) (by kernel_rfl) rfl rfl (by decide) rfl ?_
      refine SeqA.nil (fun w1 M2 hz => ?_)
      refine news_one (fun b3 hb1 hb2 hb3 => ?_)
      have M4 := M.in_ (c := cs N64 (limbs 0)) M2 hb1 hb2 (by decide) hb3 rfl
      refine news_one (fun b5 hb1 hb2 hb3 => ?_)
      have M6 := M.in_ (c := cs N64 (limbs 0)) M4 hb1 hb2 (by decide) hb3 rfl
      show wpT _ _ _ _ _ _
      simp only [Act.put, List.setIfInBounds_toArray, List.set_cons_succ, List.set_cons_zero]
      refine wpT_st0 M6 0 (cs N64 (limbs p)) inf_num rfl rfl rfl rfl (by go_simp) (by go_simp) (by simp []) (by simp []) (by simp [go_sem]) rfl (fun w7 M8 => ?_)
      dsimp only [List.set] at M8
      refine wpT_st0 M8 1 (cs N64 (limbs (p / M256))) inf_num rfl rfl rfl rfl (by go_simp) (by go_simp) (by simp []) (by simp []) (by simp [go_sem]) rfl (fun w9 M10 => ?_)
      dsimp only [List.set] at M10
      dsimp only [wpT]
      go_upto_region 8 with fail
      have hlb := M10.lt (b := b5) (c := cs N64 (limbs p)) (by simp)
      refine wp_region_seq 2 [33, 34] [] [] [] (.op 2 (.op 3 .done)) (Mm no w _) (by kernel_rfl) (by kernel_rfl) (by kernel_rfl) (fun d _ _ _ _ h => by cases d <;> exact h) (by rfl) M10.size (fun _ _ h k => h.sf k) M10 ?_
      simp only [List.take_succ_cons, List.take_zero]
      refine SeqA.pure (.slice (some ⟨b5, 0, none⟩) 4 4) (fun w' => by go_simp) rfl rfl ?_
      refine SeqA.ld0 Tryd.underlying97 rfl inf_num (b3) (cs N64 (limbs (p / M256))) rfl (by go_simp) (fun _ M => M.row (by simp)) (by simp []) rfl ?_
      refine SeqA.nil (fun w1 M2 hz => ?_)
      show wpT _ _ _ _ _ _
      simp only [Act.put, List.setIfInBounds_toArray, List.set_cons_succ, List.set_cons_zero]
      refine wpT_call rfl rfl (by go_simp) (row_any w1 b5 0 4 (p / M256) 38 (limbs p) (lmAL (limbs_lm p)) (by decide) (by simp) (by decide) (M2.lt (c := cs N64 (limbs p)) (by simp)) (M2.loc (k := 0) rfl)) ?_
      rintro e w3 ⟨rfl, N3⟩
      have M3 := M2.back (k := 0) rfl N3
      dsimp only [List.set] at M3
      rw [HR.out.1] at M3
      rw [HR.out.2]
      refine ⟨_, rfl, ?_⟩
      simp only [Act.put, List.setIfInBounds_toArray, List.set_cons_succ, List.set_cons_zero]
      obtain ⟨f, hf⟩ : ∃ f, f = fold1 p := ⟨_, rfl⟩
      have HF := hid hf
      rw [← hf] at M3 ⊢
      have hfl := HFL.out
      rw [← hf] at hfl
      have HFL2 := hid hfl
      clear hf hfl
      refine wpT_val (w' := w3) (v := N64 (f / M256)) rfl rfl rfl ?_
      dsimp only [wpT]
      simp only [Act.put, List.setIfInBounds_toArray, List.set_cons_succ, List.set_cons_zero]
      go_upto_region 9 with fail
      obtain ⟨o, ho⟩ : ∃ o, o = f / M256 := ⟨_, rfl⟩
      rw [← ho]
      have hsettle := settle_any w3 b5 f HFL2.out (M3.loc (k := 0) rfl)
      rw [← ho] at hsettle
      have HS := hid hsettle
      clear ho hsettle
      go_wp2_with fail
      with_reducible refine ((HS.out).mono ?_)
      rintro e w4 ⟨rfl, N4⟩
      have M4 := M3.back (k := 0) rfl N4
      dsimp only [List.set] at M4
      have r2 := M4.row (b := b5) (c := cs N64 (limbs (red f))) (by simp)
      have f3 := M4.free (b := w.heap.size + 1 + 1) (c := cs N64 (limbs 0)) (by simp)
      have r3 := M4.row (b := w.heap.size + 1 + 1) (c := cs N64 (limbs 0)) (by simp)
      dsimp only
      go_wp2_with fail
      have M5 := M4.set 3 (cs N64 (limbs (red f))) rfl
      dsimp only [List.set] at M5
      have r4 := M5.row (b := w.heap.size + 1 + 1) (c := cs N64 (limbs (red f))) (by simp)
      refine bodyPost_ret (res_row (b := w.heap.size + 1 + 1) rfl Tryd.underlying97 rfl inf_num _ _ rfl (by rw [r4]; simp)) rfl ?_
      rw [r4]
      exact ⟨by unfold mulV; rw [HF.out, HP.out], M5.end_⟩
set_option maxRecDepth 100000 in
set_option maxHeartbeats 2000000 in
theorem nsq_any (w : World) (x n : Nat) (hn : n ≤ 1000) :
    Calls Tryd.prog 83 #[.agg (cs N64 (limbs x)), .int .i64 n] w fun e w' => e = .returned (.agg (cs N64 (limbs (sqV x n)))) ∧ Below w.heap.size w w' := by
  have M0 := Mm.start no w
  have M1 := ((M0.alloc (cs N64 (limbs x)) 97 (by decide)).alloc (cs N64 (limbs 0)) 97 (by decide))
  simp only [World.size_alloc] at M1
  go_enter Tryd.func83, Tryd.ntmps83
  go_wp2_with fail
  go_loopw [6] (fun t wr => ∃ i : Nat, i ≤ n ∧ t = .int .i64 i ∧ Mm no w [(w.heap.size + 1, cs N64 (limbs 0)), (w.heap.size, cs N64 (limbs (sqV x i)))] wr) (fun t _ => n - (intOf t).toNat)
  case atStart => exact ⟨0, by omega, rfl, M1⟩
  case round =>
    clear M1 M0
    obtain ⟨i, hi, rfl, M⟩ := hrel
    by_cases hlt : i < n
    · obtain ⟨v, hv⟩ : ∃ v, v = sqV x i := ⟨_, rfl⟩
      rw [← hv] at M
      have HV := hid hv
      clear hv
      have r1 := M.row (b := w.heap.size) (c := cs N64 (limbs v)) (by simp)
      go_wp2_with fail
      with_reducible refine ((nmul_any wr v v).mono ?_)
      rintro e w2 ⟨rfl, hb2⟩
      have M2 := M.below hb2
      have r2 := M2.row (b := w.heap.size) (c := cs N64 (limbs v)) (by simp)
      have f2 := M2.free (b := w.heap.size) (c := cs N64 (limbs v)) (by simp)
      clear hb2 r1
      dsimp only
      go_wp2_with fail
      have M3 := M2.set 1 (cs N64 (limbs (mulV v v))) rfl
      dsimp only [List.set] at M3
      go_roundw
      case rel => exact ⟨i + 1, by omega, by go_num, by
        have e : sqV x (i + 1) = mulV v v := by rw [HV.out]; rfl
        rw [e]; exact M3⟩
      case measure => simp [intOf]; omega
    · have : i = n := by omega
      subst this
      go_upto_region 5 with fail
      have r2 := M.row (b := w.heap.size) (c := cs N64 (limbs (sqV x i))) (by simp)
      have f3 := M.free (b := w.heap.size + 1) (c := cs N64 (limbs 0)) (by simp)
      have r3 := M.row (b := w.heap.size + 1) (c := cs N64 (limbs 0)) (by simp)
      go_wp2_with fail
      have M3 := M.set 0 (cs N64 (limbs (sqV x i))) rfl
      dsimp only [List.set] at M3
      have r4 := M3.row (b := w.heap.size + 1) (c := cs N64 (limbs (sqV x i))) (by simp)
      refine bodyPost_ret (res_row (b := w.heap.size + 1) rfl Tryd.underlying97 rfl inf_num _ _ rfl (by rw [r4]; simp)) rfl ?_
      rw [r4]
      exact ⟨rfl, M3.end_⟩
end Go.Proofs.YtgclegdgngldoaaDoor
set_option linter.unusedSimpArgs false
set_option linter.unusedVariables false
namespace Go.Proofs.YtgclegdgngldoaaDoor
open Go.RowKit

abbrev I64 (n : Nat) : Value := .int .i64 (n : Int)
/-- a slice of ints -/
def IS (w : World) (v : Value) (l : List (Nat)) : Prop := SV w v l.length (l.map I64)
/-- a slice of ints of the call's own -/
def OI (w : World) (base : Nat) (v : Value) (l : List (Nat)) : Prop := w.ownsRow base 3 1 v l.length (l.map I64)
section
variable {w w' : World} {v : Value} {l : List (Nat)} {base : Nat}
theorem OI.is (h : OI w base v l) : IS w v l := SV.of_own h
theorem OI.alloc (h : OI w base v l) (o : Obj) : OI (w.alloc o) base v l := World.ownsRow.alloc h o
theorem OI.kept {r : Option Nat} (h : OI w base v l) (hg : w.grownBy w' r) (hne : v.ownBlock = none ∨ v.ownBlock ≠ r) : OI w' base v l := World.ownsRow.kept h hg hne
theorem OI.drewN (h : OI w base v l) (k : Nat) : OI (w.drewN k) base v l := World.ownsRow.kept h (gb_drewN (gb_refl w none) k) (by cases hv : v.ownBlock <;> simp)
theorem OI.mono {b' : Nat} (h : OI w base v l) (hb : b' ≤ base) : OI w b' v l := by
  refine ⟨h.1, ?_⟩
  rcases h.2 with h2 | ⟨g, cap, cur, hv, hbg, r⟩
  · exact .inl h2
  · exact .inr ⟨g, cap, cur, hv, by omega, r⟩
theorem OI.nil (w : World) (base : Nat) : OI w base (.slice none 0 0) [] := World.ownsRow_nil w base _ _
/-- a literal slice -/
theorem OI.lit (w : World) (l : List (Nat)) (c : Array Value) (hc : c = cs I64 l) (n : Nat) (hn : n = l.length) (hm : l.length ≤ maxLen) (base : Nat) (hb : base ≤ w.heap.size) :
    OI (w.alloc (.cells c 3)) base (.slice (some ⟨w.heap.size, 0, none⟩) n n) l := by
  subst hc; subst hn
  have := World.ownsRow_lit (base := base) (e := 3) (size := 1) w (cs I64 l) l.length hb hm (by simp)
  simpa [OI, cs] using this
theorem IS.below (h : IS w v l) (hb : Below w.heap.size w w') : IS w' v l := SV.below h hb
theorem IS.open (h : IS w v l) (hl : l ≠ []) : ∃ b o cap, v = .slice (some ⟨b, o, none⟩) l.length cap ∧ l.length ≤ cap ∧ ∀ i, i < l.length → w.cell? ⟨b, o + i, none⟩ = some (I64 (l.getD i 0)) := by
  obtain ⟨a, cap, rfl, h1, h2, h3⟩ := h
  obtain ⟨b, o, rfl, h4⟩ := h3 (by simpa using hl)
  refine ⟨b, o, cap, rfl, h1, fun i hi => ?_⟩
  rw [h4 i (by simpa using hi), List.getElem?_map, List.getD_eq_getElem?_getD, List.getElem?_eq_getElem hi]; rfl
theorem IS.shape' (h : IS w v l) (n : Nat) (hn : l.length = n) : ∃ a cap, v = .slice a n cap ∧ n ≤ cap := by
  subst hn
  obtain ⟨a, cap, rfl, h1, _⟩ := h
  exact ⟨a, cap, rfl, h1⟩
theorem IS.one (w : World) (u : Value) (x : Nat) (hu : u = I64 x) (T : TypeId) : IS (w.alloc (.cells #[u] T)) (.slice (some ⟨w.heap.size, 0, none⟩) 1 1) [x] := by
  subst hu
  refine ⟨_, 1, rfl, Nat.le_refl _, by unfold maxLen; omega, fun _ => ⟨_, _, rfl, fun i hi => ?_⟩⟩
  simp at hi
  subst hi
  rw [cell_rowOf, rowOf_alloc_at _ _ _ rfl]; rfl
end
@[go_sem] theorem ones_i64 (l : List Nat) : ones (cs I64 l) = true := by simp [ones, cs, List.all_eq_true]; intro _ _; rfl
def gI (l : List Nat) (i : Nat) : Nat := l.getD i 0
theorem cell_gI {w : World} {b : Nat} {L : List Nat} {R : Array Value} (h : w.rowOf b = cs I64 L ++ R) {i : Nat} (hi : i < L.length) : w.cell? ⟨b, i, none⟩ = some (I64 (gI L i)) := by
  rw [cell_rowOf, h, Array.getElem?_append_left (by simpa using hi), cs_get_lt hi]
  unfold gI
  rw [List.getD_eq_getElem?_getD, List.getElem?_eq_getElem hi]; rfl
/-- what a call has made, as a row that is known -/
theorem Mm.take {S : Nat → Prop} {w0 w w' : World} {H : List (Nat × Array Value)} {v : Value} {l : List Nat} (M : Mm S w0 H w) (hb : Below w.heap.size w w') (ho : OI w' w.heap.size v l) (hl : l ≠ []) :
    ∃ g cap R, v = .slice (some ⟨g, 0, none⟩) l.length cap ∧ l.length ≤ cap ∧ cap ≤ maxLen ∧ w.heap.size ≤ g ∧ Mm S w0 ((g, cs I64 l ++ R) :: H) w' := by
  rcases ho.2 with ⟨_, h⟩ | ⟨g, cap, cur, rfl, hbg, hg, hn, hm, hs, ht⟩
  · exact absurd (List.length_eq_zero_iff.1 h) hl
  · have e : cur = cs I64 l ++ (cur.toList.drop l.length).toArray := by
      apply Array.ext'
      rw [Nat.mul_one] at ht
      rw [Array.toList_append, show (cs I64 l).toList = l.map I64 by simp [cs], ← ht]
      simp
    refine ⟨g, cap, (cur.toList.drop l.length).toArray, rfl, hn, hm, hbg, ?_⟩
    have M2 := M.below hb
    exact Mm.new (c := cs I64 l ++ (cur.toList.drop l.length).toArray) M hbg (T := 3) (by rw [← e]; exact hg) (by decide) M2 (M.notin hbg)
theorem Mm.is {S : Nat → Prop} {w0 w : World} {H : List (Nat × Array Value)} {g n cap : Nat} {l : List Nat} {R : Array Value} (M : Mm S w0 H w) (hm : (g, cs I64 l ++ R) ∈ H) (hn : n = l.length) (hc : n ≤ cap) (hx : cap ≤ maxLen) : IS w (.slice (some ⟨g, 0, none⟩) n cap) l := by
  subst hn
  refine ⟨_, cap, rfl, hc, hx, fun _ => ⟨g, 0, rfl, fun i hi => ?_⟩⟩
  have hi' : i < l.length := by simpa using hi
  rw [Nat.zero_add, cell_gI (M.row hm) hi', List.getElem?_map, List.getElem?_eq_getElem hi']
  unfold gI
  rw [List.getD_eq_getElem?_getD, List.getElem?_eq_getElem hi']; rfl
end Go.Proofs.YtgclegdgngldoaaDoor
set_option linter.unusedSimpArgs false
set_option linter.unusedVariables false
namespace Go.Proofs.YtgclegdgngldoaaDoor.Fp
def iv2 (x : Nat) : Nat := mulV (sqV x 1) x
def iv4 (x : Nat) : Nat := mulV (sqV (iv2 x) 2) (iv2 x)
def iv5 (x : Nat) : Nat := mulV (sqV (iv4 x) 1) x
def iv10 (x : Nat) : Nat := mulV (sqV (iv5 x) 5) (iv5 x)
def iv20 (x : Nat) : Nat := mulV (sqV (iv10 x) 10) (iv10 x)
def iv40 (x : Nat) : Nat := mulV (sqV (iv20 x) 20) (iv20 x)
def iv50 (x : Nat) : Nat := mulV (sqV (iv40 x) 10) (iv10 x)
def iv100 (x : Nat) : Nat := mulV (sqV (iv50 x) 50) (iv50 x)
def iv250 (x : Nat) : Nat := mulV (sqV (mulV (sqV (iv100 x) 100) (iv100 x)) 50) (iv50 x)
def ivlow (x : Nat) : Nat := mulV (sqV (mulV (sqV x 2) x) 1) x
def invV (x : Nat) : Nat := mulV (sqV (iv250 x) 5) (ivlow x)
end Go.Proofs.YtgclegdgngldoaaDoor.Fp
namespace Go.Proofs.YtgclegdgngldoaaDoor
open Go.RowKit Fp
set_option maxRecDepth 100000 in
set_option maxHeartbeats 4000000 in
theorem ninv_any (w : World) (x : Nat) :
    Calls Tryd.prog 62 #[.agg (cs N64 (limbs x))] w fun e w' => e = .returned (.agg (cs N64 (limbs (invV x)))) ∧ Below w.heap.size w w' := by
  have M0 := Mm.start no w
  go_enter Tryd.func62, Tryd.ntmps62
  have M2 := ((M0.alloc (cs N64 (limbs x)) 97 (by decide)).alloc (cs N64 (limbs 0)) 97 (by decide))
  simp only [World.size_alloc] at M2
  go_upto_region 1 with fail
  obtain ⟨w1, hw1⟩ : ∃ w1, w1 = ((w.alloc (.cells (cs N64 (limbs x)) 97)).alloc (.cells (cs N64 (limbs 0)) 97)) := ⟨_, rfl⟩
  rw [← hw1] at M2 ⊢
  clear hw1
  refine wp_region_seq 5 [13, 14, 15, 16, 3] [] [] [] (.op 5 .done) (Mm no w _) (by kernel_rfl) (by kernel_rfl) (by kernel_rfl) (fun d _ _ _ _ h => by cases d <;> exact h) (by rfl) M2.size (fun _ _ h k => h.sf k) M2 ?_
  simp only [List.take_succ_cons, List.take_zero]
  refine SeqA.ld0 Tryd.underlying97 rfl inf_num (w.heap.size) (cs N64 (limbs x)) rfl (by go_simp) (fun _ M => M.row (by simp)) (by simp []) rfl ?_
  refine SeqA.call _ _ _ (fun w' => by go_simp) (fun w' hI _ => nsq_any w' x 1 (by decide)) M2.size rfl rfl ?_
  refine SeqA.ld0 Tryd.underlying97 rfl inf_num (w.heap.size) (cs N64 (limbs x)) rfl (by go_simp) (fun _ M => M.row (by simp)) (by simp []) rfl ?_
  refine SeqA.call _ _ _ (fun w' => by go_simp) (fun w' hI _ => nmul_any w' (sqV x 1) x) M2.size rfl rfl ?_
  refine SeqA.var (z := .agg (cs N64 (limbs 0))) (by kernel_rfl) rfl rfl (by decide) rfl ?_
  refine SeqA.nil (fun w3 M4 hz => ?_)
  refine news_one (fun b5 hb1 hb2 hb3 => ?_)
  have M6 := M2.in_ (c := cs N64 (limbs 0)) M4 hb1 hb2 (by decide) hb3 rfl
  show wpT _ _ _ _ _ _
  simp only [Act.put, List.setIfInBounds_toArray, List.set_cons_succ, List.set_cons_zero]
  refine wpT_st0 M6 0 (cs N64 (limbs (mulV (sqV x 1) x))) inf_num rfl rfl rfl rfl (by go_simp) (by go_simp) (by simp []) (by simp []) (by simp [go_sem]) rfl (fun w7 M8 => ?_)
  dsimp only [List.set] at M8
  dsimp only [wpT]
  rw [show mulV (sqV x 1) x = iv2 x from rfl] at M8 ⊢
  go_upto_region 2 with fail
  refine wp_region_seq 5 [17, 18, 19, 20, 4] [] [] [] (.op 5 .done) (Mm no w _) (by kernel_rfl) (by kernel_rfl) (by kernel_rfl) (fun d _ _ _ _ h => by cases d <;> exact h) (by rfl) M8.size (fun _ _ h k => h.sf k) M8 ?_
  simp only [List.take_succ_cons, List.take_zero]
  refine SeqA.ld0 Tryd.underlying97 rfl inf_num (b5) (cs N64 (limbs (iv2 x))) rfl (by go_simp) (fun _ M => M.row (by simp)) (by simp []) rfl ?_
  refine SeqA.call _ _ _ (fun w' => by go_simp) (fun w' hI _ => nsq_any w' (iv2 x) 2 (by decide)) M8.size rfl rfl ?_
  refine SeqA.ld0 Tryd.underlying97 rfl inf_num (b5) (cs N64 (limbs (iv2 x))) rfl (by go_simp) (fun _ M => M.row (by simp)) (by simp []) rfl ?_
  refine SeqA.call _ _ _ (fun w' => by go_simp) (fun w' hI _ => nmul_any w' (sqV (iv2 x) 2) (iv2 x)) M8.size rfl rfl ?_
  refine SeqA.var (z := .agg (cs N64 (limbs 0))) (by kernel_rfl) rfl rfl (by decide) rfl ?_
  refine SeqA.nil (fun w9 M10 hz => ?_)
  refine news_one (fun b11 hb1 hb2 hb3 => ?_)
  have M12 := M8.in_ (c := cs N64 (limbs 0)) M10 hb1 hb2 (by decide) hb3 rfl
  show wpT _ _ _ _ _ _
  simp only [Act.put, List.setIfInBounds_toArray, List.set_cons_succ, List.set_cons_zero]
  refine wpT_st0 M12 0 (cs N64 (limbs (mulV (sqV (iv2 x) 2) (iv2 x)))) inf_num rfl rfl rfl rfl (by go_simp) (by go_simp) (by simp []) (by simp []) (by simp [go_sem]) rfl (fun w13 M14 => ?_)
  dsimp only [List.set] at M14
  dsimp only [wpT]
  rw [show mulV (sqV (iv2 x) 2) (iv2 x) = iv4 x from rfl] at M14 ⊢
  go_upto_region 3 with fail
  refine wp_region_seq 5 [21, 22, 23, 24, 5] [] [] [] (.op 5 .done) (Mm no w _) (by kernel_rfl) (by kernel_rfl) (by kernel_rfl) (fun d _ _ _ _ h => by cases d <;> exact h) (by rfl) M14.size (fun _ _ h k => h.sf k) M14 ?_
  simp only [List.take_succ_cons, List.take_zero]
  refine SeqA.ld0 Tryd.underlying97 rfl inf_num (b11) (cs N64 (limbs (iv4 x))) rfl (by go_simp) (fun _ M => M.row (by simp)) (by simp []) rfl ?_
  refine SeqA.call _ _ _ (fun w' => by go_simp) (fun w' hI _ => nsq_any w' (iv4 x) 1 (by decide)) M14.size rfl rfl ?_
  refine SeqA.ld0 Tryd.underlying97 rfl inf_num (w.heap.size) (cs N64 (limbs x)) rfl (by go_simp) (fun _ M => M.row (by simp)) (by simp []) rfl ?_
  refine SeqA.call _ _ _ (fun w' => by go_simp) (fun w' hI _ => nmul_any w' (sqV (iv4 x) 1) x) M14.size rfl rfl ?_
  refine SeqA.var (z := .agg (cs N64 (limbs 0))) (by kernel_rfl) rfl rfl (by decide) rfl ?_
  refine SeqA.nil (fun w15 M16 hz => ?_)
  refine news_one (fun b17 hb1 hb2 hb3 => ?_)
  have M18 := M14.in_ (c := cs N64 (limbs 0)) M16 hb1 hb2 (by decide) hb3 rfl
  show wpT _ _ _ _ _ _
  simp only [Act.put, List.setIfInBounds_toArray, List.set_cons_succ, List.set_cons_zero]
  refine wpT_st0 M18 0 (cs N64 (limbs (mulV (sqV (iv4 x) 1) x))) inf_num rfl rfl rfl rfl (by go_simp) (by go_simp) (by simp []) (by simp []) (by simp [go_sem]) rfl (fun w19 M20 => ?_)
  dsimp only [List.set] at M20
  dsimp only [wpT]
  rw [show mulV (sqV (iv4 x) 1) x = iv5 x from rfl] at M20 ⊢
  go_upto_region 4 with fail
  refine wp_region_seq 5 [25, 26, 27, 28, 6] [] [] [] (.op 5 .done) (Mm no w _) (by kernel_rfl) (by kernel_rfl) (by kernel_rfl) (fun d _ _ _ _ h => by cases d <;> exact h) (by rfl) M20.size (fun _ _ h k => h.sf k) M20 ?_
  simp only [List.take_succ_cons, List.take_zero]
  refine SeqA.ld0 Tryd.underlying97 rfl inf_num (b17) (cs N64 (limbs (iv5 x))) rfl (by go_simp) (fun _ M => M.row (by simp)) (by simp []) rfl ?_
  refine SeqA.call _ _ _ (fun w' => by go_simp) (fun w' hI _ => nsq_any w' (iv5 x) 5 (by decide)) M20.size rfl rfl ?_
  refine SeqA.ld0 Tryd.underlying97 rfl inf_num (b17) (cs N64 (limbs (iv5 x))) rfl (by go_simp) (fun _ M => M.row (by simp)) (by simp []) rfl ?_
  refine SeqA.call _ _ _ (fun w' => by go_simp) (fun w' hI _ => nmul_any w' (sqV (iv5 x) 5) (iv5 x)) M20.size rfl rfl ?_
  refine SeqA.var (z := .agg (cs N64 (limbs 0))) (by kernel_rfl) rfl rfl (by decide) rfl ?_
  refine SeqA.nil (fun w21 M22 hz => ?_)
  refine news_one (fun b23 hb1 hb2 hb3 => ?_)
  have M24 := M20.in_ (c := cs N64 (limbs 0)) M22 hb1 hb2 (by decide) hb3 rfl
  show wpT _ _ _ _ _ _
  simp only [Act.put, List.setIfInBounds_toArray, List.set_cons_succ, List.set_cons_zero]
  refine wpT_st0 M24 0 (cs N64 (limbs (mulV (sqV (iv5 x) 5) (iv5 x)))) inf_num rfl rfl rfl rfl (by go_simp) (by go_simp) (by simp []) (by simp []) (by simp [go_sem]) rfl (fun w25 M26 => ?_)
  dsimp only [List.set] at M26
  dsimp only [wpT]
  rw [show mulV (sqV (iv5 x) 5) (iv5 x) = iv10 x from rfl] at M26 ⊢
  go_upto_region 5 with fail
  refine wp_region_seq 5 [29, 30, 31, 32, 7] [] [] [] (.op 5 .done) (Mm no w _) (by kernel_rfl) (by kernel_rfl) (by kernel_rfl) (fun d _ _ _ _ h => by cases d <;> exact h) (by rfl) M26.size (fun _ _ h k => h.sf k) M26 ?_
  simp only [List.take_succ_cons, List.take_zero]
  refine SeqA.ld0 Tryd.underlying97 rfl inf_num (b23) (cs N64 (limbs (iv10 x))) rfl (by go_simp) (fun _ M => M.row (by simp)) (by simp []) rfl ?_
  refine SeqA.call _ _ _ (fun w' => by go_simp) (fun w' hI _ => nsq_any w' (iv10 x) 10 (by decide)) M26.size rfl rfl ?_
  refine SeqA.ld0 Tryd.underlying97 rfl inf_num (b23) (cs N64 (limbs (iv10 x))) rfl (by go_simp) (fun _ M => M.row (by simp)) (by simp []) rfl ?_
  refine SeqA.call _ _ _ (fun w' => by go_simp) (fun w' hI _ => nmul_any w' (sqV (iv10 x) 10) (iv10 x)) M26.size rfl rfl ?_
  refine SeqA.var (z := .agg (cs N64 (limbs 0))) (by kernel_rfl) rfl rfl (by decide) rfl ?_
  refine SeqA.nil (fun w27 M28 hz => ?_)
  refine news_one (fun b29 hb1 hb2 hb3 => ?_)
  have M30 := M26.in_ (c := cs N64 (limbs 0)) M28 hb1 hb2 (by decide) hb3 rfl
  show wpT _ _ _ _ _ _
  simp only [Act.put, List.setIfInBounds_toArray, List.set_cons_succ, List.set_cons_zero]
  refine wpT_st0 M30 0 (cs N64 (limbs (mulV (sqV (iv10 x) 10) (iv10 x)))) inf_num rfl rfl rfl rfl (by go_simp) (by go_simp) (by simp []) (by simp []) (by simp [go_sem]) rfl (fun w31 M32 => ?_)
  dsimp only [List.set] at M32
  dsimp only [wpT]
  rw [show mulV (sqV (iv10 x) 10) (iv10 x) = iv20 x from rfl] at M32 ⊢
  go_upto_region 6 with fail
  refine wp_region_seq 5 [33, 34, 35, 36, 8] [] [] [] (.op 5 .done) (Mm no w _) (by kernel_rfl) (by kernel_rfl) (by kernel_rfl) (fun d _ _ _ _ h => by cases d <;> exact h) (by rfl) M32.size (fun _ _ h k => h.sf k) M32 ?_
  simp only [List.take_succ_cons, List.take_zero]
  refine SeqA.ld0 Tryd.underlying97 rfl inf_num (b29) (cs N64 (limbs (iv20 x))) rfl (by go_simp) (fun _ M => M.row (by simp)) (by simp []) rfl ?_
  refine SeqA.call _ _ _ (fun w' => by go_simp) (fun w' hI _ => nsq_any w' (iv20 x) 20 (by decide)) M32.size rfl rfl ?_
  refine SeqA.ld0 Tryd.underlying97 rfl inf_num (b29) (cs N64 (limbs (iv20 x))) rfl (by go_simp) (fun _ M => M.row (by simp)) (by simp []) rfl ?_
  refine SeqA.call _ _ _ (fun w' => by go_simp) (fun w' hI _ => nmul_any w' (sqV (iv20 x) 20) (iv20 x)) M32.size rfl rfl ?_
  refine SeqA.var (z := .agg (cs N64 (limbs 0))) (by kernel_rfl) rfl rfl (by decide) rfl ?_
  refine SeqA.nil (fun w33 M34 hz => ?_)
  refine news_one (fun b35 hb1 hb2 hb3 => ?_)
  have M36 := M32.in_ (c := cs N64 (limbs 0)) M34 hb1 hb2 (by decide) hb3 rfl
  show wpT _ _ _ _ _ _
  simp only [Act.put, List.setIfInBounds_toArray, List.set_cons_succ, List.set_cons_zero]
  refine wpT_st0 M36 0 (cs N64 (limbs (mulV (sqV (iv20 x) 20) (iv20 x)))) inf_num rfl rfl rfl rfl (by go_simp) (by go_simp) (by simp []) (by simp []) (by simp [go_sem]) rfl (fun w37 M38 => ?_)
  dsimp only [List.set] at M38
  dsimp only [wpT]
  rw [show mulV (sqV (iv20 x) 20) (iv20 x) = iv40 x from rfl] at M38 ⊢
  go_upto_region 7 with fail
  refine wp_region_seq 5 [37, 38, 39, 40, 9] [] [] [] (.op 5 .done) (Mm no w _) (by kernel_rfl) (by kernel_rfl) (by kernel_rfl) (fun d _ _ _ _ h => by cases d <;> exact h) (by rfl) M38.size (fun _ _ h k => h.sf k) M38 ?_
  simp only [List.take_succ_cons, List.take_zero]
  refine SeqA.ld0 Tryd.underlying97 rfl inf_num (b35) (cs N64 (limbs (iv40 x))) rfl (by go_simp) (fun _ M => M.row (by simp)) (by simp []) rfl ?_
  refine SeqA.call _ _ _ (fun w' => by go_simp) (fun w' hI _ => nsq_any w' (iv40 x) 10 (by decide)) M38.size rfl rfl ?_
  refine SeqA.ld0 Tryd.underlying97 rfl inf_num (b23) (cs N64 (limbs (iv10 x))) rfl (by go_simp) (fun _ M => M.row (by simp)) (by simp []) rfl ?_
  refine SeqA.call _ _ _ (fun w' => by go_simp) (fun w' hI _ => nmul_any w' (sqV (iv40 x) 10) (iv10 x)) M38.size rfl rfl ?_
  refine SeqA.var (z := .agg (cs N64 (limbs 0))) (by kernel_rfl) rfl rfl (by decide) rfl ?_
  refine SeqA.nil (fun w39 M40 hz => ?_)
  refine news_one (fun b41 hb1 hb2 hb3 => ?_)
  have M42 := M38.in_ (c := cs N64 (limbs 0)) M40 hb1 hb2 (by decide) hb3 rfl
  show wpT _ _ _ _ _ _
  simp only [Act.put, List.setIfInBounds_toArray, List.set_cons_succ, List.set_cons_zero]
  refine wpT_st0 M42 0 (cs N64 (limbs (mulV (sqV (iv40 x) 10) (iv10 x)))) inf_num rfl rfl rfl rfl (by go_simp) (by go_simp) (by simp []) (by simp []) (by simp [go_sem]) rfl (fun w43 M44 => ?_)
  dsimp only [List.set] at M44
  dsimp only [wpT]
  rw [show mulV (sqV (iv40 x) 10) (iv10 x) = iv50 x from rfl] at M44 ⊢
  go_upto_region 8 with fail
  refine wp_region_seq 5 [41, 42, 43, 44, 10] [] [] [] (.op 5 .done) (Mm no w _) (by kernel_rfl) (by kernel_rfl) (by kernel_rfl) (fun d _ _ _ _ h => by cases d <;> exact h) (by rfl) M44.size (fun _ _ h k => h.sf k) M44 ?_
  simp only [List.take_succ_cons, List.take_zero]
  refine SeqA.ld0 Tryd.underlying97 rfl inf_num (b41) (cs N64 (limbs (iv50 x))) rfl (by go_simp) (fun _ M => M.row (by simp)) (by simp []) rfl ?_
  refine SeqA.call _ _ _ (fun w' => by go_simp) (fun w' hI _ => nsq_any w' (iv50 x) 50 (by decide)) M44.size rfl rfl ?_
  refine SeqA.ld0 Tryd.underlying97 rfl inf_num (b41) (cs N64 (limbs (iv50 x))) rfl (by go_simp) (fun _ M => M.row (by simp)) (by simp []) rfl ?_
  refine SeqA.call _ _ _ (fun w' => by go_simp) (fun w' hI _ => nmul_any w' (sqV (iv50 x) 50) (iv50 x)) M44.size rfl rfl ?_
  refine SeqA.var (z := .agg (cs N64 (limbs 0))) (by kernel_rfl) rfl rfl (by decide) rfl ?_
  refine SeqA.nil (fun w45 M46 hz => ?_)
  refine news_one (fun b47 hb1 hb2 hb3 => ?_)
  have M48 := M44.in_ (c := cs N64 (limbs 0)) M46 hb1 hb2 (by decide) hb3 rfl
  show wpT _ _ _ _ _ _
  simp only [Act.put, List.setIfInBounds_toArray, List.set_cons_succ, List.set_cons_zero]
  refine wpT_st0 M48 0 (cs N64 (limbs (mulV (sqV (iv50 x) 50) (iv50 x)))) inf_num rfl rfl rfl rfl (by go_simp) (by go_simp) (by simp []) (by simp []) (by simp [go_sem]) rfl (fun w49 M50 => ?_)
  dsimp only [List.set] at M50
  dsimp only [wpT]
  rw [show mulV (sqV (iv50 x) 50) (iv50 x) = iv100 x from rfl] at M50 ⊢
  go_upto_region 9 with fail
  refine wp_region_seq 8 [45, 46, 47, 48, 49, 50, 51, 11] [] [] [] (.op 8 .done) (Mm no w _) (by kernel_rfl) (by kernel_rfl) (by kernel_rfl) (fun d _ _ _ _ h => by cases d <;> exact h) (by rfl) M50.size (fun _ _ h k => h.sf k) M50 ?_
  simp only [List.take_succ_cons, List.take_zero]
  refine SeqA.ld0 Tryd.underlying97 rfl inf_num (b47) (cs N64 (limbs (iv100 x))) rfl (by go_simp) (fun _ M => M.row (by simp)) (by simp []) rfl ?_
  refine SeqA.call _ _ _ (fun w' => by go_simp) (fun w' hI _ => nsq_any w' (iv100 x) 100 (by decide)) M50.size rfl rfl ?_
  refine SeqA.ld0 Tryd.underlying97 rfl inf_num (b47) (cs N64 (limbs (iv100 x))) rfl (by go_simp) (fun _ M => M.row (by simp)) (by simp []) rfl ?_
  refine SeqA.call _ _ _ (fun w' => by go_simp) (fun w' hI _ => nmul_any w' (sqV (iv100 x) 100) (iv100 x)) M50.size rfl rfl ?_
  refine SeqA.call _ _ _ (fun w' => by go_simp) (fun w' hI _ => nsq_any w' (mulV (sqV (iv100 x) 100) (iv100 x)) 50 (by decide)) M50.size rfl rfl ?_
  simp only [Act.put, List.setIfInBounds_toArray, List.set_cons_succ, List.set_cons_zero]
  refine SeqA.ld0 Tryd.underlying97 rfl inf_num (b41) (cs N64 (limbs (iv50 x))) rfl (by go_simp) (fun _ M => M.row (by simp)) (by simp []) rfl ?_
  refine SeqA.call _ _ _ (fun w' => by go_simp) (fun w' hI _ => nmul_any w' (sqV (mulV (sqV (iv100 x) 100) (iv100 x)) 50) (iv50 x)) M50.size rfl rfl ?_
  refine SeqA.var (z := .agg (cs N64 (limbs 0))) (by kernel_rfl) rfl rfl (by decide) rfl ?_
  refine SeqA.nil (fun w51 M52 hz => ?_)
  refine news_one (fun b53 hb1 hb2 hb3 => ?_)
  have M54 := M50.in_ (c := cs N64 (limbs 0)) M52 hb1 hb2 (by decide) hb3 rfl
  show wpT _ _ _ _ _ _
  simp only [Act.put, List.setIfInBounds_toArray, List.set_cons_succ, List.set_cons_zero]
  refine wpT_st0 M54 0 (cs N64 (limbs (mulV (sqV (mulV (sqV (iv100 x) 100) (iv100 x)) 50) (iv50 x)))) inf_num rfl rfl rfl rfl (by go_simp) (by go_simp) (by simp []) (by simp []) (by simp [go_sem]) rfl (fun w55 M56 => ?_)
  dsimp only [List.set] at M56
  dsimp only [wpT]
  rw [show mulV (sqV (mulV (sqV (iv100 x) 100) (iv100 x)) 50) (iv50 x) = iv250 x from rfl] at M56 ⊢
  go_upto_region 10 with fail
  refine wp_region_seq 8 [52, 53, 54, 55, 56, 57, 58, 12] [] [] [] (.op 8 .done) (Mm no w _) (by kernel_rfl) (by kernel_rfl) (by kernel_rfl) (fun d _ _ _ _ h => by cases d <;> exact h) (by rfl) M56.size (fun _ _ h k => h.sf k) M56 ?_
  simp only [List.take_succ_cons, List.take_zero]
  refine SeqA.ld0 Tryd.underlying97 rfl inf_num (w.heap.size) (cs N64 (limbs x)) rfl (by go_simp) (fun _ M => M.row (by simp)) (by simp []) rfl ?_
  refine SeqA.call _ _ _ (fun w' => by go_simp) (fun w' hI _ => nsq_any w' x 2 (by decide)) M56.size rfl rfl ?_
  refine SeqA.ld0 Tryd.underlying97 rfl inf_num (w.heap.size) (cs N64 (limbs x)) rfl (by go_simp) (fun _ M => M.row (by simp)) (by simp []) rfl ?_
  refine SeqA.call _ _ _ (fun w' => by go_simp) (fun w' hI _ => nmul_any w' (sqV x 2) x) M56.size rfl rfl ?_
  refine SeqA.call _ _ _ (fun w' => by go_simp) (fun w' hI _ => nsq_any w' (mulV (sqV x 2) x) 1 (by decide)) M56.size rfl rfl ?_
  simp only [Act.put, List.setIfInBounds_toArray, List.set_cons_succ, List.set_cons_zero]
  refine SeqA.ld0 Tryd.underlying97 rfl inf_num (w.heap.size) (cs N64 (limbs x)) rfl (by go_simp) (fun _ M => M.row (by simp)) (by simp []) rfl ?_
  refine SeqA.call _ _ _ (fun w' => by go_simp) (fun w' hI _ => nmul_any w' (sqV (mulV (sqV x 2) x) 1) x) M56.size rfl rfl ?_
  refine SeqA.var (z := .agg (cs N64 (limbs 0))) (by kernel_rfl) rfl rfl (by decide) rfl ?_
  refine SeqA.nil (fun w57 M58 hz => ?_)
  refine news_one (fun b59 hb1 hb2 hb3 => ?_)
  have M60 := M56.in_ (c := cs N64 (limbs 0)) M58 hb1 hb2 (by decide) hb3 rfl
  show wpT _ _ _ _ _ _
  simp only [Act.put, List.setIfInBounds_toArray, List.set_cons_succ, List.set_cons_zero]
  refine wpT_st0 M60 0 (cs N64 (limbs (mulV (sqV (mulV (sqV x 2) x) 1) x))) inf_num rfl rfl rfl rfl (by go_simp) (by go_simp) (by simp []) (by simp []) (by simp [go_sem]) rfl (fun w61 M62 => ?_)
  dsimp only [List.set] at M62
  dsimp only [wpT]
  rw [show mulV (sqV (mulV (sqV x 2) x) 1) x = ivlow x from rfl] at M62 ⊢
  go_upto_region 11 with fail
  refine wp_region_seq 4 [59, 60, 61, 62] [] [] [] (.op 4 .done) (Mm no w _) (by kernel_rfl) (by kernel_rfl) (by kernel_rfl) (fun d _ _ _ _ h => by cases d <;> exact h) (by rfl) M62.size (fun _ _ h k => h.sf k) M62 ?_
  simp only [List.take_succ_cons, List.take_zero]
  refine SeqA.ld0 Tryd.underlying97 rfl inf_num (b53) (cs N64 (limbs (iv250 x))) rfl (by go_simp) (fun _ M => M.row (by simp)) (by simp []) rfl ?_
  refine SeqA.call _ _ _ (fun w' => by go_simp) (fun w' hI _ => nsq_any w' (iv250 x) 5 (by decide)) M62.size rfl rfl ?_
  refine SeqA.ld0 Tryd.underlying97 rfl inf_num (b59) (cs N64 (limbs (ivlow x))) rfl (by go_simp) (fun _ M => M.row (by simp)) (by simp []) rfl ?_
  refine SeqA.call _ _ _ (fun w' => by go_simp) (fun w' hI _ => nmul_any w' (sqV (iv250 x) 5) (ivlow x)) M62.size rfl rfl ?_
  refine SeqA.nil (fun w63 M64 hz => ?_)
  show wpT _ _ _ _ _ _
  simp only [Act.put, List.setIfInBounds_toArray, List.set_cons_succ, List.set_cons_zero]
  refine wpT_st0 M64 10 (cs N64 (limbs (mulV (sqV (iv250 x) 5) (ivlow x)))) inf_num rfl rfl rfl rfl (by go_simp) (by go_simp) (by simp []) (by simp []) (by simp [go_sem]) rfl (fun w65 M66 => ?_)
  dsimp only [List.set] at M66
  dsimp only [wpT]
  rw [show mulV (sqV (iv250 x) 5) (ivlow x) = invV x from rfl] at M66 ⊢
  go_wp2_with fail
  have r67 := M66.row (b := w.heap.size + 1) (c := cs N64 (limbs (invV x))) (by simp)
  refine bodyPost_ret (res_row (b := w.heap.size + 1) rfl Tryd.underlying97 rfl inf_num _ _ rfl (by rw [r67]; simp [])) rfl ?_
  rw [r67]
  exact ⟨rfl, M66.end_⟩
end Go.Proofs.YtgclegdgngldoaaDoor
