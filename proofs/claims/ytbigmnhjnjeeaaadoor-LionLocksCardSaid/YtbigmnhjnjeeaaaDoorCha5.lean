/-
  Walks of package chacha: a block's first words; own work.
  Walk of package chacha: a block; own work.
-/
import Derived.Test.YtbigmnhjnjeeaaaDoorCha3
import Derived.Test.YtbigmnhjnjeeaaaDoorRef4b
set_option linter.unusedSimpArgs false
set_option linter.unusedVariables false
namespace Go.Proofs.YtbigmnhjnjeeaaaDoor
open Go.RowKit
abbrev c4L : List (BitVec 32) := [0x61707865#32, 0x3320646e#32, 0x79622d32#32, 0x6b206574#32]
/-- the first i words of the key are there -/
def fK (k n : List (BitVec 8)) (c : BitVec 32) (i : Nat) : List (BitVec 32) := c4L ++ (List.range i).map (fun i => Ch.wd k (4 * i)) ++ (zs (8 - i) ++ [c] ++ zs 3)
/-- the first i words of the nonce are there -/
def fN (k n : List (BitVec 8)) (c : BitVec 32) (i : Nat) : List (BitVec 32) := c4L ++ (List.range 8).map (fun i => Ch.wd k (4 * i)) ++ [c] ++ (List.range i).map (fun i => Ch.wd n (4 * i)) ++ zs (3 - i)
theorem fK_len (k n : List (BitVec 8)) (c : BitVec 32) (i : Nat) (h : i ≤ 8) : (fK k n c i).length = 16 := by simp [fK]; omega
theorem fN_len (k n : List (BitVec 8)) (c : BitVec 32) (i : Nat) (h : i ≤ 3) : (fN k n c i).length = 16 := by simp [fN]; omega
theorem zs_succ {m : Nat} (h : 0 < m) : (zs m : List (BitVec 32)) = 0 :: zs (m - 1) := by
  unfold zs; rw [show m = (m - 1) + 1 by omega, List.replicate_succ]; simp
theorem set_mid {α : Type} (A B : List α) (x y : α) (p : Nat) (h : p = A.length) : (A ++ x :: B).set p y = A ++ [y] ++ B := by
  subst h; rw [List.set_append_right _ _ (Nat.le_refl _), Nat.sub_self]; simp
theorem fK_set (k n : List (BitVec 8)) (c : BitVec 32) (i : Nat) (h : i < 8) : (fK k n c i).set (4 + i) (Ch.wd k (4 * i)) = fK k n c (i + 1) := by
  unfold fK
  rw [zs_succ (show 0 < 8 - i by omega), List.range_succ, List.map_append]
  have := set_mid (c4L ++ (List.range i).map (fun i => Ch.wd k (4 * i))) (zs (8 - i - 1) ++ [c] ++ zs 3) 0 (Ch.wd k (4 * i)) (4 + i) (by simp; omega)
  simp only [List.cons_append] at this ⊢
  rw [this, show 8 - (i + 1) = 8 - i - 1 by omega]
  simp
theorem fN_set (k n : List (BitVec 8)) (c : BitVec 32) (i : Nat) (h : i < 3) : (fN k n c i).set (13 + i) (Ch.wd n (4 * i)) = fN k n c (i + 1) := by
  unfold fN
  rw [zs_succ (show 0 < 3 - i by omega), @List.range_succ i, List.map_append]
  have := set_mid (c4L ++ (List.range 8).map (fun i => Ch.wd k (4 * i)) ++ [c] ++ (List.range i).map (fun i => Ch.wd n (4 * i))) (zs (3 - i - 1)) 0 (Ch.wd n (4 * i)) (13 + i) (by simp; omega)
  rw [this, show 3 - (i + 1) = 3 - i - 1 by omega]
  simp
theorem fK_8 (k n : List (BitVec 8)) (c : BitVec 32) : fK k n c 8 = fN k n c 0 := by simp [fK, fN, zs]
theorem fN_3 (k n : List (BitVec 8)) (c : BitVec 32) : fN k n c 3 = Ch.fst k n c := by simp [fN, Ch.fst, zs]
theorem xb_chs (w : World) (k n : List (BitVec 8)) (c : BitVec 32) : exBuild Tryd.prog 103 #[(0, .int .u32 1634760805), (1, .int .u32 857760878), (2, .int .u32 2036477234), (3, .int .u32 1797285236), (12, U32 c)] w = .ok (.value (.agg (cs U32 (fK k n c 0)))) w := by
  have e : fK k n c 0 = c4L ++ zs 8 ++ [c] ++ zs 3 := by simp [fK]
  rw [e]
  unfold exBuild; rw [run_build w _ _ (cs U32 (c4L ++ zs 8 ++ [c] ++ zs 3)) (by kernel_rfl)]; rfl
@[go_sem ↓] theorem rb_chs (ρ : Operand → Value) (dst : Option Tmp) (ty : TypeId) (pos : String) (after : Array Edge) (guard : Option (Nat × Bool)) (w : World) (ps : Array (Nat × Operand)) :
    (execOp ρ { dst, op := .build 103 ps, type := ty, pos, after, guard }).run Tryd.prog w = exBuild Tryd.prog 103 (ps.map fun p => (p.1, ρ p.2)) w := x_build ..
theorem c4_row {w : World} {b q : Nat} {l : List (BitVec 8)} (h : w.rowOf b = cs U8 l) (hq : q + 3 < l.length) : C4 w b q (l.getD q 0) (l.getD (q + 1) 0) (l.getD (q + 2) 0) (l.getD (q + 3) 0) :=
  ⟨cell_cs 0 h (by omega), cell_cs 0 h (by omega), cell_cs 0 h (by omega), cell_cs 0 h (by omega)⟩
theorem chword_row (w : World) (b q n c : Nat) (l : List (BitVec 8)) (h4 : 4 ≤ n) (h : w.rowOf b = cs U8 l) (hq : q + 3 < l.length) :
    Calls Tryd.prog 81 #[.slice (some ⟨b, q, none⟩) n c] w fun e w' => e = .returned (U32 (Ch.wd l q)) ∧ Below w.heap.size w w' :=
  chword w b q n c _ _ _ _ h4 (c4_row h hq)
theorem i64m (n : Int) (h1 : -9223372036854775808 ≤ n) (h2 : n < 9223372036854775808) : IntKind.i64.wrap n = n := by rw [IntKind.wrap_i64]; omega
attribute [local irreducible] fK fN Ch.wd Ch.fst
set_option maxRecDepth 100000 in
set_option maxHeartbeats 4000000 in
theorem begin_c (w : World) (k n : List (BitVec 8)) (c : BitVec 32) (hk : k.length = 32) (hn : n.length = 12) :
    Calls Tryd.prog 72 #[.agg (cs U8 k), .agg (cs U8 n), U32 c] w fun e w' => e = .returned (.agg (cs U32 (Ch.fst k n c))) ∧ Below w.heap.size w w' := by
  have HF0 := hid (fK_len k n c 0 (by omega))
  have hf0 := HF0.out
  have M0 := Mm.start no w
  go_enter Tryd.func72, Tryd.ntmps72
  have M2 := (((M0.alloc (cs U8 k) 23 (by decide)).alloc (cs U8 n) 29 (by decide)).alloc (cs U32 (zs 16)) 103 (by decide))
  try simp only [World.size_alloc] at M2
  go_upto_region 1 with fail
  obtain ⟨w1, hw1⟩ : ∃ w1, w1 = (((w.alloc (.cells (cs U8 k) 23)).alloc (.cells (cs U8 n) 29)).alloc (.cells (cs U32 (zs 16)) 103)) := ⟨_, rfl⟩
  rw [← hw1] at M2 ⊢
  clear hw1
  refine wp_region_lin (.op 0 (.op 1 (.op 2 (.op 3 .done)))) (by rfl) ?_
  refine wpT_valp 10 (v := U32 c) rfl rfl rfl (by go_simp) ?_
  refine wpT_valL 11 (v := .agg (cs U32 (fK k n c 0))) rfl rfl rfl (by have q := xb_chs w1 k n c; go_simp) ?_
  refine wpT_new (z := .agg (cs U32 (zs 16))) 7 M2 (by kernel_rfl) (by decide) rfl rfl rfl rfl (fun b3 w4 M5 => ?_)
  try dsimp only [Value.cells] at M5
  refine wpT_st0 M5 0 (cs U32 (fK k n c 0)) inf_chs rfl rfl rfl rfl (by go_simp) (by go_simp) (by simp [hk, hn, hf0]) (by simp [hk, hn, hf0]) (by simp [go_sem]) rfl (fun w6 M7 => ?_)
  dsimp only [List.set] at M7
  dsimp only [wpT]
  try simp only [Act.put, List.setIfInBounds_toArray, List.set_cons_succ, List.set_cons_zero]
  go_wp2_with fail
  clear hf0
  go_loopw [12] (fun t wr => ∃ i : Nat, i ≤ 8 ∧ t = .int .i64 i ∧ Mm no w [(b3, cs U32 (fK k n c i)), (w.heap.size + 1 + 1, cs U32 (zs 16)), (w.heap.size + 1, cs U8 n), (w.heap.size, cs U8 k)] wr) (fun t _ => 8 - (intOf t).toNat)
  case atStart => exact ⟨0, by omega, rfl, M7⟩
  case round =>
    clear M7
    obtain ⟨i, hi, rfl, M⟩ := hrel
    by_cases hi8 : i < 8
    · have hlt : (i : Int) < 8 := by omega
      have hi0 : (0 : Int) ≤ (i : Int) := by omega
      obtain ⟨p, hp⟩ : ∃ p : Nat, p = 4 + i := ⟨_, rfl⟩
      obtain ⟨q, hq⟩ : ∃ q : Nat, q = 4 * i := ⟨_, rfl⟩
      have HP := hid (show IntKind.i64.wrap (4 + (i : Int)) = (p : Int) by rw [i64m _ (by omega) (by omega), hp]; omega)
      have HQ := hid (show IntKind.i64.wrap (4 * (i : Int)) = (q : Int) by rw [i64m _ (by omega) (by omega), hq]; omega)
      have hp16 : p < 16 := by omega
      have hp16' : (p : Int) < 16 := by omega
      have hp0 : (0 : Int) ≤ (p : Int) := by omega
      have hq0 : (0 : Int) ≤ (q : Int) := by omega
      have hq32 : (q : Int) ≤ 32 := by omega
      have hq32' : ¬ 32 - q = 0 := by omega
      have hq32a : ¬ 32 = q := by omega
      have hq32'' : q ≤ 28 := by omega
      have hfl := fK_len k n c i (by omega)
      have HS := hid (show (fK k n c i).set p (Ch.wd k q) = fK k n c (i + 1) by rw [hp, hq]; exact fK_set k n c i hi8)
      clear hp hq
      go_upto_region 5 with fail
      refine wp_region_lin (.op 0 (.op 1 (.op 2 (.op 3 (.op 4 (.op 5 (.op 6 (.op 7 .done)))))))) (by rfl) ?_
      refine wpT_valp 15 (v := .int .i64 i) rfl rfl rfl (by go_simp) ?_
      refine wpT_valp 16 (v := .int .i64 p) rfl rfl rfl (by have h := HP.out; go_simp) ?_
      refine wpT_valp 17 (v := .int .i64 i) rfl rfl rfl (by go_simp) ?_
      refine wpT_valp 18 (v := .int .i64 q) rfl rfl rfl (by have h := HQ.out; go_simp) ?_
      try simp only [Act.put, List.setIfInBounds_toArray, List.set_cons_succ, List.set_cons_zero]
      refine wpT_valp 19 (v := .slice (some ⟨w.heap.size, q, none⟩) (32 - q) (32 - q)) rfl rfl rfl (by go_simp) ?_
      refine wpT_callv 20 M (v := U32 (Ch.wd k q)) rfl rfl rfl (by go_simp) (chword_row wr w.heap.size q (32 - q) (32 - q) k (by omega) (M.row (b := w.heap.size) (c := cs U8 k) (by simp)) (by omega)) (fun w1 M2 => ?_)
      refine wpT_valp 21 (v := .pointer (some ⟨b3, p, none⟩)) rfl rfl rfl (by go_simp) ?_
      refine wpT_stc M2 0 (U32 (Ch.wd k q)) (cs U32 ((fK k n c i).set p (Ch.wd k q))) inf_u32 rfl rfl rfl rfl (by go_simp) (by go_simp) (by have := (by omega : p < (fK k n c i).length); first | (simp; done) | (simpa using this) | (simp; omega)) (by simp [go_sem]) (cs_set _ _) rfl (fun w3 M4 => ?_)
      dsimp only [List.set] at M4
      dsimp only [wpT]
      try simp only [Act.put, List.setIfInBounds_toArray, List.set_cons_succ, List.set_cons_zero]
      go_wp2_with fail
      rw [HS.out] at M4
      go_roundw
      case rel => exact ⟨i + 1, by omega, rfl, M4⟩
      case measure => simp [intOf]; omega
    · have : i = 8 := by omega
      subst this
      rw [fK_8] at M
      go_wp2_with fail
      go_loopw [23] (fun t wr => ∃ i : Nat, i ≤ 3 ∧ t = .int .i64 i ∧ Mm no w [(b3, cs U32 (fN k n c i)), (w.heap.size + 1 + 1, cs U32 (zs 16)), (w.heap.size + 1, cs U8 n), (w.heap.size, cs U8 k)] wr) (fun t _ => 3 - (intOf t).toNat)
      case atStart => exact ⟨0, by omega, rfl, M⟩
      case round =>
        clear M
        obtain ⟨i, hi, rfl, M⟩ := hrel
        by_cases hi8 : i < 3
        · have hlt : (i : Int) < 3 := by omega
          have hi0 : (0 : Int) ≤ (i : Int) := by omega
          obtain ⟨p, hp⟩ : ∃ p : Nat, p = 13 + i := ⟨_, rfl⟩
          obtain ⟨q, hq⟩ : ∃ q : Nat, q = 4 * i := ⟨_, rfl⟩
          have HP := hid (show IntKind.i64.wrap (13 + (i : Int)) = (p : Int) by rw [i64m _ (by omega) (by omega), hp]; omega)
          have HQ := hid (show IntKind.i64.wrap (4 * (i : Int)) = (q : Int) by rw [i64m _ (by omega) (by omega), hq]; omega)
          have hp16 : p < 16 := by omega
          have hp16' : (p : Int) < 16 := by omega
          have hp0 : (0 : Int) ≤ (p : Int) := by omega
          have hq0 : (0 : Int) ≤ (q : Int) := by omega
          have hq32 : (q : Int) ≤ 12 := by omega
          have hq32' : ¬ 12 - q = 0 := by omega
          have hq32a : ¬ 12 = q := by omega
          have hq32'' : q ≤ 8 := by omega
          have hfl := fN_len k n c i (by omega)
          have HS := hid (show (fN k n c i).set p (Ch.wd n q) = fN k n c (i + 1) by rw [hp, hq]; exact fN_set k n c i hi8)
          clear hp hq
          go_upto_region 10 with fail
          refine wp_region_lin (.op 0 (.op 1 (.op 2 (.op 3 (.op 4 (.op 5 (.op 6 (.op 7 .done)))))))) (by rfl) ?_
          refine wpT_valp 26 (v := .int .i64 i) rfl rfl rfl (by go_simp) ?_
          refine wpT_valp 27 (v := .int .i64 p) rfl rfl rfl (by have h := HP.out; go_simp) ?_
          refine wpT_valp 28 (v := .int .i64 i) rfl rfl rfl (by go_simp) ?_
          refine wpT_valp 29 (v := .int .i64 q) rfl rfl rfl (by have h := HQ.out; go_simp) ?_
          try simp only [Act.put, List.setIfInBounds_toArray, List.set_cons_succ, List.set_cons_zero]
          refine wpT_valp 30 (v := .slice (some ⟨w.heap.size + 1, q, none⟩) (12 - q) (12 - q)) rfl rfl rfl (by go_simp) ?_
          refine wpT_callv 31 M (v := U32 (Ch.wd n q)) rfl rfl rfl (by go_simp) (chword_row wr (w.heap.size + 1) q (12 - q) (12 - q) n (by omega) (M.row (b := w.heap.size + 1) (c := cs U8 n) (by simp)) (by omega)) (fun w1 M2 => ?_)
          refine wpT_valp 32 (v := .pointer (some ⟨b3, p, none⟩)) rfl rfl rfl (by go_simp) ?_
          refine wpT_stc M2 0 (U32 (Ch.wd n q)) (cs U32 ((fN k n c i).set p (Ch.wd n q))) inf_u32 rfl rfl rfl rfl (by go_simp) (by go_simp) (by have := (by omega : p < (fN k n c i).length); first | (simp; done) | (simpa using this) | (simp; omega)) (by simp [go_sem]) (cs_set _ _) rfl (fun w3 M4 => ?_)
          dsimp only [List.set] at M4
          dsimp only [wpT]
          try simp only [Act.put, List.setIfInBounds_toArray, List.set_cons_succ, List.set_cons_zero]
          go_wp2_with fail
          rw [HS.out] at M4
          go_roundw
          case rel => exact ⟨i + 1, by omega, rfl, M4⟩
          case measure => simp [intOf]; omega
        · have : i = 3 := by omega
          subst this
          rw [fN_3] at M
          go_upto_region 12 with fail
          refine wp_region_lin (.op 0 (.op 1 .done)) (by rfl) ?_
          refine wpT_ld0 34 Tryd.underlying103 rfl inf_chs (b3) (cs U32 (Ch.fst k n c)) rfl rfl rfl (by go_simp) (M.row (by simp)) (by simp [hk, hn, fst_len]) rfl ?_
          refine wpT_st0 M 1 (cs U32 (Ch.fst k n c)) inf_chs rfl rfl rfl rfl (by go_simp) (by go_simp) (by simp [hk, hn, fst_len]) (by simp [hk, hn, fst_len]) (by simp [go_sem]) rfl (fun w1 M2 => ?_)
          dsimp only [List.set] at M2
          dsimp only [wpT]
          try simp only [Act.put, List.setIfInBounds_toArray, List.set_cons_succ, List.set_cons_zero]
          go_wp2_with fail
          have r3 := M2.row (b := w.heap.size + 1 + 1) (c := cs U32 (Ch.fst k n c)) (by simp)
          refine bodyPost_ret (res_row (b := w.heap.size + 1 + 1) rfl Tryd.underlying103 rfl inf_chs _ _ rfl (by rw [r3]; simp [hk, hn, fst_len])) rfl ?_
          rw [r3]
          exact ⟨rfl, M2.end_⟩
end Go.Proofs.YtbigmnhjnjeeaaaDoor
set_option linter.unusedSimpArgs false
set_option linter.unusedVariables false
namespace Go.Proofs.YtbigmnhjnjeeaaaDoor
open Go.RowKit
theorem flat_at {β : Type} (f : Nat → List β) (m : Nat) (hf : ∀ x, (f x).length = m) : ∀ (n i k : Nat), i < n → k < m → ((List.range n).flatMap f)[m * i + k]? = (f i)[k]?
  | 0, i, k, h, _ => absurd h (Nat.not_lt_zero _)
  | n + 1, i, k, h, hk => by
    rw [List.range_succ, List.flatMap_append]
    have hl : ((List.range n).flatMap f).length = n * m := by rw [flat_len f m hf]; simp
    by_cases hi : i < n
    · have : m * i + k < n * m := by
        have := Nat.mul_le_mul_left m (show i + 1 ≤ n by omega)
        rw [Nat.mul_comm n m]
        rw [Nat.mul_add] at this
        omega
      rw [List.getElem?_append_left (by omega), flat_at f m hf n i k hi hk]
    · have e : i = n := by omega
      subst e
      rw [List.getElem?_append_right (by rw [hl, Nat.mul_comm]; omega), hl, Nat.mul_comm i m, Nat.add_sub_cancel_left]
      simp
theorem wb_at (x : BitVec 32) (j : Nat) (h : j < 4) : (Ch.wb x)[j]? = some ((x >>> (8 * j)).setWidth 8) := by
  match j, h with
  | 0, _ => simp [Ch.wb]
  | 1, _ | 2, _ | 3, _ => rfl
theorem blk_at (k n : List (BitVec 8)) (c : BitVec 32) (f s : List (BitVec 32)) (hf : Ch.fst k n c = f) (hs : Ch.dbln f 10 = s) (i j : Nat) (hi : i < 16) (hj : j < 4) :
    (Ch.blk k n c).getD (4 * i + j) 0 = ((g32 s i + g32 f i) >>> (8 * j)).setWidth 8 := by
  subst hf hs
  rw [List.getD_eq_getElem?_getD]
  unfold Ch.blk
  rw [flat_at _ 4 (fun _ => rfl) 16 i j hi hj, wb_at _ j hj]; rfl
theorem idx32 (w : World) (l : List (BitVec 32)) (i : Nat) (h : i < 16) (hl : l.length = 16) : (Instr.index 103 (.agg (cs U32 l)) (.int .i64 i)).run Tryd.prog w = .ok (U32 (g32 l i)) w := by
  have hx : (cs U32 l)[i]? = some (U32 (g32 l i)) := by rw [cs_get_lt (by omega)]; unfold g32; rw [List.getD_eq_getElem?_getD, List.getElem?_eq_getElem (by omega)]; rfl
  have hi : (i : Int) < 16 := by omega
  simp [Instr.index, asIntOf, run_underlying Tryd.underlying103, h, part, isAgg, run_underlying Tryd.underlying63, hx]
theorem begin_v (w : World) (k n : List (BitVec 8)) (c : BitVec 32) (f : List (BitVec 32)) (hk : k.length = 32) (hn : n.length = 12) (hf : Ch.fst k n c = f) :
    Calls Tryd.prog 72 #[.agg (cs U8 k), .agg (cs U8 n), U32 c] w fun e w' => e = .returned (.agg (cs U32 f)) ∧ Below w.heap.size w w' := by
  subst hf; exact begin_c w k n c hk hn
attribute [local irreducible] Ch.dbl Ch.dbln Ch.fst Ch.blk fil g32
set_option maxRecDepth 100000 in
set_option maxHeartbeats 8000000 in
theorem block_c (w : World) (k n : List (BitVec 8)) (c : BitVec 32) (hk : k.length = 32) (hn : n.length = 12) :
    Calls Tryd.prog 63 #[.agg (cs U8 k), .agg (cs U8 n), U32 c] w fun e w' => e = .returned (.agg (cs U8 (Ch.blk k n c))) ∧ Below w.heap.size w w' := by
  obtain ⟨f, ef⟩ : ∃ f, Ch.fst k n c = f := ⟨_, rfl⟩
  have hf : f.length = 16 := by rw [← ef]; exact fst_len ..
  have HF := hid ef
  obtain ⟨B, eB⟩ : ∃ B, B = Ch.blk k n c := ⟨_, rfl⟩
  have hB : B.length = 64 := by rw [eB]; exact blk_len ..
  have HB := hid eB
  clear ef eB
  have M0 := Mm.start no w
  go_enter Tryd.func63, Tryd.ntmps63
  have M2 := (((M0.alloc (cs U8 k) 23 (by decide)).alloc (cs U8 n) 29 (by decide)).alloc (cs U8 (zs 64)) 88 (by decide))
  try simp only [World.size_alloc] at M2
  go_upto_region 1 with fail
  obtain ⟨w1, hw1⟩ : ∃ w1, w1 = (((w.alloc (.cells (cs U8 k) 23)).alloc (.cells (cs U8 n) 29)).alloc (.cells (cs U8 (zs 64)) 88)) := ⟨_, rfl⟩
  rw [← hw1] at M2 ⊢
  clear hw1
  refine wp_region_lin (.op 0 (.op 1 (.op 2 (.op 3 (.op 4 (.op 5 .done)))))) (by rfl) ?_
  refine wpT_ld0 13 Tryd.underlying23 rfl inf_key (w.heap.size) (cs U8 k) rfl rfl rfl (by go_simp) (M2.row (by simp)) (by simp [hk, hn, hf]) rfl ?_
  refine wpT_ld0 14 Tryd.underlying29 rfl inf_nonce (w.heap.size + 1) (cs U8 n) rfl rfl rfl (by go_simp) (M2.row (by simp)) (by simp [hk, hn, hf]) rfl ?_
  refine wpT_valp 15 (v := U32 c) rfl rfl rfl (by go_simp) ?_
  refine wpT_callv 16 M2 (v := .agg (cs U32 f)) rfl rfl rfl (by go_simp) (begin_v w1 k n c f hk hn HF.out) (fun w3 M4 => ?_)
  try simp only [Act.put, List.setIfInBounds_toArray, List.set_cons_succ, List.set_cons_zero]
  refine wpT_new (z := .agg (cs U32 (zs 16))) 7 M4 (by kernel_rfl) (by decide) rfl rfl rfl rfl (fun b5 w6 M7 => ?_)
  try dsimp only [Value.cells] at M7
  refine wpT_st0 M7 0 (cs U32 f) inf_chs rfl rfl rfl rfl (by go_simp) (by go_simp) (by simp [hk, hn, hf]) (by simp [hk, hn, hf]) (by simp [go_sem]) rfl (fun w8 M9 => ?_)
  dsimp only [List.set] at M9
  dsimp only [wpT]
  try simp only [Act.put, List.setIfInBounds_toArray, List.set_cons_succ, List.set_cons_zero]
  go_upto_region 2 with fail
  refine wp_region_lin (.op 0 (.op 1 (.op 2 .done))) (by rfl) ?_
  refine wpT_ld0 17 Tryd.underlying103 rfl inf_chs (b5) (cs U32 f) rfl rfl rfl (by go_simp) (M9.row (by simp)) (by simp [hk, hn, hf]) rfl ?_
  refine wpT_new (z := .agg (cs U32 (zs 16))) 8 M9 (by kernel_rfl) (by decide) rfl rfl rfl rfl (fun b10 w11 M12 => ?_)
  try dsimp only [Value.cells] at M12
  refine wpT_st0 M12 0 (cs U32 f) inf_chs rfl rfl rfl rfl (by go_simp) (by go_simp) (by simp [hk, hn, hf]) (by simp [hk, hn, hf]) (by simp [go_sem]) rfl (fun w13 M14 => ?_)
  dsimp only [List.set] at M14
  dsimp only [wpT]
  try simp only [Act.put, List.setIfInBounds_toArray, List.set_cons_succ, List.set_cons_zero]
  go_wp2_with fail
  go_loopw [18] (fun t wr => ∃ i : Nat, i ≤ 10 ∧ t = .int .i64 i ∧ Mm no w [(b10, cs U32 (Ch.dbln f i)), (b5, cs U32 f), (w.heap.size + 1 + 1, cs U8 (zs 64)), (w.heap.size + 1, cs U8 n), (w.heap.size, cs U8 k)] wr) (fun t _ => 10 - (intOf t).toNat)
  case atStart => exact ⟨0, by omega, rfl, by simpa [Ch.dbln] using M14⟩
  case round =>
    clear M14
    obtain ⟨i, hi, rfl, M⟩ := hrel
    have hs : (Ch.dbln f i).length = 16 := by rw [dbln_len, hf]
    by_cases hi10 : i < 10
    · have hlt : (i : Int) < 10 := by omega
      have HS := hid (show Ch.dbl (Ch.dbln f i) = Ch.dbln f (i + 1) by simp [Ch.dbln])
      generalize Ch.dbln f i = s at *
      go_upto_region 5 with fail
      refine wp_region_lin (.op 0 .done) (by rfl) ?_
      refine wpT_callm 20 M 0 (C' := cs U32 (Ch.dbl s)) (v := .tuple #[]) rfl rfl rfl rfl (by go_simp) (double_m wr b10 s hs (M.loc' (k := 0) rfl)) (fun w1 M2 _ => ?_)
      dsimp only [List.set] at M2
      dsimp only [wpT]
      try simp only [Act.put, List.setIfInBounds_toArray, List.set_cons_succ, List.set_cons_zero]
      go_wp2_with fail
      rw [HS.out] at M2
      go_roundw
      case rel => exact ⟨i + 1, by omega, rfl, M2⟩
      case measure => simp [intOf]; omega
    · have : i = 10 := by omega
      subst this
      obtain ⟨s, es⟩ : ∃ s, Ch.dbln f 10 = s := ⟨_, rfl⟩
      rw [es] at hs M
      have HAt := hid (fun i j hi hj => show B.getD (4 * i + j) 0 = ((g32 s i + g32 f i) >>> (8 * j)).setWidth 8 by rw [HB.out]; exact blk_at k n c f s HF.out es i j hi hj)
      clear es
      go_upto_region 7 with fail
      refine wp_region_lin (.op 0 .done) (by rfl) ?_
      refine wpT_new (z := .agg (cs U8 (zs 64))) 9 M (by kernel_rfl) (by decide) rfl rfl rfl rfl (fun bo w2 M3 => ?_)
      try dsimp only [Value.cells] at M3
      dsimp only [wpT]
      try simp only [Act.put, List.setIfInBounds_toArray, List.set_cons_succ, List.set_cons_zero]
      go_upto_region 8 with fail
      refine wp_region_lin (.op 0 (.op 1 .done)) (by rfl) ?_
      refine wpT_ld0 22 Tryd.underlying103 rfl inf_chs (b10) (cs U32 s) rfl rfl rfl (by go_simp) (M3.row (by simp)) (by simp [hk, hn, hf, hs]) rfl ?_
      refine wpT_valp 23 (v := .int .i64 0) rfl rfl rfl (by go_simp) ?_
      dsimp only [wpT]
      try simp only [Act.put, List.setIfInBounds_toArray, List.set_cons_succ, List.set_cons_zero]
      go_wp2_with fail
      go_loopw [23] (fun t wr => ∃ i : Nat, i ≤ 16 ∧ t = .int .i64 i ∧ Mm no w [(bo, cs U8 (fil B 64 (4 * i))), (b10, cs U32 s), (b5, cs U32 f), (w.heap.size + 1 + 1, cs U8 (zs 64)), (w.heap.size + 1, cs U8 n), (w.heap.size, cs U8 k)] wr) (fun t _ => 16 - (intOf t).toNat)
      case atStart => exact ⟨0, by omega, rfl, by rw [Nat.mul_zero, fil_zero]; exact M3⟩
      case round =>
        clear M3 M
        obtain ⟨i, hi, rfl, M⟩ := hrel
        by_cases hi16 : i < 16
        · have hlt : (i : Int) < 16 := by omega
          have hi0 : (0 : Int) ≤ (i : Int) := by omega
          obtain ⟨y, ey⟩ : ∃ y, g32 s i + g32 f i = y := ⟨_, rfl⟩
          have HY := hid ey
          obtain ⟨m0, em0⟩ : ∃ m0, 4 * i = m0 := ⟨_, rfl⟩
          have HM0 := hid em0
          rw [em0] at M
          clear ey em0
          go_upto_region 10 with fail
          refine wp_region_lin (.op 0 (.op 1 (.op 2 (.op 3 .done)))) (by rfl) ?_
          refine wpT_valp 25 (v := .int .i64 i) rfl rfl rfl (by go_simp) ?_
          refine wpT_valp 26 (v := U32 (g32 s i)) rfl rfl rfl (by have h := idx32 wr s i hi16 hs; go_simp) ?_
          refine wpT_valp 10 (v := .int .i64 i) rfl rfl rfl (by go_simp) ?_
          refine wpT_valp 11 (v := U32 (g32 s i)) rfl rfl rfl (by go_simp) ?_
          dsimp only [wpT]
          try simp only [Act.put, List.setIfInBounds_toArray, List.set_cons_succ, List.set_cons_zero]
          go_upto_region 11 with fail
          refine wp_region_lin (.op 0 (.op 1 (.op 2 (.op 3 (.op 4 (.op 5 .done)))))) (by rfl) ?_
          refine wpT_valp 27 (v := U32 (g32 s i)) rfl rfl rfl (by go_simp) ?_
          refine wpT_valp 28 (v := .int .i64 i) rfl rfl rfl (by go_simp) ?_
          refine wpT_valp 29 (v := .pointer (some ⟨b5, i, none⟩)) rfl rfl rfl (by go_simp) ?_
          refine wpT_valp 30 (v := U32 (g32 f i)) rfl rfl rfl (by have c0 := cell_g32 (M.row (b := b5) (c := cs U32 f) (by simp)) (i := i) (by omega); go_simp) ?_
          try simp only [Act.put, List.setIfInBounds_toArray, List.set_cons_succ, List.set_cons_zero]
          refine wpT_valp 31 (v := U32 y) rfl rfl rfl (by have h := HY.out; go_simp) ?_
          refine wpT_valp 11 (v := U32 y) rfl rfl rfl (by go_simp) ?_
          dsimp only [wpT]
          try simp only [Act.put, List.setIfInBounds_toArray, List.set_cons_succ, List.set_cons_zero]
          go_wp2_with fail
          go_loopw [32] (fun t wr => ∃ j : Nat, j ≤ 4 ∧ t = .int .i64 j ∧ Mm no w [(bo, cs U8 (fil B 64 (m0 + j))), (b10, cs U32 s), (b5, cs U32 f), (w.heap.size + 1 + 1, cs U8 (zs 64)), (w.heap.size + 1, cs U8 n), (w.heap.size, cs U8 k)] wr) (fun t _ => 4 - (intOf t).toNat)
          case atStart => exact ⟨0, by omega, rfl, M⟩
          case round =>
            clear M
            obtain ⟨j, hj, rfl, M⟩ := hrel
            by_cases hj4 : j < 4
            · have hjlt : (j : Int) < 4 := by omega
              have hj0 : (0 : Int) ≤ (j : Int) := by omega
              obtain ⟨p, hp⟩ : ∃ p : Nat, p = 4 * i := ⟨_, rfl⟩
              obtain ⟨m, hm⟩ : ∃ m : Nat, m = m0 + j := ⟨_, rfl⟩
              obtain ⟨q, hq⟩ : ∃ q : Nat, q = 8 * j := ⟨_, rfl⟩
              have hm0 := HM0.out
              have hm64 : m < 64 := by omega
              have hm64' : (m : Int) < 64 := by omega
              have hmp0 : (0 : Int) ≤ (m : Int) := by omega
              have hq0 : (0 : Int) ≤ (q : Int) := by omega
              have HP := hid (show IntKind.i64.wrap (4 * (i : Int)) = (p : Int) by rw [i64m _ (by omega) (by omega), hp]; omega)
              have HM := hid (show IntKind.i64.wrap ((p : Int) + (j : Int)) = (m : Int) by rw [i64m _ (by omega) (by omega), hm, hp]; omega)
              have HQ := hid (show IntKind.i64.wrap (8 * (j : Int)) = (q : Int) by rw [i64m _ (by omega) (by omega), hq]; omega)
              obtain ⟨z, ez⟩ : ∃ z, (y >>> q).setWidth 8 = z := ⟨_, rfl⟩
              have HZ := hid ez
              have HS := hid (show (fil B 64 m).set m z = fil B 64 (m + 1) by
                have h1 := HAt.out i j hi16 hj4
                rw [HY.out, HM0.out, ← hm, ← hq, ez] at h1
                rw [← h1]; exact fil_set B 64 m (by omega) hm64)
              have hfm := fil_len B 64 m (by omega) (by omega)
              have HMS := hid (show m + 1 = m0 + (j + 1) by omega)
              rw [← hm] at M
              clear hp hm hq ez hm0
              go_upto_region 15 with fail
              refine wp_region_lin (.op 0 (.op 1 (.op 2 (.op 3 (.op 4 (.op 5 (.op 6 (.op 7 (.op 8 (.op 9 (.op 10 .done))))))))))) (by rfl) ?_
              refine wpT_valp 35 (v := .int .i64 i) rfl rfl rfl (by go_simp) ?_
              refine wpT_valp 36 (v := .int .i64 p) rfl rfl rfl (by have h := HP.out; go_simp) ?_
              refine wpT_valp 37 (v := .int .i64 j) rfl rfl rfl (by go_simp) ?_
              refine wpT_valp 38 (v := .int .i64 m) rfl rfl rfl (by have h := HM.out; go_simp) ?_
              try simp only [Act.put, List.setIfInBounds_toArray, List.set_cons_succ, List.set_cons_zero]
              refine wpT_valp 39 (v := U32 y) rfl rfl rfl (by go_simp) ?_
              refine wpT_valp 40 (v := .int .i64 j) rfl rfl rfl (by go_simp) ?_
              refine wpT_valp 41 (v := .int .i64 q) rfl rfl rfl (by have h := HQ.out; go_simp) ?_
              refine wpT_valp 42 (v := U32 (y >>> q)) rfl rfl rfl (by go_simp) ?_
              refine wpT_valp 43 (v := U8 z) rfl rfl rfl (by have h := HZ.out; go_simp) ?_
              try simp only [Act.put, List.setIfInBounds_toArray, List.set_cons_succ, List.set_cons_zero]
              refine wpT_valp 44 (v := .pointer (some ⟨bo, m, none⟩)) rfl rfl rfl (by go_simp) ?_
              refine wpT_stc M 0 (U8 z) (cs U8 ((fil B 64 m).set m z)) inf_u8 rfl rfl rfl rfl (by go_simp) (by go_simp) (by have := (by omega : m < (fil B 64 m).length); first | (simp; done) | (simpa using this) | (simp; omega)) (by simp [go_sem]) (cs_set _ _) rfl (fun w1 M2 => ?_)
              dsimp only [List.set] at M2
              dsimp only [wpT]
              try simp only [Act.put, List.setIfInBounds_toArray, List.set_cons_succ, List.set_cons_zero]
              go_wp2_with fail
              rw [HS.out, HMS.out] at M2
              go_roundw
              case rel => exact ⟨j + 1, by omega, rfl, M2⟩
              case measure => simp [intOf]; omega
            · have : j = 4 := by omega
              subst this
              go_wp2_with fail
              go_roundw
              case rel => exact ⟨i + 1, by omega, rfl, by rw [show 4 * (i + 1) = m0 + 4 by have := HM0.out; omega]; exact M⟩
              case measure => simp [intOf]; omega
        · have : i = 16 := by omega
          subst this
          rw [show 4 * 16 = 64 from rfl, fil_all, List.take_of_length_le (by omega)] at M
          go_upto_region 18 with fail
          refine wp_region_lin (.op 0 (.op 1 .done)) (by rfl) ?_
          refine wpT_ld0 47 Tryd.underlying88 rfl inf_b64 (bo) (cs U8 B) rfl rfl rfl (by go_simp) (M.row (by simp)) (by simp [hk, hn, hf, hs, hB]) rfl ?_
          refine wpT_st0 M 3 (cs U8 B) inf_b64 rfl rfl rfl rfl (by go_simp) (by go_simp) (by simp [hk, hn, hf, hs, hB]) (by simp [hk, hn, hf, hs, hB]) (by simp [go_sem]) rfl (fun w1 M2 => ?_)
          dsimp only [List.set] at M2
          dsimp only [wpT]
          try simp only [Act.put, List.setIfInBounds_toArray, List.set_cons_succ, List.set_cons_zero]
          go_wp2_with fail
          have r3 := M2.row (b := w.heap.size + 1 + 1) (c := cs U8 B) (by simp)
          refine bodyPost_ret (res_row (b := w.heap.size + 1 + 1) rfl Tryd.underlying88 rfl inf_b64 _ _ rfl (by rw [r3]; simp [hk, hn, hf, hs, hB])) rfl ?_
          rw [r3]
          exact ⟨by rw [HB.out], M2.end_⟩
end Go.Proofs.YtbigmnhjnjeeaaaDoor
