/-
  Walk of package chacha: the stream; own work.
  Walk of package chacha: bytes turned by the stream; own work.
-/
import Derived.Test.YtbigmnhjnjeeaaaDoorCha5
import Derived.Test.YtbigmnhjnjeeaaaDoorHmac2
import Derived.Laws.MakeOwn
set_option linter.unusedSimpArgs false
set_option linter.unusedVariables false
namespace Go.Proofs.YtbigmnhjnjeeaaaDoor
open Go.RowKit
theorem OB.fr' {S : Nat → Prop} {w w' : World} {base : Nat} {v : Value} {l : List (BitVec 8)} (h : OB w base v l) (hf : Fr S w w') (hS : ∀ g, v.ownBlock = some g → ¬ S g) : OB w' base v l := by
  refine ⟨h.1, ?_⟩
  rcases h.2 with e | ⟨g, cap, cur, rfl, h1, h2, h3⟩
  · exact .inl e
  · exact .inr ⟨g, cap, cur, rfl, h1, (hf.block g (Array.getElem?_eq_some_iff.1 h2).1 (hS g rfl)).trans h2, h3⟩
theorem Mm.grown8 {S : Nat → Prop} {w0 w w' : World} {H : List (Nat × Array Value)} {r : Option Nat} (M : Mm S w0 H w) (hg : w.grownBy w' r) (hr : ∀ g, r = some g → (S g ∨ w0.heap.size ≤ g) ∧ ∀ p ∈ H, p.1 ≠ g) : Mm S w0 H w' := by
  refine ⟨⟨hg.os.trans M.fr.os, hg.tape.trans M.fr.tape, hg.output.trans M.fr.output, Nat.le_trans M.fr.size hg.size, fun k hk hS => ?_⟩, fun p hp => ?_, M.nd⟩
  · rw [hg.block k (Nat.lt_of_lt_of_le hk M.fr.size) (fun e => ?_)]
    · exact M.fr.block k hk hS
    · rcases (hr k e.symm).1 with h | h
      · exact hS h
      · omega
  · obtain ⟨h1, T, hT, hb⟩ := M.own p hp
    refine ⟨h1, T, hT, ?_⟩
    rw [hg.block p.1 (Array.getElem?_eq_some_iff.1 hb).1 (fun e => (hr p.1 e.symm).2 p hp rfl)]
    exact hb
section
variable {ops : Array Oper} {Q : Exit → Act → World → Prop} {i : Nat} {t : Tr} {a : Act} {o : Oper} {S : Nat → Prop} {w0 w : World} {H : List (Nat × Array Value)}
/-- append of bytes to bytes of the call's own -/
theorem wpT_apb (dst : Nat) (s x : Operand) (M : Mm S w0 H w) (base : Nat) (v u : Value) (l m : List (BitVec 8)) (hdst : o.dst = some dst) (ho : ops[i]? = some o)
    (hop : o.op = .call { callee := .builtin .append, args := #[s, x], argTypes := #[24, 24] }) (hg : o.guard = none) (hs : a.eval s = v) (hown : OB w base v l) (hx : a.eval x = u) (hu : BS w u m)
    (hlen : l.length + m.length ≤ 140737488355328) (hbase : base ≤ w.heap.size) (hb0 : w0.heap.size ≤ base) (hsep : ∀ g, v.ownBlock = some g → ∀ p ∈ H, p.1 ≠ g)
    (h : ∀ v' w', OB w' base v' (l ++ m) → Mm S w0 H w' → wpT Tryd.prog ops Q t (a.put (some dst) v') w') : wpT Tryd.prog ops Q (.op i t) a w := by
  refine wpT_step ho hg (fun K hK => ?_)
  refine wp_apb s x hop base v u l m hs hown hx hu hlen hbase ?_
  intro v' w' h1 h2 h3
  rw [hdst]
  exact hK _ _ (h v' w' h1 (M.grown8 h2 (fun g hg => ⟨.inr (Nat.le_trans hb0 (hown.lt g hg).1), hsep g hg⟩)))
/-- a slice of bytes that is made, with room -/
theorem wpT_mkb (dst : Nat) (x y : Operand) (c : Nat) (M : Mm S w0 H w) (base : Nat) (hdst : o.dst = some dst) (ho : ops[i]? = some o) (hop : o.op = .makeSlice 24 x y) (hw : Region.wanted o (yielded ops a.tmps) = true)
    (hx : a.eval x = .int .i64 0) (hy : a.eval y = .int .i64 c) (hc : c ≤ 16777216) (hbase : base ≤ w.heap.size) (h : ∀ v' w', OB w' base v' [] → Mm S w0 H w' → wpT Tryd.prog ops Q t (a.put (some dst) v') w') : wpT Tryd.prog ops Q (.op i t) a w := by
  obtain ⟨inf, hi0, hz0, hz1, hz2⟩ := info_parts info_u8
  obtain ⟨w', hr, h1, h2⟩ := run_make_own (P := Tryd.prog) (w := w) base 24 5 inf (.int .u8 0) 1 Tryd.underlying24 hi0 hz0 hz1 .i64 .i64 c (by rw [hz2]; omega) (by unfold maxLen; omega) hbase
  refine wpT_val (v := .slice (some ⟨w.heap.size, 0, none⟩) 0 c) (w' := w') ho hw ?_ ?_
  · obtain ⟨dst, op, ty, pos, after, guard⟩ := o
    subst hop
    simp only [execOp, Sem.run_bind, hx, hy]
    rw [hr]; rfl
  · rw [hdst]; exact h _ _ h1 (M.grown8 h2 (fun g hg => by cases hg))
end
/-- bytes of one's own, at a row's beginning, with no room behind -/
def OP (w : World) (base : Nat) (v : Value) (l : List (BitVec 8)) : Prop :=
  (v = .slice none 0 0 ∧ l = []) ∨ ∃ g cur, v = .slice (some ⟨g, 0, none⟩) l.length l.length ∧ base ≤ g ∧ w.heap[g]? = some (.cells cur 5 (0, 0)) ∧ l.length ≤ maxLen ∧ l.length ≤ cur.size ∧ cur.toList.take l.length = l.map U8
theorem OP.bs {w : World} {base : Nat} {v : Value} {l : List (BitVec 8)} (h : OP w base v l) : BS w v l := by
  rcases h with ⟨rfl, rfl⟩ | ⟨g, cur, rfl, hb, hg, hm, hs, ht⟩
  · exact (OB.nil w 0).bs
  · refine ⟨some ⟨g, 0, none⟩, l.length, rfl, Nat.le_refl _, hm, fun _ => ⟨g, 0, rfl, fun i hi => ?_⟩⟩
    have hi' : i < l.length := by simpa using hi
    rw [cell_rowOf, rowOf_eq hg, Nat.zero_add, ← ht, List.getElem?_take_of_lt hi', Array.getElem?_toList]
theorem OP.mono {w : World} {base b' : Nat} {v : Value} {l : List (BitVec 8)} (h : OP w base v l) (hb : b' ≤ base) : OP w b' v l := by
  rcases h with h | ⟨g, cur, e, h1, h2⟩
  · exact .inl h
  · exact .inr ⟨g, cur, e, Nat.le_trans hb h1, h2⟩
theorem OP.shape {w : World} {base : Nat} {v : Value} {l : List (BitVec 8)} (h : OP w base v l) : ∃ a, v = .slice a l.length l.length := by
  rcases h with ⟨rfl, rfl⟩ | ⟨g, cur, rfl, _⟩
  · exact ⟨none, rfl⟩
  · exact ⟨_, rfl⟩
/-- the first bytes of one's own -/
theorem OB.head {w : World} {base : Nat} {a : Option Addr} {n cap : Nat} {l : List (BitVec 8)} (h : OB w base (.slice a n cap) l) (k : Nat) (hk : k ≤ l.length) : OP w base (.slice a k k) (l.take k) := by
  have hlen : (l.take k).length = k := by simp; omega
  rcases h.2 with ⟨h1, h2⟩ | ⟨g, cap', cur, hv, hb, hg, hc, hm, hs, ht⟩
  · injection h1 with e1 e2 e3
    subst e1
    have : k = 0 := by omega
    subst this
    exact .inl ⟨rfl, by simp⟩
  · injection hv with e1 e2 e3
    subst e1
    refine .inr ⟨g, cur, by rw [hlen], hb, hg, by omega, by omega, ?_⟩
    rw [hlen, List.map_take, ← ht, Nat.mul_one, List.take_take, Nat.min_eq_left hk]
def slen8 : Value → Nat
  | .slice _ k _ => k
  | _ => 0
theorem ofNat_succ32 (c : BitVec 32) (m : Nat) : c + BitVec.ofNat 32 m + 1#32 = c + BitVec.ofNat 32 (m + 1) := by
  rw [BitVec.add_assoc]
  congr 1
  apply BitVec.eq_of_toNat_eq
  simp [BitVec.toNat_add, BitVec.toNat_ofNat]
attribute [local irreducible] Ch.blk Ch.blks
set_option maxRecDepth 100000 in
set_option maxHeartbeats 8000000 in
theorem stream_c (w : World) (k n : List (BitVec 8)) (c : BitVec 32) (L : Nat) (hk : k.length = 32) (hn : n.length = 12) (hL : L ≤ 65536) (hc : c.toNat + (L + 63) / 64 ≤ 4294967296) :
    Calls Tryd.prog 54 #[.agg (cs U8 k), .agg (cs U8 n), U32 c, .int .i64 L] w fun e w' => ∃ v, e = .returned (.tuple #[v, .int .i64 0]) ∧ OP w' w.heap.size v (Ch.str k n c L) ∧ Below w.heap.size w w' := by
  have hL0 : (0 : Int) ≤ (L : Int) := by omega
  have hL1 : ¬ (L : Int) < 0 := by omega
  have hL2 : ¬ (65536 : Int) < (L : Int) := by omega
  obtain ⟨p, hp⟩ : ∃ p : Nat, p = L + 64 := ⟨_, rfl⟩
  obtain ⟨q, hq⟩ : ∃ q : Nat, q = L + 63 := ⟨_, rfl⟩
  obtain ⟨r, hr⟩ : ∃ r : Nat, r = q / 64 := ⟨_, rfl⟩
  obtain ⟨s, hs⟩ : ∃ s : Nat, s = c.toNat + r := ⟨_, rfl⟩
  have hc32 := c.isLt
  have HC0 := hid (show IntKind.i64.wrap (c.toNat : Int) = (c.toNat : Int) from i64m _ (by omega) (by omega))
  have HP := hid (show IntKind.i64.wrap ((L : Int) + 64) = (p : Int) by rw [i64m _ (by omega) (by omega), hp]; omega)
  have HQ := hid (show IntKind.i64.wrap ((p : Int) - 1) = (q : Int) by rw [i64m _ (by omega) (by omega), hp, hq]; omega)
  have HR := hid (show IntKind.i64.wrap ((q : Int) / 64) = (r : Int) by rw [i64m _ (by omega) (by omega), hr]; omega)
  have HS := hid (show IntKind.i64.wrap ((c.toNat : Int) + (r : Int)) = (s : Int) by rw [i64m _ (by omega) (by omega), hs]; omega)
  have hs2 : ¬ (4294967296 : Int) < (s : Int) := by omega
  have hp2 : p ≤ 70000 := by omega
  clear hp hq hr hs
  have M0 := Mm.start no w
  go_enter Tryd.func54, Tryd.ntmps54
  have M2 := ((M0.alloc (cs U8 k) 23 (by decide)).alloc (cs U8 n) 29 (by decide))
  try simp only [World.size_alloc] at M2
  go_upto_region 1 with fail
  obtain ⟨w1, hw1⟩ : ∃ w1, w1 = ((w.alloc (.cells (cs U8 k) 23)).alloc (.cells (cs U8 n) 29)) := ⟨_, rfl⟩
  rw [← hw1] at M2 ⊢
  clear hw1
  refine wp_region_lin (.op 0 (.op 1 (.op 2 .done))) (by rfl) ?_
  refine wpT_valp 13 (v := .int .i64 L) rfl rfl rfl (by go_simp) ?_
  refine wpT_valp 14 (v := .bool false) rfl rfl rfl (by go_simp) ?_
  refine wpT_valp 12 (v := .bool false) rfl rfl rfl (by go_simp) ?_
  dsimp only [wpT]
  try simp only [Act.put, List.setIfInBounds_toArray, List.set_cons_succ, List.set_cons_zero]
  go_upto_region 3 with fail
  refine wp_region_lin (.op 0 (.op 1 (.op 2 (.op 3 (.op 4 (.op 5 (.op 6 (.op 7 (.op 8 (.op 9 (.op 10 (.op 11 (.op 12 .done))))))))))))) (by rfl) ?_
  refine wpT_valp 16 (v := .int .i64 L) rfl rfl rfl (by go_simp) ?_
  refine wpT_valp 17 (v := .bool false) rfl rfl rfl (by go_simp) ?_
  refine wpT_valp 18 (v := .bool false) rfl rfl rfl (by go_simp) ?_
  refine wpT_valp 19 (v := U32 c) rfl rfl (by simp [Region.wanted, yielded, Act.put]) (by go_simp) ?_
  try simp only [Act.put, List.setIfInBounds_toArray, List.set_cons_succ, List.set_cons_zero]
  refine wpT_valp 20 (v := .int .i64 (c.toNat : Int)) rfl rfl (by simp [Region.wanted, yielded, Act.put]) (by have h := HC0.out; go_simp) ?_
  refine wpT_valp 21 (v := .int .i64 L) rfl rfl (by simp [Region.wanted, yielded, Act.put]) (by go_simp) ?_
  refine wpT_valp 22 (v := .int .i64 p) rfl rfl (by simp [Region.wanted, yielded, Act.put]) (by have h := HP.out; go_simp) ?_
  refine wpT_valp 23 (v := .int .i64 q) rfl rfl (by simp [Region.wanted, yielded, Act.put]) (by have h := HQ.out; go_simp) ?_
  refine wpT_valp 24 (v := .int .i64 r) rfl rfl (by simp [Region.wanted, yielded, Act.put]) (by have h := HR.out; go_simp) ?_
  try simp only [Act.put, List.setIfInBounds_toArray, List.set_cons_succ, List.set_cons_zero]
  refine wpT_valp 25 (v := .int .i64 s) rfl rfl (by simp [Region.wanted, yielded, Act.put]) (by have h := HS.out; go_simp) ?_
  refine wpT_valp 26 (v := .bool false) rfl rfl (by simp [Region.wanted, yielded, Act.put]) (by go_simp) ?_
  refine wpT_valp 27 (v := .bool false) rfl rfl rfl (by go_simp) ?_
  refine wpT_valp 15 (v := .bool false) rfl rfl rfl (by go_simp) ?_
  dsimp only [wpT]
  try simp only [Act.put, List.setIfInBounds_toArray, List.set_cons_succ, List.set_cons_zero]
  go_upto_region 5 with fail
  have hzk := M2.lt (b := w.heap.size + 1) (c := cs U8 n) (by simp)
  refine wp_region_lin (.op 0 (.op 1 (.op 2 (.op 3 .done)))) (by rfl) ?_
  refine wpT_valp 28 (v := .int .i64 L) rfl rfl rfl (by go_simp) ?_
  refine wpT_valp 29 (v := .int .i64 p) rfl rfl rfl (by have h := HP.out; go_simp) ?_
  refine wpT_mkb 30 _ _ p M2 (w.heap.size + 2) rfl rfl rfl rfl (by go_simp) (by go_simp) (by omega) (by omega) (fun v5 w5 O5 M5 => ?_)
  obtain ⟨A5, c5, rfl, -⟩ := O5.bs.shape' 0 rfl
  refine wpT_valp 10 (v := .slice A5 0 c5) rfl rfl rfl (by go_simp) ?_
  dsimp only [wpT]
  try simp only [Act.put, List.setIfInBounds_toArray, List.set_cons_succ, List.set_cons_zero]
  go_wp2_with fail
  go_loopw [2, 10] (fun c2 u wr => ∃ m : Nat, 64 * m < L + 64 ∧ c2 = U32 (c + BitVec.ofNat 32 m) ∧ OB wr (w.heap.size + 2) u (Ch.blks k n c m) ∧ Mm no w [(w.heap.size + 1, cs U8 n), (w.heap.size, cs U8 k)] wr) (fun _ u _ => L + 64 - slen8 u)
  case atStart => exact ⟨0, by omega, by simp, by simpa [Ch.blks] using O5, M5⟩
  case round =>
    clear O5 M5 M2 M0
    obtain ⟨m, hm, rfl, HO, M⟩ := hrel
    obtain ⟨n64, hn64⟩ : ∃ n64, n64 = 64 * m := ⟨_, rfl⟩
    have hbl : (Ch.blks k n c m).length = n64 := by rw [blks_len, hn64]
    obtain ⟨A, cu, rfl, hcu⟩ := HO.bs.shape' n64 hbl
    by_cases hlt : n64 < L
    · have hlt2 : (n64 : Int) < (L : Int) := by omega
      obtain ⟨c2, ec2⟩ : ∃ c2, c2 = c + BitVec.ofNat 32 m := ⟨_, rfl⟩
      rw [← ec2]
      have HC2 := hid (show c2 + 1#32 = c + BitVec.ofNat 32 (m + 1) by rw [ec2]; exact ofNat_succ32 c m)
      have HB2 := hid (show Ch.blks k n c (m + 1) = Ch.blks k n c m ++ Ch.blk k n c2 by rw [ec2]; exact blks_succ ..)
      have HN := hid hn64
      clear ec2 hn64
      obtain ⟨S1, MR, hS1, hT1⟩ := M.rebase
      have M := MR
      go_upto_region 7 with fail
      have hbk := blk_len k n c2
      refine wp_region_lin (.op 0 (.op 1 (.op 2 (.op 3 (.op 4 (.op 5 .done)))))) (by rfl) ?_
      refine wpT_ld0 35 Tryd.underlying23 rfl inf_key (w.heap.size) (cs U8 k) rfl rfl rfl (by go_simp) (M.row (by simp)) (by simp [hk, hn, hbk]) rfl ?_
      refine wpT_ld0 36 Tryd.underlying29 rfl inf_nonce (w.heap.size + 1) (cs U8 n) rfl rfl rfl (by go_simp) (M.row (by simp)) (by simp [hk, hn, hbk]) rfl ?_
      refine wpT_valp 37 (v := U32 c2) rfl rfl rfl (by go_simp) ?_
      refine wpT_callv 38 M (v := .agg (cs U8 (Ch.blk k n c2))) rfl rfl rfl (by go_simp) (block_c wr k n c2 hk hn) (fun w1 M2 => ?_)
      try simp only [Act.put, List.setIfInBounds_toArray, List.set_cons_succ, List.set_cons_zero]
      refine wpT_new (z := .agg (cs U8 (zs 64))) 11 M2 (by kernel_rfl) (by decide) rfl rfl rfl rfl (fun b3 w4 M5 => ?_)
      try dsimp only [Value.cells] at M5
      refine wpT_st0 M5 0 (cs U8 (Ch.blk k n c2)) inf_b64 rfl rfl rfl rfl (by go_simp) (by go_simp) (by simp [hk, hn, hbk]) (by simp [hk, hn, hbk]) (by simp [go_sem]) rfl (fun w6 M7 => ?_)
      dsimp only [List.set] at M7
      dsimp only [wpT]
      try simp only [Act.put, List.setIfInBounds_toArray, List.set_cons_succ, List.set_cons_zero]
      go_upto_region 8 with fail
      have O4 := HO.fr' M7.fr (fun g hg e => by
        have h1 := (HO.lt g hg).1
        have h2 := hS1 g e
        simp at h2
        omega)
      have nb3 : ∀ g, w.heap.size + 2 ≤ g → g < wr.heap.size → b3 ≠ g := by
        intro g h1 h2 e
        subst e
        rcases (M7.own (b3, cs U8 (Ch.blk k n c2)) (by simp)).1 with h | h
        · have := hS1 _ h
          simp at this
          omega
        · have : wr.heap.size ≤ b3 := h
          omega
      have MZ := hT1 _ _ M7
      have hz3 := MZ.lt (b := b3) (c := cs U8 (Ch.blk k n c2)) (by simp)
      have hw2 := MZ.lt (b := w.heap.size + 1) (c := cs U8 n) (by simp)
      clear M7 hT1
      refine wp_region_lin (.op 0 (.op 1 (.op 2 (.op 3 .done)))) (by rfl) ?_
      refine wpT_valp 39 (v := .slice A n64 cu) rfl rfl rfl (by go_simp) ?_
      refine wpT_valp 40 (v := .slice (some ⟨b3, 0, none⟩) 64 64) rfl rfl rfl (by go_simp) ?_
      refine wpT_apb 41 _ _ MZ (w.heap.size + 2) (.slice A n64 cu) (.slice (some ⟨b3, 0, none⟩) 64 64) (Ch.blks k n c m) (Ch.blk k n c2) rfl rfl rfl rfl (by go_simp) O4 (by go_simp) (BS.row (MZ.row (by simp)) hbk (by unfold maxLen; decide)) (by rw [hbl, hbk]; omega) (by omega) (by omega) (fun g hg p hp => ?_) (fun u6 w7 O6 M6 => ?_)
      · have h1 := HO.lt g hg
        simp only [List.mem_cons, List.mem_singleton, List.not_mem_nil, or_false] at hp
        rcases hp with rfl | rfl | rfl
        · exact nb3 g h1.1 h1.2
        · show w.heap.size + 1 ≠ g; omega
        · show w.heap.size ≠ g; omega
      rw [← HB2.out] at O6
      obtain ⟨A6, c6, rfl, -⟩ := O6.bs.shape' (n64 + 64) (by rw [blks_len, HN.out]; omega)
      refine wpT_valp 10 (v := .slice A6 (n64 + 64) c6) rfl rfl rfl (by go_simp) ?_
      dsimp only [wpT]
      try simp only [Act.put, List.setIfInBounds_toArray, List.set_cons_succ, List.set_cons_zero]
      go_wp2_with fail
      go_roundw
      case rel => exact ⟨m + 1, by have := HN.out; omega, by rw [← HC2.out], O6, M6.sub (List.sublist_cons_self _ _)⟩
      case measure => simp only [slen8]; omega
    · have hlt2 : ¬ (n64 : Int) < (L : Int) := by omega
      have hst : Ch.str k n c L = (Ch.blks k n c m).take L := by unfold Ch.str; rw [show (L + 63) / 64 = m by omega]
      have HST := hid hst
      have HOP := HO.head L (by rw [hbl]; omega)
      have HM := M.end_
      rw [← hst] at HOP
      have HOP := HOP.mono (show w.heap.size ≤ w.heap.size + 2 by omega)
      have hA : A = none ∧ L = 0 ∧ n64 = 0 ∧ cu = 0 ∨ ∃ g, A = some ⟨g, 0, none⟩ := by
        rcases HO.2 with ⟨e, _⟩ | ⟨g, cap, cur, e, _⟩
        · injection e with e1 e2 e3
          exact .inl ⟨e1, by omega, e2, e3⟩
        · injection e with e1 e2 e3
          exact .inr ⟨g, e1⟩
      have hLc : (L : Int) ≤ (cu : Int) := by omega
      clear hst
      rcases hA with ⟨rfl, -, -, -⟩ | ⟨g, rfl⟩
      · go_wp2_with fail
        refine bodyPost_ret (res_two rfl (rv_tmp _ _ rfl) (rv_tmp _ _ rfl)) rfl ?_
        exact ⟨_, rfl, HOP, HM⟩
      · go_wp2_with fail
        refine bodyPost_ret (res_two rfl (rv_tmp _ _ rfl) (rv_tmp _ _ rfl)) rfl ?_
        exact ⟨_, rfl, HOP, HM⟩
end Go.Proofs.YtbigmnhjnjeeaaaDoor
set_option linter.unusedSimpArgs false
set_option linter.unusedVariables false
namespace Go.Proofs.YtbigmnhjnjeeaaaDoor
open Go.RowKit
theorem BS.end_ {w0 w : World} {v : Value} {l : List (BitVec 8)} (h : BS w0 v l) (hb : Below w0.heap.size w0 w) : BS w v l := SV.below h hb
theorem OP.keep {w w' : World} {base : Nat} {v : Value} {l : List (BitVec 8)} (h : OP w base v l) (hk : ∀ g, v.ownBlock = some g → g < w.heap.size → w'.heap[g]? = w.heap[g]?) : OP w' base v l := by
  rcases h with h | ⟨g, cur, rfl, h1, h2, h3⟩
  · exact .inl h
  · exact .inr ⟨g, cur, rfl, h1, (hk g rfl (Array.getElem?_eq_some_iff.1 h2).1).trans h2, h3⟩
theorem OP.below {w w' : World} {base : Nat} {v : Value} {l : List (BitVec 8)} (h : OP w base v l) (hb : Below w.heap.size w w') : OP w' base v l := h.keep fun g _ hg => hb.block g hg
theorem OP.open {w : World} {base n : Nat} {a : Option Addr} {l : List (BitVec 8)} (h : OP w base (.slice a n n) l) (hn : 0 < n) : ∃ g, a = some ⟨g, 0, none⟩ ∧ base ≤ g ∧ g < w.heap.size := by
  rcases h with ⟨e, _⟩ | ⟨g, cur, e, h1, h2, _⟩
  · injection e with _ e _; omega
  · injection e with e _ _
    exact ⟨g, e, h1, (Array.getElem?_eq_some_iff.1 h2).1⟩
/-- one byte of one's own is written over -/
theorem OP.set {w : World} {base g n : Nat} {l : List (BitVec 8)} (h : OP w base (.slice (some ⟨g, 0, none⟩) n n) l) (hn : l.length = n) (i : Nat) (hi : i < n) (x : BitVec 8) :
    w.free g = true ∧ i < (w.rowOf g).size ∧ OP (w.setRow g ((w.rowOf g).setIfInBounds i (U8 x))) base (.slice (some ⟨g, 0, none⟩) n n) (l.set i x) := by
  subst hn
  rcases h with ⟨e, _⟩ | ⟨g', cur, hv, hb, hg, hm, hs, ht⟩
  · cases e
  · cases hv
    have hr : w.rowOf g = cur := by simp [World.rowOf, hg]
    refine ⟨by simp [World.free, hg], by rw [hr]; omega, .inr ⟨g, cur.setIfInBounds i (U8 x), by simp, hb, ?_, by simpa using hm, by simpa using hs, ?_⟩⟩
    · rw [hr]; exact heap_setRow_same hg
    · rw [Array.toList_setIfInBounds, List.map_set, ← ht]
      simp only [List.length_set]
      rw [List.take_set]
theorem Mm.setOwn {S : Nat → Prop} {w0 w : World} {H : List (Nat × Array Value)} (M : Mm S w0 H w) {g : Nat} (c : Array Value) (h0 : w0.heap.size ≤ g) (hn : g ∉ H.map (·.1)) : Mm S w0 H (w.setRow g c) :=
  ⟨⟨M.fr.os, M.fr.tape, M.fr.output, by simpa using M.fr.size, fun k hk hS => (heap_setRow_other (by omega)).trans (M.fr.block k hk hS)⟩,
    fun p hp => by
      obtain ⟨h1, T, hT, hb⟩ := M.own p hp
      refine ⟨h1, T, hT, ?_⟩
      rw [heap_setRow_other (fun e => hn (by rw [← e]; exact List.mem_map.2 ⟨p, hp, rfl⟩))]
      exact hb, M.nd⟩
theorem BS.setOther {w : World} {v : Value} {l : List (BitVec 8)} (h : BS w v l) {g : Nat} (c : Array Value) (hg : v.ownBlock ≠ some g) : BS (w.setRow g c) v l :=
  SV.keep h fun k hk _ => heap_setRow_other (fun e => hg (by rw [← e]; exact hk))
theorem Sf.mono {B B' : Nat} {w w' : World} (h : Sf B w w') (hB : B' ≤ B) : Sf B' w w' := ⟨h.1.mono hB, h.2⟩
theorem bs_cell {w : World} {b o n c : Nat} {l : List (BitVec 8)} (h : BS w (.slice (some ⟨b, o, none⟩) n c) l) (i : Nat) (hi : i < l.length) : w.cell? ⟨b, o + i, none⟩ = some (U8 (l.getD i 0)) := by
  obtain ⟨b', o', c', e, _, h3⟩ := h.open (by intro e; rw [e] at hi; simp at hi)
  injection e with e _ _
  injection e with e
  injection e with e1 e2 _
  subst e1; subst e2
  exact h3 i hi
section
variable {P : Program} {ops : Array Oper} {Q : Exit → Act → World → Prop} {i : Nat} {t : Tr} {a : Act} {o : Oper} {S : Nat → Prop} {w0 w : World} {H : List (Nat × Array Value)}
/-- a call that makes no more than new memory, and answers what is known by a law -/
theorem wpT_callx (dst : Nat) (M : Mm S w0 H w) {f : FuncId} {args : Array Value} {X : Value → World → Prop} (hdst : o.dst = some dst) (ho : ops[i]? = some o) (hw : Region.wanted o (yielded ops a.tmps) = true) (hrun : (execOp a.eval o).run P w = .ok (.enter f args) w)
    (hc : Calls P f args w fun e w' => ∃ v, e = .returned v ∧ X v w' ∧ Below w.heap.size w w')
    (h : ∀ v w', X v w' → Mm S w0 H w' → Below w.heap.size w w' → wpT P ops Q t (a.put (some dst) v) w') : wpT P ops Q (.op i t) a w :=
  wpT_call ho hw hrun hc (fun e w' ⟨v, he, hx, hb⟩ => ⟨v, he, by rw [hdst]; exact h v w' hx (M.below hb) hb⟩)
/-- one byte is written -/
theorem wpT_stb {T : TypeId} {p x : Operand} {b off : Nat} (v : Value) (hi : (P.info? T).map (·.size) = some 1) (ho : ops[i]? = some o) (hop : o.op = .store T p x) (hd : o.dst = none)
    (hp : a.eval p = .pointer (some ⟨b, off, none⟩)) (hx : a.eval x = v) (hoff : off < (w.rowOf b).size) (hv : ones1 v = true) (hf : w.free b = true) (hw : Region.wanted o (yielded ops a.tmps) = true)
    (h : wpT P ops Q t a (w.setRow b ((w.rowOf b).setIfInBounds off v))) : wpT P ops Q (.op i t) a w := by
  refine wpT_run (w' := w.setRow b ((w.rowOf b).setIfInBounds off v)) ho hw ?_ ?_
  · obtain ⟨dst, op, ty, pos, after, guard⟩ := o
    subst hop
    rw [x_store, hp, hx, x_storec hi w b off v hv hoff hf]
  · rw [hd]; exact h
end
theorem xr_step (s b : List (BitVec 8)) (i : Nat) (hi : i < b.length) (hs : s.length = b.length) :
    (List.zipWith (· ^^^ ·) (s.take i) (b.take i) ++ s.drop i).set i ((List.zipWith (· ^^^ ·) (s.take i) (b.take i) ++ s.drop i).getD i 0 ^^^ b.getD i 0) = List.zipWith (· ^^^ ·) (s.take (i + 1)) (b.take (i + 1)) ++ s.drop (i + 1) := by
  have hl : (List.zipWith (· ^^^ ·) (s.take i) (b.take i)).length = i := by simp; omega
  have hsi : i < s.length := by omega
  rw [List.getD_eq_getElem?_getD, List.getElem?_append_right (by omega), hl, Nat.sub_self, List.getElem?_drop, Nat.add_zero, List.getElem?_eq_getElem hsi, List.set_append_right _ _ (by omega), hl, Nat.sub_self,
    List.drop_eq_getElem_cons hsi, List.set_cons_zero, List.take_succ_eq_append_getElem hsi, List.take_succ_eq_append_getElem hi, List.zipWith_append (by simp; omega), List.getD_eq_getElem?_getD, List.getElem?_eq_getElem hi]
  simp
attribute [local irreducible] Ch.str Ch.xr
set_option maxRecDepth 100000 in
set_option maxHeartbeats 8000000 in
theorem xor_c (w : World) (k n b : List (BitVec 8)) (c : BitVec 32) (vb : Value) (hk : k.length = 32) (hn : n.length = 12) (hvb : BS w vb b) (hL : b.length ≤ 65536) (hc : c.toNat + 1024 ≤ 4294967296) :
    Calls Tryd.prog 38 #[.agg (cs U8 k), .agg (cs U8 n), U32 c, vb] w fun e w' => ∃ v, e = .returned (.tuple #[v, .int .i64 0]) ∧ OP w' w.heap.size v (Ch.xr k n c b) ∧ Below w.heap.size w w' := by
  obtain ⟨L, hl⟩ : ∃ L, L = b.length := ⟨_, rfl⟩
  obtain ⟨B, cb, rfl, hcb⟩ := hvb.shape' L hl.symm
  have hsl := str_len k n c L
  have hfin : Ch.xr k n c b = List.zipWith (· ^^^ ·) ((Ch.str k n c L).take L) (b.take L) ++ (Ch.str k n c L).drop L := by
    rw [List.take_of_length_le (by omega), List.take_of_length_le (by omega), List.drop_eq_nil_of_le (by omega), List.append_nil]
    unfold Ch.xr; rw [hl]
  obtain ⟨s, hs⟩ : ∃ s, s = Ch.str k n c L := ⟨_, rfl⟩
  rw [← hs] at hfin hsl
  have HS := hid hs
  have HF := hid hfin
  have HV := hid hvb
  clear hs hfin hvb
  have M0 := Mm.start no w
  go_enter Tryd.func38, Tryd.ntmps38
  have M2 := ((M0.alloc (cs U8 k) 23 (by decide)).alloc (cs U8 n) 29 (by decide))
  try simp only [World.size_alloc] at M2
  go_upto_region 1 with fail
  obtain ⟨w1, hw1⟩ : ∃ w1, w1 = ((w.alloc (.cells (cs U8 k) 23)).alloc (.cells (cs U8 n) 29)) := ⟨_, rfl⟩
  rw [← hw1] at M2 ⊢
  clear hw1
  refine wp_region_lin (.op 0 (.op 1 (.op 2 (.op 3 (.op 4 (.op 5 (.op 6 (.op 7 (.op 8 (.op 9 (.op 10 .done))))))))))) (by rfl) ?_
  refine wpT_ld0 14 Tryd.underlying23 rfl inf_key (w.heap.size) (cs U8 k) rfl rfl rfl (by go_simp) (M2.row (by simp)) (by simp [hk, hn]) rfl ?_
  refine wpT_ld0 15 Tryd.underlying29 rfl inf_nonce (w.heap.size + 1) (cs U8 n) rfl rfl rfl (by go_simp) (M2.row (by simp)) (by simp [hk, hn]) rfl ?_
  refine wpT_valp 16 (v := U32 c) rfl rfl rfl (by go_simp) ?_
  refine wpT_valp 17 (v := .slice B L cb) rfl rfl rfl (by go_simp) ?_
  try simp only [Act.put, List.setIfInBounds_toArray, List.set_cons_succ, List.set_cons_zero]
  refine wpT_valp 18 (v := .int .i64 L) rfl rfl rfl (by go_simp) ?_
  refine wpT_callx 19 M2 (X := fun v w' => ∃ A, v = .tuple #[.slice A L L, .int .i64 0] ∧ OP w' w1.heap.size (.slice A L L) s) rfl rfl rfl (by go_simp) ((stream_c w1 k n c L hk hn (by omega) (by omega)).mono (fun e w' ⟨v, h1, h2, h3⟩ => by
    rw [← HS.out] at h2
    obtain ⟨A, e⟩ := h2.shape
    rw [hsl] at e
    subst e
    exact ⟨_, h1, ⟨A, rfl, h2⟩, h3⟩)) (fun v4 w5 h5 MZ _ => ?_)
  obtain ⟨A, rfl, HO⟩ := h5
  have hw1 := M2.lt (b := w.heap.size + 1) (c := cs U8 n) (by simp)
  replace HO := HO.mono (show w.heap.size + 2 ≤ w1.heap.size by omega)
  have HO := hid HO
  refine wpT_valp 13 (v := .tuple #[.slice A L L, .int .i64 0]) rfl rfl rfl (by go_simp) ?_
  refine wpT_valp 20 (v := .slice A L L) rfl rfl rfl (by go_simp) ?_
  refine wpT_valp 21 (v := .int .i64 0) rfl rfl rfl (by go_simp) ?_
  try simp only [Act.put, List.setIfInBounds_toArray, List.set_cons_succ, List.set_cons_zero]
  refine wpT_valp 10 (v := .slice A L L) rfl rfl rfl (by go_simp) ?_
  refine wpT_valp 11 (v := .int .i64 0) rfl rfl rfl (by go_simp) ?_
  dsimp only [wpT]
  try simp only [Act.put, List.setIfInBounds_toArray, List.set_cons_succ, List.set_cons_zero]
  go_upto_region 2 with fail
  refine wp_region_lin (.op 0 (.op 1 .done)) (by rfl) ?_
  refine wpT_valp 22 (v := .int .i64 0) rfl rfl rfl (by go_simp) ?_
  refine wpT_valp 23 (v := .bool false) rfl rfl rfl (by go_simp) ?_
  dsimp only [wpT]
  try simp only [Act.put, List.setIfInBounds_toArray, List.set_cons_succ, List.set_cons_zero]
  go_upto_region 4 with fail
  refine wp_region_lin (.op 0 (.op 1 (.op 2 .done))) (by rfl) ?_
  refine wpT_valp 25 (v := .slice A L L) rfl rfl rfl (by go_simp) ?_
  refine wpT_valp 26 (v := .int .i64 L) rfl rfl rfl (by go_simp) ?_
  refine wpT_valp 27 (v := .int .i64 0) rfl rfl rfl (by go_simp) ?_
  dsimp only [wpT]
  try simp only [Act.put, List.setIfInBounds_toArray, List.set_cons_succ, List.set_cons_zero]
  go_wp2_with fail
  go_loopw [27] (fun x wr => ∃ i : Nat, i ≤ L ∧ x = .int .i64 i ∧ OP wr (w.heap.size + 2) (.slice A L L) (List.zipWith (· ^^^ ·) (s.take i) (b.take i) ++ s.drop i) ∧ Mm no w [(w.heap.size + 1, cs U8 n), (w.heap.size, cs U8 k)] wr) (fun x _ => L - (intOf x).toNat)
  case atStart => exact ⟨0, by omega, rfl, by simpa using HO.out, MZ⟩
  case round =>
    clear HO MZ
    obtain ⟨i, hi, rfl, HO, M⟩ := hrel
    by_cases hlt : i < L
    · have hlt2 : (i : Int) < (L : Int) := by omega
      have hi0 : (0 : Int) ≤ (i : Int) := by omega
      have HN := hid (show IntKind.i64.wrap ((i : Int) + 1) = ((i + 1 : Nat) : Int) by rw [i64m _ (by omega) (by omega)]; omega)
      obtain ⟨g, rfl, hg1, hg2⟩ := HO.open (by omega)
      obtain ⟨u, hu⟩ : ∃ u, u = List.zipWith (· ^^^ ·) (s.take i) (b.take i) ++ s.drop i := ⟨_, rfl⟩
      have hul : u.length = L := by rw [hu]; simp; omega
      have HU := hid (show u.set i (u.getD i 0 ^^^ b.getD i 0) = List.zipWith (· ^^^ ·) (s.take (i + 1)) (b.take (i + 1)) ++ s.drop (i + 1) by rw [hu]; exact xr_step s b i (by omega) (by omega))
      rw [← hu] at HO
      clear hu
      obtain ⟨ba, oa, ca, eb, -, -⟩ := HV.out.open (by intro e; rw [e] at hl; simp at hl; omega)
      rw [← hl] at eb
      injection eb with e1 _ e2
      subst e1
      subst e2
      have hba : ba < w.heap.size := SV.lt HV.out ba rfl (by intro e; rw [List.map_eq_nil_iff] at e; rw [e] at hl; simp at hl; omega)
      go_upto_region 7 with fail
      refine wp_region_seq 10 [30, 31, 32, 33, 34, 35, 36, 37, 38, 39] [] [] [] (.op 10 .done) (fun v => wr.heap.size ≤ v.heap.size ∧ BS v (.slice (some ⟨ba, oa, none⟩) L cb) b ∧ OP v (w.heap.size + 2) (.slice (some ⟨g, 0, none⟩) L L) u ∧ Mm no w [(w.heap.size + 1, cs U8 n), (w.heap.size, cs U8 k)] v) (by kernel_rfl) (by kernel_rfl) (by kernel_rfl) (fun d _ _ _ _ h => by cases d <;> exact h) (by rfl) (Nat.le_refl _) (fun v v' h k => ⟨Nat.le_trans h.1 k.size, SV.keep h.2.1 (fun q e _ => k.1.block q (by have h9 : ba = q := Option.some.inj e; omega)), h.2.2.1.keep (fun q e _ => k.1.block q (by have h9 : g = q := Option.some.inj e; omega)), h.2.2.2.sf (k.mono M.size)⟩) ⟨Nat.le_refl _, SV.below HV.out M.end_, HO, M⟩ ?_
      simp only [List.take_succ_cons, List.take_zero]
      refine SeqA.pure (.slice (some ⟨g, 0, none⟩) L L) (fun w' => by go_simp) rfl rfl ?_
      refine SeqA.pure (.int .i64 i) (fun w' => by go_simp) rfl rfl ?_
      refine SeqA.pure (.pointer (some ⟨g, i, none⟩)) (fun w' => by go_simp) rfl rfl ?_
      refine SeqA.read (U8 (u.getD i 0)) (fun w1 h => by
        have c0 := bs_cell h.2.2.1.bs i (by omega)
        rw [Nat.zero_add] at c0
        clear h
        go_simp) rfl rfl ?_
      refine SeqA.pure (.slice (some ⟨ba, oa, none⟩) L cb) (fun w' => by go_simp) rfl rfl ?_
      try simp only [Act.put, List.setIfInBounds_toArray, List.set_cons_succ, List.set_cons_zero]
      refine SeqA.pure (.int .i64 i) (fun w' => by go_simp) rfl rfl ?_
      refine SeqA.pure (.pointer (some ⟨ba, oa + i, none⟩)) (fun w' => by go_simp) rfl rfl ?_
      refine SeqA.read (U8 (b.getD i 0)) (fun w1 h => by
        have c0 := bs_cell h.2.1 i (by omega)
        clear h
        go_simp) rfl rfl ?_
      refine SeqA.pure (U8 (u.getD i 0 ^^^ b.getD i 0)) (fun w' => by go_simp) rfl rfl ?_
      refine SeqA.pure (.pointer (some ⟨g, i, none⟩)) (fun w' => by go_simp) rfl rfl ?_
      refine SeqA.nil (fun w2 hI2 hz => ?_)
      obtain ⟨-, -, OD, MD⟩ := hI2
      show wpT _ _ _ _ _ _
      try simp only [Act.put, List.setIfInBounds_toArray, List.set_cons_succ, List.set_cons_zero]
      obtain ⟨hf, hsz, OD2⟩ := OD.set hul i hlt (u.getD i 0 ^^^ b.getD i 0)
      rw [HU.out] at OD2
      have ME := MD.setOwn (g := g) ((w2.rowOf g).setIfInBounds i (U8 (u.getD i 0 ^^^ b.getD i 0))) (by omega) (by simp; omega)
      obtain ⟨w3, hw3⟩ : ∃ w3, w3 = w2.setRow g ((w2.rowOf g).setIfInBounds i (U8 (u.getD i 0 ^^^ b.getD i 0))) := ⟨_, rfl⟩
      rw [← hw3] at OD2 ME
      refine wpT_stb (b := g) (off := i) (U8 (u.getD i 0 ^^^ b.getD i 0)) inf_u8 rfl rfl rfl (by go_simp) (by go_simp) hsz rfl hf rfl ?_
      rw [← hw3]
      clear hw3 OD MD HO M
      dsimp only [wpT]
      try simp only [Act.put, List.setIfInBounds_toArray, List.set_cons_succ, List.set_cons_zero]
      go_wp2_with fail
      go_roundw
      case rel => exact ⟨i + 1, by omega, by simp, OD2, ME⟩
      case measure => simp only [intOf]; omega
    · have : i = L := by omega
      subst this
      rw [← HF.out] at HO
      have HE := M.end_
      go_wp2_with fail
      refine bodyPost_ret (res_two rfl (rv_tmp _ _ rfl) (rv_tmp _ _ rfl)) rfl ?_
      exact ⟨_, rfl, HO.mono (by omega), HE⟩
end Go.Proofs.YtbigmnhjnjeeaaaDoor
