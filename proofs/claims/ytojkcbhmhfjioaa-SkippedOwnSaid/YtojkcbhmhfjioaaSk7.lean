/-
  The reference of law 18: find, Get, Same; own work.
-/
import Derived.Test.YtojkcbhmhfjioaaSk6
set_option linter.unusedSimpArgs false
set_option linter.unusedVariables false
namespace Go.Proofs.Ytojkcbhmhfjioaa
open Go.RowKit
theorem part_key {w : World} {cs : Array Value} {off : Nat} {x : Array Value} (hx : cs.extract off (off + 32) = x) : (part 28 cs off).run Try.prog w = .ok (.agg x) w := by
  subst hx
  have h1 : (isAgg 28).run Try.prog w = .ok true w := by kernel_rfl
  have h2 : (sizeOf 28).run Try.prog w = .ok 32 w := by kernel_rfl
  simp only [part, Sem.run_bind, h1, h2, Result.andThen_ok, if_true, Sem.run_pure]
theorem part_int {w : World} {cs : Array Value} {off : Nat} {v : Value} (hx : cs[off]? = some v) : (part 3 cs off).run Try.prog w = .ok v w := by
  have h1 : (isAgg 3).run Try.prog w = .ok false w := by kernel_rfl
  simp only [part, Sem.run_bind, h1, Result.andThen_ok, hx, Sem.run_pure]
  simp [hx]
theorem fo_ren : (Try.prog.fieldsOf 60).toList.map (fun f => (f.name, f.type, f.offset)) = [("Pub", 28, 0), ("Key", 28, 32), ("N", 3, 64)] := by kernel_rfl
theorem eqf3 {P : Program} {w : World} {d : Nat} {xs ys : Array Value} {fs : List Field} {a b c : TypeId} {l m n : Nat} {na nb nc : String} (hf : fs.map (fun f => (f.name, f.type, f.offset)) = [(na, a, l), (nb, b, m), (nc, c, n)]) (n1 : na ≠ "_") (n2 : nb ≠ "_") (n3 : nc ≠ "_")
    {x1 x2 x3 y1 y2 y3 : Value} (p1 : (part a xs l).run P w = .ok x1 w) (p2 : (part b xs m).run P w = .ok x2 w) (p3 : (part c xs n).run P w = .ok x3 w) (q1 : (part a ys l).run P w = .ok y1 w) (q2 : (part b ys m).run P w = .ok y2 w) (q3 : (part c ys n).run P w = .ok y3 w)
    (e1 : (Op.equalIn d a x1 y1).run P w = .ok true w) (e2 : (Op.equalIn d b x2 y2).run P w = .ok true w) (e3 : (Op.equalIn d c x3 y3).run P w = .ok true w) : (Op.eqFields d xs ys fs).run P w = .ok true w := by
  obtain ⟨f1, f2, f3, rfl⟩ : ∃ f1 f2 f3, fs = [f1, f2, f3] := by
    match fs, hf with
    | [f1, f2, f3], _ => exact ⟨f1, f2, f3, rfl⟩
  simp only [List.map_cons, List.map_nil, List.cons.injEq, Prod.mk.injEq, and_true] at hf
  obtain ⟨⟨rfl, rfl, rfl⟩, ⟨rfl, rfl, rfl⟩, ⟨rfl, rfl, rfl⟩⟩ := hf
  simp only [Op.eqFields, n1, n2, n3, ne_eq, not_false_eq_true, if_true, Sem.run_bind, p1, p2, p3, q1, q2, q3, e1, e2, e3, Result.andThen_ok, Bool.not_true, Bool.false_eq_true, if_false, Sem.run_pure]
theorem ren_c64' (x : Sk.En) : (ENR x)[64]? = some (.int .i64 x.n) := by unfold ENR; rw [Array.getElem?_append_right (by simp)]; simp
theorem eqren (w : World) (x : Sk.En) : (Op.equalIn 10000 60 (.agg (ENR x)) (.agg (ENR x))).run Try.prog w = .ok true w := by
  rw [run_equalIn_struct w 9999 60 _ _ (by kernel_rfl) (by kernel_rfl)]
  have hk : ∀ l : List (BitVec 8), l.length = 32 → (Op.equalIn 9999 28 (.agg (cs U8 l)) (.agg (cs U8 l))).run Try.prog w = .ok true w := fun l hl => by
    have := run_equalIn_bytes (P := Try.prog) w 9997 28 5 32 Try.underlying28 Try.underlying5 (fun w => by kernel_rfl) (l.map UInt8.ofBitVec) (l.map UInt8.ofBitVec) (by simpa using hl) (by simpa using hl)
    rw [cs8_cell, this]; simp
  refine eqf3 fo_ren (by decide) (by decide) (by decide) (part_key en_p0) (part_key en_p32) (part_int (ren_c64' x)) (part_key en_p0) (part_key en_p32) (part_int (ren_c64' x)) (hk _ (by simp)) (hk _ (by simp)) ?_
  rw [run_equalIn_int w 9998 3 .i64 .i64 _ _ Try.underlying3]; simp
@[go_sem ↓] theorem neq_ren (w : World) (x : Sk.En) : (binOp .neq 60 (.agg (ENR x)) (.agg (ENR x))).run Try.prog w = .ok (.bool false) w := by
  rw [run_neq_struct, eqren]; rfl
theorem xb_ren4 (w : World) {p k : Ky} {n : Int} {x : Sk.En} (hx : x = ⟨p, k, n⟩) : exBuild Try.prog 60 #[(0, .agg (cs U8 p.l)), (1, .agg (cs U8 k.l)), (2, .int .i64 n)] w = .ok (.value (.agg (ENR x))) w := by
  subst hx; exact xb_ren3 w ⟨p, k, n⟩
theorem sv_pub {w : World} {L : List Sk.En} {n g o c i : Nat} {x : Sk.En} (h : SV w (.slice (some ⟨g, o, none⟩) n c) n (fl eE L)) (hx : L[i]? = some x) : exLoad Try.prog 28 (.pointer (some ⟨g, o + i * 65, none⟩)) w = .ok (.value (.agg (cs U8 x.pub.l))) w := by
  have := sv_part eE_len Try.underlying28 rfl inf_key (by decide) h (i := i) (j := 0) hx (by decide) (cs U8 x.pub.l) (by simp [eE, ENR, cs, List.take_append, List.take_of_length_le])
  simpa using this
theorem sv_key {w : World} {L : List Sk.En} {n g o c i : Nat} {x : Sk.En} (h : SV w (.slice (some ⟨g, o, none⟩) n c) n (fl eE L)) (hx : L[i]? = some x) : exLoad Try.prog 28 (.pointer (some ⟨g, o + i * 65 + 32, none⟩)) w = .ok (.value (.agg (cs U8 x.key.l))) w :=
  sv_part eE_len Try.underlying28 rfl inf_key (by decide) h (i := i) (j := 32) hx (by decide) (cs U8 x.key.l) (by simp [eE, ENR, cs, List.drop_append, List.take_append, List.drop_of_length_le, List.take_of_length_le])
theorem sv_n {w : World} {L : List Sk.En} {n g o c i : Nat} {x : Sk.En} (h : SV w (.slice (some ⟨g, o, none⟩) n c) n (fl eE L)) (hx : L[i]? = some x) : w.cell? ⟨g, o + i * 65 + 64, none⟩ = some (.int .i64 x.n) := by
  rw [sv_cell eE_len h hx (j := 64) (by decide)]
  have := ren_c64' x
  rw [← Array.getElem?_toList] at this
  exact this
theorem sv_en {w : World} {L : List Sk.En} {n g o c i : Nat} {x : Sk.En} (h : SV w (.slice (some ⟨g, o, none⟩) n c) n (fl eE L)) (hx : L[i]? = some x) : exLoad Try.prog 60 (.pointer (some ⟨g, o + i * 65, none⟩)) w = .ok (.value (.agg (ENR x))) w :=
  sv_load eE_len Try.underlying60 rfl inf_ren (by decide) h hx (ENR x) rfl
attribute [local irreducible] ENR RSR wpT
set_option maxRecDepth 100000 in
set_option maxHeartbeats 4000000 in
theorem rfind_c (w : World) (a : Option Addr) (m c : Nat) (L : List Sk.En) (most : Int) (hv : SV w (.slice a m c) m (fl eE L)) (hn : L.length = m) (p : Ky) (n : Int) (r : Int) (hr : fndR L p n = r) :
    Calls Try.prog 42 #[.agg (RSR (.slice a m c) most), .agg (cs U8 p.l), .int .i64 n] w fun e w' => e = .returned (.int .i64 r) ∧ Below w.heap.size w w' := by
  have HV := hid hv
  have hmx : m ≤ 9223372036854775807 := by obtain ⟨_, _, e, h1, h2, _⟩ := hv; injection e with e1 e2 e3; unfold maxLen at h2; omega
  obtain ⟨i0, hi0⟩ : ∃ i, i = Sk.find L p n := ⟨_, rfl⟩
  have hle : i0 ≤ m := by rw [hi0, ← hn]; exact Sk.find_le L p n
  have HALL : Hid (∀ j, j < i0 → ∀ s, L[j]? = some s → Sk.hit p n s = false) := hid (by rw [hi0]; exact Sk.find_all L p n)
  have HHIT : Hid (i0 < m → r = i0 ∧ ∀ s, L[i0]? = some s → Sk.hit p n s = true) := hid fun h => ⟨by rw [← hr]; unfold fndR; rw [← hi0, hn, if_pos h], by
    have := Sk.find_hit L p n (by rw [← hi0, hn]; exact h)
    rw [← hi0] at this; exact this⟩
  have HNO : Hid (i0 = m → r = -1) := hid fun h => by rw [← hr]; unfold fndR; rw [← hi0, hn, if_neg (by omega)]
  have HLN := hid hn
  clear hv hr hi0 hn
  have M0 := Mm.start no w
  go_enter Try.func42, Try.ntmps42
  have M2 := ((M0.alloc (RSR (.slice a m c) most) 45 (by decide)).alloc (cs U8 p.l) 28 (by decide))
  try simp only [World.size_alloc] at M2
  go_upto_region 1 with fail
  obtain ⟨w1, hw1⟩ : ∃ w1, w1 = ((w.alloc (.cells (RSR (.slice a m c) most) 45)).alloc (.cells (cs U8 p.l) 28)) := ⟨_, rfl⟩
  rw [← hw1] at M2 ⊢
  clear hw1
  refine wp_region_lin (.op 0 .done) (by rfl) ?_
  refine wpT_valp 7 (v := .int .i64 0) rfl rfl rfl (by go_simp) ?_
  first | dsimp only [wpT] | refine wpT_fin ?_
  try simp only [Act.put, List.setIfInBounds_toArray, List.set_cons_succ, List.set_cons_zero]
  go_wp2_with fail
  go_loopw [7] (fun x wr => ∃ i : Nat, i ≤ i0 ∧ x = .int .i64 i ∧ Mm no w [(w.heap.size + 1, cs U8 p.l), (w.heap.size, RSR (.slice a m c) most)] wr) (fun x _ => m - (intOf x).toNat)
  case atStart => exact ⟨0, by omega, rfl, M2⟩
  case round =>
    clear M2
    obtain ⟨i, hi, rfl, M⟩ := hrel
    by_cases hin : i < m
    · have hlt : (i : Int) < (m : Int) := by omega
      have hi00 : (0 : Int) ≤ (i : Int) := by omega
      obtain ⟨x, hx⟩ : ∃ x, L[i]? = some x := ⟨_, List.getElem?_eq_getElem (by have := HLN.out; omega)⟩
      obtain ⟨g, o, c', e⟩ := sv_some eE_len (by decide) HV.out (by have := HLN.out; omega)
      injection e with e1 e2 e3
      subst e1
      clear e2 e3
      have HPL : Hid (∀ w', Below w.heap.size w w' → exLoad Try.prog 28 (.pointer (some ⟨g, o + i * 65, none⟩)) w' = .ok (.value (.agg (cs U8 x.pub.l))) w') := hid fun w' h => sv_pub (SV.below HV.out h) hx
      have HNL : Hid (∀ w', Below w.heap.size w w' → w'.cell? ⟨g, o + i * 65 + 64, none⟩ = some (.int .i64 x.n)) := hid fun w' h => sv_n (SV.below HV.out h) hx
      obtain ⟨i1, hi1⟩ : ∃ j, j = i + 1 := ⟨_, rfl⟩
      have HI1 := hid (show IntKind.i64.wrap ((i : Int) + 1) = (i1 : Int) by rw [i64w (by omega) (by omega), hi1]; rfl)
      have HII := hid hi1
      have hh : Sk.hit p n x = (decide (x.n = n) && decide (x.pub = p)) := rfl
      have HRK := hid (show (x.pub.l == p.l) = decide (x.pub = p) by
        by_cases hq : x.pub = p
        · rw [hq]; simp
        · rw [decide_eq_false hq]; simpa using fun h => hq (Ky.ext' h))
      have HSTEP : Hid (Sk.hit p n x = false → i1 ≤ i0) := hid fun h => by
        by_cases e : i = i0
        · have := (HHIT.out (by omega)).2 x (by rw [← e]; exact hx)
          rw [h] at this; cases this
        · omega
      have HEND : Hid (Sk.hit p n x = true → r = i) := hid fun h => by
        by_cases e : i = i0
        · rw [(HHIT.out (by omega)).1, e]
        · have := HALL.out i (by omega) x hx
          rw [h] at this; cases this
      clear hx hi1
      by_cases hk : x.pub = p
      · rw [decide_eq_true hk] at HRK hh
        rw [Bool.and_true] at hh
        clear hk
        by_cases hne : x.n = n
        · rw [decide_eq_true hne] at hh
          have HH := hid hh
          clear hh
          obtain rfl := HEND.out HH.out
          go_upto_region 2 with fail
          refine wp_region_lin (.op 0 (.op 1 (.op 2 (.op 3 (.op 4 .done))))) (by rfl) ?_
          refine wpT_valp 8 (v := .int .i64 i) rfl rfl rfl (by go_simp) ?_
          refine wpT_valp 9 (v := .pointer (some ⟨w.heap.size, 0, none⟩)) rfl rfl rfl (by go_simp) ?_
          refine wpT_valp 10 (v := .slice (some ⟨g, o, none⟩) m c) rfl rfl rfl (by have c0 := rs_c0 (M.row (b := w.heap.size) (c := RSR (.slice (some ⟨g, o, none⟩) m c) most) (by simp)); go_simp) ?_
          refine wpT_valp 11 (v := .int .i64 m) rfl rfl rfl (by go_simp) ?_
          try simp only [Act.put, List.setIfInBounds_toArray, List.set_cons_succ, List.set_cons_zero]
          refine wpT_valp 12 (v := .bool true) rfl rfl rfl (by go_simp) ?_
          first | dsimp only [wpT] | refine wpT_fin ?_
          try simp only [Act.put, List.setIfInBounds_toArray, List.set_cons_succ, List.set_cons_zero]
          go_upto_region 4 with fail
          refine wp_region_seq 18 [15, 16, 17, 18, 19, 20, 21, 22, 23, 24, 25, 26, 27, 28, 29, 30, 31, 32] [] [] [] (.done) (Mm no w _) (by kernel_rfl) (by kernel_rfl) (by kernel_rfl) (fun d _ _ _ _ h => by cases d <;> exact h) (by rfl) M.size (fun _ _ h k => h.sf k) M ?_
          simp only [List.take_succ_cons, List.take_zero]
          refine SeqA.pure (.pointer (some ⟨w.heap.size, 0, none⟩)) (fun w' => by go_simp) rfl rfl ?_
          refine SeqA.read (.slice (some ⟨g, o, none⟩) m c) (fun w' M => by have c0 := rs_c0 (M.row (b := w.heap.size) (c := RSR (.slice (some ⟨g, o, none⟩) m c) most) (by simp)); go_simp) rfl rfl ?_
          refine SeqA.pure (.int .i64 i) (fun w' => by go_simp) rfl rfl ?_
          refine SeqA.pure (.pointer (some ⟨g, o + i * 65, none⟩)) (fun w' => by go_simp) rfl rfl ?_
          refine SeqA.pure (.pointer (some ⟨g, o + i * 65 + 0, none⟩)) (fun w' => by go_simp) rfl rfl ?_
          simp only [Act.put, List.setIfInBounds_toArray, List.set_cons_succ, List.set_cons_zero]
          refine SeqA.ldy (.pointer (some ⟨g, o + i * 65 + 0, none⟩)) (.agg (cs U8 x.pub.l)) rfl (by go_simp) (fun w' M => HPL.out _ M.end_) rfl ?_
          refine SeqA.ld0 Try.underlying28 rfl inf_key (w.heap.size + 1) (cs U8 p.l) rfl (by go_simp) (fun _ M => M.row (b := w.heap.size + 1) (c := cs U8 p.l) (by simp)) (by simp [Ky.len, ENR_size, RSR_size]) rfl ?_
          refine SeqA.pure (.bool true) (fun w' => by have q := eqin_key w' x.pub.l p.l (by simp) (by simp); have h := HRK.out; go_simp) rfl rfl ?_
          refine SeqA.pure (.bool true) (fun w' => by go_simp) rfl rfl ?_
          refine SeqA.pure (.pointer (some ⟨w.heap.size, 0, none⟩)) (fun w' => by go_simp) rfl (by simp [Region.wanted, yielded, Act.put]) ?_
          refine SeqA.read (.slice (some ⟨g, o, none⟩) m c) (fun w' M => by have c0 := rs_c0 (M.row (b := w.heap.size) (c := RSR (.slice (some ⟨g, o, none⟩) m c) most) (by simp)); go_simp) rfl (by simp [Region.wanted, yielded, Act.put]) ?_
          simp only [Act.put, List.setIfInBounds_toArray, List.set_cons_succ, List.set_cons_zero]
          refine SeqA.pure (.int .i64 i) (fun w' => by go_simp) rfl (by simp [Region.wanted, yielded, Act.put]) ?_
          refine SeqA.pure (.pointer (some ⟨g, o + i * 65, none⟩)) (fun w' => by go_simp) rfl (by simp [Region.wanted, yielded, Act.put]) ?_
          refine SeqA.pure (.pointer (some ⟨g, o + i * 65 + 64, none⟩)) (fun w' => by go_simp) rfl (by simp [Region.wanted, yielded, Act.put]) ?_
          refine SeqA.read (.int .i64 x.n) (fun w' M => by have c0 := HNL.out _ M.end_; go_simp) rfl (by simp [Region.wanted, yielded, Act.put]) ?_
          refine SeqA.pure (.int .i64 n) (fun w' => by go_simp) rfl (by simp [Region.wanted, yielded, Act.put]) ?_
          refine SeqA.pure (.bool true) (fun w' => by go_simp) rfl (by simp [Region.wanted, yielded, Act.put]) ?_
          simp only [Act.put, List.setIfInBounds_toArray, List.set_cons_succ, List.set_cons_zero]
          refine SeqA.pure (.bool true) (fun w' => by go_simp) rfl rfl ?_
          refine SeqA.nil (fun w1 M2 hz => ?_)
          show wpT _ _ _ _ _ _
          simp only [Act.put, List.setIfInBounds_toArray, List.set_cons_succ, List.set_cons_zero]
          first | dsimp only [wpT] | refine wpT_fin ?_
          go_upto_region 5 with fail
          refine wp_region_lin (.op 0 (.op 1 .done)) (by rfl) ?_
          refine wpT_valp 33 (v := .int .i64 i) rfl rfl rfl (by go_simp) ?_
          refine wpT_valp 6 (v := .int .i64 i) rfl rfl rfl (by go_simp) ?_
          first | dsimp only [wpT] | refine wpT_fin ?_
          try simp only [Act.put, List.setIfInBounds_toArray, List.set_cons_succ, List.set_cons_zero]
          go_wp2_with fail
          go_ret
          exact ⟨rfl, M2.end_⟩
        · rw [decide_eq_false hne] at hh
          have HH := hid hh
          clear hh
          go_upto_region 2 with fail
          refine wp_region_lin (.op 0 (.op 1 (.op 2 (.op 3 (.op 4 .done))))) (by rfl) ?_
          refine wpT_valp 8 (v := .int .i64 i) rfl rfl rfl (by go_simp) ?_
          refine wpT_valp 9 (v := .pointer (some ⟨w.heap.size, 0, none⟩)) rfl rfl rfl (by go_simp) ?_
          refine wpT_valp 10 (v := .slice (some ⟨g, o, none⟩) m c) rfl rfl rfl (by have c0 := rs_c0 (M.row (b := w.heap.size) (c := RSR (.slice (some ⟨g, o, none⟩) m c) most) (by simp)); go_simp) ?_
          refine wpT_valp 11 (v := .int .i64 m) rfl rfl rfl (by go_simp) ?_
          try simp only [Act.put, List.setIfInBounds_toArray, List.set_cons_succ, List.set_cons_zero]
          refine wpT_valp 12 (v := .bool true) rfl rfl rfl (by go_simp) ?_
          first | dsimp only [wpT] | refine wpT_fin ?_
          try simp only [Act.put, List.setIfInBounds_toArray, List.set_cons_succ, List.set_cons_zero]
          go_upto_region 4 with fail
          refine wp_region_seq 18 [15, 16, 17, 18, 19, 20, 21, 22, 23, 24, 25, 26, 27, 28, 29, 30, 31, 32] [] [] [] (.done) (Mm no w _) (by kernel_rfl) (by kernel_rfl) (by kernel_rfl) (fun d _ _ _ _ h => by cases d <;> exact h) (by rfl) M.size (fun _ _ h k => h.sf k) M ?_
          simp only [List.take_succ_cons, List.take_zero]
          refine SeqA.pure (.pointer (some ⟨w.heap.size, 0, none⟩)) (fun w' => by go_simp) rfl rfl ?_
          refine SeqA.read (.slice (some ⟨g, o, none⟩) m c) (fun w' M => by have c0 := rs_c0 (M.row (b := w.heap.size) (c := RSR (.slice (some ⟨g, o, none⟩) m c) most) (by simp)); go_simp) rfl rfl ?_
          refine SeqA.pure (.int .i64 i) (fun w' => by go_simp) rfl rfl ?_
          refine SeqA.pure (.pointer (some ⟨g, o + i * 65, none⟩)) (fun w' => by go_simp) rfl rfl ?_
          refine SeqA.pure (.pointer (some ⟨g, o + i * 65 + 0, none⟩)) (fun w' => by go_simp) rfl rfl ?_
          simp only [Act.put, List.setIfInBounds_toArray, List.set_cons_succ, List.set_cons_zero]
          refine SeqA.ldy (.pointer (some ⟨g, o + i * 65 + 0, none⟩)) (.agg (cs U8 x.pub.l)) rfl (by go_simp) (fun w' M => HPL.out _ M.end_) rfl ?_
          refine SeqA.ld0 Try.underlying28 rfl inf_key (w.heap.size + 1) (cs U8 p.l) rfl (by go_simp) (fun _ M => M.row (b := w.heap.size + 1) (c := cs U8 p.l) (by simp)) (by simp [Ky.len, ENR_size, RSR_size]) rfl ?_
          refine SeqA.pure (.bool true) (fun w' => by have q := eqin_key w' x.pub.l p.l (by simp) (by simp); have h := HRK.out; go_simp) rfl rfl ?_
          refine SeqA.pure (.bool true) (fun w' => by go_simp) rfl rfl ?_
          refine SeqA.pure (.pointer (some ⟨w.heap.size, 0, none⟩)) (fun w' => by go_simp) rfl (by simp [Region.wanted, yielded, Act.put]) ?_
          refine SeqA.read (.slice (some ⟨g, o, none⟩) m c) (fun w' M => by have c0 := rs_c0 (M.row (b := w.heap.size) (c := RSR (.slice (some ⟨g, o, none⟩) m c) most) (by simp)); go_simp) rfl (by simp [Region.wanted, yielded, Act.put]) ?_
          simp only [Act.put, List.setIfInBounds_toArray, List.set_cons_succ, List.set_cons_zero]
          refine SeqA.pure (.int .i64 i) (fun w' => by go_simp) rfl (by simp [Region.wanted, yielded, Act.put]) ?_
          refine SeqA.pure (.pointer (some ⟨g, o + i * 65, none⟩)) (fun w' => by go_simp) rfl (by simp [Region.wanted, yielded, Act.put]) ?_
          refine SeqA.pure (.pointer (some ⟨g, o + i * 65 + 64, none⟩)) (fun w' => by go_simp) rfl (by simp [Region.wanted, yielded, Act.put]) ?_
          refine SeqA.read (.int .i64 x.n) (fun w' M => by have c0 := HNL.out _ M.end_; go_simp) rfl (by simp [Region.wanted, yielded, Act.put]) ?_
          refine SeqA.pure (.int .i64 n) (fun w' => by go_simp) rfl (by simp [Region.wanted, yielded, Act.put]) ?_
          refine SeqA.pure (.bool false) (fun w' => by go_simp) rfl (by simp [Region.wanted, yielded, Act.put]) ?_
          simp only [Act.put, List.setIfInBounds_toArray, List.set_cons_succ, List.set_cons_zero]
          refine SeqA.pure (.bool false) (fun w' => by go_simp) rfl rfl ?_
          refine SeqA.nil (fun w1 M2 hz => ?_)
          show wpT _ _ _ _ _ _
          simp only [Act.put, List.setIfInBounds_toArray, List.set_cons_succ, List.set_cons_zero]
          first | dsimp only [wpT] | refine wpT_fin ?_
          go_upto_region 3 with fail
          refine wp_region_lin (.op 0 (.op 1 (.op 2 .done))) (by rfl) ?_
          refine wpT_valp 13 (v := .int .i64 i) rfl rfl rfl (by go_simp) ?_
          refine wpT_valp 14 (v := .int .i64 i1) rfl rfl rfl (by have h := HI1.out; go_simp) ?_
          refine wpT_valp 7 (v := .int .i64 i1) rfl rfl rfl (by go_simp) ?_
          first | dsimp only [wpT] | refine wpT_fin ?_
          try simp only [Act.put, List.setIfInBounds_toArray, List.set_cons_succ, List.set_cons_zero]
          go_wp2_with fail
          go_roundw
          case rel => exact ⟨i1, HSTEP.out HH.out, rfl, M2⟩
          case measure => have := HII.out; simp only [intOf]; omega
      · rw [decide_eq_false hk] at HRK hh
        rw [Bool.and_false] at hh
        have HH := hid hh
        clear hk hh
        go_upto_region 2 with fail
        refine wp_region_lin (.op 0 (.op 1 (.op 2 (.op 3 (.op 4 .done))))) (by rfl) ?_
        refine wpT_valp 8 (v := .int .i64 i) rfl rfl rfl (by go_simp) ?_
        refine wpT_valp 9 (v := .pointer (some ⟨w.heap.size, 0, none⟩)) rfl rfl rfl (by go_simp) ?_
        refine wpT_valp 10 (v := .slice (some ⟨g, o, none⟩) m c) rfl rfl rfl (by have c0 := rs_c0 (M.row (b := w.heap.size) (c := RSR (.slice (some ⟨g, o, none⟩) m c) most) (by simp)); go_simp) ?_
        refine wpT_valp 11 (v := .int .i64 m) rfl rfl rfl (by go_simp) ?_
        try simp only [Act.put, List.setIfInBounds_toArray, List.set_cons_succ, List.set_cons_zero]
        refine wpT_valp 12 (v := .bool true) rfl rfl rfl (by go_simp) ?_
        first | dsimp only [wpT] | refine wpT_fin ?_
        try simp only [Act.put, List.setIfInBounds_toArray, List.set_cons_succ, List.set_cons_zero]
        go_upto_region 4 with fail
        refine wp_region_seq 18 [15, 16, 17, 18, 19, 20, 21, 22, 23, 24, 25, 26, 27, 28, 29, 30, 31, 32] [] [] [] (.done) (Mm no w _) (by kernel_rfl) (by kernel_rfl) (by kernel_rfl) (fun d _ _ _ _ h => by cases d <;> exact h) (by rfl) M.size (fun _ _ h k => h.sf k) M ?_
        simp only [List.take_succ_cons, List.take_zero]
        refine SeqA.pure (.pointer (some ⟨w.heap.size, 0, none⟩)) (fun w' => by go_simp) rfl rfl ?_
        refine SeqA.read (.slice (some ⟨g, o, none⟩) m c) (fun w' M => by have c0 := rs_c0 (M.row (b := w.heap.size) (c := RSR (.slice (some ⟨g, o, none⟩) m c) most) (by simp)); go_simp) rfl rfl ?_
        refine SeqA.pure (.int .i64 i) (fun w' => by go_simp) rfl rfl ?_
        refine SeqA.pure (.pointer (some ⟨g, o + i * 65, none⟩)) (fun w' => by go_simp) rfl rfl ?_
        refine SeqA.pure (.pointer (some ⟨g, o + i * 65 + 0, none⟩)) (fun w' => by go_simp) rfl rfl ?_
        simp only [Act.put, List.setIfInBounds_toArray, List.set_cons_succ, List.set_cons_zero]
        refine SeqA.ldy (.pointer (some ⟨g, o + i * 65 + 0, none⟩)) (.agg (cs U8 x.pub.l)) rfl (by go_simp) (fun w' M => HPL.out _ M.end_) rfl ?_
        refine SeqA.ld0 Try.underlying28 rfl inf_key (w.heap.size + 1) (cs U8 p.l) rfl (by go_simp) (fun _ M => M.row (b := w.heap.size + 1) (c := cs U8 p.l) (by simp)) (by simp [Ky.len, ENR_size, RSR_size]) rfl ?_
        refine SeqA.pure (.bool false) (fun w' => by have q := eqin_key w' x.pub.l p.l (by simp) (by simp); have h := HRK.out; go_simp) rfl rfl ?_
        refine SeqA.pure (.bool false) (fun w' => by go_simp) rfl rfl ?_
        refine SeqA.skip rfl (by simp [Region.wanted, yielded, Act.put]) ?_ rfl
        refine SeqA.skip rfl (by simp [Region.wanted, yielded, Act.put]) ?_ rfl
        simp only [Act.put, List.setIfInBounds_toArray, List.set_cons_succ, List.set_cons_zero]
        refine SeqA.skip rfl (by simp [Region.wanted, yielded, Act.put]) ?_ rfl
        refine SeqA.skip rfl (by simp [Region.wanted, yielded, Act.put]) ?_ rfl
        refine SeqA.skip rfl (by simp [Region.wanted, yielded, Act.put]) ?_ rfl
        refine SeqA.skip rfl (by simp [Region.wanted, yielded, Act.put]) ?_ rfl
        refine SeqA.skip rfl (by simp [Region.wanted, yielded, Act.put]) ?_ rfl
        refine SeqA.skip rfl (by simp [Region.wanted, yielded, Act.put]) ?_ rfl
        simp only [Act.put, List.setIfInBounds_toArray, List.set_cons_succ, List.set_cons_zero]
        refine SeqA.pure (.bool false) (fun w' => by go_simp) rfl rfl ?_
        refine SeqA.nil (fun w1 M2 hz => ?_)
        show wpT _ _ _ _ _ _
        simp only [Act.put, List.setIfInBounds_toArray, List.set_cons_succ, List.set_cons_zero]
        first | dsimp only [wpT] | refine wpT_fin ?_
        go_upto_region 3 with fail
        refine wp_region_lin (.op 0 (.op 1 (.op 2 .done))) (by rfl) ?_
        refine wpT_valp 13 (v := .int .i64 i) rfl rfl rfl (by go_simp) ?_
        refine wpT_valp 14 (v := .int .i64 i1) rfl rfl rfl (by have h := HI1.out; go_simp) ?_
        refine wpT_valp 7 (v := .int .i64 i1) rfl rfl rfl (by go_simp) ?_
        first | dsimp only [wpT] | refine wpT_fin ?_
        try simp only [Act.put, List.setIfInBounds_toArray, List.set_cons_succ, List.set_cons_zero]
        go_wp2_with fail
        go_roundw
        case rel => exact ⟨i1, HSTEP.out HH.out, rfl, M2⟩
        case measure => have := HII.out; simp only [intOf]; omega
    · obtain rfl : m = i := by omega
      obtain rfl := HNO.out (by omega)
      go_upto_region 2 with fail
      refine wp_region_lin (.op 0 (.op 1 (.op 2 (.op 3 (.op 4 .done))))) (by rfl) ?_
      refine wpT_valp 8 (v := .int .i64 m) rfl rfl rfl (by go_simp) ?_
      refine wpT_valp 9 (v := .pointer (some ⟨w.heap.size, 0, none⟩)) rfl rfl rfl (by go_simp) ?_
      refine wpT_valp 10 (v := .slice a m c) rfl rfl rfl (by have c0 := rs_c0 (M.row (b := w.heap.size) (c := RSR (.slice a m c) most) (by simp)); go_simp) ?_
      refine wpT_valp 11 (v := .int .i64 m) rfl rfl rfl (by go_simp) ?_
      try simp only [Act.put, List.setIfInBounds_toArray, List.set_cons_succ, List.set_cons_zero]
      refine wpT_valp 12 (v := .bool false) rfl rfl rfl (by go_simp) ?_
      first | dsimp only [wpT] | refine wpT_fin ?_
      try simp only [Act.put, List.setIfInBounds_toArray, List.set_cons_succ, List.set_cons_zero]
      go_upto_region 6 with fail
      refine wp_region_lin (.op 0 .done) (by rfl) ?_
      refine wpT_valp 6 (v := .int .i64 (-1)) rfl rfl rfl (by go_simp) ?_
      first | dsimp only [wpT] | refine wpT_fin ?_
      try simp only [Act.put, List.setIfInBounds_toArray, List.set_cons_succ, List.set_cons_zero]
      go_wp2_with fail
      go_ret
      exact ⟨rfl, M.end_⟩
set_option maxRecDepth 100000 in
set_option maxHeartbeats 4000000 in
theorem rget_c (w : World) (a : Option Addr) (m c : Nat) (L : List Sk.En) (most : Int) (hv : SV w (.slice a m c) m (fl eE L)) (hn : L.length = m) (p : Ky) (n : Int) :
    Calls Try.prog 19 #[.agg (RSR (.slice a m c) most), .agg (cs U8 p.l), .int .i64 n] w fun e w' => e = .returned (.tuple #[.agg (cs U8 (Sk.get L p n).1.l), .int .i64 (Sk.get L p n).2]) ∧ Below w.heap.size w w' := by
  have HV := hid hv
  have HLM := hid hn
  by_cases hf : Sk.find L p n < L.length
  · obtain ⟨i, hi⟩ : ∃ i, i = Sk.find L p n := ⟨_, rfl⟩
    rw [← hi] at hf
    obtain ⟨x, hx⟩ : ∃ x, L[i]? = some x := ⟨_, List.getElem?_eq_getElem hf⟩
    rw [show Sk.get L p n = (x.key, 0) by unfold Sk.get; rw [← hi, hx]]
    obtain ⟨r, hr⟩ : ∃ r : Int, r = (i : Int) := ⟨_, rfl⟩
    have HRI := hid hr
    have HNF := hid (show fndR L p n = r by unfold fndR; rw [← hi, if_pos hf, hr])
    obtain ⟨g, o, c', e⟩ := sv_some eE_len (by decide) hv (by omega)
    injection e with e1 e2 e3
    subst e1
    clear e2 e3
    have HEL : Hid (∀ w', Below w.heap.size w w' → exLoad Try.prog 28 (.pointer (some ⟨g, o + i * 65 + 32, none⟩)) w' = .ok (.value (.agg (cs U8 x.key.l))) w') := hid fun w' h => sv_key (SV.below HV.out h) hx
    have hlt : (i : Int) < (m : Int) := by omega
    have hi00 : (0 : Int) ≤ (i : Int) := by omega
    have hrl : ¬ r < 0 := by omega
    clear hv hn hx hi hf hr
    have M0 := Mm.start no w
    go_enter Try.func19, Try.ntmps19
    have M2 := (((M0.alloc (RSR (.slice (some ⟨g, o, none⟩) m c) most) 45 (by decide)).alloc (cs U8 p.l) 28 (by decide)).alloc (cs U8 (zs 32)) 28 (by decide))
    try simp only [World.size_alloc] at M2
    go_upto_region 1 with fail
    obtain ⟨w1, hw1⟩ : ∃ w1, w1 = (((w.alloc (.cells (RSR (.slice (some ⟨g, o, none⟩) m c) most) 45)).alloc (.cells (cs U8 p.l) 28)).alloc (.cells (cs U8 (zs 32)) 28)) := ⟨_, rfl⟩
    rw [← hw1] at M2 ⊢
    clear hw1
    refine wp_region_lin (.op 0 (.op 1 (.op 2 (.op 3 (.op 4 .done))))) (by rfl) ?_
    refine wpT_ld0 9 Try.underlying45 rfl inf_rst (w.heap.size) (RSR (.slice (some ⟨g, o, none⟩) m c) most) rfl rfl rfl (by go_simp) (M2.row (b := w.heap.size) (c := RSR (.slice (some ⟨g, o, none⟩) m c) most) (by simp)) (by simp [Ky.len, ENR_size, RSR_size]) rfl ?_
    refine wpT_ld0 10 Try.underlying28 rfl inf_key (w.heap.size + 1) (cs U8 p.l) rfl rfl rfl (by go_simp) (M2.row (b := w.heap.size + 1) (c := cs U8 p.l) (by simp)) (by simp [Ky.len, ENR_size, RSR_size]) rfl ?_
    refine wpT_valp 11 (v := .int .i64 n) rfl rfl rfl (by go_simp) ?_
    refine wpT_callv 12 M2 (v := .int .i64 r) rfl rfl rfl (by go_simp) (rfind_c w1 _ m c L most (HV.out.below M2.end_) HLM.out p n r HNF.out) (fun w3 M4 => ?_)
    try simp only [Act.put, List.setIfInBounds_toArray, List.set_cons_succ, List.set_cons_zero]
    refine wpT_valp 8 (v := .int .i64 r) rfl rfl rfl (by go_simp) ?_
    first | dsimp only [wpT] | refine wpT_fin ?_
    try simp only [Act.put, List.setIfInBounds_toArray, List.set_cons_succ, List.set_cons_zero]
    go_upto_region 2 with fail
    refine wp_region_lin (.op 0 (.op 1 .done)) (by rfl) ?_
    refine wpT_valp 13 (v := .int .i64 r) rfl rfl rfl (by go_simp) ?_
    refine wpT_valp 14 (v := .bool false) rfl rfl rfl (by go_simp) ?_
    first | dsimp only [wpT] | refine wpT_fin ?_
    try simp only [Act.put, List.setIfInBounds_toArray, List.set_cons_succ, List.set_cons_zero]
    go_upto_region 4 with fail
    obtain rfl := HRI.out
    refine wp_region_lin (.op 0 (.op 1 (.op 2 (.op 3 (.op 4 (.op 5 (.op 6 (.op 7 .done)))))))) (by rfl) ?_
    refine wpT_valp 16 (v := .pointer (some ⟨w.heap.size, 0, none⟩)) rfl rfl rfl (by go_simp) ?_
    refine wpT_valp 17 (v := .slice (some ⟨g, o, none⟩) m c) rfl rfl rfl (by have c0 := rs_c0 (M4.row (b := w.heap.size) (c := RSR (.slice (some ⟨g, o, none⟩) m c) most) (by simp)); go_simp) ?_
    refine wpT_valp 18 (v := .int .i64 i) rfl rfl rfl (by go_simp) ?_
    refine wpT_valp 19 (v := .pointer (some ⟨g, o + i * 65, none⟩)) rfl rfl rfl (by go_simp) ?_
    try simp only [Act.put, List.setIfInBounds_toArray, List.set_cons_succ, List.set_cons_zero]
    refine wpT_valp 20 (v := .pointer (some ⟨g, o + i * 65 + 32, none⟩)) rfl rfl rfl (by go_simp) ?_
    refine wpT_ldy 21 (.pointer (some ⟨g, o + i * 65 + 32, none⟩)) (.agg (cs U8 x.key.l)) rfl rfl rfl (by go_simp) (HEL.out _ M4.end_) rfl ?_
    refine wpT_st0 M4 0 (cs U8 x.key.l) inf_key rfl rfl rfl rfl (by go_simp) (by go_simp) (by simp [Ky.len, ENR_size, RSR_size]) (by simp [Ky.len, ENR_size, RSR_size]) (by simp [go_sem]) rfl (fun w5 M6 => ?_)
    dsimp only [List.set] at M6
    refine wpT_valp 7 (v := .int .i64 0) rfl rfl rfl (by go_simp) ?_
    first | dsimp only [wpT] | refine wpT_fin ?_
    try simp only [Act.put, List.setIfInBounds_toArray, List.set_cons_succ, List.set_cons_zero]
    go_wp2_with fail
    have r7 := M6.row (b := w.heap.size + 1 + 1) (c := cs U8 x.key.l) (by simp)
    refine bodyPost_ret (res_two rfl (rv_row Try.underlying28 rfl inf_key (w.heap.size + 1 + 1) rfl (by rw [r7]; simp [Ky.len, ENR_size, RSR_size])) (rv_tmp _ _ rfl)) rfl ?_
    rw [r7]
    exact ⟨rfl, M6.end_⟩
  · rw [show Sk.get L p n = (Ky.zero, 9) by unfold Sk.get; rw [List.getElem?_eq_none (by omega)]]
    obtain ⟨r, hr⟩ : ∃ r : Int, r = -1 := ⟨_, rfl⟩
    have HNF := hid (show fndR L p n = r by unfold fndR; rw [if_neg hf, hr])
    have hrl : r < 0 := by omega
    clear hv hn hf hr
    have M0 := Mm.start no w
    go_enter Try.func19, Try.ntmps19
    have M2 := (((M0.alloc (RSR (.slice a m c) most) 45 (by decide)).alloc (cs U8 p.l) 28 (by decide)).alloc (cs U8 (zs 32)) 28 (by decide))
    try simp only [World.size_alloc] at M2
    go_upto_region 1 with fail
    obtain ⟨w1, hw1⟩ : ∃ w1, w1 = (((w.alloc (.cells (RSR (.slice a m c) most) 45)).alloc (.cells (cs U8 p.l) 28)).alloc (.cells (cs U8 (zs 32)) 28)) := ⟨_, rfl⟩
    rw [← hw1] at M2 ⊢
    clear hw1
    refine wp_region_lin (.op 0 (.op 1 (.op 2 (.op 3 (.op 4 .done))))) (by rfl) ?_
    refine wpT_ld0 9 Try.underlying45 rfl inf_rst (w.heap.size) (RSR (.slice a m c) most) rfl rfl rfl (by go_simp) (M2.row (b := w.heap.size) (c := RSR (.slice a m c) most) (by simp)) (by simp [Ky.len, ENR_size, RSR_size]) rfl ?_
    refine wpT_ld0 10 Try.underlying28 rfl inf_key (w.heap.size + 1) (cs U8 p.l) rfl rfl rfl (by go_simp) (M2.row (b := w.heap.size + 1) (c := cs U8 p.l) (by simp)) (by simp [Ky.len, ENR_size, RSR_size]) rfl ?_
    refine wpT_valp 11 (v := .int .i64 n) rfl rfl rfl (by go_simp) ?_
    refine wpT_callv 12 M2 (v := .int .i64 r) rfl rfl rfl (by go_simp) (rfind_c w1 _ m c L most (HV.out.below M2.end_) HLM.out p n r HNF.out) (fun w3 M4 => ?_)
    try simp only [Act.put, List.setIfInBounds_toArray, List.set_cons_succ, List.set_cons_zero]
    refine wpT_valp 8 (v := .int .i64 r) rfl rfl rfl (by go_simp) ?_
    first | dsimp only [wpT] | refine wpT_fin ?_
    try simp only [Act.put, List.setIfInBounds_toArray, List.set_cons_succ, List.set_cons_zero]
    go_upto_region 2 with fail
    refine wp_region_lin (.op 0 (.op 1 .done)) (by rfl) ?_
    refine wpT_valp 13 (v := .int .i64 r) rfl rfl rfl (by go_simp) ?_
    refine wpT_valp 14 (v := .bool true) rfl rfl rfl (by go_simp) ?_
    first | dsimp only [wpT] | refine wpT_fin ?_
    try simp only [Act.put, List.setIfInBounds_toArray, List.set_cons_succ, List.set_cons_zero]
    go_upto_region 3 with fail
    refine wp_region_lin (.op 0 (.op 1 (.op 2 .done))) (by rfl) ?_
    refine wpT_valL 15 (v := .agg (cs U8 Ky.zero.l)) rfl rfl rfl (by have q := xb_k0z w3; go_simp) ?_
    refine wpT_st0 M4 0 (cs U8 Ky.zero.l) inf_key rfl rfl rfl rfl (by go_simp) (by go_simp) (by simp [Ky.len, ENR_size, RSR_size]) (by simp [Ky.len, ENR_size, RSR_size]) (by simp [go_sem]) rfl (fun w5 M6 => ?_)
    dsimp only [List.set] at M6
    refine wpT_valp 7 (v := .int .i64 9) rfl rfl rfl (by go_simp) ?_
    first | dsimp only [wpT] | refine wpT_fin ?_
    try simp only [Act.put, List.setIfInBounds_toArray, List.set_cons_succ, List.set_cons_zero]
    go_wp2_with fail
    have r7 := M6.row (b := w.heap.size + 1 + 1) (c := cs U8 Ky.zero.l) (by simp)
    refine bodyPost_ret (res_two rfl (rv_row Try.underlying28 rfl inf_key (w.heap.size + 1 + 1) rfl (by rw [r7]; simp [Ky.len, ENR_size, RSR_size])) (rv_tmp _ _ rfl)) rfl ?_
    rw [r7]
    exact ⟨rfl, M6.end_⟩
set_option maxRecDepth 100000 in
set_option maxHeartbeats 4000000 in
theorem rsame_c (w : World) (u v : Value) (m : Nat) (L : List Sk.En) (hu : SV w u m (fl eE L)) (hv : SV w v m (fl eE L)) (hn : L.length = m) :
    Calls Try.prog 20 #[u, v] w fun e w' => e = .returned (.bool true) ∧ Below w.heap.size w w' := by
  have HU := hid hu
  have HV := hid hv
  have HLM := hid hn
  have hmx : m ≤ 9223372036854775807 := by obtain ⟨_, _, e, h1, h2, _⟩ := hv; unfold maxLen at h2; omega
  by_cases h0 : m = 0
  · subst h0
    obtain ⟨a, c, rfl, _⟩ := hu
    obtain ⟨a2, c2, rfl, _⟩ := hv
    clear HU HV HLM hn
    have M0 := Mm.start no w
    go_enter Try.func20, Try.ntmps20
    go_upto_region 1 with fail
    refine wp_region_lin (.op 0 (.op 1 (.op 2 (.op 3 (.op 4 .done))))) (by rfl) ?_
    refine wpT_valp 6 (v := .slice a 0 c) rfl rfl rfl (by go_simp) ?_
    refine wpT_valp 7 (v := .int .i64 0) rfl rfl rfl (by go_simp) ?_
    refine wpT_valp 8 (v := .slice a2 0 c2) rfl rfl rfl (by go_simp) ?_
    refine wpT_valp 9 (v := .int .i64 0) rfl rfl rfl (by go_simp) ?_
    try simp only [Act.put, List.setIfInBounds_toArray, List.set_cons_succ, List.set_cons_zero]
    refine wpT_valp 10 (v := .bool false) rfl rfl rfl (by go_simp) ?_
    first | dsimp only [wpT] | refine wpT_fin ?_
    try simp only [Act.put, List.setIfInBounds_toArray, List.set_cons_succ, List.set_cons_zero]
    go_upto_region 3 with fail
    refine wp_region_lin (.op 0 .done) (by rfl) ?_
    refine wpT_valp 5 (v := .int .i64 0) rfl rfl rfl (by go_simp) ?_
    first | dsimp only [wpT] | refine wpT_fin ?_
    try simp only [Act.put, List.setIfInBounds_toArray, List.set_cons_succ, List.set_cons_zero]
    go_wp2_with fail
    go_loopw [5] (fun x wr => x = .int .i64 0 ∧ Mm no w [] wr) (fun x _ => 0)
    case atStart => exact ⟨rfl, M0⟩
    case round =>
      clear M0
      obtain ⟨rfl, M⟩ := hrel
      go_upto_region 4 with fail
      refine wp_region_lin (.op 0 (.op 1 (.op 2 (.op 3 .done)))) (by rfl) ?_
      refine wpT_valp 11 (v := .int .i64 0) rfl rfl rfl (by go_simp) ?_
      refine wpT_valp 12 (v := .slice a 0 c) rfl rfl rfl (by go_simp) ?_
      refine wpT_valp 13 (v := .int .i64 0) rfl rfl rfl (by go_simp) ?_
      refine wpT_valp 14 (v := .bool false) rfl rfl rfl (by go_simp) ?_
      first | dsimp only [wpT] | refine wpT_fin ?_
      try simp only [Act.put, List.setIfInBounds_toArray, List.set_cons_succ, List.set_cons_zero]
      go_upto_region 8 with fail
      refine wp_region_lin (.op 0 .done) (by rfl) ?_
      refine wpT_valp 4 (v := .bool true) rfl rfl rfl (by go_simp) ?_
      first | dsimp only [wpT] | refine wpT_fin ?_
      try simp only [Act.put, List.setIfInBounds_toArray, List.set_cons_succ, List.set_cons_zero]
      go_wp2_with fail
      go_ret
      exact ⟨rfl, M.end_⟩
  · obtain ⟨g, o, c, rfl⟩ := sv_some eE_len (by decide) hu (by omega)
    obtain ⟨g2, o2, c2, rfl⟩ := sv_some eE_len (by decide) hv (by omega)
    clear hu hv hn
    have M0 := Mm.start no w
    go_enter Try.func20, Try.ntmps20
    go_upto_region 1 with fail
    refine wp_region_lin (.op 0 (.op 1 (.op 2 (.op 3 (.op 4 .done))))) (by rfl) ?_
    refine wpT_valp 6 (v := .slice (some ⟨g, o, none⟩) m c) rfl rfl rfl (by go_simp) ?_
    refine wpT_valp 7 (v := .int .i64 m) rfl rfl rfl (by go_simp) ?_
    refine wpT_valp 8 (v := .slice (some ⟨g2, o2, none⟩) m c2) rfl rfl rfl (by go_simp) ?_
    refine wpT_valp 9 (v := .int .i64 m) rfl rfl rfl (by go_simp) ?_
    try simp only [Act.put, List.setIfInBounds_toArray, List.set_cons_succ, List.set_cons_zero]
    refine wpT_valp 10 (v := .bool false) rfl rfl rfl (by go_simp) ?_
    first | dsimp only [wpT] | refine wpT_fin ?_
    try simp only [Act.put, List.setIfInBounds_toArray, List.set_cons_succ, List.set_cons_zero]
    go_upto_region 3 with fail
    refine wp_region_lin (.op 0 .done) (by rfl) ?_
    refine wpT_valp 5 (v := .int .i64 0) rfl rfl rfl (by go_simp) ?_
    first | dsimp only [wpT] | refine wpT_fin ?_
    try simp only [Act.put, List.setIfInBounds_toArray, List.set_cons_succ, List.set_cons_zero]
    go_wp2_with fail
    go_loopw [5] (fun x wr => ∃ i : Nat, i ≤ m ∧ x = .int .i64 i ∧ Mm no w [] wr) (fun x _ => m - (intOf x).toNat)
    case atStart => exact ⟨0, by omega, rfl, M0⟩
    case round =>
      clear M0
      obtain ⟨i, hi, rfl, M⟩ := hrel
      by_cases hin : i < m
      · have hlt : (i : Int) < (m : Int) := by omega
        have hi00 : (0 : Int) ≤ (i : Int) := by omega
        obtain ⟨x, hx⟩ : ∃ x, L[i]? = some x := ⟨_, List.getElem?_eq_getElem (by have := HLM.out; omega)⟩
        have HE1 : Hid (∀ w', Below w.heap.size w w' → exLoad Try.prog 60 (.pointer (some ⟨g, o + i * 65, none⟩)) w' = .ok (.value (.agg (ENR x))) w') := hid fun w' h => sv_en (SV.below HU.out h) hx
        have HE2 : Hid (∀ w', Below w.heap.size w w' → exLoad Try.prog 60 (.pointer (some ⟨g2, o2 + i * 65, none⟩)) w' = .ok (.value (.agg (ENR x))) w') := hid fun w' h => sv_en (SV.below HV.out h) hx
        obtain ⟨i1, hi1⟩ : ∃ j, j = i + 1 := ⟨_, rfl⟩
        have HI1 := hid (show IntKind.i64.wrap ((i : Int) + 1) = (i1 : Int) by rw [i64w (by omega) (by omega), hi1]; rfl)
        have HII := hid hi1
        clear hx hi1
        go_upto_region 4 with fail
        refine wp_region_lin (.op 0 (.op 1 (.op 2 (.op 3 .done)))) (by rfl) ?_
        refine wpT_valp 11 (v := .int .i64 i) rfl rfl rfl (by go_simp) ?_
        refine wpT_valp 12 (v := .slice (some ⟨g, o, none⟩) m c) rfl rfl rfl (by go_simp) ?_
        refine wpT_valp 13 (v := .int .i64 m) rfl rfl rfl (by go_simp) ?_
        refine wpT_valp 14 (v := .bool true) rfl rfl rfl (by go_simp) ?_
        first | dsimp only [wpT] | refine wpT_fin ?_
        try simp only [Act.put, List.setIfInBounds_toArray, List.set_cons_succ, List.set_cons_zero]
        go_upto_region 6 with fail
        refine wp_region_seq 9 [17, 18, 19, 20, 21, 22, 23, 24, 25] [] [] [] (.done) (Mm no w _) (by kernel_rfl) (by kernel_rfl) (by kernel_rfl) (fun d _ _ _ _ h => by cases d <;> exact h) (by rfl) M.size (fun _ _ h k => h.sf k) M ?_
        simp only [List.take_succ_cons, List.take_zero]
        refine SeqA.pure (.slice (some ⟨g, o, none⟩) m c) (fun w' => by go_simp) rfl rfl ?_
        refine SeqA.pure (.int .i64 i) (fun w' => by go_simp) rfl rfl ?_
        refine SeqA.pure (.pointer (some ⟨g, o + i * 65, none⟩)) (fun w' => by go_simp) rfl rfl ?_
        refine SeqA.ldy (.pointer (some ⟨g, o + i * 65, none⟩)) (.agg (ENR x)) rfl (by go_simp) (fun w' M => HE1.out _ M.end_) rfl ?_
        refine SeqA.pure (.slice (some ⟨g2, o2, none⟩) m c2) (fun w' => by go_simp) rfl rfl ?_
        simp only [Act.put, List.setIfInBounds_toArray, List.set_cons_succ, List.set_cons_zero]
        refine SeqA.pure (.int .i64 i) (fun w' => by go_simp) rfl rfl ?_
        refine SeqA.pure (.pointer (some ⟨g2, o2 + i * 65, none⟩)) (fun w' => by go_simp) rfl rfl ?_
        refine SeqA.ldy (.pointer (some ⟨g2, o2 + i * 65, none⟩)) (.agg (ENR x)) rfl (by go_simp) (fun w' M => HE2.out _ M.end_) rfl ?_
        refine SeqA.pure (.bool false) (fun w' => by go_simp) rfl rfl ?_
        refine SeqA.nil (fun w1 M2 hz => ?_)
        show wpT _ _ _ _ _ _
        simp only [Act.put, List.setIfInBounds_toArray, List.set_cons_succ, List.set_cons_zero]
        first | dsimp only [wpT] | refine wpT_fin ?_
        go_upto_region 5 with fail
        refine wp_region_lin (.op 0 (.op 1 (.op 2 .done))) (by rfl) ?_
        refine wpT_valp 15 (v := .int .i64 i) rfl rfl rfl (by go_simp) ?_
        refine wpT_valp 16 (v := .int .i64 i1) rfl rfl rfl (by have h := HI1.out; go_simp) ?_
        refine wpT_valp 5 (v := .int .i64 i1) rfl rfl rfl (by go_simp) ?_
        first | dsimp only [wpT] | refine wpT_fin ?_
        try simp only [Act.put, List.setIfInBounds_toArray, List.set_cons_succ, List.set_cons_zero]
        go_wp2_with fail
        go_roundw
        case rel => exact ⟨i1, by have := HII.out; omega, rfl, M2⟩
        case measure => have := HII.out; simp only [intOf]; omega
      · obtain rfl : m = i := by omega
        go_upto_region 4 with fail
        refine wp_region_lin (.op 0 (.op 1 (.op 2 (.op 3 .done)))) (by rfl) ?_
        refine wpT_valp 11 (v := .int .i64 m) rfl rfl rfl (by go_simp) ?_
        refine wpT_valp 12 (v := .slice (some ⟨g, o, none⟩) m c) rfl rfl rfl (by go_simp) ?_
        refine wpT_valp 13 (v := .int .i64 m) rfl rfl rfl (by go_simp) ?_
        refine wpT_valp 14 (v := .bool false) rfl rfl rfl (by go_simp) ?_
        first | dsimp only [wpT] | refine wpT_fin ?_
        try simp only [Act.put, List.setIfInBounds_toArray, List.set_cons_succ, List.set_cons_zero]
        go_upto_region 8 with fail
        refine wp_region_lin (.op 0 .done) (by rfl) ?_
        refine wpT_valp 4 (v := .bool true) rfl rfl rfl (by go_simp) ?_
        first | dsimp only [wpT] | refine wpT_fin ?_
        try simp only [Act.put, List.setIfInBounds_toArray, List.set_cons_succ, List.set_cons_zero]
        go_wp2_with fail
        go_ret
        exact ⟨rfl, M.end_⟩
end Go.Proofs.Ytojkcbhmhfjioaa
