/-
  Law 06: what its walks need, and that the package is alive; own work.
-/
import Derived.Test.YtbigmnhjnjeeaaaDoorAea2
import Derived.Test.YtbigmnhjnjeeaaaDoorEqK
import Derived.Test.YtbigmnhjnjeeaaaDoorStep
set_option linter.unusedSimpArgs false
set_option linter.unusedVariables false
namespace Go.Proofs.YtbigmnhjnjeeaaaDoor
open Go.RowKit
theorem wpT_vald {P : Program} {ops : Array Oper} {Q : Exit → Act → World → Prop} {i : Nat} {t : Tr} {a : Act} {w w' : World} {o : Oper} (d : Nat) {v : Value} (hd : o.dst = some d) (ho : ops[i]? = some o) (hw : Region.wanted o (yielded ops a.tmps) = true) (hrun : (execOp a.eval o).run P w = .ok (.value v) w')
    (h : wpT P ops Q t (a.put (some d) v) w') : wpT P ops Q (.op i t) a w := wpT_val ho hw hrun (by rw [hd]; exact h)
theorem str_tl6 (a b : List (BitVec 8)) : ((Bs a).toList == (Bs b).toList) = (a == b) := by
  rw [ByteArray.toList_eq, ByteArray.toList_eq]
  have h : ∀ l, (Bs l).data.toList = l.map UInt8.ofBitVec := fun l => by simp [Bs]
  rw [h, h, map_u8_beq]
@[go_sem] theorem eqin_tag6 (w : World) (a b : List (BitVec 8)) (ha : a.length = 16) (hb : b.length = 16) : (Op.equalIn 10000 40 (.agg (cs U8 a)) (.agg (cs U8 b))).run Tryd.prog w = .ok (a == b) w := by
  rw [cs8_cell, cs8_cell, run_equalIn_bytes w 9998 40 5 16 Tryd.underlying40 Tryd.underlying5 (fun w => by kernel_rfl) _ _ (by simpa using ha) (by simpa using hb), map_u8_beq]
@[go_sem] theorem arr_nonce (w : World) (a : Option Addr) (n c : Nat) (h : 12 ≤ n) : (Instr.arrayAt 29 (.slice a n c)).run Tryd.prog w = .ok (.pointer a) w := run_arrayAt _ _ 5 12 a n c Tryd.underlying29 h
@[go_sem ↓] theorem rb_nonce (ρ : Operand → Value) (dst : Option Tmp) (ty : TypeId) (pos : String) (after : Array Edge) (guard : Option (Nat × Bool)) (w : World) (ps : Array (Nat × Operand)) :
    (execOp ρ { dst, op := .build 29 ps, type := ty, pos, after, guard }).run Tryd.prog w = exBuild Tryd.prog 29 (ps.map fun p => (p.1, ρ p.2)) w := x_build ..
theorem xb_key123 (w : World) : exBuild Tryd.prog 23 #[(0, .int .u8 1), (1, .int .u8 2), (2, .int .u8 3)] w = .ok (.value (.agg (cs U8 (1 :: 2 :: 3 :: zs 29)))) w := by
  unfold exBuild; rw [run_build w _ _ (cs U8 (1 :: 2 :: 3 :: zs 29)) (by kernel_rfl)]; rfl
theorem xb_nonce0 (w : World) : exBuild Tryd.prog 29 #[] w = .ok (.value (.agg (cs U8 (zs 12)))) w := by
  unfold exBuild; rw [run_build w _ _ (cs U8 (zs 12)) (by kernel_rfl)]; rfl
theorem xb_nonce1 (w : World) : exBuild Tryd.prog 29 #[(0, .int .u8 1)] w = .ok (.value (.agg (cs U8 (1 :: zs 11)))) w := by
  unfold exBuild; rw [run_build w _ _ (cs U8 (1 :: zs 11)) (by kernel_rfl)]; rfl
theorem xb_nonce4 (w : World) : exBuild Tryd.prog 29 #[(0, .int .u8 4)] w = .ok (.value (.agg (cs U8 (4 :: zs 11)))) w := by
  unfold exBuild; rw [run_build w _ _ (cs U8 (4 :: zs 11)) (by kernel_rfl)]; rfl
/-- seal and open, where their answers are only known as bytes -/
theorem seal_v {w0 w : World} {k n o b s : List (BitVec 8)} {vo vb : Value} (hs : s = Ad.sealed k n o b) (hT : KT w0 ∧ 0 < w0.heap.size) (hw : Below w0.heap.size w0 w) (hk : k.length = 32) (hn : n.length = 12) (hvo : BS w vo o) (hvb : BS w vb b) (hol : o.length ≤ 65520) (hbl : b.length ≤ 65520) :
    Calls Tryd.prog 13 #[.agg (cs U8 k), .agg (cs U8 n), vo, vb] w fun e w' => ∃ v, e = .returned (.tuple #[v, .int .i64 0]) ∧ BN w' w.heap.size v s ∧ Below w.heap.size w w' := by
  rw [hs]
  exact (Seal_c w k n o b vo vb ⟨hT.1.below hw hT.2, Nat.lt_of_lt_of_le hT.2 hw.size⟩ hk hn hvo hvb hol hbl).mono fun e w' ⟨v, h1, h2, h3⟩ => ⟨v, h1, h2.bn, h3⟩
theorem open_v {w0 w : World} {k n o c b : List (BitVec 8)} {vo vc : Value} (hb : b = Ad.hid k n (c.take (c.length - 16))) (hr : Ad.tag k n o (c.take (c.length - 16)) = c.drop (c.length - 16)) (hT : KT w0 ∧ 0 < w0.heap.size) (hw : Below w0.heap.size w0 w) (hk : k.length = 32) (hn : n.length = 12) (hvo : BS w vo o) (hvc : BS w vc c) (hol : o.length ≤ 65520) (hc : 16 ≤ c.length) (hcl : c.length ≤ 65536) :
    Calls Tryd.prog 14 #[.agg (cs U8 k), .agg (cs U8 n), vo, vc] w fun e w' => ∃ v, e = .returned (.tuple #[v, .int .i64 0]) ∧ BN w' w.heap.size v b ∧ Below w.heap.size w w' := by
  rw [hb]
  exact Open_c w k n o c vo vc true ⟨hT.1.below hw hT.2, Nat.lt_of_lt_of_le hT.2 hw.size⟩ hk hn hvo hvc hol hc hcl (by rw [hr]; simp)
theorem open_bad {w0 w : World} {k n o c : List (BitVec 8)} {vo vc : Value} (hr : Ad.tag k n o (c.take (c.length - 16)) ≠ c.drop (c.length - 16)) (hT : KT w0 ∧ 0 < w0.heap.size) (hw : Below w0.heap.size w0 w) (hk : k.length = 32) (hn : n.length = 12) (hvo : BS w vo o) (hvc : BS w vc c) (hol : o.length ≤ 65520) (hc : 16 ≤ c.length) (hcl : c.length ≤ 65536) :
    Calls Tryd.prog 14 #[.agg (cs U8 k), .agg (cs U8 n), vo, vc] w fun e w' => ∃ v, e = .returned (.tuple #[v, .int .i64 6]) ∧ BN w' w.heap.size v [] ∧ Below w.heap.size w w' :=
  Open_c w k n o c vo vc false ⟨hT.1.below hw hT.2, Nat.lt_of_lt_of_le hT.2 hw.size⟩ hk hn hvo hvc hol hc hcl (by simpa using hr)
theorem tagT_v {w0 w : World} {k n o h E : List (BitVec 8)} {vo vh : Value} (hE : E = Ad.tag k n o h) (hT : KT w0 ∧ 0 < w0.heap.size) (hw : Below w0.heap.size w0 w) (hk : k.length = 32) (hn : n.length = 12) (hvo : BS w vo o) (hvh : BS w vh h) (hol : o.length ≤ 65520) (hhl : h.length ≤ 65520) :
    Calls Tryd.prog 23 #[.agg (cs U8 k), .agg (cs U8 n), vo, vh] w fun e w' => e = .returned (.tuple #[.agg (cs U8 E), .int .i64 0]) ∧ Below w.heap.size w w' := by
  rw [hE]; exact Tag_c w k n o h vo vh ⟨hT.1.below hw hT.2, Nat.lt_of_lt_of_le hT.2 hw.size⟩ hk hn hvo hvh hol hhl
theorem sealed_open {k n o b s : List (BitVec 8)} (hs : s = Ad.sealed k n o b) : s.length = b.length + 16 ∧ Ad.tag k n o (s.take (s.length - 16)) = s.drop (s.length - 16) ∧ b = Ad.hid k n (s.take (s.length - 16)) := by
  have hl : s.length = b.length + 16 := by rw [hs, sealed_len]
  have e : s.length - 16 = b.length := by omega
  rw [e, hs, sealed_take, sealed_drop, hid_hid]
  exact ⟨by rw [sealed_len], rfl, rfl⟩
attribute [local irreducible] Ad.sealed Ad.tag Ad.hid
set_option maxRecDepth 100000 in
set_option maxHeartbeats 8000000 in
theorem alive6_c (w : World) (hT : KT w ∧ 0 < w.heap.size) : Calls Tryd.prog 20 #[] w fun e w' => e = .returned (.bool true) ∧ Below w.heap.size w w' := by
  have HT := hid hT
  obtain ⟨k, hk, hkb⟩ : ∃ k : List (BitVec 8), k.length = 32 ∧ ∀ w, exBuild Tryd.prog 23 #[(0, .int .u8 1), (1, .int .u8 2), (2, .int .u8 3)] w = .ok (.value (.agg (cs U8 k))) w := ⟨_, by simp [zs], xb_key123⟩
  obtain ⟨n, hn, hnb⟩ : ∃ n : List (BitVec 8), n.length = 12 ∧ ∀ w, exBuild Tryd.prog 29 #[(0, .int .u8 4)] w = .ok (.value (.agg (cs U8 n))) w := ⟨_, by simp [zs], xb_nonce4⟩
  have HKB := hid hkb
  have HNB := hid hnb
  obtain ⟨o, eo⟩ : ∃ o, o = ([111] : List (BitVec 8)) := ⟨_, rfl⟩
  have ho : o.length = 1 := by rw [eo]; rfl
  obtain ⟨b, eb⟩ : ∃ b, b = ([104, 101, 108, 108, 111] : List (BitVec 8)) := ⟨_, rfl⟩
  have hb : b.length = 5 := by rw [eb]; rfl
  obtain ⟨c, ec⟩ : ∃ c, c = ([115, 104, 111, 114, 116] : List (BitVec 8)) := ⟨_, rfl⟩
  have hc : c.length = 5 := by rw [ec]; rfl
  obtain ⟨s, es⟩ : ∃ s, s = Ad.sealed k n o b := ⟨_, rfl⟩
  obtain ⟨hs, ht, hh⟩ := sealed_open es
  have hs21 : s.length = 21 := by omega
  have HO := hid eo
  have HB := hid eb
  have HC := hid ec
  have HS := hid es
  have HTG := hid ht
  have HH := hid hh
  clear hT hkb hnb eo eb ec es hs ht hh
  have T0 := back0 (S := no) (w0 := w)
  have M0 := Mm.start no w
  go_enter Tryd.func20, Tryd.ntmps20
  go_upto_region 1 with fail
  refine wp_region_lin (.op 0 (.op 1 (.op 2 .done))) (by rfl) ?_
  refine wpT_valL 8 (v := .agg (cs U8 k)) rfl rfl rfl (by have q := HKB.out w; go_simp) ?_
  refine wpT_new (z := .agg (cs U8 (zs 32))) 1 M0 (by kernel_rfl) (by decide) rfl rfl rfl rfl (fun b1 w2 M3 => ?_)
  try dsimp only [Value.cells] at M3
  refine wpT_st0 M3 0 (cs U8 k) inf_key rfl rfl rfl rfl (by go_simp) (by go_simp) (by simp [hk, hn]) (by simp [hk, hn]) (by simp [go_sem]) rfl (fun w4 M5 => ?_)
  dsimp only [List.set] at M5
  dsimp only [wpT]
  try simp only [Act.put, List.setIfInBounds_toArray, List.set_cons_succ, List.set_cons_zero]
  go_upto_region 2 with fail
  refine wp_region_lin (.op 0 (.op 1 (.op 2 (.op 3 (.op 4 (.op 5 (.op 6 (.op 7 (.op 8 (.op 9 (.op 10 (.op 11 .done)))))))))))) (by rfl) ?_
  refine wpT_ld0 10 Tryd.underlying23 rfl inf_key (b1) (cs U8 k) rfl rfl rfl (by go_simp) (M5.row (by simp)) (by simp [hk, hn]) rfl ?_
  refine wpT_valL 11 (v := .agg (cs U8 n)) rfl rfl rfl (by have q := HNB.out w4; go_simp) ?_
  refine wpT_lit8 (len := 1) 12 13 M5 o ho (by decide) (by decide) rfl rfl rfl (by rw [HO.out]; go_simp; rfl) rfl rfl rfl rfl rfl (fun v => by go_simp) (fun g8 w6 K10 M7 B11 _ => ?_)

  try simp only [Act.put, List.setIfInBounds_toArray, List.set_cons_succ, List.set_cons_zero]
  refine wpT_lit8 (len := 5) 14 15 M7 b hb (by decide) (by decide) rfl rfl rfl (by rw [HB.out]; go_simp; rfl) rfl rfl rfl rfl rfl (fun v => by go_simp) (fun g14 w12 K16 M13 B17 _ => ?_)
  replace K10 := SV.below K10 B17

  refine wpT_callN 16 M13 (l := s) (fun v => .tuple #[v, .int .i64 0]) rfl rfl rfl (by go_simp) (seal_v HS.out HT.out (T0.out _ _ M13).end_ hk hn K10 K16 (by omega) (by omega)) (fun v18 w19 S21 M20 T22 K23 => ?_)
  replace T0 := backT T0 T22
  obtain ⟨A24, c25, rfl, -⟩ := (K23.out _ _ M20).1.shape' 21 hs21
  refine wpT_valp 9 (v := .tuple #[.slice A24 21 c25, .int .i64 0]) rfl rfl rfl (by go_simp) ?_
  refine wpT_valp 17 (v := .slice A24 21 c25) rfl rfl rfl (by go_simp) ?_
  try simp only [Act.put, List.setIfInBounds_toArray, List.set_cons_succ, List.set_cons_zero]
  refine wpT_valp 18 (v := .int .i64 0) rfl rfl rfl (by go_simp) ?_
  refine wpT_valp 2 (v := .slice A24 21 c25) rfl rfl rfl (by go_simp) ?_
  refine wpT_valp 3 (v := .int .i64 0) rfl rfl rfl (by go_simp) ?_
  dsimp only [wpT]
  try simp only [Act.put, List.setIfInBounds_toArray, List.set_cons_succ, List.set_cons_zero]
  go_upto_region 3 with fail
  refine wp_region_lin (.op 0 (.op 1 (.op 2 (.op 3 (.op 4 (.op 5 (.op 6 (.op 7 (.op 8 (.op 9 (.op 10 .done))))))))))) (by rfl) ?_
  refine wpT_ld0 20 Tryd.underlying23 rfl inf_key (b1) (cs U8 k) rfl rfl rfl (by go_simp) (M20.row (by simp)) (by simp [hk, hn]) rfl ?_
  refine wpT_valL 21 (v := .agg (cs U8 n)) rfl rfl rfl (by have q := HNB.out w19; go_simp) ?_
  refine wpT_lit8 (len := 1) 22 23 M20 o ho (by decide) (by decide) rfl rfl rfl (by rw [HO.out]; go_simp; rfl) rfl rfl rfl rfl rfl (fun v => by go_simp) (fun g28 w26 K30 M27 B31 _ => ?_)

  try simp only [Act.put, List.setIfInBounds_toArray, List.set_cons_succ, List.set_cons_zero]
  refine wpT_valp 24 (v := .slice A24 21 c25) rfl rfl rfl (by go_simp) ?_
  refine wpT_callN 25 M27 (l := b) (fun v => .tuple #[v, .int .i64 0]) rfl rfl rfl (by go_simp) (open_v HH.out HTG.out HT.out (T0.out _ _ M27).end_ hk hn K30 (K23.out _ _ M27).1 (by omega) (by omega) (by omega)) (fun v32 w33 S35 M34 T36 K37 => ?_)
  replace K23 := backT K23 T36
  replace T0 := backT T0 T36
  obtain ⟨A38, c39, rfl, -⟩ := (K37.out _ _ M34).1.shape' 5 hb
  refine wpT_valp 19 (v := .tuple #[.slice A38 5 c39, .int .i64 0]) rfl rfl rfl (by go_simp) ?_
  refine wpT_valp 26 (v := .slice A38 5 c39) rfl rfl rfl (by go_simp) ?_
  refine wpT_valp 27 (v := .int .i64 0) rfl rfl rfl (by go_simp) ?_
  try simp only [Act.put, List.setIfInBounds_toArray, List.set_cons_succ, List.set_cons_zero]
  refine wpT_valp 4 (v := .slice A38 5 c39) rfl rfl rfl (by go_simp) ?_
  refine wpT_valp 5 (v := .int .i64 0) rfl rfl rfl (by go_simp) ?_
  dsimp only [wpT]
  try simp only [Act.put, List.setIfInBounds_toArray, List.set_cons_succ, List.set_cons_zero]
  go_upto_region 4 with fail
  refine wp_region_lin (.op 0 (.op 1 (.op 2 (.op 3 (.op 4 (.op 5 (.op 6 (.op 7 (.op 8 (.op 9 .done)))))))))) (by rfl) ?_
  refine wpT_ld0 29 Tryd.underlying23 rfl inf_key (b1) (cs U8 k) rfl rfl rfl (by go_simp) (M34.row (by simp)) (by simp [hk, hn]) rfl ?_
  refine wpT_valL 30 (v := .agg (cs U8 n)) rfl rfl rfl (by have q := HNB.out w33; go_simp) ?_
  refine wpT_lit8 (len := 5) 31 32 M34 c hc (by decide) (by decide) rfl rfl rfl (by rw [HC.out]; go_simp; rfl) rfl rfl rfl rfl rfl (fun v => by go_simp) (fun g42 w40 K44 M41 B45 _ => ?_)

  try simp only [Act.put, List.setIfInBounds_toArray, List.set_cons_succ, List.set_cons_zero]
  refine wpT_callv 33 M41 (v := .tuple #[.slice none 0 0, .int .i64 4]) rfl rfl rfl (by go_simp) (Open_short w40 k n [] c (.slice none 0 0) _ hk hn (OB.nil w40 0).bs K44 (by omega)) (fun w46 M47 => ?_)
  refine wpT_valp 28 (v := .tuple #[.slice none 0 0, .int .i64 4]) rfl rfl rfl (by go_simp) ?_
  refine wpT_valp 34 (v := .slice none 0 0) rfl rfl rfl (by go_simp) ?_
  refine wpT_valp 35 (v := .int .i64 4) rfl rfl rfl (by go_simp) ?_
  refine wpT_valp 6 (v := .slice none 0 0) rfl rfl rfl (by go_simp) ?_
  try simp only [Act.put, List.setIfInBounds_toArray, List.set_cons_succ, List.set_cons_zero]
  refine wpT_valp 7 (v := .int .i64 4) rfl rfl rfl (by go_simp) ?_
  dsimp only [wpT]
  try simp only [Act.put, List.setIfInBounds_toArray, List.set_cons_succ, List.set_cons_zero]
  go_upto_region 5 with fail
  refine wp_region_lin (.op 0 (.op 1 (.op 2 (.op 3 (.op 4 (.op 5 (.op 6 (.op 7 (.op 8 (.op 9 (.op 10 (.op 11 (.op 12 (.op 13 (.op 14 (.op 15 (.op 16 (.op 17 (.op 18 (.op 19 (.op 20 .done))))))))))))))))))))) (by rfl) ?_
  refine wpT_valp 36 (v := .int .i64 0) rfl rfl rfl (by go_simp) ?_
  refine wpT_valp 37 (v := .bool true) rfl rfl rfl (by go_simp) ?_
  refine wpT_valp 38 (v := .bool true) rfl rfl rfl (by go_simp) ?_
  refine wpT_valp 39 (v := .slice A24 21 c25) rfl rfl (by simp [Region.wanted, yielded, Act.put]) (by go_simp) ?_
  try simp only [Act.put, List.setIfInBounds_toArray, List.set_cons_succ, List.set_cons_zero]
  refine wpT_valp 40 (v := .int .i64 21) rfl rfl (by simp [Region.wanted, yielded, Act.put]) (by go_simp) ?_
  refine wpT_valp 41 (v := .bool true) rfl rfl (by simp [Region.wanted, yielded, Act.put]) (by go_simp) ?_
  refine wpT_valp 42 (v := .bool true) rfl rfl rfl (by go_simp) ?_
  refine wpT_valp 43 (v := .bool true) rfl rfl rfl (by go_simp) ?_
  refine wpT_valp 44 (v := .int .i64 0) rfl rfl (by simp [Region.wanted, yielded, Act.put]) (by go_simp) ?_
  try simp only [Act.put, List.setIfInBounds_toArray, List.set_cons_succ, List.set_cons_zero]
  refine wpT_valp 45 (v := .bool true) rfl rfl (by simp [Region.wanted, yielded, Act.put]) (by go_simp) ?_
  refine wpT_valp 46 (v := .bool true) rfl rfl rfl (by go_simp) ?_
  refine wpT_valp 47 (v := .bool true) rfl rfl rfl (by go_simp) ?_
  refine wpT_valp 48 (v := .slice A38 5 c39) rfl rfl (by simp [Region.wanted, yielded, Act.put]) (by go_simp) ?_
  refine wpT_valp 49 (v := .string ⟨#[104, 101, 108, 108, 111]⟩) rfl rfl (by simp [Region.wanted, yielded, Act.put]) (by have s0 := bytes_str (K37.out _ _ M47).1; unfold Sv at s0; rw [HB.out] at s0; exact (by go_simp; rfl)) ?_
  try simp only [Act.put, List.setIfInBounds_toArray, List.set_cons_succ, List.set_cons_zero]
  refine wpT_valp 50 (v := .bool true) rfl rfl (by simp [Region.wanted, yielded, Act.put]) (by go_simp) ?_
  refine wpT_valp 51 (v := .bool true) rfl rfl rfl (by go_simp) ?_
  refine wpT_valp 52 (v := .bool true) rfl rfl rfl (by go_simp) ?_
  refine wpT_valp 53 (v := .int .i64 4) rfl rfl (by simp [Region.wanted, yielded, Act.put]) (by go_simp) ?_
  refine wpT_valp 54 (v := .bool true) rfl rfl (by simp [Region.wanted, yielded, Act.put]) (by go_simp) ?_
  try simp only [Act.put, List.setIfInBounds_toArray, List.set_cons_succ, List.set_cons_zero]
  refine wpT_valp 55 (v := .bool true) rfl rfl rfl (by go_simp) ?_
  refine wpT_valp 0 (v := .bool true) rfl rfl rfl (by go_simp) ?_
  dsimp only [wpT]
  try simp only [Act.put, List.setIfInBounds_toArray, List.set_cons_succ, List.set_cons_zero]
  go_wp2_with fail
  go_ret
  exact ⟨rfl, (T0.out _ _ M47).end_⟩
end Go.Proofs.YtbigmnhjnjeeaaaDoor
