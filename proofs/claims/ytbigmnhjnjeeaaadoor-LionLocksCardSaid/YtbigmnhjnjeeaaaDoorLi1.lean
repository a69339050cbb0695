/-
  Package lion: a block in memory, and steps at it; own work.
  Walks of package lion: a round by the stream, a round by the tag; own work.
-/
import Derived.Test.YtbigmnhjnjeeaaaDoorAea3
set_option linter.unusedSimpArgs false
set_option linter.unusedVariables false
namespace Go.Proofs.YtbigmnhjnjeeaaaDoor
open Go.RowKit
/-- a block's cells: its left part, and its right part's slice -/
def BL (L : List (BitVec 8)) (v : Value) : Array Value := cs U8 L ++ #[v]
theorem BL_size (L : List (BitVec 8)) (v : Value) : (BL L v).size = L.length + 1 := by simp [BL]
theorem bl_cell {w : World} {b : Nat} {L : List (BitVec 8)} {v : Value} (i : Nat) (hi : i < L.length) (h : w.rowOf b = BL L v) : w.cell? ⟨b, i, none⟩ = some (U8 (L.getD i 0)) := by
  rw [cell_rowOf, h]; unfold BL
  rw [Array.getElem?_append_left (by simpa using hi)]
  simp [cs, List.getD_eq_getElem?_getD, List.getElem?_eq_getElem hi]
theorem bl_right {w : World} {b : Nat} {L : List (BitVec 8)} {v : Value} (hL : L.length = 32) (h : w.rowOf b = BL L v) : w.cell? ⟨b, 32, none⟩ = some v := by
  rw [cell_rowOf, h]; unfold BL
  rw [Array.getElem?_append_right (by simp [hL])]
  simp [hL]
theorem bl_set (L : List (BitVec 8)) (v : Value) (i : Nat) (hi : i < L.length) (x : BitVec 8) : (BL L v).setIfInBounds i (U8 x) = BL (L.set i x) v := by
  unfold BL
  apply Array.toList_inj.1
  simp [cs, List.set_append_left, hi, List.map_set]
theorem bl_put (L : List (BitVec 8)) (v u : Value) (hL : L.length = 32) : (BL L v).setIfInBounds 32 u = BL L u := by
  unfold BL
  apply Array.toList_inj.1
  simp [cs, hL]
theorem inf_blk : (Tryd.prog.info? 70).map (·.size) = some 33 := by kernel_rfl
theorem inf_sl8 : (Tryd.prog.info? 24).map (·.size) = some 1 := by kernel_rfl
theorem bp_blk (l : List (Nat × Value)) : Tryd.prog.built 70 l = Instr.fill (([(0, 32), (32, 1)] : List (Nat × Nat)).toArray[·]?) (((Tryd.prog.info? 70).bind (·.zero)).getD undef).cells l := by kernel_rfl
theorem bz_blk : (((Tryd.prog.info? 70).bind (·.zero)).getD undef).cells.size = 33 := by kernel_rfl
@[go_sem ↓] theorem rb_blk (ρ : Operand → Value) (dst : Option Tmp) (ty : TypeId) (pos : String) (after : Array Edge) (guard : Option (Nat × Bool)) (w : World) (ps : Array (Nat × Operand)) :
    (execOp ρ { dst, op := .build 70 ps, type := ty, pos, after, guard }).run Tryd.prog w = exBuild Tryd.prog 70 (ps.map fun p => (p.1, ρ p.2)) w := x_build ..
theorem xb_blk (w : World) (ps : Array (Nat × Value)) (hc : Cont (([(0, 32), (32, 1)] : List (Nat × Nat)).toArray[·]?) 0 ps.toList) (hz : (catP ps.toList).size = 33) :
    exBuild Tryd.prog 70 ps w = .ok (.value (.agg (catP ps.toList))) w := by
  unfold exBuild; rw [run_build_cat w 70 ps _ _ bp_blk hc (by rw [bz_blk]; exact hz)]; rfl

theorem xb_blk2 (w : World) (L : List (BitVec 8)) (a : Option Addr) (n c : Nat) (hL : L.length = 32) : exBuild Tryd.prog 70 #[(0, .agg (cs U8 L)), (1, .slice a n c)] w = .ok (.value (.agg (BL L (.slice a n c)))) w := by
  rw [xb_blk w _ (by simp [Cont, Value.cells, hL]) (by simp [catP, Value.cells, hL])]
  simp [catP, Value.cells, BL]
/-- xor, as far as the first i bytes -/
def XP (a b : List (BitVec 8)) (i : Nat) : List (BitVec 8) := List.zipWith (· ^^^ ·) (a.take i) (b.take i) ++ a.drop i
theorem XP_len (a b : List (BitVec 8)) (i : Nat) (h : a.length = b.length) (hi : i ≤ a.length) : (XP a b i).length = a.length := by unfold XP; simp; omega
theorem XP_0 (a b : List (BitVec 8)) : XP a b 0 = a := by simp [XP]
theorem XP_all (a b : List (BitVec 8)) (h : a.length = b.length) : XP a b a.length = Li.xo a b := by
  unfold XP Li.xo; rw [List.take_of_length_le (Nat.le_refl _), List.drop_of_length_le (Nat.le_refl _), List.take_of_length_le (by omega)]; simp
theorem XP_step (a b : List (BitVec 8)) (i : Nat) (h : a.length = b.length) (hi : i < b.length) : (XP a b i).set i ((XP a b i).getD i 0 ^^^ b.getD i 0) = XP a b (i + 1) := xr_step a b i hi h
theorem bs_loc {w : World} {b : Nat} {v : Value} {r : List (BitVec 8)} (h : BS w v r) (hb : v.ownBlock ≠ some b) : Hid (∀ H' w', Mm (fun g => g = b) w H' w' → BS w' v r) :=
  hid fun H' w' N => SV.keep h fun g hg hl => N.fr.block g hl (fun e => hb (by rw [hg, e]))
theorem kt_loc {w0 w : World} {b : Nat} (hT : KT w0 ∧ 0 < w0.heap.size) (hw : Below w0.heap.size w0 w) (hb : w0.heap.size ≤ b) : Hid (∀ H' w', Mm (fun g => g = b) w H' w' → KT w' ∧ 0 < w'.heap.size) := by
  refine hid fun H' w' N => ?_
  have hs := hw.size
  have hk := hT.2
  refine ⟨?_, Nat.lt_of_lt_of_le hk (Nat.le_trans hs N.fr.size)⟩
  have h1 : KT w := hT.1.below hw hT.2
  unfold KT at h1 ⊢
  rw [← h1]
  simp [World.rowOf, N.fr.block _ (Nat.lt_of_lt_of_le hk hs) (by omega)]
theorem bs_part {w : World} {b o n c : Nat} {l : List (BitVec 8)} (h : BS w (.slice (some ⟨b, o, none⟩) n c) l) (m : Nat) (hm : m ≤ l.length) (h0 : 0 < m) : o + m ≤ (w.rowOf b).size ∧ (w.rowOf b).extract o (o + m) = cs U8 (l.take m) := by
  have hc := fun i hi => bs_cell h i hi
  have hsz : o + m ≤ (w.rowOf b).size := by
    have h1 := hc (m - 1) (by omega)
    rw [cell_rowOf] at h1
    have := (Array.getElem?_eq_some_iff.1 h1).1
    omega
  refine ⟨hsz, ?_⟩
  apply Array.ext_getElem?
  intro i
  by_cases hi : i < m
  · have h1 := hc i (by omega)
    rw [cell_rowOf] at h1
    have e : ((w.rowOf b).extract o (o + m))[i]? = (w.rowOf b)[o + i]? := by
      rw [Array.getElem?_extract, if_pos (by omega)]
    rw [e, h1]
    simp [cs, List.getElem?_take_of_lt hi, List.getD_eq_getElem?_getD, List.getElem?_eq_getElem (show i < l.length by omega)]
  · rw [Array.getElem?_eq_none (by simp; omega), Array.getElem?_eq_none (by simp [cs]; omega)]
/-- an array is read out of bytes -/
theorem ldl_key {w : World} {b o n c : Nat} {l X : List (BitVec 8)} (h : BS w (.slice (some ⟨b, o, none⟩) n c) l) (h32 : 32 ≤ l.length) (hX : l.take 32 = X) : exLoad Tryd.prog 23 (.pointer (some ⟨b, o, none⟩)) w = .ok (.value (.agg (cs U8 X))) w := by
  obtain ⟨h1, h2⟩ := bs_part h 32 h32 (by decide)
  rw [x_loadm w Tryd.underlying23 rfl inf_key b o h1, h2, hX]
/-- a block's left part, as bytes -/
theorem BS.segp {w : World} {b : Nat} {L : List (BitVec 8)} {v : Value} (h : w.rowOf b = BL L v) (hL : L.length = 32) : BS w (.slice (some ⟨b, 0, none⟩) 32 32) L := by
  refine ⟨some ⟨b, 0, none⟩, 32, by rw [hL], by simp [hL], by unfold maxLen; decide, fun _ => ⟨b, 0, rfl, fun i hi => ?_⟩⟩
  have hi' : i < L.length := by simpa using hi
  rw [Nat.zero_add, bl_cell i hi' h]
  simp [List.getD_eq_getElem?_getD, List.getElem?_eq_getElem hi']
@[go_sem] theorem oc_str (s : ByteArray) : (Value.string s).oneCell' = true := rfl
@[go_sem] theorem oc_fn (f : Fn) (x y : Array Value) : (Value.func f x y).oneCell' = true := rfl
theorem rn_0 {w : World} {b : Nat} {u v : Value} (h : w.rowOf b = #[u, v]) : w.cell? ⟨b, 0, none⟩ = some u := by rw [cell_rowOf, h]; rfl
theorem rn_1 {w : World} {b : Nat} {u v : Value} (h : w.rowOf b = #[u, v]) : w.cell? ⟨b, 1, none⟩ = some v := by rw [cell_rowOf, h]; rfl
theorem inf_rnd : (Tryd.prog.info? 59).map (·.size) = some 2 := by kernel_rfl
section
variable (ρ : Operand → Value) (dst : Option Tmp) (ty : TypeId) (pos : String) (after : Array Edge) (guard : Option (Nat × Bool)) (w : World)
@[go_sem ↓] theorem rl_rnd (x : Operand) : (execOp ρ { dst, op := .load 59 x, type := ty, pos, after, guard }).run Tryd.prog w = exLoad Tryd.prog 59 (ρ x) w := x_load ..
@[go_sem ↓] theorem rs_rnd (x y : Operand) : (execOp ρ { dst, op := .store 59 x y, type := ty, pos, after, guard }).run Tryd.prog w = exStore Tryd.prog 59 (ρ x) (ρ y) w := x_store ..
@[go_sem ↓] theorem ra_rnd : (execOp ρ { dst, op := .alloc 59, type := ty, pos, after, guard }).run Tryd.prog w = .ok (.value (.pointer (some ⟨w.heap.size, 0, none⟩))) (w.alloc (.cells (#[.string ByteArray.empty, .nilFunc]) 59)) :=
  (x_alloc ..).trans (x_alloc0 (v := .agg (#[.string ByteArray.empty, .nilFunc])) _ (by kernel_rfl))
@[go_sem] theorem xl_rnd (b : Nat) (h : (w.rowOf b).size = 2) : exLoad Tryd.prog 59 (.pointer (some ⟨b, 0, none⟩)) w = .ok (.value (.agg (w.rowOf b))) w := x_load0 _ Tryd.underlying59 rfl inf_rnd b h
@[go_sem] theorem xlm_rnd (b o : Nat) (ho : 0 < o) (h : o + 2 ≤ (w.rowOf b).size) : exLoad Tryd.prog 59 (.pointer (some ⟨b, o, none⟩)) w = .ok (.value (.agg ((w.rowOf b).extract o (o + 2)))) w := x_loadm _ Tryd.underlying59 rfl inf_rnd b o h
@[go_sem] theorem xs_rnd (b : Nat) (c : Array Value) (hl : c.size = 2) (h1 : ones c = true) (h : (w.rowOf b).size = 2) (hf : w.free b = true) : exStore Tryd.prog 59 (.pointer (some ⟨b, 0, none⟩)) (.agg c) w = .ok .skip (w.setRow b c) :=
  x_store0 _ inf_rnd b c hl h hf (ones_all h1)
@[go_sem] theorem xsm_rnd (b o : Nat) (ho : 0 < o) (c : Array Value) (hl : c.size = 2) (h1 : ones c = true) (h : o + 2 ≤ (w.rowOf b).size) (hf : w.free b = true) : exStore Tryd.prog 59 (.pointer (some ⟨b, o, none⟩)) (.agg c) w = .ok .skip (w.setSeg b o c) :=
  x_storem _ inf_rnd b o c hl h hf (ones_all h1)
end
/-- at a step: a store, and a variable made -/
theorem wps_rnd {a : Act} {w : World} {K : Act → World → Prop} {Q : Exit → Act → World → Prop} {o : Oper} (p x : Operand) (ho : o.op = .store 59 p x) (b : Nat) (c : Array Value) (hp : a.eval p = .pointer (some ⟨b, 0, none⟩)) (hx : a.eval x = .agg c)
    (hl : c.size = 2) (h1 : ones c = true) (h : (w.rowOf b).size = 2) (hf : w.free b = true) (hK : K (a.put o.dst undef) (w.setRow b c)) : o.wp Tryd.prog a w K Q := by
  obtain ⟨dst, op, ty, pos, after, guard⟩ := o
  subst ho
  unfold Oper.wp
  rw [rs_rnd, hp, hx, xs_rnd _ _ _ hl h1 h hf]
  simp only [Oper.upon]
  exact hK
theorem wpa_rnd {a : Act} {w : World} {K : Act → World → Prop} {Q : Exit → Act → World → Prop} {o : Oper} (ho : o.op = .alloc 59)
    (hK : K (a.put o.dst (.pointer (some ⟨w.heap.size, 0, none⟩))) (w.alloc (.cells (#[.string ByteArray.empty, .nilFunc]) 59))) : o.wp Tryd.prog a w K Q := by
  obtain ⟨dst, op, ty, pos, after, guard⟩ := o
  subst ho
  unfold Oper.wp
  rw [ra_rnd]
  simp only [Oper.upon]
  exact hK

section
variable {P : Program} {ops : Array Oper} {Q : Exit → Act → World → Prop} {i : Nat} {t : Tr} {a : Act} {o : Oper} {S : Nat → Prop} {w0 w : World} {H : List (Nat × Array Value)}
/-- a call that changes one row; what it holds behind is known by a law -/
theorem wpT_callmx (dst : Nat) (M : Mm S w0 H w) (k : Nat) {b : Nat} {C : Array Value} {f : FuncId} {args : Array Value} {v : Value} {X : Array Value → World → Prop} (hk : H[k]? = some (b, C)) (hdst : o.dst = some dst) (ho : ops[i]? = some o) (hw : Region.wanted o (yielded ops a.tmps) = true) (hrun : (execOp a.eval o).run P w = .ok (.enter f args) w)
    (hc : Calls P f args w fun e w' => e = .returned v ∧ ∃ C', Mm (fun g => g = b) w [(b, C')] w' ∧ X C' w')
    (h : ∀ C' w', Mm S w0 (H.set k (b, C')) w' → X C' w' → wpT P ops Q t (a.put (some dst) v) w') : wpT P ops Q (.op i t) a w :=
  wpT_call ho hw hrun hc (fun e w' ⟨he, C', N, hX⟩ => ⟨v, he, by rw [hdst]; exact h C' w' (M.back' (k := k) hk N) hX⟩)
/-- a variable that is made of a value -/
theorem wpT_bx (dst : Nat) {c : Array Value} {T : TypeId} (M : Mm S w0 H w) (hT : T ≠ 5) (hdst : o.dst = some dst) (ho : ops[i]? = some o) (hw : Region.wanted o (yielded ops a.tmps) = true)
    (hrun : (execOp a.eval o).run P w = .ok (.value (.pointer (some ⟨w.heap.size, 0, none⟩))) (w.alloc (.cells c T)))
    (h : ∀ b w', w.heap.size ≤ b → Mm S w0 ((b, c) :: H) w' → Below w.heap.size w w' → wpT P ops Q t (a.put (some dst) (.pointer (some ⟨b, 0, none⟩))) w') : wpT P ops Q (.op i t) a w :=
  wpT_val ho hw hrun (by rw [hdst]; exact h _ _ (Nat.le_refl _) (M.alloc c T hT) ((Below.refl _ _).alloc (Nat.le_refl _) _))
end
theorem xor_n {w : World} {k n b X : List (BitVec 8)} {vb : Value} (hX : X = Ch.xr k n 0#32 b) (hk : k.length = 32) (hn : n.length = 12) (hvb : BS w vb b) (hL : b.length ≤ 65536) :
    Calls Tryd.prog 38 #[.agg (cs U8 k), .agg (cs U8 n), .int .u32 0, vb] w fun e w' => ∃ v, e = .returned (.tuple #[v, .int .i64 0]) ∧ BN w' w.heap.size v X ∧ Below w.heap.size w w' := by
  rw [hX]; exact (xor_c w k n b 0#32 vb hk hn hvb hL (by decide)).mono fun e w' ⟨v, h1, h2, h3⟩ => ⟨v, h1, h2.bn, h3⟩
theorem mac_v {w : World} {v0 v1 : Value} {k m D : List (BitVec 8)} (hD : D = Sh.mac k m) (hT : KT w ∧ 0 < w.heap.size) (h0 : BS w v0 k) (h1 : BS w v1 m) (hkl : k.length ≤ 1073741000) (hml : m.length ≤ 1073741000) :
    Calls Tryd.prog 40 #[v0, v1] w fun e w' => e = .returned (.agg (cs U8 D)) ∧ Below w.heap.size w w' := by
  rw [hD]; exact mac_any w v0 v1 k m hT.1 hT.2 h0 h1 hkl hml
theorem der_v {w0 w : World} {l lb D : List (BitVec 8)} (hD : D = Sh.derive l lb) (hT : KT w0 ∧ 0 < w0.heap.size) (hb : Below w0.heap.size w0 w) (hl : l.length = 32) (hlb : lb.length ≤ 1073700000) :
    Calls Tryd.prog 37 #[.agg (cs U8 l), .string (Bs lb)] w fun e w' => e = .returned (.agg (cs U8 D)) ∧ Below w.heap.size w w' := by
  rw [hD]; exact derive_any w l lb (hT.1.below hb hT.2) (Nat.lt_of_lt_of_le hT.2 hb.size) hl hlb
end Go.Proofs.YtbigmnhjnjeeaaaDoor
set_option linter.unusedSimpArgs false
set_option linter.unusedVariables false
namespace Go.Proofs.YtbigmnhjnjeeaaaDoor
open Go.RowKit
attribute [local irreducible] XP BL Li.xo Ch.xr Sh.mac
set_option maxRecDepth 100000 in
set_option maxHeartbeats 4000000 in
theorem streamm_c (w : World) (b n : Nat) (k L r : List (BitVec 8)) (v : Value) (hk : k.length = 32) (hL : L.length = 32) (hr : r.length = n) (hn : n ≤ 65536) (hv : BS w v r) (hvb : v.ownBlock ≠ some b) (M : Mm (fun g => g = b) w [(b, BL L v)] w) :
    Calls Tryd.prog 41 #[.pointer (some ⟨b, 0, none⟩), .agg (cs U8 k)] w fun e w' => e = .returned (.tuple #[]) ∧ ∃ v', Mm (fun g => g = b) w [(b, BL L v')] w' ∧ BS w' v' (Ch.xr (Li.xo k L) (zs 12) 0 r) ∧ ∀ g, v'.ownBlock = some g → w.heap.size ≤ g := by
  have HV := bs_loc hv hvb
  have hbw := M.lt (b := b) (c := BL L v) (by simp)
  obtain ⟨av, cv, rfl, hcv⟩ := hv.shape' n hr
  clear hv hvb
  obtain ⟨K2, hK⟩ : ∃ K2, K2 = Li.xo k L := ⟨_, rfl⟩
  have hK2 : K2.length = 32 := by rw [hK, xo_len _ _ (by omega), hk]
  rw [← hK]
  obtain ⟨r2, hr2'⟩ : ∃ r2, r2 = Ch.xr K2 (zs 12) 0 r := ⟨_, rfl⟩
  have hr2 : r2.length = n := by rw [hr2', xr_len, hr]
  rw [← hr2']
  have HX := hid hr2'
  have HK := hid hK
  clear hK hr2'
  go_enter Tryd.func41, Tryd.ntmps41
  have M2 := (M.alloc (cs U8 k) 23 (by decide))
  try simp only [World.size_alloc] at M2
  go_upto_region 1 with fail
  obtain ⟨w1, hw1⟩ : ∃ w1, w1 = (w.alloc (.cells (cs U8 k) 23)) := ⟨_, rfl⟩
  rw [← hw1] at M2 ⊢
  clear hw1
  refine wp_region_lin (.op 0 .done) (by rfl) ?_
  refine wpT_valp 5 (v := .int .i64 0) rfl rfl rfl (by go_simp) ?_
  dsimp only [wpT]
  try simp only [Act.put, List.setIfInBounds_toArray, List.set_cons_succ, List.set_cons_zero]
  go_wp2_with fail
  go_loopw [5] (fun x wr => ∃ i : Nat, i ≤ 32 ∧ x = .int .i64 i ∧ Mm (fun g => g = b) w [(w.heap.size, cs U8 (XP k L i)), (b, BL L (.slice av n cv))] wr) (fun x _ => 32 - (intOf x).toNat)
  case atStart => exact ⟨0, by omega, rfl, by rw [XP_0]; exact M2⟩
  case round =>
    clear M2
    obtain ⟨i, hi, rfl, M⟩ := hrel
    by_cases hi32 : i < 32
    · have hlt : (i : Int) < 32 := by omega
      have hi0 : (0 : Int) ≤ (i : Int) := by omega
      have hxl := XP_len k L i (by omega) (by omega)
      rw [hk] at hxl
      have hxi : i < (XP k L i).length := by omega
      have hiL : i < L.length := by omega
      obtain ⟨p, hp⟩ : ∃ p, p = (XP k L i).getD i 0 := ⟨_, rfl⟩
      obtain ⟨q, hq⟩ : ∃ q, q = L.getD i 0 := ⟨_, rfl⟩
      obtain ⟨y, hy⟩ : ∃ y, p ^^^ q = y := ⟨_, rfl⟩
      have HS := hid (show (XP k L i).set i y = XP k L (i + 1) by rw [← hy, hp, hq]; exact XP_step k L i (by omega) (by omega))
      have Hp := hid hp
      have Hq := hid hq
      have HY := hid hy
      clear hp hq hy
      go_upto_region 3 with fail
      refine wp_region_lin (.op 0 (.op 1 .done)) (by rfl) ?_
      refine wpT_valp 7 (v := .int .i64 i) rfl rfl rfl (by go_simp) ?_
      refine wpT_valp 4 (v := .int .i64 i) rfl rfl rfl (by go_simp) ?_
      dsimp only [wpT]
      try simp only [Act.put, List.setIfInBounds_toArray, List.set_cons_succ, List.set_cons_zero]
      go_upto_region 4 with fail
      refine wp_region_seq 11 [8, 9, 10, 11, 12, 13, 14, 15, 16, 17, 18] [] [] [] (.op 11 .done) (Mm (fun g => g = b) w _) (by kernel_rfl) (by kernel_rfl) (by kernel_rfl) (fun d _ _ _ _ h => by cases d <;> exact h) (by rfl) M.size (fun _ _ h k => h.sf k) M ?_
      simp only [List.take_succ_cons, List.take_zero]
      refine SeqA.pure (.int .i64 i) (fun w' => by go_simp) rfl rfl ?_
      refine SeqA.pure (.pointer (some ⟨w.heap.size, i, none⟩)) (fun w' => by go_simp) rfl rfl ?_
      refine SeqA.read (U8 p) (fun w' hI => by have c0 := cell_cs 0 (hI.row (b := w.heap.size) (c := cs U8 (XP k L i)) (by simp)) (i := i) hxi; rw [← Hp.out] at c0; go_simp) rfl rfl ?_
      refine SeqA.pure (.pointer (some ⟨b, 0, none⟩)) (fun w' => by go_simp) rfl rfl ?_
      refine SeqA.pure (.int .i64 i) (fun w' => by go_simp) rfl rfl ?_
      simp only [Act.put, List.setIfInBounds_toArray, List.set_cons_succ, List.set_cons_zero]
      refine SeqA.pure (.pointer (some ⟨b, 0, none⟩)) (fun w' => by go_simp) rfl rfl ?_
      refine SeqA.pure (.pointer (some ⟨b, 0, none⟩)) (fun w' => by go_simp) rfl rfl ?_
      refine SeqA.pure (.pointer (some ⟨b, i, none⟩)) (fun w' => by go_simp) rfl rfl ?_
      refine SeqA.read (U8 q) (fun w' hI => by have c0 := bl_cell i hiL (hI.row (b := b) (c := BL L (.slice av n cv)) (by simp)); rw [← Hq.out] at c0; go_simp) rfl rfl ?_
      refine SeqA.pure (U8 y) (fun w' => by have h := HY.out; go_simp) rfl rfl ?_
      refine SeqA.pure (.pointer (some ⟨w.heap.size, i, none⟩)) (fun w' => by go_simp) rfl rfl ?_
      refine SeqA.nil (fun w1 M2 hz => ?_)
      show wpT _ _ _ _ _ _
      simp only [Act.put, List.setIfInBounds_toArray, List.set_cons_succ, List.set_cons_zero]
      refine wpT_stc M2 0 (U8 y) (cs U8 ((XP k L i).set i y)) inf_u8 rfl rfl rfl rfl (by go_simp) (by go_simp) (by have := (by omega : i < (XP k L i).length); first | (simp; done) | (simpa using this) | (simp; omega)) (by simp [go_sem]) (cs_set _ _) rfl (fun w3 M4 => ?_)
      dsimp only [List.set] at M4
      dsimp only [wpT]
      go_wp2_with fail
      rw [HS.out] at M4
      go_roundw
      case rel => exact ⟨i + 1, by omega, by simp, M4⟩
      case measure => simp only [intOf]; omega
    · have : i = 32 := by omega
      subst this
      rw [show XP k L 32 = K2 by rw [HK.out, ← hk]; exact XP_all k L (by omega)] at M
      have T0 := back0 (S := fun g => g = b) (w0 := w)
      go_upto_region 6 with fail
      refine wp_region_P [0, 2, 3, 4, 5] (.both (.op 1 (.op 6 (.op 7 (.op 8 (.both (.op 9 (.both (.op 10 (.op 11 (.op 12 (.op 13 .done)))) (.op 11 (.both (.op 10 (.op 12 (.op 13 .done))) (.op 12 (.both (.op 10 (.op 13 .done)) (.op 13 (.op 10 .done)))))))) (.op 10 (.op 9 (.op 11 (.op 12 (.op 13 .done)))))))))) (.op 6 (.op 1 (.op 7 (.op 8 (.both (.op 9 (.both (.op 10 (.op 11 (.op 12 (.op 13 .done)))) (.op 11 (.both (.op 10 (.op 12 (.op 13 .done))) (.op 12 (.both (.op 10 (.op 13 .done)) (.op 13 (.op 10 .done)))))))) (.op 10 (.op 9 (.op 11 (.op 12 (.op 13 .done))))))))))) (by kernel_rfl) (by kernel_rfl) (by kernel_rfl) (fun d _ _ _ _ h => by cases d <;> exact h) ?_
      refine wpYJd_op 21 (.pointer (some ⟨b, 0, none⟩)) rfl rfl rfl (fun w1 _ => by go_simp) ?_
      refine wpYJd_op 23 (.agg (cs U8 (zs 12))) rfl rfl rfl (fun w1 _ => by have q := xb_nonce0 w1; go_simp) ?_
      refine wpYJd_op 24 (.pointer (some ⟨b, 0, none⟩)) rfl rfl rfl (fun w1 _ => by go_simp) ?_
      refine wpYJd_op 25 (.pointer (some ⟨b, 0, none⟩)) rfl rfl rfl (fun w1 _ => by go_simp) ?_
      refine wpYJd_op 26 (.pointer (some ⟨b, 32, none⟩)) rfl rfl rfl (fun w1 _ => by go_simp) ?_
      show wpT _ _ _ _ _ _
      try simp only [Act.put, List.setIfInBounds_toArray, List.set_cons_succ, List.set_cons_zero]
      have M1 := M.drewN 1
      change wpT _ _ _ _ _ (wr.drewN 1)
      obtain ⟨w2, hw2⟩ : ∃ w2, w2 = wr.drewN 1 := ⟨_, rfl⟩
      rw [← hw2] at M1 ⊢
      clear hw2
      refine ⟨?_, ?_⟩
      · refine wpT_ld0 22 Tryd.underlying23 rfl inf_key (w.heap.size) (cs U8 K2) rfl rfl rfl (by go_simp) (M1.row (by simp)) (by simp [BL_size, hL, hK2]) rfl ?_
        refine wpT_valp 27 (v := (.slice av n cv)) rfl rfl rfl (by have c0 := bl_right hL (M1.row (b := b) (c := BL L (.slice av n cv)) (by simp)); go_simp) ?_
        have hzK := M1.lt (b := w.heap.size) (c := cs U8 K2) (by simp)
        refine wpT_callN 28 M1 (l := r2) (fun v => .tuple #[v, .int .i64 0]) rfl rfl rfl (by go_simp) (xor_n HX.out hK2 (by simp [zs]) (HV.out _ _ M1) (by omega)) (fun v3 w4 S6 M5 T7 K8 => ?_)
        obtain ⟨A9, c10, rfl, -⟩ := (K8.out _ _ M5).1.shape' n hr2
        refine wpT_valp 20 (v := .tuple #[.slice A9 n c10, .int .i64 0]) rfl rfl rfl (by go_simp) ?_
        refine ⟨?_, ?_⟩
        · refine wpT_valp 29 (v := .slice A9 n c10) rfl rfl rfl (by go_simp) ?_
          refine ⟨?_, ?_⟩
          · refine wpT_valp 30 (v := .int .i64 0) rfl rfl rfl (by go_simp) ?_
            refine wpT_valp 31 (v := .pointer (some ⟨b, 0, none⟩)) rfl rfl rfl (by go_simp) ?_
            refine wpT_valp 32 (v := .pointer (some ⟨b, 32, none⟩)) rfl rfl rfl (by go_simp) ?_
            refine wpT_stc M5 1 (.slice A9 n c10) (BL L (.slice A9 n c10)) inf_sl8 rfl rfl rfl rfl (by go_simp) (by go_simp) (by simp [BL_size, hL, hK2]) (by simp [go_sem]) (bl_put _ _ _ hL) rfl (fun w11 M12 => ?_)
            dsimp only [List.set] at M12
            dsimp only [wpT]
            try simp only [Act.put, List.setIfInBounds_toArray, List.set_cons_succ, List.set_cons_zero]
            go_wp2_with fail
            go_end0
            have BN7 := K8.out _ _ M12
            exact ⟨rfl, _, (T7.out _ _ M12).sub (by simp), BN7.1, fun g e => by have h := (BN7.2 g e).1; omega⟩
          · refine wpT_valp 31 (v := .pointer (some ⟨b, 0, none⟩)) rfl rfl rfl (by go_simp) ?_
            refine ⟨?_, ?_⟩
            · refine wpT_valp 30 (v := .int .i64 0) rfl rfl rfl (by go_simp) ?_
              refine wpT_valp 32 (v := .pointer (some ⟨b, 32, none⟩)) rfl rfl rfl (by go_simp) ?_
              refine wpT_stc M5 1 (.slice A9 n c10) (BL L (.slice A9 n c10)) inf_sl8 rfl rfl rfl rfl (by go_simp) (by go_simp) (by simp [BL_size, hL, hK2]) (by simp [go_sem]) (bl_put _ _ _ hL) rfl (fun w11 M12 => ?_)
              dsimp only [List.set] at M12
              dsimp only [wpT]
              try simp only [Act.put, List.setIfInBounds_toArray, List.set_cons_succ, List.set_cons_zero]
              go_wp2_with fail
              go_end0
              have BN7 := K8.out _ _ M12
              exact ⟨rfl, _, (T7.out _ _ M12).sub (by simp), BN7.1, fun g e => by have h := (BN7.2 g e).1; omega⟩
            · refine wpT_valp 32 (v := .pointer (some ⟨b, 32, none⟩)) rfl rfl rfl (by go_simp) ?_
              refine ⟨?_, ?_⟩
              · refine wpT_valp 30 (v := .int .i64 0) rfl rfl rfl (by go_simp) ?_
                refine wpT_stc M5 1 (.slice A9 n c10) (BL L (.slice A9 n c10)) inf_sl8 rfl rfl rfl rfl (by go_simp) (by go_simp) (by simp [BL_size, hL, hK2]) (by simp [go_sem]) (bl_put _ _ _ hL) rfl (fun w11 M12 => ?_)
                dsimp only [List.set] at M12
                dsimp only [wpT]
                try simp only [Act.put, List.setIfInBounds_toArray, List.set_cons_succ, List.set_cons_zero]
                go_wp2_with fail
                go_end0
                have BN7 := K8.out _ _ M12
                exact ⟨rfl, _, (T7.out _ _ M12).sub (by simp), BN7.1, fun g e => by have h := (BN7.2 g e).1; omega⟩
              · refine wpT_stc M5 1 (.slice A9 n c10) (BL L (.slice A9 n c10)) inf_sl8 rfl rfl rfl rfl (by go_simp) (by go_simp) (by simp [BL_size, hL, hK2]) (by simp [go_sem]) (bl_put _ _ _ hL) rfl (fun w11 M12 => ?_)
                dsimp only [List.set] at M12
                refine wpT_valp 30 (v := .int .i64 0) rfl rfl rfl (by go_simp) ?_
                dsimp only [wpT]
                try simp only [Act.put, List.setIfInBounds_toArray, List.set_cons_succ, List.set_cons_zero]
                go_wp2_with fail
                go_end0
                have BN7 := K8.out _ _ M12
                exact ⟨rfl, _, (T7.out _ _ M12).sub (by simp), BN7.1, fun g e => by have h := (BN7.2 g e).1; omega⟩
        · refine wpT_valp 30 (v := .int .i64 0) rfl rfl rfl (by go_simp) ?_
          refine wpT_valp 29 (v := .slice A9 n c10) rfl rfl rfl (by go_simp) ?_
          refine wpT_valp 31 (v := .pointer (some ⟨b, 0, none⟩)) rfl rfl rfl (by go_simp) ?_
          refine wpT_valp 32 (v := .pointer (some ⟨b, 32, none⟩)) rfl rfl rfl (by go_simp) ?_
          try simp only [Act.put, List.setIfInBounds_toArray, List.set_cons_succ, List.set_cons_zero]
          refine wpT_stc M5 1 (.slice A9 n c10) (BL L (.slice A9 n c10)) inf_sl8 rfl rfl rfl rfl (by go_simp) (by go_simp) (by simp [BL_size, hL, hK2]) (by simp [go_sem]) (bl_put _ _ _ hL) rfl (fun w11 M12 => ?_)
          dsimp only [List.set] at M12
          dsimp only [wpT]
          try simp only [Act.put, List.setIfInBounds_toArray, List.set_cons_succ, List.set_cons_zero]
          go_wp2_with fail
          go_end0
          have BN7 := K8.out _ _ M12
          exact ⟨rfl, _, (T7.out _ _ M12).sub (by simp), BN7.1, fun g e => by have h := (BN7.2 g e).1; omega⟩
      · refine wpT_valp 27 (v := (.slice av n cv)) rfl rfl rfl (by have c0 := bl_right hL (M1.row (b := b) (c := BL L (.slice av n cv)) (by simp)); go_simp) ?_
        refine wpT_ld0 22 Tryd.underlying23 rfl inf_key (w.heap.size) (cs U8 K2) rfl rfl rfl (by go_simp) (M1.row (by simp)) (by simp [BL_size, hL, hK2]) rfl ?_
        have hzK := M1.lt (b := w.heap.size) (c := cs U8 K2) (by simp)
        refine wpT_callN 28 M1 (l := r2) (fun v => .tuple #[v, .int .i64 0]) rfl rfl rfl (by go_simp) (xor_n HX.out hK2 (by simp [zs]) (HV.out _ _ M1) (by omega)) (fun v3 w4 S6 M5 T7 K8 => ?_)
        obtain ⟨A9, c10, rfl, -⟩ := (K8.out _ _ M5).1.shape' n hr2
        refine wpT_valp 20 (v := .tuple #[.slice A9 n c10, .int .i64 0]) rfl rfl rfl (by go_simp) ?_
        refine ⟨?_, ?_⟩
        · refine wpT_valp 29 (v := .slice A9 n c10) rfl rfl rfl (by go_simp) ?_
          refine ⟨?_, ?_⟩
          · refine wpT_valp 30 (v := .int .i64 0) rfl rfl rfl (by go_simp) ?_
            refine wpT_valp 31 (v := .pointer (some ⟨b, 0, none⟩)) rfl rfl rfl (by go_simp) ?_
            refine wpT_valp 32 (v := .pointer (some ⟨b, 32, none⟩)) rfl rfl rfl (by go_simp) ?_
            refine wpT_stc M5 1 (.slice A9 n c10) (BL L (.slice A9 n c10)) inf_sl8 rfl rfl rfl rfl (by go_simp) (by go_simp) (by simp [BL_size, hL, hK2]) (by simp [go_sem]) (bl_put _ _ _ hL) rfl (fun w11 M12 => ?_)
            dsimp only [List.set] at M12
            dsimp only [wpT]
            try simp only [Act.put, List.setIfInBounds_toArray, List.set_cons_succ, List.set_cons_zero]
            go_wp2_with fail
            go_end0
            have BN7 := K8.out _ _ M12
            exact ⟨rfl, _, (T7.out _ _ M12).sub (by simp), BN7.1, fun g e => by have h := (BN7.2 g e).1; omega⟩
          · refine wpT_valp 31 (v := .pointer (some ⟨b, 0, none⟩)) rfl rfl rfl (by go_simp) ?_
            refine ⟨?_, ?_⟩
            · refine wpT_valp 30 (v := .int .i64 0) rfl rfl rfl (by go_simp) ?_
              refine wpT_valp 32 (v := .pointer (some ⟨b, 32, none⟩)) rfl rfl rfl (by go_simp) ?_
              refine wpT_stc M5 1 (.slice A9 n c10) (BL L (.slice A9 n c10)) inf_sl8 rfl rfl rfl rfl (by go_simp) (by go_simp) (by simp [BL_size, hL, hK2]) (by simp [go_sem]) (bl_put _ _ _ hL) rfl (fun w11 M12 => ?_)
              dsimp only [List.set] at M12
              dsimp only [wpT]
              try simp only [Act.put, List.setIfInBounds_toArray, List.set_cons_succ, List.set_cons_zero]
              go_wp2_with fail
              go_end0
              have BN7 := K8.out _ _ M12
              exact ⟨rfl, _, (T7.out _ _ M12).sub (by simp), BN7.1, fun g e => by have h := (BN7.2 g e).1; omega⟩
            · refine wpT_valp 32 (v := .pointer (some ⟨b, 32, none⟩)) rfl rfl rfl (by go_simp) ?_
              refine ⟨?_, ?_⟩
              · refine wpT_valp 30 (v := .int .i64 0) rfl rfl rfl (by go_simp) ?_
                refine wpT_stc M5 1 (.slice A9 n c10) (BL L (.slice A9 n c10)) inf_sl8 rfl rfl rfl rfl (by go_simp) (by go_simp) (by simp [BL_size, hL, hK2]) (by simp [go_sem]) (bl_put _ _ _ hL) rfl (fun w11 M12 => ?_)
                dsimp only [List.set] at M12
                dsimp only [wpT]
                try simp only [Act.put, List.setIfInBounds_toArray, List.set_cons_succ, List.set_cons_zero]
                go_wp2_with fail
                go_end0
                have BN7 := K8.out _ _ M12
                exact ⟨rfl, _, (T7.out _ _ M12).sub (by simp), BN7.1, fun g e => by have h := (BN7.2 g e).1; omega⟩
              · refine wpT_stc M5 1 (.slice A9 n c10) (BL L (.slice A9 n c10)) inf_sl8 rfl rfl rfl rfl (by go_simp) (by go_simp) (by simp [BL_size, hL, hK2]) (by simp [go_sem]) (bl_put _ _ _ hL) rfl (fun w11 M12 => ?_)
                dsimp only [List.set] at M12
                refine wpT_valp 30 (v := .int .i64 0) rfl rfl rfl (by go_simp) ?_
                dsimp only [wpT]
                try simp only [Act.put, List.setIfInBounds_toArray, List.set_cons_succ, List.set_cons_zero]
                go_wp2_with fail
                go_end0
                have BN7 := K8.out _ _ M12
                exact ⟨rfl, _, (T7.out _ _ M12).sub (by simp), BN7.1, fun g e => by have h := (BN7.2 g e).1; omega⟩
        · refine wpT_valp 30 (v := .int .i64 0) rfl rfl rfl (by go_simp) ?_
          refine wpT_valp 29 (v := .slice A9 n c10) rfl rfl rfl (by go_simp) ?_
          refine wpT_valp 31 (v := .pointer (some ⟨b, 0, none⟩)) rfl rfl rfl (by go_simp) ?_
          refine wpT_valp 32 (v := .pointer (some ⟨b, 32, none⟩)) rfl rfl rfl (by go_simp) ?_
          try simp only [Act.put, List.setIfInBounds_toArray, List.set_cons_succ, List.set_cons_zero]
          refine wpT_stc M5 1 (.slice A9 n c10) (BL L (.slice A9 n c10)) inf_sl8 rfl rfl rfl rfl (by go_simp) (by go_simp) (by simp [BL_size, hL, hK2]) (by simp [go_sem]) (bl_put _ _ _ hL) rfl (fun w11 M12 => ?_)
          dsimp only [List.set] at M12
          dsimp only [wpT]
          try simp only [Act.put, List.setIfInBounds_toArray, List.set_cons_succ, List.set_cons_zero]
          go_wp2_with fail
          go_end0
          have BN7 := K8.out _ _ M12
          exact ⟨rfl, _, (T7.out _ _ M12).sub (by simp), BN7.1, fun g e => by have h := (BN7.2 g e).1; omega⟩
set_option maxRecDepth 100000 in
set_option maxHeartbeats 4000000 in
theorem tagm_c (w : World) (b n : Nat) (k L r : List (BitVec 8)) (v : Value) (hk : k.length = 32) (hL : L.length = 32) (hr : r.length = n) (hn : n ≤ 65536) (hv : BS w v r) (hvb : v.ownBlock ≠ some b) (hT : Hid (∀ H' w', Mm (fun g => g = b) w H' w' → KT w' ∧ 0 < w'.heap.size)) (M : Mm (fun g => g = b) w [(b, BL L v)] w) :
    Calls Tryd.prog 42 #[.pointer (some ⟨b, 0, none⟩), .agg (cs U8 k)] w fun e w' => e = .returned (.tuple #[]) ∧ Mm (fun g => g = b) w [(b, BL (Li.xo L (Sh.mac k r)) v)] w' ∧ BS w' v r := by
  have HV := bs_loc hv hvb
  have HT := hT
  obtain ⟨D, hD'⟩ : ∃ D, D = Sh.mac k r := ⟨_, rfl⟩
  have hD : D.length = 32 := by rw [hD', mac_len32]
  have HD := hid hD'
  rw [← hD']
  clear hD' hT
  go_enter Tryd.func42, Tryd.ntmps42
  have M2 := (M.alloc (cs U8 k) 23 (by decide))
  try simp only [World.size_alloc] at M2
  go_upto_region 1 with fail
  obtain ⟨w1, hw1⟩ : ∃ w1, w1 = (w.alloc (.cells (cs U8 k) 23)) := ⟨_, rfl⟩
  rw [← hw1] at M2 ⊢
  clear hw1
  refine wp_region_seq 7 [6, 7, 8, 9, 10, 11, 4] [] [] [] (.op 7 .done) (Mm (fun g => g = b) w _) (by kernel_rfl) (by kernel_rfl) (by kernel_rfl) (fun d _ _ _ _ h => by cases d <;> exact h) (by rfl) M2.size (fun _ _ h k => h.sf k) M2 ?_
  simp only [List.take_succ_cons, List.take_zero]
  refine SeqA.pure (.slice (some ⟨w.heap.size, 0, none⟩) 32 32) (fun w' => by go_simp) rfl rfl ?_
  refine SeqA.pure (.pointer (some ⟨b, 0, none⟩)) (fun w' => by go_simp) rfl rfl ?_
  refine SeqA.pure (.pointer (some ⟨b, 0, none⟩)) (fun w' => by go_simp) rfl rfl ?_
  refine SeqA.pure (.pointer (some ⟨b, 32, none⟩)) (fun w' => by go_simp) rfl rfl ?_
  refine SeqA.read (v) (fun w' M => by have c0 := bl_right hL (M.row (b := b) (c := BL L v) (by simp)); go_simp) rfl rfl ?_
  simp only [Act.put, List.setIfInBounds_toArray, List.set_cons_succ, List.set_cons_zero]
  refine SeqA.call _ _ _ (fun w' => by go_simp) (fun w' hI _ => mac_v HD.out (HT.out _ _ hI) (BS.row (hI.row (b := w.heap.size) (c := cs U8 k) (by simp)) hk (by unfold maxLen; decide)) (HV.out _ _ hI) (by omega) (by omega)) M2.size rfl rfl ?_
  refine SeqA.var (z := .agg (cs U8 (zs 32))) (by kernel_rfl) rfl rfl (by decide) rfl ?_
  refine SeqA.nil (fun w3 M4 hz => ?_)
  refine news_one (fun b5 hb1 hb2 hb3 => ?_)
  have M6 := M2.in_ (c := cs U8 (zs 32)) M4 hb1 hb2 (by decide) hb3 rfl
  show wpT _ _ _ _ _ _
  simp only [Act.put, List.setIfInBounds_toArray, List.set_cons_succ, List.set_cons_zero]
  refine wpT_st0 M6 0 (cs U8 D) inf_key rfl rfl rfl rfl (by go_simp) (by go_simp) (by simp [BL_size, hL, hk, hD]) (by simp [BL_size, hL, hk, hD]) (by simp [go_sem]) rfl (fun w7 M8 => ?_)
  dsimp only [List.set] at M8
  dsimp only [wpT]
  go_upto_region 2 with fail
  refine wp_region_lin (.op 0 .done) (by rfl) ?_
  refine wpT_valp 12 (v := .int .i64 0) rfl rfl rfl (by go_simp) ?_
  dsimp only [wpT]
  try simp only [Act.put, List.setIfInBounds_toArray, List.set_cons_succ, List.set_cons_zero]
  go_wp2_with fail
  go_loopw [12] (fun x wr => ∃ i : Nat, i ≤ 32 ∧ x = .int .i64 i ∧ Mm (fun g => g = b) w [(b5, cs U8 D), (w.heap.size, cs U8 k), (b, BL (XP L D i) v)] wr) (fun x _ => 32 - (intOf x).toNat)
  case atStart => exact ⟨0, by omega, rfl, by rw [XP_0]; exact M8⟩
  case round =>
    clear M8
    obtain ⟨i, hi, rfl, M⟩ := hrel
    by_cases hi32 : i < 32
    · have hlt : (i : Int) < 32 := by omega
      have hi0 : (0 : Int) ≤ (i : Int) := by omega
      have hi33 : i < 33 := by omega
      have hxl := XP_len L D i (by omega) (by omega)
      rw [hL] at hxl
      have hxi : i < (XP L D i).length := by omega
      have hiD : i < D.length := by omega
      obtain ⟨p, hp⟩ : ∃ p, p = (XP L D i).getD i 0 := ⟨_, rfl⟩
      obtain ⟨q, hq⟩ : ∃ q, q = D.getD i 0 := ⟨_, rfl⟩
      obtain ⟨y, hy⟩ : ∃ y, p ^^^ q = y := ⟨_, rfl⟩
      have HS := hid (show (XP L D i).set i y = XP L D (i + 1) by rw [← hy, hp, hq]; exact XP_step L D i (by omega) (by omega))
      have Hp := hid hp
      have Hq := hid hq
      have HY := hid hy
      clear hp hq hy
      go_upto_region 4 with fail
      refine wp_region_lin (.op 0 (.op 1 .done)) (by rfl) ?_
      refine wpT_valp 14 (v := .int .i64 i) rfl rfl rfl (by go_simp) ?_
      refine wpT_valp 5 (v := .int .i64 i) rfl rfl rfl (by go_simp) ?_
      dsimp only [wpT]
      try simp only [Act.put, List.setIfInBounds_toArray, List.set_cons_succ, List.set_cons_zero]
      go_upto_region 5 with fail
      refine wp_region_seq 13 [15, 16, 17, 18, 19, 20, 21, 22, 23, 24, 25, 26, 27] [] [] [] (.op 13 .done) (Mm (fun g => g = b) w _) (by kernel_rfl) (by kernel_rfl) (by kernel_rfl) (fun d _ _ _ _ h => by cases d <;> exact h) (by rfl) M.size (fun _ _ h k => h.sf k) M ?_
      simp only [List.take_succ_cons, List.take_zero]
      refine SeqA.pure (.pointer (some ⟨b, 0, none⟩)) (fun w' => by go_simp) rfl rfl ?_
      refine SeqA.pure (.int .i64 i) (fun w' => by go_simp) rfl rfl ?_
      refine SeqA.pure (.pointer (some ⟨b, 0, none⟩)) (fun w' => by go_simp) rfl rfl ?_
      refine SeqA.pure (.pointer (some ⟨b, 0, none⟩)) (fun w' => by go_simp) rfl rfl ?_
      refine SeqA.pure (.pointer (some ⟨b, i, none⟩)) (fun w' => by go_simp) rfl rfl ?_
      simp only [Act.put, List.setIfInBounds_toArray, List.set_cons_succ, List.set_cons_zero]
      refine SeqA.read (U8 p) (fun w' hI => by have c0 := bl_cell i hxi (hI.row (b := b) (c := BL (XP L D i) v) (by simp)); rw [← Hp.out] at c0; go_simp) rfl rfl ?_
      refine SeqA.pure (.int .i64 i) (fun w' => by go_simp) rfl rfl ?_
      refine SeqA.pure (.pointer (some ⟨b5, i, none⟩)) (fun w' => by go_simp) rfl rfl ?_
      refine SeqA.read (U8 q) (fun w' hI => by have c0 := cell_cs 0 (hI.row (b := b5) (c := cs U8 D) (by simp)) (i := i) hiD; rw [← Hq.out] at c0; go_simp) rfl rfl ?_
      refine SeqA.pure (U8 y) (fun w' => by have h := HY.out; go_simp) rfl rfl ?_
      refine SeqA.pure (.pointer (some ⟨b, 0, none⟩)) (fun w' => by go_simp) rfl rfl ?_
      simp only [Act.put, List.setIfInBounds_toArray, List.set_cons_succ, List.set_cons_zero]
      refine SeqA.pure (.pointer (some ⟨b, 0, none⟩)) (fun w' => by go_simp) rfl rfl ?_
      refine SeqA.pure (.pointer (some ⟨b, i, none⟩)) (fun w' => by go_simp) rfl rfl ?_
      refine SeqA.nil (fun w1 M2 hz => ?_)
      show wpT _ _ _ _ _ _
      simp only [Act.put, List.setIfInBounds_toArray, List.set_cons_succ, List.set_cons_zero]
      refine wpT_stc M2 2 (U8 y) (BL ((XP L D i).set i y) v) inf_u8 rfl rfl rfl rfl (by go_simp) (by go_simp) (by simp [BL_size, hL, hk, hD, hxl, hi33]) (by simp [go_sem]) (bl_set _ _ _ hxi _) rfl (fun w3 M4 => ?_)
      dsimp only [List.set] at M4
      dsimp only [wpT]
      go_wp2_with fail
      rw [HS.out] at M4
      go_roundw
      case rel => exact ⟨i + 1, by omega, by simp, M4⟩
      case measure => simp only [intOf]; omega
    · have : i = 32 := by omega
      subst this
      rw [show XP L D 32 = Li.xo L D by rw [← hL]; exact XP_all L D (by omega)] at M
      go_wp2_with fail
      go_end0
      exact ⟨rfl, M.sub (by simp), HV.out _ _ M⟩
theorem streamm_v {w : World} {b n i : Nat} {D : List (BitVec 8)} {P : Nat → Bs8 × Bs8} {v : Value} (h1 : P (i + 1) = Li.st D (P i)) (hL : (P i).1.length = 32) (hD : D.length = 32) (hr : (P i).2.length = n) (hn : n ≤ 65536) (hv : BS w v (P i).2) (hvb : v.ownBlock ≠ some b) (hT : Hid (∀ H' w', Mm (fun g => g = b) w H' w' → KT w' ∧ 0 < w'.heap.size)) (M : Mm (fun g => g = b) w [(b, BL (P i).1 v)] w) :
    Calls Tryd.prog 41 #[.pointer (some ⟨b, 0, none⟩), .agg (cs U8 D)] w fun e w' => e = .returned (.tuple #[]) ∧ ∃ C', Mm (fun g => g = b) w [(b, C')] w' ∧ ∃ v', C' = BL (P (i + 1)).1 v' ∧ BS w' v' (P (i + 1)).2 ∧ ∀ g, v'.ownBlock = some g → v.ownBlock = some g ∨ w.heap.size ≤ g := by
  rw [h1]
  exact (streamm_c w b n D _ _ v hD hL hr hn hv hvb M).mono fun e w' ⟨h1, v', h2, h3, h4⟩ => ⟨h1, _, h2, v', rfl, h3, fun g hg => .inr (h4 g hg)⟩
theorem tagm_v {w : World} {b n i : Nat} {D : List (BitVec 8)} {P : Nat → Bs8 × Bs8} {v : Value} (h1 : P (i + 1) = Li.tg D (P i)) (hL : (P i).1.length = 32) (hD : D.length = 32) (hr : (P i).2.length = n) (hn : n ≤ 65536) (hv : BS w v (P i).2) (hvb : v.ownBlock ≠ some b) (hT : Hid (∀ H' w', Mm (fun g => g = b) w H' w' → KT w' ∧ 0 < w'.heap.size)) (M : Mm (fun g => g = b) w [(b, BL (P i).1 v)] w) :
    Calls Tryd.prog 42 #[.pointer (some ⟨b, 0, none⟩), .agg (cs U8 D)] w fun e w' => e = .returned (.tuple #[]) ∧ ∃ C', Mm (fun g => g = b) w [(b, C')] w' ∧ ∃ v', C' = BL (P (i + 1)).1 v' ∧ BS w' v' (P (i + 1)).2 ∧ ∀ g, v'.ownBlock = some g → v.ownBlock = some g ∨ w.heap.size ≤ g := by
  rw [h1]
  exact (tagm_c w b n D _ _ v hD hL hr hn hv hvb hT M).mono fun e w' ⟨h1, h2, h3⟩ => ⟨h1, _, h2, v, rfl, h3, fun g hg => .inl hg⟩
end Go.Proofs.YtbigmnhjnjeeaaaDoor
