/-
  Law 14: EpochOverlap; own work.
-/
import Derived.Test.YtgclegdgngldoaaDoorL14b
set_option linter.unusedSimpArgs false
set_option linter.unusedVariables false
namespace Go.Proofs.YtgclegdgngldoaaDoor
open Go.RowKit Fp
namespace Ep
theorem Good.hd {L : List Sl} {last : Nat} (h : Good L last) : ∃ a, L[0]? = some a ∧ gen0 L = a.gen ∧ a.made ≤ last := by
  rcases h.two with ⟨a, rfl, h1, _⟩ | ⟨a, b, rfl, h1, _⟩ <;> exact ⟨a, rfl, rfl, h1⟩
theorem Good.la {L : List Sl} {last : Nat} (h : Good L last) : ∃ s, L[L.length - 1]? = some s ∧ s.gen ≤ gen0 L := by
  rcases h.two with ⟨a, rfl, h1, _⟩ | ⟨a, b, rfl, h1, h2, _⟩
  · exact ⟨a, rfl, Nat.le_refl _⟩
  · exact ⟨b, rfl, by simp [gen0]; omega⟩
/-- what is the newest one at a tick is open for 512 ticks more -/
theorem over {x s z : Nat} (hs : x ≤ s) (hz : s ≤ z) (hz2 : z ≤ s + 512) {a : Sl} (ha : (tick [⟨0, x⟩] s)[0]? = some a) : ∃ sl ∈ tick (tick [⟨0, x⟩] s) z, sl.gen = a.gen := by
  obtain ⟨L, hL⟩ : ∃ L, tick [⟨0, x⟩] s = L := ⟨_, rfl⟩
  rw [hL] at ha ⊢
  have hm : a ∈ L := List.mem_of_getElem? ha
  have hgr : a.made / 1024 = s / 1024 := by
    rw [← hL] at ha
    unfold tick grow at ha
    by_cases h : x / 1024 < s / 1024
    · have hl : live s ⟨0 + 1, s⟩ = true := by unfold live fin; simp only [decide_eq_true_eq]; omega
      simp only [h, if_true] at ha
      rw [List.filter_cons, if_pos hl] at ha
      simp at ha; subst ha; rfl
    · have hl : live s ⟨0, x⟩ = true := by unfold live fin; simp only [decide_eq_true_eq]; omega
      simp only [h, if_false] at ha
      rw [List.filter_cons, if_pos hl] at ha
      simp at ha; subst ha; show x / 1024 = _; omega
  have hlv : live z a = true := by unfold live fin; simp only [decide_eq_true_eq]; omega
  refine ⟨a, ?_, rfl⟩
  unfold tick
  rw [List.mem_filter]
  refine ⟨?_, hlv⟩
  cases L with
  | nil => cases hm
  | cons y r =>
    unfold grow
    simp only
    split
    · exact List.mem_cons_of_mem _ hm
    · exact hm
end Ep
/-- two numbers, as they lie -/
def A2 (x y : Int) : Array Value := #[.int .u32 x, .int .u32 y]
theorem a2_c0 {w : World} {b : Nat} {x y : Int} (h : w.rowOf b = A2 x y) : w.cell? ⟨b, 0, none⟩ = some (.int .u32 x) := by rw [cell_rowOf, h]; rfl
theorem a2_c1 {w : World} {b : Nat} {x y : Int} (h : w.rowOf b = A2 x y) : w.cell? ⟨b, 1, none⟩ = some (.int .u32 y) := by rw [cell_rowOf, h]; rfl
theorem inf_a2 : (Tryd.prog.info? 68).map (·.size) = some 2 := by kernel_rfl
section
variable (ρ : Operand → Value) (dst : Option Tmp) (ty : TypeId) (pos : String) (after : Array Edge) (guard : Option (Nat × Bool)) (w : World)
@[go_sem ↓] theorem rl_a2 (x : Operand) : (execOp ρ { dst, op := .load 68 x, type := ty, pos, after, guard }).run Tryd.prog w = exLoad Tryd.prog 68 (ρ x) w := x_load ..
@[go_sem ↓] theorem rs_a2 (x y : Operand) : (execOp ρ { dst, op := .store 68 x y, type := ty, pos, after, guard }).run Tryd.prog w = exStore Tryd.prog 68 (ρ x) (ρ y) w := x_store ..
@[go_sem ↓] theorem ra_a2 : (execOp ρ { dst, op := .alloc 68, type := ty, pos, after, guard }).run Tryd.prog w = .ok (.value (.pointer (some ⟨w.heap.size, 0, none⟩))) (w.alloc (.cells (A2 0 0) 68)) :=
  (x_alloc ..).trans (x_alloc0 (v := .agg (A2 0 0)) _ (by kernel_rfl))
@[go_sem] theorem xl_a2 (b : Nat) (h : (w.rowOf b).size = 2) : exLoad Tryd.prog 68 (.pointer (some ⟨b, 0, none⟩)) w = .ok (.value (.agg (w.rowOf b))) w := x_load0 _ Tryd.underlying68 rfl inf_a2 b h
@[go_sem] theorem xlm_a2 (b o : Nat) (ho : 0 < o) (h : o + 2 ≤ (w.rowOf b).size) : exLoad Tryd.prog 68 (.pointer (some ⟨b, o, none⟩)) w = .ok (.value (.agg ((w.rowOf b).extract o (o + 2)))) w := x_loadm _ Tryd.underlying68 rfl inf_a2 b o h
@[go_sem] theorem xs_a2 (b : Nat) (c : Array Value) (hl : c.size = 2) (h1 : ones c = true) (h : (w.rowOf b).size = 2) (hf : w.free b = true) : exStore Tryd.prog 68 (.pointer (some ⟨b, 0, none⟩)) (.agg c) w = .ok .skip (w.setRow b c) :=
  x_store0 _ inf_a2 b c hl h hf (ones_all h1)
@[go_sem] theorem xsm_a2 (b o : Nat) (ho : 0 < o) (c : Array Value) (hl : c.size = 2) (h1 : ones c = true) (h : o + 2 ≤ (w.rowOf b).size) (hf : w.free b = true) : exStore Tryd.prog 68 (.pointer (some ⟨b, o, none⟩)) (.agg c) w = .ok .skip (w.setSeg b o c) :=
  x_storem _ inf_a2 b o c hl h hf (ones_all h1)
end
/-- at a step: a store, and a variable made -/
theorem wps_a2 {a : Act} {w : World} {K : Act → World → Prop} {Q : Exit → Act → World → Prop} {o : Oper} (p x : Operand) (ho : o.op = .store 68 p x) (b : Nat) (c : Array Value) (hp : a.eval p = .pointer (some ⟨b, 0, none⟩)) (hx : a.eval x = .agg c)
    (hl : c.size = 2) (h1 : ones c = true) (h : (w.rowOf b).size = 2) (hf : w.free b = true) (hK : K (a.put o.dst undef) (w.setRow b c)) : o.wp Tryd.prog a w K Q := by
  obtain ⟨dst, op, ty, pos, after, guard⟩ := o
  subst ho
  unfold Oper.wp
  rw [rs_a2, hp, hx, xs_a2 _ _ _ hl h1 h hf]
  simp only [Oper.upon]
  exact hK
theorem wpa_a2 {a : Act} {w : World} {K : Act → World → Prop} {Q : Exit → Act → World → Prop} {o : Oper} (ho : o.op = .alloc 68)
    (hK : K (a.put o.dst (.pointer (some ⟨w.heap.size, 0, none⟩))) (w.alloc (.cells (A2 0 0) 68))) : o.wp Tryd.prog a w K Q := by
  obtain ⟨dst, op, ty, pos, after, guard⟩ := o
  subst ho
  unfold Oper.wp
  rw [ra_a2]
  simp only [Oper.upon]
  exact hK

theorem el66 {S : Nat → Prop} {w0 : World} {B n g c1 : Nat} {k : L8} {L : List Ep.Sl} {v : Value} {cur : Array Value} (R : Rw B 66 v n (fl (e66 k) L) g c1 cur) (hn : L.length = n) {i : Nat} {s : Ep.Sl} (hs : L[i]? = some s) :
    Hid (∀ H w', Mm S w0 H w' → (g, cur) ∈ H → exLoad Tryd.prog 66 (.pointer (some ⟨g, i * 66, none⟩)) w' = .ok (.value (.agg (EPS k s))) w') :=
  hid fun H w' M hm => p66 Tryd.underlying66 rfl inf_eps R M hm hn i hs 0 (by decide) (EPS k s) (e66_all k s)
attribute [local irreducible] ESL EPS ROR A2
set_option maxRecDepth 100000 in
set_option maxHeartbeats 4000000 in
theorem EpochOverlap_w (w : World) (k : L8) (x y m : Nat) (hT : KT w ∧ 0 < w.heap.size) (hk : k.length = 32) (hx : x < 4294967296) (hy : y < 4294967296) (hm : m < 65536) :
    Calls Tryd.prog 9 #[.agg (cs U8 k), .agg (A2 x y), .int .u16 m] w fun e w' => e = .returned (.bool true) ∧ Below w.heap.size w w' := by
  have HT := hid hT
  have HT3 := hid (show KT w ∧ 0 < w.heap.size ∧ w.heap.size ≤ w.heap.size from ⟨hT.1, hT.2, Nat.le_refl _⟩)
  obtain ⟨r, hr⟩ : ∃ r, r = y % 5000 := ⟨_, rfl⟩
  obtain ⟨r2, hr2⟩ : ∃ r, r = m % 513 := ⟨_, rfl⟩
  obtain ⟨s, hs⟩ : ∃ s, s = x + r := ⟨_, rfl⟩
  obtain ⟨z, hz0⟩ : ∃ z, z = s + r2 := ⟨_, rfl⟩
  have hrl : r < 5000 := by rw [hr]; exact Nat.mod_lt _ (by decide)
  have hr2l : r2 ≤ 512 := by have := Nat.mod_lt m (show 0 < 513 by decide); omega
  have HX := hid (show IntKind.i64.wrap (x : Int) = (x : Int) from i64w _ (by omega) (by omega))
  have HR := hid (show IntKind.i64.wrap (r : Int) = (r : Int) from i64w _ (by omega) (by omega))
  have HM := hid (show IntKind.i64.wrap (r2 : Int) = (r2 : Int) from i64w _ (by omega) (by omega))
  have HS := hid (show IntKind.i64.wrap ((x : Int) + (r : Int)) = (s : Int) by rw [i64w _ (by omega) (by omega), hs]; rfl)
  have HZ := hid (show IntKind.i64.wrap ((s : Int) + (r2 : Int)) = (z : Int) by rw [i64w _ (by omega) (by omega), hz0]; rfl)
  have HR2 := hid (show (y : Int) % 5000 = (r : Int) by rw [hr]; rfl)
  have HR1 := hid (show (y : Int).tmod 5000 = (r : Int) by rw [Int.tmod_eq_emod_of_nonneg (by omega)]; exact HR2.out)
  have HM2 := hid (show (m : Int) % 513 = (r2 : Int) by rw [hr2]; rfl)
  have HM1 := hid (show (m : Int).tmod 513 = (r2 : Int) by rw [Int.tmod_eq_emod_of_nonneg (by omega)]; exact HM2.out)
  have hxs : x ≤ s := by omega
  have hsz : s ≤ z := by omega
  have hsz2 : z ≤ s + 512 := by omega
  have hzb : z ≤ 5000000000 := by omega
  have G0 : Ep.Good [⟨0, x⟩] x := .one (by omega)
  obtain ⟨G1, hg1⟩ := G0.tick hxs (by omega)
  obtain ⟨L1, hL1⟩ : ∃ L, Ep.tick [⟨0, x⟩] s = L := ⟨_, rfl⟩
  rw [hL1] at G1 hg1
  obtain ⟨G2, hg2⟩ := G1.tick hsz (by omega)
  obtain ⟨L2, hL2⟩ : ∃ L, Ep.tick L1 z = L := ⟨_, rfl⟩
  rw [hL2] at G2 hg2
  obtain ⟨a1, ha1, hga1, hma1⟩ := G1.hd
  obtain ⟨sl1, hsl1, _⟩ := G1.la
  obtain ⟨sl2, hsl2, _⟩ := G2.la
  have hg10 : Ep.gen0 [⟨0, x⟩] = 0 := rfl
  have hov : ∃ sl ∈ L2, sl.gen = a1.gen := by rw [← hL2, ← hL1]; exact Ep.over hxs hsz hsz2 (by rw [hL1]; exact ha1)
  obtain ⟨n1, hn1⟩ : ∃ n, L1.length = n := ⟨_, rfl⟩
  obtain ⟨n2, hn2⟩ : ∃ n, L2.length = n := ⟨_, rfl⟩
  have hl1 := G1.len
  have hl2 := G2.len
  have H90 := hid (show ([⟨0, x⟩] : List Ep.Sl).length ≤ 900 by simp)
  have H91 := hid (show L1.length ≤ 900 by omega)
  have HA0 := hid (show ([⟨0, x⟩] : List Ep.Sl)[0]? = some ⟨0, x⟩ from rfl)
  have HA1 := hid ha1
  have HL0 := hid hL1
  have HL1 := hid hL2
  have HSL0 := hid hsl1
  have HSL1 := hid hsl2
  have HOV := hid hov
  rw [hn1] at hl1
  rw [hn2] at hl2
  have hag : a1.gen ≤ 1 := by omega
  clear hT hL1 hL2 ha1 hsl1 hsl2 hov G0 G1 G2 hg1 hg2 hr hr2 hs hz0 hg10 hga1
  have M0 := Mm.start no w
  go_enter Tryd.func9, Tryd.ntmps9
  have M2 := ((M0.alloc (cs U8 k) 23 (by decide)).alloc (A2 x y) 68 (by decide))
  try simp only [World.size_alloc] at M2
  go_upto_region 1 with fail
  obtain ⟨w1, hw1⟩ : ∃ w1, w1 = ((w.alloc (.cells (cs U8 k) 23)).alloc (.cells (A2 x y) 68)) := ⟨_, rfl⟩
  rw [← hw1] at M2 ⊢
  clear hw1
  refine wp_region_lin (.op 0 (.op 1 .done)) (by rfl) ?_
  refine wpT_callv 13 M2 (v := .bool true) rfl rfl rfl (by go_simp) (alive14_v HT.out M2.end_) (fun w3 M4 => ?_)
  refine wpT_valp 14 (v := .bool false) rfl rfl rfl (by go_simp) ?_
  dsimp only [wpT]
  try simp only [Act.put, List.setIfInBounds_toArray, List.set_cons_succ, List.set_cons_zero]
  go_upto_region 3 with fail
  refine wp_region_lin (.op 0 (.op 1 (.op 2 (.op 3 (.op 4 (.op 5 .done)))))) (by rfl) ?_
  refine wpT_ld0 15 Tryd.underlying23 rfl inf_key (w.heap.size) (cs U8 k) rfl rfl rfl (by go_simp) (M4.row (b := w.heap.size) (c := cs U8 k) (by simp)) (by simp [hk, ROR_size, EPS_size, Ep.pub_len]) rfl ?_
  refine wpT_valp 16 (v := .pointer (some ⟨w.heap.size + 1, 0, none⟩)) rfl rfl rfl (by go_simp) ?_
  refine wpT_valp 17 (v := .int .u32 x) rfl rfl rfl (by have c0 := a2_c0 (M4.row (b := w.heap.size + 1) (c := A2 x y) (by simp)); go_simp) ?_
  refine wpT_valp 18 (v := .int .i64 x) rfl rfl rfl (by have h := HX.out; go_simp) ?_
  try simp only [Act.put, List.setIfInBounds_toArray, List.set_cons_succ, List.set_cons_zero]
  refine wpT_ronew (t' := x) (n' := 1) 19 M4 rfl rfl rfl (by go_simp) (new_v HT.out M4.end_ hk x x rfl (by omega)) rfl (fun gb g1 c1 cu1 wg1 hgb R1 Mg1 => ?_)
  refine wpT_valp 7 (v := .pointer (some ⟨gb, 0, none⟩)) rfl rfl rfl (by go_simp) ?_
  dsimp only [wpT]
  try simp only [Act.put, List.setIfInBounds_toArray, List.set_cons_succ, List.set_cons_zero]
  go_upto_region 4 with fail
  refine wp_region_lin (.op 0 (.op 1 .done)) (by rfl) ?_
  refine wpT_valp 20 (v := .pointer (some ⟨gb, 0, none⟩)) rfl rfl rfl (by go_simp) ?_
  refine wpT_valp 21 (v := .bool false) rfl rfl rfl (by go_simp) ?_
  dsimp only [wpT]
  try simp only [Act.put, List.setIfInBounds_toArray, List.set_cons_succ, List.set_cons_zero]
  go_upto_region 6 with fail
  refine wp_region_lin (.op 0 (.op 1 (.op 2 (.op 3 (.op 4 (.op 5 (.op 6 (.op 7 (.op 8 .done))))))))) (by rfl) ?_
  refine wpT_valp 22 (v := .pointer (some ⟨w.heap.size + 1, 0, none⟩)) rfl rfl rfl (by go_simp) ?_
  refine wpT_valp 23 (v := .int .u32 x) rfl rfl rfl (by have c0 := a2_c0 (Mg1.row (b := w.heap.size + 1) (c := A2 x y) (by simp)); go_simp) ?_
  refine wpT_valp 24 (v := .int .i64 x) rfl rfl rfl (by have h := HX.out; go_simp) ?_
  refine wpT_valp 25 (v := .pointer (some ⟨w.heap.size + 1, 1, none⟩)) rfl rfl rfl (by go_simp) ?_
  try simp only [Act.put, List.setIfInBounds_toArray, List.set_cons_succ, List.set_cons_zero]
  refine wpT_valp 26 (v := .int .u32 y) rfl rfl rfl (by have c0 := a2_c1 (Mg1.row (b := w.heap.size + 1) (c := A2 x y) (by simp)); go_simp) ?_
  refine wpT_valp 27 (v := .int .u32 r) rfl rfl rfl (by have h := HR1.out; have h2 := HR2.out; go_simp) ?_
  refine wpT_valp 28 (v := .int .i64 r) rfl rfl rfl (by have h := HR.out; go_simp) ?_
  refine wpT_valp 29 (v := .int .i64 s) rfl rfl rfl (by have h := HS.out; go_simp) ?_
  refine wpT_valp 8 (v := .int .i64 s) rfl rfl rfl (by go_simp) ?_
  dsimp only [wpT]
  try simp only [Act.put, List.setIfInBounds_toArray, List.set_cons_succ, List.set_cons_zero]
  go_upto_region 7 with fail
  refine wp_region_lin (.op 0 (.op 1 (.op 2 .done))) (by rfl) ?_
  refine wpT_valp 30 (v := .pointer (some ⟨gb, 0, none⟩)) rfl rfl rfl (by go_simp) ?_
  refine wpT_valp 31 (v := .int .i64 s) rfl rfl rfl (by go_simp) ?_
  refine wpT_ro (t' := s) (n' := n1) 32 Mg1 [] [(w.heap.size + 1, A2 x y), (w.heap.size, cs U8 k)] rfl rfl R1 rfl rfl rfl (by go_simp) (tick_v (ro_at (b := gb) (t := x) Mg1 (A := []) (C := [(w.heap.size + 1, A2 x y), (w.heap.size, cs U8 k)]) rfl R1 rfl hgb hk (by decide)) HT3.out Mg1.end_ H90.out s s rfl (by omega) (by omega) ⟨0, x⟩ HA0.out (by first | omega | (simp; done) | (simp; omega)) (by first | omega | (simp; done) | (simp; omega)) HL0.out sl1 HSL0.out _ rfl) hn1 (fun g2 c2 cu2 wg2 R2 Mg2 => ?_)
  dsimp only [wpT]
  try simp only [Act.put, List.setIfInBounds_toArray, List.set_cons_succ, List.set_cons_zero]
  go_upto_region 8 with fail
  refine wp_region_lin (.op 0 (.op 1 (.op 2 (.op 3 (.op 4 (.op 5 (.op 6 (.op 7 .done)))))))) (by rfl) ?_
  refine wpT_valp 34 (v := .pointer (some ⟨gb, 0, none⟩)) rfl rfl rfl (by go_simp) ?_
  refine wpT_callv 35 Mg2 (v := .tuple #[.agg (cs U8 (Ep.pub k a1.gen)), .int .i64 a1.gen]) rfl rfl rfl (by go_simp) (public_x (ro_at (b := gb) (t := s) Mg2 (A := []) (C := [(w.heap.size + 1, A2 x y), (w.heap.size, cs U8 k)]) rfl R2 hn1 hgb hk (by omega)) (a := a1) HA1.out rfl rfl) (fun w5 M6 => ?_)
  refine wpT_valp 33 (v := .tuple #[.agg (cs U8 (Ep.pub k a1.gen)), .int .i64 a1.gen]) rfl rfl rfl (by go_simp) ?_
  refine wpT_valp 36 (v := .agg (cs U8 (Ep.pub k a1.gen))) rfl rfl rfl (by go_simp) ?_
  try simp only [Act.put, List.setIfInBounds_toArray, List.set_cons_succ, List.set_cons_zero]
  refine wpT_valp 37 (v := .int .i64 a1.gen) rfl rfl rfl (by go_simp) ?_
  refine wpT_new (z := .agg (cs U8 (zs 32))) 9 M6 (by kernel_rfl) (by decide) rfl rfl rfl rfl (fun b7 w8 M9 => ?_)
  try dsimp only [Value.cells] at M9
  refine wpT_st0 M9 0 (cs U8 (Ep.pub k a1.gen)) inf_key rfl rfl rfl rfl (by go_simp) (by go_simp) (by simp [hk, ROR_size, EPS_size, Ep.pub_len]) (by simp [hk, ROR_size, EPS_size, Ep.pub_len]) (by simp [go_sem]) rfl (fun w10 M11 => ?_)
  dsimp only [List.set] at M11
  refine wpT_valp 10 (v := .int .i64 a1.gen) rfl rfl rfl (by go_simp) ?_
  dsimp only [wpT]
  try simp only [Act.put, List.setIfInBounds_toArray, List.set_cons_succ, List.set_cons_zero]
  go_upto_region 9 with fail
  refine wp_region_lin (.op 0 (.op 1 (.op 2 (.op 3 (.op 4 (.op 5 (.op 6 .done))))))) (by rfl) ?_
  refine wpT_valp 38 (v := .pointer (some ⟨gb, 0, none⟩)) rfl rfl rfl (by go_simp) ?_
  refine wpT_valp 39 (v := .int .i64 s) rfl rfl rfl (by go_simp) ?_
  refine wpT_valp 40 (v := .int .u16 m) rfl rfl rfl (by go_simp) ?_
  refine wpT_valp 41 (v := .int .u16 r2) rfl rfl rfl (by have h := HM1.out; have h2 := HM2.out; go_simp) ?_
  try simp only [Act.put, List.setIfInBounds_toArray, List.set_cons_succ, List.set_cons_zero]
  refine wpT_valp 42 (v := .int .i64 r2) rfl rfl rfl (by have h := HM.out; go_simp) ?_
  refine wpT_valp 43 (v := .int .i64 z) rfl rfl rfl (by have h := HZ.out; go_simp) ?_
  refine wpT_ro (t' := z) (n' := n2) 44 M11 [(b7, cs U8 (Ep.pub k a1.gen))] [(w.heap.size + 1, A2 x y), (w.heap.size, cs U8 k)] rfl rfl R2 rfl rfl rfl (by go_simp) (tick_v (ro_at (b := gb) (t := s) M11 (A := [(b7, cs U8 (Ep.pub k a1.gen))]) (C := [(w.heap.size + 1, A2 x y), (w.heap.size, cs U8 k)]) rfl R2 hn1 hgb hk (by omega)) HT3.out M11.end_ H91.out z z rfl (by omega) (by omega) a1 HA1.out (by first | omega | (simp; done) | (simp; omega)) (by first | omega | (simp; done) | (simp; omega)) HL1.out sl2 HSL1.out _ rfl) hn2 (fun g3 c3 cu3 wg3 R3 Mg3 => ?_)
  dsimp only [wpT]
  try simp only [Act.put, List.setIfInBounds_toArray, List.set_cons_succ, List.set_cons_zero]
  go_upto_region 10 with fail
  refine wp_region_lin (.op 0 (.op 1 (.op 2 (.op 3 .done)))) (by rfl) ?_
  refine wpT_valp 45 (v := .pointer (some ⟨gb, 0, none⟩)) rfl rfl rfl (by go_simp) ?_
  refine wpT_ownr 46 Mg3 rfl rfl rfl (by go_simp) (open_ep (n := n2) (ro_at (b := gb) (t := z) Mg3 (A := []) (C := [(b7, cs U8 (Ep.pub k a1.gen)), (w.heap.size + 1, A2 x y), (w.heap.size, cs U8 k)]) rfl R3 hn2 hgb hk (by omega)) (by omega) hn2) (by omega) (fun gu cu_ curu wgu Ru Mgu => ?_)
  refine wpT_valp 47 (v := .int .i64 n2) rfl rfl rfl (by go_simp) ?_
  refine wpT_valp 48 (v := .int .i64 0) rfl rfl rfl (by go_simp) ?_
  dsimp only [wpT]
  try simp only [Act.put, List.setIfInBounds_toArray, List.set_cons_succ, List.set_cons_zero]
  go_wp2_with fail
  go_loopw [48] (fun q wr => ∃ i : Nat, i ≤ n2 ∧ q = .int .i64 i ∧ (∀ j, j < i → ∀ sl, L2[j]? = some sl → sl.gen ≠ a1.gen) ∧ Mm no w [(gu, curu), (g3, cu3), (gb, ROR k (.slice (some ⟨g3, 0, none⟩) n2 c3) z), (b7, cs U8 (Ep.pub k a1.gen)), (w.heap.size + 1, A2 x y), (w.heap.size, cs U8 k)] wr) (fun q _ => n2 - (intOf q).toNat)
  case atStart => exact ⟨0, by omega, rfl, fun j hj => by omega, Mgu⟩
  case round =>
    clear Mgu
    obtain ⟨i, hi, rfl, hall, M⟩ := hrel
    have HALL := hid hall
    clear hall
    by_cases hin : i < n2
    · have hlt : (i : Int) < (n2 : Int) := by omega
      have hi0 : (0 : Int) ≤ (i : Int) := by omega
      obtain ⟨sl, hs⟩ : ∃ s, L2[i]? = some s := ⟨_, List.getElem?_eq_getElem (by omega)⟩
      have HEL := el66 (S := no) (w0 := w) Ru hn2 hs
      have HI := hid hs
      clear hs
      by_cases hq : sl.gen = a1.gen
      · have HEQ := hid (show ((sl.gen : Int) = (a1.gen : Int)) = True by rw [hq]; simp)
        clear hq
        go_upto_region 12 with fail
        refine wp_region_lin (.op 0 (.op 1 (.op 2 (.op 3 .done)))) (by rfl) ?_
        refine wpT_valp 50 (v := .pointer (some ⟨gu, i * 66, none⟩)) rfl rfl rfl (by go_simp) ?_
        refine wpT_ldy 51 (.pointer (some ⟨gu, i * 66, none⟩)) (.agg (EPS k sl)) rfl rfl rfl (by go_simp) (HEL.out _ _ M (by simp)) rfl ?_
        refine wpT_new (z := .agg (ZPS)) 12 M (by kernel_rfl) (by decide) rfl rfl rfl rfl (fun b1 w2 M3 => ?_)
        try dsimp only [Value.cells] at M3
        refine wpT_st0 M3 0 (EPS k sl) inf_eps rfl rfl rfl rfl (by go_simp) (by go_simp) (by simp [hk, ROR_size, EPS_size, Ep.pub_len]) (by simp [hk, ROR_size, EPS_size, Ep.pub_len]) (by simp [go_sem]) rfl (fun w4 M5 => ?_)
        dsimp only [List.set] at M5
        dsimp only [wpT]
        try simp only [Act.put, List.setIfInBounds_toArray, List.set_cons_succ, List.set_cons_zero]
        go_upto_region 13 with fail
        refine wp_region_lin (.op 0 (.op 1 (.op 2 (.op 3 .done)))) (by rfl) ?_
        refine wpT_valp 52 (v := .pointer (some ⟨b1, 0, none⟩)) rfl rfl rfl (by go_simp) ?_
        refine wpT_valp 53 (v := .int .i64 sl.gen) rfl rfl rfl (by have c0 := eps_c0 (M5.row (b := b1) (c := EPS k sl) (by simp)); go_simp) ?_
        refine wpT_valp 54 (v := .int .i64 a1.gen) rfl rfl rfl (by go_simp) ?_
        refine wpT_valp 55 (v := .bool true) rfl rfl rfl (by have h := HEQ.out; go_simp) ?_
        dsimp only [wpT]
        try simp only [Act.put, List.setIfInBounds_toArray, List.set_cons_succ, List.set_cons_zero]
        go_upto_region 14 with fail
        refine wp_region_lin (.op 0 .done) (by rfl) ?_
        refine wpT_valp 6 (v := .bool true) rfl rfl rfl (by go_simp) ?_
        dsimp only [wpT]
        try simp only [Act.put, List.setIfInBounds_toArray, List.set_cons_succ, List.set_cons_zero]
        go_wp2_with fail
        go_ret
        exact ⟨rfl, M5.end_⟩
      · have HEQ := hid (show ((sl.gen : Int) = (a1.gen : Int)) = False by simp; omega)
        go_upto_region 12 with fail
        refine wp_region_lin (.op 0 (.op 1 (.op 2 (.op 3 .done)))) (by rfl) ?_
        refine wpT_valp 50 (v := .pointer (some ⟨gu, i * 66, none⟩)) rfl rfl rfl (by go_simp) ?_
        refine wpT_ldy 51 (.pointer (some ⟨gu, i * 66, none⟩)) (.agg (EPS k sl)) rfl rfl rfl (by go_simp) (HEL.out _ _ M (by simp)) rfl ?_
        refine wpT_new (z := .agg (ZPS)) 12 M (by kernel_rfl) (by decide) rfl rfl rfl rfl (fun b1 w2 M3 => ?_)
        try dsimp only [Value.cells] at M3
        refine wpT_st0 M3 0 (EPS k sl) inf_eps rfl rfl rfl rfl (by go_simp) (by go_simp) (by simp [hk, ROR_size, EPS_size, Ep.pub_len]) (by simp [hk, ROR_size, EPS_size, Ep.pub_len]) (by simp [go_sem]) rfl (fun w4 M5 => ?_)
        dsimp only [List.set] at M5
        dsimp only [wpT]
        try simp only [Act.put, List.setIfInBounds_toArray, List.set_cons_succ, List.set_cons_zero]
        go_upto_region 13 with fail
        refine wp_region_lin (.op 0 (.op 1 (.op 2 (.op 3 .done)))) (by rfl) ?_
        refine wpT_valp 52 (v := .pointer (some ⟨b1, 0, none⟩)) rfl rfl rfl (by go_simp) ?_
        refine wpT_valp 53 (v := .int .i64 sl.gen) rfl rfl rfl (by have c0 := eps_c0 (M5.row (b := b1) (c := EPS k sl) (by simp)); go_simp) ?_
        refine wpT_valp 54 (v := .int .i64 a1.gen) rfl rfl rfl (by go_simp) ?_
        refine wpT_valp 55 (v := .bool false) rfl rfl rfl (by have h := HEQ.out; go_simp) ?_
        dsimp only [wpT]
        try simp only [Act.put, List.setIfInBounds_toArray, List.set_cons_succ, List.set_cons_zero]
        go_wp2_with fail
        go_roundw
        case rel =>
          refine ⟨i + 1, by omega, by simp, fun j hj s' hs' => ?_, M5.sub (by simp)⟩
          by_cases e : j = i
          · subst e; rw [HI.out] at hs'; injection hs' with hs'; exact hs' ▸ hq
          · exact HALL.out j (by omega) s' hs'
        case measure => simp only [intOf]; omega
    · exfalso
      obtain ⟨sl, hm, he⟩ := HOV.out
      obtain ⟨j, hj, e⟩ := List.getElem_of_mem hm
      exact HALL.out j (by omega) sl (by rw [List.getElem?_eq_getElem hj, e]) he
end Go.Proofs.YtgclegdgngldoaaDoor
