/-
  Package epoch: a Rotor in memory; Tick; own work.
-/
import Derived.Test.YtgclegdgngldoaaDoorEp4
set_option linter.unusedSimpArgs false
set_option linter.unusedVariables false
namespace Go.Proofs.YtgclegdgngldoaaDoor
open Go.RowKit Fp
/-- a Rotor in memory, that has these generations -/
structure RO (w : World) (B b : Nat) (k : L8) (L : List Ep.Sl) (t : Nat) (v : Value) : Prop where
  row : ∃ T, T ≠ 5 ∧ w.heap[b]? = some (.cells (ROR k v t) T (0, 0))
  bb : B ≤ b
  ow : Ow w B 67 v L.length (fl (e67 k) L)
  ne : obk v ≠ some b
  kl : k.length = 32
  l0 : 0 < L.length
/-- the blocks that it may write to -/
def RF (b : Nat) (v : Value) : Nat → Prop := fun g => g = b ∨ obk v = some g
section
variable {w w' : World} {B b : Nat} {k : L8} {L : List Ep.Sl} {t : Nat} {v : Value}
theorem RO.lt (R : RO w B b k L t v) : ∀ g, RF b v g → B ≤ g ∧ g < w.heap.size := by
  intro g hg
  rcases hg with rfl | hg
  · obtain ⟨T, hT, h⟩ := R.row
    exact ⟨R.bb, (Array.getElem?_eq_some_iff.1 h).1⟩
  · exact R.ow.at_ g hg
theorem RO.fr {F : Nat → Prop} (R : RO w B b k L t v) (hf : Fr F w w') (hF : ∀ g, RF b v g → ¬ F g) : RO w' B b k L t v := by
  obtain ⟨T, hT, h⟩ := R.row
  exact ⟨⟨T, hT, (hf.block b (R.lt b (.inl rfl)).2 (hF b (.inl rfl))).trans h⟩, R.bb, R.ow.fr hf (fun g hg => hF g (.inr hg)), R.ne, R.kl, R.l0⟩
theorem RO.below (R : RO w B b k L t v) (hb : Below w.heap.size w w') : RO w' B b k L t v := R.fr (Fr.of_below (S := fun _ => False) hb) (fun _ _ h => h)
theorem RO.mm (R : RO w B b k L t v) : ∃ g c1 cur, Rw B 67 v L.length (fl (e67 k) L) g c1 cur ∧ Mm (RF b v) w [(g, cur), (b, ROR k v t)] w := by
  obtain ⟨T, hT, h⟩ := R.row
  have M : Mm (RF b v) w [(b, ROR k v t)] w := (Mm.start _ w).more hT h (.inl (.inl rfl)) (fun p hp => by cases hp)
  exact M.reown R.ow R.l0 (fun g hg => ⟨.inl (.inr hg), fun p hp e => by
    simp only [List.mem_cons, List.not_mem_nil, or_false] at hp
    subst hp
    exact R.ne (by rw [hg, ← e])⟩)
theorem RO.of {S : Nat → Prop} {w0 : World} {H : List (Nat × Array Value)} {g c1 : Nat} {cur : Array Value} (M : Mm S w0 H w) (hb : (b, ROR k v t) ∈ H) (hg : (g, cur) ∈ H) (R : Rw B 67 v L.length (fl (e67 k) L) g c1 cur) (hBb : B ≤ b) (hk : k.length = 32) (h0 : 0 < L.length) : RO w B b k L t v := by
  obtain ⟨_, T, hT, h⟩ := M.own _ hb
  refine ⟨⟨T, hT, h⟩, hBb, R.ow M hg, fun e => ?_, hk, h0⟩
  rw [R.ob] at e
  injection e with e
  subst e
  have h1 := M.row hb
  rw [M.row hg] at h1
  have h2 := R.sz
  rw [h1, ROR_size hk] at h2
  omega
theorem RF.new {w0 : World} {H : List (Nat × Array Value)} {v' : Value} {g : Nat} {cur : Array Value} (M : Mm (RF b v) w0 H w) (hg : (g, cur) ∈ H) (ho : obk v' = some g) : ∀ x, RF b v' x → RF b v x ∨ w0.heap.size ≤ x := by
  intro x hx
  rcases hx with rfl | hx
  · exact .inl (.inl rfl)
  · rw [ho] at hx; injection hx with hx; subst hx
    exact (M.own _ hg).1
end
section
variable {S : Nat → Prop} {w0 w : World} {H : List (Nat × Array Value)} {B b g gx n c1 : Nat} {k : L8} {L : List Ep.Sl} {v : Value} {cur : Array Value}
theorem good_t {t : Int} {va : Option Addr} {cap : Nat} (hR : w.rowOf b = ROR k (.slice va n cap) t) (hb : b < w.heap.size) (hk : k.length = 32) (h0 : 0 < n) :
    Calls Tryd.prog 42 #[.pointer (some ⟨b, 0, none⟩)] w fun e w' => e = .returned (.bool true) ∧ Below w.heap.size w w' := by
  have := good_c w b k va n cap t hk hR hb
  rw [decide_eq_true h0] at this; exact this
theorem later_b {t m : Int} {r : Bool} (hR : w.rowOf b = ROR k v t) (hb : b < w.heap.size) (hk : k.length = 32) (hr : decide (t ≤ m ∧ 0 ≤ m ∧ m ≤ 1099511627776) = r) :
    Calls Tryd.prog 43 #[.pointer (some ⟨b, 0, none⟩), .int .i64 m] w fun e w' => e = .returned (.bool r) ∧ Below w.heap.size w w' := by
  rw [← hr]; exact later_c w b k v t m hk hR hb
theorem made_x {t : Int} (hT : KT w0 ∧ 0 < B ∧ B ≤ w0.heap.size) (hb : Below B w0 w) (hR : w.rowOf b = ROR k v t) (hlt : b < w.heap.size) (hk : k.length = 32) (s : Ep.Sl) (hm : s.made ≤ 1099511627776) :
    Calls Tryd.prog 40 #[.pointer (some ⟨b, 0, none⟩), .int .i64 s.gen, .int .i64 s.made] w fun e w' => e = .returned (.agg (ESL k s)) ∧ Below w.heap.size w w' :=
  made_c w ⟨hT.1.below hb hT.2.1, Nat.lt_of_lt_of_le hT.2.1 (Nat.le_trans hT.2.2 hb.size)⟩ b k v t s hk hm hR hlt
theorem ins_x (R : Rw B 67 v n (fl (e67 k) L) g c1 cur) (M : Mm S w0 H w) (hm : (g, cur) ∈ H) {s : Ep.Sl} (hx : (gx, ESL k s) ∈ H) (hne : gx ≠ g) (hB : B ≤ w0.heap.size) (h0 : 0 < n) (h9 : n ≤ 1000) (hn : L.length = n) {n2 : Nat} (hn2 : n2 = n + 1) :
    Calls Tryd.prog 45 #[v, .int .i64 0, .slice (some ⟨gx, 0, none⟩) 1 1] w fun e w' =>
      ∃ v', e = .returned v' ∧ Ow w' B 67 v' n2 (fl (e67 k) (s :: L)) ∧ Fr (fun x => some g = some x) w w' ∧ ∀ x, obk v' = some x → some g = some x ∨ w.heap.size ≤ x := by
  subst hn; subst hn2
  obtain ⟨_, X, _, hX⟩ := M.own _ hx
  have := ins_c w B gx v L k s (Nat.le_trans hB M.size) h0 h9 (R.ow M hm) X hX (by rw [R.ob]; intro e; injection e with e; exact hne e.symm)
  rw [R.ob] at this
  exact this
theorem delf_x (R : Rw B 67 v n (fl (e67 k) L) g c1 cur) (M : Mm S w0 H w) (hm : (g, cur) ∈ H) {nb now : Nat} (hx : (nb, #[.int .i64 now]) ∈ H) (hne : nb ≠ g) (h0 : 0 < n) (hn : L.length = n) {L3 : List Ep.Sl} {n3 : Nat} (hL3 : L.filter (Ep.live now) = L3) (hn3 : L3.length = n3) :
    Calls Tryd.prog 46 #[v, .func (.func 47) #[] #[.pointer (some ⟨nb, 0, none⟩)]] w fun e w' =>
      ∃ v', e = .returned v' ∧ Ow w' B 67 v' n3 (fl (e67 k) L3) ∧ Fr (fun x => some g = some x) w w' ∧ ∀ x, obk v' = some x → some g = some x ∨ w.heap.size ≤ x := by
  subst hn; subst hn3; subst hL3
  have := delf_c w B nb now v L k h0 (R.ow M hm) (M.row hx) (M.lt hx) (by rw [R.ob]; intro e; injection e with e; exact hne e.symm)
  rw [R.ob] at this
  exact this.mono fun e w' ⟨v', h1, h2, h3, h4⟩ => ⟨v', h1, h2, h3, fun x hx => .inl (by rw [← hx, h4])⟩
theorem wpT_slot1 {ops : Array Oper} {Q : Exit → Act → World → Prop} {i : Nat} {t : Tr} {a : Act} {o : Oper} (dst : Nat) (x : Operand) (M : Mm S w0 H w) (k : L8) (s : Ep.Sl) (hdst : o.dst = some dst) (ho : ops[i]? = some o) (hop : o.op = .buildSlice 71 1 #[(0, x)]) (hx : a.eval x = .agg (ESL k s)) (hw : Region.wanted o (yielded ops a.tmps) = true)
    (h : ∀ b w', Mm S w0 ((b, ESL k s) :: H) w' → wpT Tryd.prog ops Q t (a.put (some dst) (.slice (some ⟨b, 0, none⟩) 1 1)) w') : wpT Tryd.prog ops Q (.op i t) a w :=
  wpT_one dst x M elt_esl (by decide) _ ESL_size hdst ho hop hx hw h
theorem cell_of {s : Ep.Sl} {i : Nat} (h : w.rowOf g = cur) (hc : cur[i * 67 + 0]? = (e67 k s)[0]?) : w.cell? ⟨g, i * 67, none⟩ = some (.int .i64 s.gen) := by
  rw [cell_rowOf, h, show i * 67 = i * 67 + 0 from rfl, hc]; simp [e67, ESL, EPS]
theorem elt0_of {a : Ep.Sl} (R : Rw B 67 v n (fl (e67 k) L) g c1 cur) (hn : L.length = n) (h : L[0]? = some a) : cur.extract 0 (0 + 67) = ESL k a := by
  have := grow_elt (e67_len k) hn R.tk h 0 67 (by decide)
  simp only [Nat.zero_mul, Nat.add_zero] at this
  rw [this]
  apply Array.toList_inj.1
  simp only [List.drop_zero]
  rw [List.take_of_length_le (by rw [e67_len]; decide)]; rfl
end
attribute [local irreducible] ESL EPS ROR
set_option maxRecDepth 100000 in
set_option maxHeartbeats 4000000 in
theorem tick_c (w : World) (B b : Nat) (k : L8) (L : List Ep.Sl) (t : Nat) (v : Value) (R : RO w B b k L t v) (hT : KT w ∧ 0 < B ∧ B ≤ w.heap.size) (a : Ep.Sl) (hLa : L[0]? = some a) (h9 : L.length ≤ 900) (s1 : Ep.Sl) (hs1 : s1.gen = a.gen + 1) (hg : a.gen ≤ 1000000) (ht : t ≤ s1.made) (hm : s1.made ≤ 1099511627776) (ha : a.made ≤ 1099511627776)
    (sl : Ep.Sl) (h3 : 0 < (Ep.tick L s1.made).length) (h4 : (Ep.tick L s1.made)[(Ep.tick L s1.made).length - 1]? = some sl) :
    Calls Tryd.prog 28 #[.pointer (some ⟨b, 0, none⟩), .int .i64 s1.made] w fun e w' => e = .returned (.int .i64 sl.gen) ∧ ∃ v', RO w' B b k (Ep.tick L s1.made) s1.made v' ∧ Fr (RF b v) w w' ∧ ∀ g, RF b v' g → RF b v g ∨ w.heap.size ≤ g := by
  obtain ⟨g, c1, cur, R0, M0⟩ := R.mm
  obtain rfl := R0.v
  have hk := R.kl
  have hBb := R.bb
  have hB := hT.2.2
  have HB : Hid (∀ w', Fr (RF b (.slice (some ⟨g, 0, none⟩) L.length c1)) w w' → Below B w w') := hid fun w' h => h.below B hB (fun x _ hx => (R.lt x hx).1)
  have HT := hid hT
  have hsz := R0.sz
  have hc0 := R0.c0
  have hnc := R0.nc
  obtain ⟨n, hLn⟩ : ∃ n, L.length = n := ⟨_, rfl⟩
  have h0 := R.l0
  rw [hLn] at R0 M0 HB h0 hnc h9 ⊢
  have HE0 := hid (elt0_of R0 hLn hLa)
  have hn0 : (0 : Int) < (n : Int) := by omega
  have HLT := hid (show decide ((t : Int) ≤ (s1.made : Int) ∧ 0 ≤ (s1.made : Int) ∧ (s1.made : Int) ≤ 1099511627776) = true from decide_eq_true ⟨by omega, by omega, by omega⟩)
  obtain ⟨q1, hq1⟩ : ∃ q, q = s1.made / 1024 := ⟨_, rfl⟩
  obtain ⟨q2, hq2⟩ : ∃ q, q = a.made / 1024 := ⟨_, rfl⟩
  have HQ1 := hid (show IntKind.i64.wrap ((s1.made : Int) / 1024) = (q1 : Int) by rw [i64w _ (by omega) (by omega), hq1]; rfl)
  have HQ2 := hid (show IntKind.i64.wrap ((a.made : Int) / 1024) = (q2 : Int) by rw [i64w _ (by omega) (by omega), hq2]; rfl)
  have HG1 := hid (show IntKind.i64.wrap ((a.gen : Int) + 1) = (s1.gen : Int) by rw [i64w _ (by omega) (by omega), hs1]; rfl)
  have hgr : Ep.grow L s1.made = if q2 < q1 then s1 :: L else L := by
    cases L with
    | nil => simp at hLa
    | cons x r =>
      simp at hLa; subst hLa
      show (if x.made / 1024 < s1.made / 1024 then (⟨x.gen + 1, s1.made⟩ : Ep.Sl) :: x :: r else x :: r) = _
      rw [hq1, hq2]
      by_cases h : x.made / 1024 < s1.made / 1024
      · rw [if_pos h, if_pos h, ← hs1]
      · rw [if_neg h, if_neg h]
  obtain ⟨L3, hL3⟩ : ∃ L3, Ep.tick L s1.made = L3 := ⟨_, rfl⟩
  rw [hL3] at h3 h4 ⊢
  have hL3' : (Ep.grow L s1.made).filter (Ep.live s1.made) = L3 := hL3
  rw [hgr] at hL3'
  have h3n : L3.length ≤ n + 1 := by
    rw [← hL3']
    refine Nat.le_trans (List.length_filter_le ..) ?_
    split <;> simp [hLn]
  obtain ⟨n3, hn3⟩ : ∃ n, L3.length = n := ⟨_, rfl⟩
  rw [hn3] at h3 h4 h3n
  obtain ⟨m3, hm3⟩ : ∃ m, m = n3 - 1 := ⟨_, rfl⟩
  have HM3 := hid (show IntKind.i64.wrap ((n3 : Int) - 1) = (m3 : Int) by rw [i64w _ (by omega) (by omega), hm3]; omega)
  have hm3' : m3 < n3 := by omega
  rw [← hm3] at h4
  have HSL := hid h4
  have HT3 := hid hn3
  clear hT hL3 hgr h4 hLa hs1 hq1 hq2 hm3 R
  by_cases hq : q2 < q1
  · rw [if_pos hq] at hL3'
    obtain ⟨n2, hn2⟩ : ∃ m, m = n + 1 := ⟨_, rfl⟩
    have hLn2 : (s1 :: L).length = n2 := by rw [hn2, ← hLn]; rfl
    have HN2 := hid hn2
    have HL3 := hid hL3'
    have hqq : (q2 : Int) < (q1 : Int) := by omega
    have hn20 : 0 < n2 := by omega
    clear hL3' hn2 hn3
    go_enter Tryd.func28, Tryd.ntmps28
    have M2 := (M0.alloc (#[.int .i64 s1.made]) 3 (by decide))
    try simp only [World.size_alloc] at M2
    go_upto_region 1 with fail
    obtain ⟨w1, hw1⟩ : ∃ w1, w1 = (w.alloc (.cells (#[.int .i64 s1.made]) 3)) := ⟨_, rfl⟩
    rw [← hw1] at M2 ⊢
    clear hw1
    refine wp_region_lin (.op 0 (.op 1 (.op 2 (.op 3 (.op 4 (.op 5 (.op 6 (.op 7 (.op 8 .done))))))))) (by rfl) ?_
    refine wpT_valp 6 (v := .pointer (some ⟨b, 0, none⟩)) rfl rfl rfl (by go_simp) ?_
    refine wpT_callv 7 M2 (v := .bool true) rfl rfl rfl (by go_simp) (good_t (M2.row (b := b) (c := ROR k (.slice (some ⟨g, 0, none⟩) n c1) t) (by simp)) (M2.lt (b := b) (c := ROR k (.slice (some ⟨g, 0, none⟩) n c1) t) (by simp)) hk (by omega)) (fun w3 M4 => ?_)
    refine wpT_valp 8 (v := .bool false) rfl rfl rfl (by go_simp) ?_
    refine wpT_valp 9 (v := .bool false) rfl rfl rfl (by go_simp) ?_
    try simp only [Act.put, List.setIfInBounds_toArray, List.set_cons_succ, List.set_cons_zero]
    refine wpT_valp 10 (v := .pointer (some ⟨b, 0, none⟩)) rfl rfl (by simp [Region.wanted, yielded, Act.put]) (by go_simp) ?_
    refine wpT_valp 11 (v := .int .i64 s1.made) rfl rfl (by simp [Region.wanted, yielded, Act.put]) (by have c0 := cell_one (M4.row (b := w.heap.size) (c := #[.int .i64 s1.made]) (by simp)); go_simp) ?_
    refine wpT_callv 12 M4 (v := .bool true) rfl rfl (by simp [Region.wanted, yielded, Act.put]) (by go_simp) (later_b (M4.row (b := b) (c := ROR k (.slice (some ⟨g, 0, none⟩) n c1) t) (by simp)) (M4.lt (b := b) (c := ROR k (.slice (some ⟨g, 0, none⟩) n c1) t) (by simp)) hk HLT.out) (fun w5 M6 => ?_)
    refine wpT_valp 13 (v := .bool false) rfl rfl (by simp [Region.wanted, yielded, Act.put]) (by go_simp) ?_
    refine wpT_valp 14 (v := .bool false) rfl rfl rfl (by go_simp) ?_
    dsimp only [wpT]
    try simp only [Act.put, List.setIfInBounds_toArray, List.set_cons_succ, List.set_cons_zero]
    go_upto_region 3 with fail
    refine wp_region_lin (.op 0 (.op 1 (.op 2 (.op 3 (.op 4 .done))))) (by rfl) ?_
    refine wpT_valp 15 (v := .pointer (some ⟨b, 0, none⟩)) rfl rfl rfl (by go_simp) ?_
    refine wpT_valp 16 (v := .int .i64 s1.made) rfl rfl rfl (by have c0 := cell_one (M6.row (b := w.heap.size) (c := #[.int .i64 s1.made]) (by simp)); go_simp) ?_
    refine wpT_valp 17 (v := .pointer (some ⟨b, 0, none⟩)) rfl rfl rfl (by go_simp) ?_
    refine wpT_valp 18 (v := .pointer (some ⟨b, 33, none⟩)) rfl rfl rfl (by go_simp) ?_
    try simp only [Act.put, List.setIfInBounds_toArray, List.set_cons_succ, List.set_cons_zero]
    refine wpT_stc M6 2 (.int .i64 s1.made) (ROR k (.slice (some ⟨g, 0, none⟩) n c1) s1.made) inf_int rfl rfl rfl rfl (by go_simp) (by go_simp) (by simp [ESL_size, ROR_size, hk]) (by simp [go_sem]) (ror_s33 hk _) rfl (fun w7 M8 => ?_)
    dsimp only [List.set] at M8
    dsimp only [wpT]
    try simp only [Act.put, List.setIfInBounds_toArray, List.set_cons_succ, List.set_cons_zero]
    go_upto_region 4 with fail
    refine wp_region_lin (.op 0 (.op 1 (.op 2 (.op 3 (.op 4 (.op 5 (.op 6 (.op 7 .done)))))))) (by rfl) ?_
    refine wpT_valp 19 (v := .pointer (some ⟨b, 0, none⟩)) rfl rfl rfl (by go_simp) ?_
    refine wpT_valp 20 (v := .pointer (some ⟨b, 0, none⟩)) rfl rfl rfl (by go_simp) ?_
    refine wpT_valp 21 (v := .pointer (some ⟨b, 32, none⟩)) rfl rfl rfl (by go_simp) ?_
    refine wpT_valp 22 (v := .slice (some ⟨g, 0, none⟩) n c1) rfl rfl rfl (by have c0 := (ror_c32 hk) (M8.row (b := b) (c := ROR k (.slice (some ⟨g, 0, none⟩) n c1) s1.made) (by simp)); go_simp) ?_
    try simp only [Act.put, List.setIfInBounds_toArray, List.set_cons_succ, List.set_cons_zero]
    refine wpT_valp 23 (v := .pointer (some ⟨g, 0, none⟩)) rfl rfl rfl (by go_simp) ?_
    refine wpT_ldy 24 (.pointer (some ⟨g, 0, none⟩)) (.agg (ESL k a)) rfl rfl rfl (by go_simp) (ld_esl (M8.row (b := g) (c := cur) (by simp)) HE0.out (by rw [hsz]; omega)) rfl ?_
    refine wpT_new (z := .agg (ZSL)) 5 M8 (by kernel_rfl) (by decide) rfl rfl rfl rfl (fun b9 w10 M11 => ?_)
    try dsimp only [Value.cells] at M11
    refine wpT_st0 M11 0 (ESL k a) inf_esl rfl rfl rfl rfl (by go_simp) (by go_simp) (by simp [ESL_size, ROR_size, hk]) (by simp [ESL_size, ROR_size, hk]) (by simp [go_sem]) rfl (fun w12 M13 => ?_)
    dsimp only [List.set] at M13
    dsimp only [wpT]
    try simp only [Act.put, List.setIfInBounds_toArray, List.set_cons_succ, List.set_cons_zero]
    go_upto_region 5 with fail
    refine wp_region_lin (.op 0 (.op 1 (.op 2 (.op 3 (.op 4 (.op 5 .done)))))) (by rfl) ?_
    refine wpT_valp 25 (v := .int .i64 s1.made) rfl rfl rfl (by have c0 := cell_one (M13.row (b := w.heap.size) (c := #[.int .i64 s1.made]) (by simp)); go_simp) ?_
    refine wpT_valp 26 (v := .int .i64 q1) rfl rfl rfl (by have h := HQ1.out; go_simp) ?_
    refine wpT_valp 27 (v := .pointer (some ⟨b9, 66, none⟩)) rfl rfl rfl (by go_simp) ?_
    refine wpT_valp 28 (v := .int .i64 a.made) rfl rfl rfl (by have c0 := esl_c66 (M13.row (b := b9) (c := ESL k a) (by simp)); go_simp) ?_
    try simp only [Act.put, List.setIfInBounds_toArray, List.set_cons_succ, List.set_cons_zero]
    refine wpT_valp 29 (v := .int .i64 q2) rfl rfl rfl (by have h := HQ2.out; go_simp) ?_
    refine wpT_valp 30 (v := .bool true) rfl rfl rfl (by go_simp) ?_
    dsimp only [wpT]
    try simp only [Act.put, List.setIfInBounds_toArray, List.set_cons_succ, List.set_cons_zero]
    go_upto_region 6 with fail
    refine wp_region_Z (fun v => v.rowOf (b) = ROR k (.slice (some ⟨g, 0, none⟩) n c1) s1.made ∧ v.rowOf (b9) = ESL k a ∧ v.rowOf (w.heap.size) = #[.int .i64 s1.made]) 14 (.yld [0, 1, 2, 3, 4, 5, 6, 7, 8, 9, 10] (.op 11 (.op 12 (.op 13 (.rest (.op 14 (.op 15 (.op 16 .done)))))))) (by kernel_rfl) (by kernel_rfl) (by kernel_rfl) (fun d _ _ _ _ h => by cases d <;> exact h) ?_
    have M14 := M13.drewN 1
    change wpZ _ _ _ _ _ _ (w12.drewN 1)
    obtain ⟨w15, hw15⟩ : ∃ w15, w15 = w12.drewN 1 := ⟨_, rfl⟩
    rw [← hw15] at M14 ⊢
    clear hw15
    refine wpZ_yld ?_
    refine wpYJd_op 31 (.pointer (some ⟨b, 0, none⟩)) rfl rfl rfl (fun w1 h => by go_simp) ?_
    refine wpYJd_op 32 (.pointer (some ⟨b, 0, none⟩)) rfl rfl rfl (fun w1 h => by go_simp) ?_
    refine wpYJd_op 33 (.pointer (some ⟨b, 0, none⟩)) rfl rfl rfl (fun w1 h => by go_simp) ?_
    refine wpYJd_op 34 (.pointer (some ⟨b, 32, none⟩)) rfl rfl rfl (fun w1 h => by go_simp) ?_
    refine wpYJd_op 35 (.slice (some ⟨g, 0, none⟩) n c1) rfl rfl rfl (fun w1 h => by have c0 := (ror_c32 hk) h.1; clear h; go_simp) ?_
    try simp only [Act.put, List.setIfInBounds_toArray, List.set_cons_succ, List.set_cons_zero]
    refine wpYJd_op 36 (.pointer (some ⟨b, 0, none⟩)) rfl rfl rfl (fun w1 h => by go_simp) ?_
    refine wpYJd_op 37 (.pointer (some ⟨b9, 0, none⟩)) rfl rfl rfl (fun w1 h => by go_simp) ?_
    refine wpYJd_op 38 (.pointer (some ⟨b9, 0, none⟩)) rfl rfl rfl (fun w1 h => by go_simp) ?_
    refine wpYJd_op 39 (.int .i64 a.gen) rfl rfl rfl (fun w1 h => by have c0 := esl_c0 h.2.1; clear h; go_simp) ?_
    refine wpYJd_op 40 (.int .i64 s1.gen) rfl rfl rfl (fun w1 h => by have h := HG1.out; go_simp) ?_
    refine wpYJd_op 41 (.int .i64 s1.made) rfl rfl rfl (fun w1 h => by have c0 := cell_one h.2.2; clear h; go_simp) ?_
    show wpZ _ _ _ _ _ _ _
    try simp only [Act.put, List.setIfInBounds_toArray, List.set_cons_succ, List.set_cons_zero]
    refine wpZ_of (⟨M14.row (b := b) (c := ROR k (.slice (some ⟨g, 0, none⟩) n c1) s1.made) (by simp), M14.row (b := b9) (c := ESL k a) (by simp), M14.row (b := w.heap.size) (c := #[.int .i64 s1.made]) (by simp)⟩) ?_
    refine wpT_callv 42 M14 (v := .agg (ESL k s1)) rfl rfl rfl (by go_simp) (made_x HT.out (HB.out _ M14.fr) (M14.row (b := b) (c := ROR k (.slice (some ⟨g, 0, none⟩) n c1) s1.made) (by simp)) (M14.lt (b := b) (c := ROR k (.slice (some ⟨g, 0, none⟩) n c1) s1.made) (by simp)) hk s1 hm) (fun w16 M17 => ?_)
    refine wpZ_to ?_
    try simp only [Act.put, List.setIfInBounds_toArray, List.set_cons_succ, List.set_cons_zero]
    refine wpZ_of (⟨M17.row (b := b) (c := ROR k (.slice (some ⟨g, 0, none⟩) n c1) s1.made) (by simp), M17.row (b := b9) (c := ESL k a) (by simp), M17.row (b := w.heap.size) (c := #[.int .i64 s1.made]) (by simp)⟩) ?_
    refine wpT_slot1 43 _ M17 k s1 rfl rfl rfl (by go_simp) rfl (fun gx wgx Mgx => ?_)
    refine wpZ_to ?_
    try simp only [Act.put, List.setIfInBounds_toArray, List.set_cons_succ, List.set_cons_zero]
    refine wpZ_of (⟨Mgx.row (b := b) (c := ROR k (.slice (some ⟨g, 0, none⟩) n c1) s1.made) (by simp), Mgx.row (b := b9) (c := ESL k a) (by simp), Mgx.row (b := w.heap.size) (c := #[.int .i64 s1.made]) (by simp)⟩) ?_
    refine wpT_owc 44 Mgx [(gx, ESL k s1), (b9, ESL k a), (w.heap.size, #[.int .i64 s1.made])] [(b, ROR k (.slice (some ⟨g, 0, none⟩) n c1) s1.made)] rfl rfl rfl rfl rfl (by go_simp) (ins_x R0 Mgx (H := [(gx, ESL k s1), (b9, ESL k a), (w.heap.size, #[.int .i64 s1.made]), (g, cur), (b, ROR k (.slice (some ⟨g, 0, none⟩) n c1) s1.made)]) (by simp) (s := s1) (by simp) (Mgx.ne (i := 0) (j := 3) rfl rfl (by decide)) hB (by omega) (by omega) hLn HN2.out) (by omega) (fun g2 c2 cu2 wg2 R2 Mg2 => ?_)
    refine wpZ_to ?_
    try simp only [Act.put, List.setIfInBounds_toArray, List.set_cons_succ, List.set_cons_zero]
    refine wpZ_rest (⟨Mg2.row (b := b) (c := ROR k (.slice (some ⟨g, 0, none⟩) n c1) s1.made) (by simp), Mg2.row (b := b9) (c := ESL k a) (by simp), Mg2.row (b := w.heap.size) (c := #[.int .i64 s1.made]) (by simp)⟩) ?_
    refine wpT_valp 45 (v := .pointer (some ⟨b, 0, none⟩)) rfl rfl rfl (by go_simp) ?_
    refine wpT_valp 46 (v := .pointer (some ⟨b, 32, none⟩)) rfl rfl rfl (by go_simp) ?_
    refine wpT_stc Mg2 4 (.slice (some ⟨g2, 0, none⟩) n2 c2) (ROR k (.slice (some ⟨g2, 0, none⟩) n2 c2) s1.made) inf_sls rfl rfl rfl rfl (by go_simp) (by go_simp) (by simp [ESL_size, ROR_size, hk]) (by simp [go_sem]) (ror_s32 hk _) rfl (fun w18 M19 => ?_)
    dsimp only [List.set] at M19
    dsimp only [wpT]
    try simp only [Act.put, List.setIfInBounds_toArray, List.set_cons_succ, List.set_cons_zero]
    go_upto_region 7 with fail
    refine wp_region_lin (.op 0 (.op 1 (.op 2 (.op 3 (.op 4 (.op 5 (.op 6 (.op 7 (.op 8 (.op 9 .done)))))))))) (by rfl) ?_
    refine wpT_valp 47 (v := .pointer (some ⟨b, 0, none⟩)) rfl rfl rfl (by go_simp) ?_
    refine wpT_valp 48 (v := .pointer (some ⟨b, 0, none⟩)) rfl rfl rfl (by go_simp) ?_
    refine wpT_valp 49 (v := .pointer (some ⟨b, 0, none⟩)) rfl rfl rfl (by go_simp) ?_
    refine wpT_valp 50 (v := .pointer (some ⟨b, 32, none⟩)) rfl rfl rfl (by go_simp) ?_
    try simp only [Act.put, List.setIfInBounds_toArray, List.set_cons_succ, List.set_cons_zero]
    refine wpT_valp 51 (v := .slice (some ⟨g2, 0, none⟩) n2 c2) rfl rfl rfl (by have c0 := (ror_c32 hk) (M19.row (b := b) (c := ROR k (.slice (some ⟨g2, 0, none⟩) n2 c2) s1.made) (by simp)); go_simp) ?_
    refine wpT_valp 52 (v := .func (.func 47) #[] #[.pointer (some ⟨w.heap.size, 0, none⟩)]) rfl rfl rfl (by go_simp) ?_
    refine wpT_owc 53 M19 [] [(gx, ESL k s1), (b9, ESL k a), (w.heap.size, #[.int .i64 s1.made]), (b, ROR k (.slice (some ⟨g2, 0, none⟩) n2 c2) s1.made)] rfl rfl rfl rfl rfl (by go_simp) (delf_x R2 M19 (H := [(g2, cu2), (gx, ESL k s1), (b9, ESL k a), (w.heap.size, #[.int .i64 s1.made]), (b, ROR k (.slice (some ⟨g2, 0, none⟩) n2 c2) s1.made)]) (by simp) (by simp) (M19.ne (i := 3) (j := 0) rfl rfl (by decide)) (by omega) hLn2 HL3.out HT3.out) (by omega) (fun g3 c3 cu3 wg3 R3 Mg3 => ?_)
    refine wpT_valp 54 (v := .pointer (some ⟨b, 0, none⟩)) rfl rfl rfl (by go_simp) ?_
    refine wpT_valp 55 (v := .pointer (some ⟨b, 32, none⟩)) rfl rfl rfl (by go_simp) ?_
    try simp only [Act.put, List.setIfInBounds_toArray, List.set_cons_succ, List.set_cons_zero]
    refine wpT_stc Mg3 4 (.slice (some ⟨g3, 0, none⟩) n3 c3) (ROR k (.slice (some ⟨g3, 0, none⟩) n3 c3) s1.made) inf_sls rfl rfl rfl rfl (by go_simp) (by go_simp) (by simp [ESL_size, ROR_size, hk]) (by simp [go_sem]) (ror_s32 hk _) rfl (fun w20 M21 => ?_)
    dsimp only [List.set] at M21
    dsimp only [wpT]
    try simp only [Act.put, List.setIfInBounds_toArray, List.set_cons_succ, List.set_cons_zero]
    go_upto_region 8 with fail
    have hcl := R3.mx
    unfold maxLen at hcl
    have hsl := grow_cell (e67_len k) HT3.out R3.tk HSL.out 0 (by decide)
    have hm30 : (0 : Int) ≤ (m3 : Int) := by omega
    have hm3n : (m3 : Int) < (n3 : Int) := by omega
    clear hcl
    refine wp_region_Z (fun v => v.rowOf (b) = ROR k (.slice (some ⟨g3, 0, none⟩) n3 c3) s1.made ∧ v.cell? ⟨g3, m3 * 67, none⟩ = some (.int .i64 sl.gen)) 14 (.yld [0, 1, 2, 3, 4, 5, 6, 7, 8, 9, 10, 11, 12, 13] (.rest (.op 14 .done))) (by kernel_rfl) (by kernel_rfl) (by kernel_rfl) (fun d _ _ _ _ h => by cases d <;> exact h) ?_
    have M22 := M21.drewN 1
    change wpZ _ _ _ _ _ _ (w20.drewN 1)
    obtain ⟨w23, hw23⟩ : ∃ w23, w23 = w20.drewN 1 := ⟨_, rfl⟩
    rw [← hw23] at M22 ⊢
    clear hw23
    refine wpZ_yld ?_
    refine wpYJd_op 56 (.pointer (some ⟨b, 0, none⟩)) rfl rfl rfl (fun w1 h => by go_simp) ?_
    refine wpYJd_op 57 (.pointer (some ⟨b, 0, none⟩)) rfl rfl rfl (fun w1 h => by go_simp) ?_
    refine wpYJd_op 58 (.pointer (some ⟨b, 32, none⟩)) rfl rfl rfl (fun w1 h => by go_simp) ?_
    refine wpYJd_op 59 (.slice (some ⟨g3, 0, none⟩) n3 c3) rfl rfl rfl (fun w1 h => by have c0 := (ror_c32 hk) h.1; clear h; go_simp) ?_
    refine wpYJd_op 60 (.pointer (some ⟨b, 0, none⟩)) rfl rfl rfl (fun w1 h => by go_simp) ?_
    try simp only [Act.put, List.setIfInBounds_toArray, List.set_cons_succ, List.set_cons_zero]
    refine wpYJd_op 61 (.pointer (some ⟨b, 0, none⟩)) rfl rfl rfl (fun w1 h => by go_simp) ?_
    refine wpYJd_op 62 (.pointer (some ⟨b, 32, none⟩)) rfl rfl rfl (fun w1 h => by go_simp) ?_
    refine wpYJd_op 63 (.slice (some ⟨g3, 0, none⟩) n3 c3) rfl rfl rfl (fun w1 h => by have c0 := (ror_c32 hk) h.1; clear h; go_simp) ?_
    refine wpYJd_op 64 (.int .i64 n3) rfl rfl rfl (fun w1 h => by go_simp) ?_
    refine wpYJd_op 65 (.int .i64 m3) rfl rfl rfl (fun w1 h => by have h := HM3.out; go_simp) ?_
    refine wpYJd_op 66 (.pointer (some ⟨g3, m3 * 67, none⟩)) rfl rfl rfl (fun w1 h => by go_simp) ?_
    try simp only [Act.put, List.setIfInBounds_toArray, List.set_cons_succ, List.set_cons_zero]
    refine wpYJd_op 67 (.pointer (some ⟨g3, m3 * 67 + 0, none⟩)) rfl rfl rfl (fun w1 h => by go_simp) ?_
    refine wpYJd_op 68 (.pointer (some ⟨g3, m3 * 67 + 0 + 0, none⟩)) rfl rfl rfl (fun w1 h => by go_simp) ?_
    refine wpYJd_op 69 (.int .i64 sl.gen) rfl rfl rfl (fun w1 h => by have c0 := h.2; go_simp) ?_
    show wpZ _ _ _ _ _ _ _
    try simp only [Act.put, List.setIfInBounds_toArray, List.set_cons_succ, List.set_cons_zero]
    refine wpZ_rest (⟨M22.row (b := b) (c := ROR k (.slice (some ⟨g3, 0, none⟩) n3 c3) s1.made) (by simp), (cell_of (M22.row (b := g3) (c := cu3) (by simp)) hsl)⟩) ?_
    refine wpT_valp 4 (v := .int .i64 sl.gen) rfl rfl rfl (by go_simp) ?_
    dsimp only [wpT]
    try simp only [Act.put, List.setIfInBounds_toArray, List.set_cons_succ, List.set_cons_zero]
    go_wp2_with fail
    go_ret
    exact ⟨rfl, _, RO.of (b := b) (g := g3) (cur := cu3) M22 (by simp) (by simp) (by rw [HT3.out]; exact R3) hBb hk (by rw [HT3.out]; exact h3), M22.fr, RF.new (g := g3) (cur := cu3) M22 (by simp) R3.ob⟩
  · rw [if_neg hq] at hL3'
    have HL3 := hid hL3'
    have hqq : ¬ (q2 : Int) < (q1 : Int) := by omega
    clear hL3' hn3
    go_enter Tryd.func28, Tryd.ntmps28
    have M2 := (M0.alloc (#[.int .i64 s1.made]) 3 (by decide))
    try simp only [World.size_alloc] at M2
    go_upto_region 1 with fail
    obtain ⟨w1, hw1⟩ : ∃ w1, w1 = (w.alloc (.cells (#[.int .i64 s1.made]) 3)) := ⟨_, rfl⟩
    rw [← hw1] at M2 ⊢
    clear hw1
    refine wp_region_lin (.op 0 (.op 1 (.op 2 (.op 3 (.op 4 (.op 5 (.op 6 (.op 7 (.op 8 .done))))))))) (by rfl) ?_
    refine wpT_valp 6 (v := .pointer (some ⟨b, 0, none⟩)) rfl rfl rfl (by go_simp) ?_
    refine wpT_callv 7 M2 (v := .bool true) rfl rfl rfl (by go_simp) (good_t (M2.row (b := b) (c := ROR k (.slice (some ⟨g, 0, none⟩) n c1) t) (by simp)) (M2.lt (b := b) (c := ROR k (.slice (some ⟨g, 0, none⟩) n c1) t) (by simp)) hk (by omega)) (fun w3 M4 => ?_)
    refine wpT_valp 8 (v := .bool false) rfl rfl rfl (by go_simp) ?_
    refine wpT_valp 9 (v := .bool false) rfl rfl rfl (by go_simp) ?_
    try simp only [Act.put, List.setIfInBounds_toArray, List.set_cons_succ, List.set_cons_zero]
    refine wpT_valp 10 (v := .pointer (some ⟨b, 0, none⟩)) rfl rfl (by simp [Region.wanted, yielded, Act.put]) (by go_simp) ?_
    refine wpT_valp 11 (v := .int .i64 s1.made) rfl rfl (by simp [Region.wanted, yielded, Act.put]) (by have c0 := cell_one (M4.row (b := w.heap.size) (c := #[.int .i64 s1.made]) (by simp)); go_simp) ?_
    refine wpT_callv 12 M4 (v := .bool true) rfl rfl (by simp [Region.wanted, yielded, Act.put]) (by go_simp) (later_b (M4.row (b := b) (c := ROR k (.slice (some ⟨g, 0, none⟩) n c1) t) (by simp)) (M4.lt (b := b) (c := ROR k (.slice (some ⟨g, 0, none⟩) n c1) t) (by simp)) hk HLT.out) (fun w5 M6 => ?_)
    refine wpT_valp 13 (v := .bool false) rfl rfl (by simp [Region.wanted, yielded, Act.put]) (by go_simp) ?_
    refine wpT_valp 14 (v := .bool false) rfl rfl rfl (by go_simp) ?_
    dsimp only [wpT]
    try simp only [Act.put, List.setIfInBounds_toArray, List.set_cons_succ, List.set_cons_zero]
    go_upto_region 3 with fail
    refine wp_region_lin (.op 0 (.op 1 (.op 2 (.op 3 (.op 4 .done))))) (by rfl) ?_
    refine wpT_valp 15 (v := .pointer (some ⟨b, 0, none⟩)) rfl rfl rfl (by go_simp) ?_
    refine wpT_valp 16 (v := .int .i64 s1.made) rfl rfl rfl (by have c0 := cell_one (M6.row (b := w.heap.size) (c := #[.int .i64 s1.made]) (by simp)); go_simp) ?_
    refine wpT_valp 17 (v := .pointer (some ⟨b, 0, none⟩)) rfl rfl rfl (by go_simp) ?_
    refine wpT_valp 18 (v := .pointer (some ⟨b, 33, none⟩)) rfl rfl rfl (by go_simp) ?_
    try simp only [Act.put, List.setIfInBounds_toArray, List.set_cons_succ, List.set_cons_zero]
    refine wpT_stc M6 2 (.int .i64 s1.made) (ROR k (.slice (some ⟨g, 0, none⟩) n c1) s1.made) inf_int rfl rfl rfl rfl (by go_simp) (by go_simp) (by simp [ESL_size, ROR_size, hk]) (by simp [go_sem]) (ror_s33 hk _) rfl (fun w7 M8 => ?_)
    dsimp only [List.set] at M8
    dsimp only [wpT]
    try simp only [Act.put, List.setIfInBounds_toArray, List.set_cons_succ, List.set_cons_zero]
    go_upto_region 4 with fail
    refine wp_region_lin (.op 0 (.op 1 (.op 2 (.op 3 (.op 4 (.op 5 (.op 6 (.op 7 .done)))))))) (by rfl) ?_
    refine wpT_valp 19 (v := .pointer (some ⟨b, 0, none⟩)) rfl rfl rfl (by go_simp) ?_
    refine wpT_valp 20 (v := .pointer (some ⟨b, 0, none⟩)) rfl rfl rfl (by go_simp) ?_
    refine wpT_valp 21 (v := .pointer (some ⟨b, 32, none⟩)) rfl rfl rfl (by go_simp) ?_
    refine wpT_valp 22 (v := .slice (some ⟨g, 0, none⟩) n c1) rfl rfl rfl (by have c0 := (ror_c32 hk) (M8.row (b := b) (c := ROR k (.slice (some ⟨g, 0, none⟩) n c1) s1.made) (by simp)); go_simp) ?_
    try simp only [Act.put, List.setIfInBounds_toArray, List.set_cons_succ, List.set_cons_zero]
    refine wpT_valp 23 (v := .pointer (some ⟨g, 0, none⟩)) rfl rfl rfl (by go_simp) ?_
    refine wpT_ldy 24 (.pointer (some ⟨g, 0, none⟩)) (.agg (ESL k a)) rfl rfl rfl (by go_simp) (ld_esl (M8.row (b := g) (c := cur) (by simp)) HE0.out (by rw [hsz]; omega)) rfl ?_
    refine wpT_new (z := .agg (ZSL)) 5 M8 (by kernel_rfl) (by decide) rfl rfl rfl rfl (fun b9 w10 M11 => ?_)
    try dsimp only [Value.cells] at M11
    refine wpT_st0 M11 0 (ESL k a) inf_esl rfl rfl rfl rfl (by go_simp) (by go_simp) (by simp [ESL_size, ROR_size, hk]) (by simp [ESL_size, ROR_size, hk]) (by simp [go_sem]) rfl (fun w12 M13 => ?_)
    dsimp only [List.set] at M13
    dsimp only [wpT]
    try simp only [Act.put, List.setIfInBounds_toArray, List.set_cons_succ, List.set_cons_zero]
    go_upto_region 5 with fail
    refine wp_region_lin (.op 0 (.op 1 (.op 2 (.op 3 (.op 4 (.op 5 .done)))))) (by rfl) ?_
    refine wpT_valp 25 (v := .int .i64 s1.made) rfl rfl rfl (by have c0 := cell_one (M13.row (b := w.heap.size) (c := #[.int .i64 s1.made]) (by simp)); go_simp) ?_
    refine wpT_valp 26 (v := .int .i64 q1) rfl rfl rfl (by have h := HQ1.out; go_simp) ?_
    refine wpT_valp 27 (v := .pointer (some ⟨b9, 66, none⟩)) rfl rfl rfl (by go_simp) ?_
    refine wpT_valp 28 (v := .int .i64 a.made) rfl rfl rfl (by have c0 := esl_c66 (M13.row (b := b9) (c := ESL k a) (by simp)); go_simp) ?_
    try simp only [Act.put, List.setIfInBounds_toArray, List.set_cons_succ, List.set_cons_zero]
    refine wpT_valp 29 (v := .int .i64 q2) rfl rfl rfl (by have h := HQ2.out; go_simp) ?_
    refine wpT_valp 30 (v := .bool false) rfl rfl rfl (by go_simp) ?_
    dsimp only [wpT]
    try simp only [Act.put, List.setIfInBounds_toArray, List.set_cons_succ, List.set_cons_zero]
    go_upto_region 7 with fail
    refine wp_region_lin (.op 0 (.op 1 (.op 2 (.op 3 (.op 4 (.op 5 (.op 6 (.op 7 (.op 8 (.op 9 .done)))))))))) (by rfl) ?_
    refine wpT_valp 47 (v := .pointer (some ⟨b, 0, none⟩)) rfl rfl rfl (by go_simp) ?_
    refine wpT_valp 48 (v := .pointer (some ⟨b, 0, none⟩)) rfl rfl rfl (by go_simp) ?_
    refine wpT_valp 49 (v := .pointer (some ⟨b, 0, none⟩)) rfl rfl rfl (by go_simp) ?_
    refine wpT_valp 50 (v := .pointer (some ⟨b, 32, none⟩)) rfl rfl rfl (by go_simp) ?_
    try simp only [Act.put, List.setIfInBounds_toArray, List.set_cons_succ, List.set_cons_zero]
    refine wpT_valp 51 (v := .slice (some ⟨g, 0, none⟩) n c1) rfl rfl rfl (by have c0 := (ror_c32 hk) (M13.row (b := b) (c := ROR k (.slice (some ⟨g, 0, none⟩) n c1) s1.made) (by simp)); go_simp) ?_
    refine wpT_valp 52 (v := .func (.func 47) #[] #[.pointer (some ⟨w.heap.size, 0, none⟩)]) rfl rfl rfl (by go_simp) ?_
    refine wpT_owc 53 M13 [(b9, ESL k a), (w.heap.size, #[.int .i64 s1.made])] [(b, ROR k (.slice (some ⟨g, 0, none⟩) n c1) s1.made)] rfl rfl rfl rfl rfl (by go_simp) (delf_x R0 M13 (H := [(b9, ESL k a), (w.heap.size, #[.int .i64 s1.made]), (g, cur), (b, ROR k (.slice (some ⟨g, 0, none⟩) n c1) s1.made)]) (by simp) (by simp) (M13.ne (i := 1) (j := 2) rfl rfl (by decide)) (by omega) hLn HL3.out HT3.out) (by omega) (fun g3 c3 cu3 wg3 R3 Mg3 => ?_)
    refine wpT_valp 54 (v := .pointer (some ⟨b, 0, none⟩)) rfl rfl rfl (by go_simp) ?_
    refine wpT_valp 55 (v := .pointer (some ⟨b, 32, none⟩)) rfl rfl rfl (by go_simp) ?_
    try simp only [Act.put, List.setIfInBounds_toArray, List.set_cons_succ, List.set_cons_zero]
    refine wpT_stc Mg3 3 (.slice (some ⟨g3, 0, none⟩) n3 c3) (ROR k (.slice (some ⟨g3, 0, none⟩) n3 c3) s1.made) inf_sls rfl rfl rfl rfl (by go_simp) (by go_simp) (by simp [ESL_size, ROR_size, hk]) (by simp [go_sem]) (ror_s32 hk _) rfl (fun w14 M15 => ?_)
    dsimp only [List.set] at M15
    dsimp only [wpT]
    try simp only [Act.put, List.setIfInBounds_toArray, List.set_cons_succ, List.set_cons_zero]
    go_upto_region 8 with fail
    have hcl := R3.mx
    unfold maxLen at hcl
    have hsl := grow_cell (e67_len k) HT3.out R3.tk HSL.out 0 (by decide)
    have hm30 : (0 : Int) ≤ (m3 : Int) := by omega
    have hm3n : (m3 : Int) < (n3 : Int) := by omega
    clear hcl
    refine wp_region_Z (fun v => v.rowOf (b) = ROR k (.slice (some ⟨g3, 0, none⟩) n3 c3) s1.made ∧ v.cell? ⟨g3, m3 * 67, none⟩ = some (.int .i64 sl.gen)) 14 (.yld [0, 1, 2, 3, 4, 5, 6, 7, 8, 9, 10, 11, 12, 13] (.rest (.op 14 .done))) (by kernel_rfl) (by kernel_rfl) (by kernel_rfl) (fun d _ _ _ _ h => by cases d <;> exact h) ?_
    have M16 := M15.drewN 1
    change wpZ _ _ _ _ _ _ (w14.drewN 1)
    obtain ⟨w17, hw17⟩ : ∃ w17, w17 = w14.drewN 1 := ⟨_, rfl⟩
    rw [← hw17] at M16 ⊢
    clear hw17
    refine wpZ_yld ?_
    refine wpYJd_op 56 (.pointer (some ⟨b, 0, none⟩)) rfl rfl rfl (fun w1 h => by go_simp) ?_
    refine wpYJd_op 57 (.pointer (some ⟨b, 0, none⟩)) rfl rfl rfl (fun w1 h => by go_simp) ?_
    refine wpYJd_op 58 (.pointer (some ⟨b, 32, none⟩)) rfl rfl rfl (fun w1 h => by go_simp) ?_
    refine wpYJd_op 59 (.slice (some ⟨g3, 0, none⟩) n3 c3) rfl rfl rfl (fun w1 h => by have c0 := (ror_c32 hk) h.1; clear h; go_simp) ?_
    refine wpYJd_op 60 (.pointer (some ⟨b, 0, none⟩)) rfl rfl rfl (fun w1 h => by go_simp) ?_
    try simp only [Act.put, List.setIfInBounds_toArray, List.set_cons_succ, List.set_cons_zero]
    refine wpYJd_op 61 (.pointer (some ⟨b, 0, none⟩)) rfl rfl rfl (fun w1 h => by go_simp) ?_
    refine wpYJd_op 62 (.pointer (some ⟨b, 32, none⟩)) rfl rfl rfl (fun w1 h => by go_simp) ?_
    refine wpYJd_op 63 (.slice (some ⟨g3, 0, none⟩) n3 c3) rfl rfl rfl (fun w1 h => by have c0 := (ror_c32 hk) h.1; clear h; go_simp) ?_
    refine wpYJd_op 64 (.int .i64 n3) rfl rfl rfl (fun w1 h => by go_simp) ?_
    refine wpYJd_op 65 (.int .i64 m3) rfl rfl rfl (fun w1 h => by have h := HM3.out; go_simp) ?_
    refine wpYJd_op 66 (.pointer (some ⟨g3, m3 * 67, none⟩)) rfl rfl rfl (fun w1 h => by go_simp) ?_
    try simp only [Act.put, List.setIfInBounds_toArray, List.set_cons_succ, List.set_cons_zero]
    refine wpYJd_op 67 (.pointer (some ⟨g3, m3 * 67 + 0, none⟩)) rfl rfl rfl (fun w1 h => by go_simp) ?_
    refine wpYJd_op 68 (.pointer (some ⟨g3, m3 * 67 + 0 + 0, none⟩)) rfl rfl rfl (fun w1 h => by go_simp) ?_
    refine wpYJd_op 69 (.int .i64 sl.gen) rfl rfl rfl (fun w1 h => by have c0 := h.2; go_simp) ?_
    show wpZ _ _ _ _ _ _ _
    try simp only [Act.put, List.setIfInBounds_toArray, List.set_cons_succ, List.set_cons_zero]
    refine wpZ_rest (⟨M16.row (b := b) (c := ROR k (.slice (some ⟨g3, 0, none⟩) n3 c3) s1.made) (by simp), (cell_of (M16.row (b := g3) (c := cu3) (by simp)) hsl)⟩) ?_
    refine wpT_valp 4 (v := .int .i64 sl.gen) rfl rfl rfl (by go_simp) ?_
    dsimp only [wpT]
    try simp only [Act.put, List.setIfInBounds_toArray, List.set_cons_succ, List.set_cons_zero]
    go_wp2_with fail
    go_ret
    exact ⟨rfl, _, RO.of (b := b) (g := g3) (cur := cu3) M16 (by simp) (by simp) (by rw [HT3.out]; exact R3) hBb hk (by rw [HT3.out]; exact h3), M16.fr, RF.new (g := g3) (cur := cu3) M16 (by simp) R3.ob⟩
end Go.Proofs.YtgclegdgngldoaaDoor
