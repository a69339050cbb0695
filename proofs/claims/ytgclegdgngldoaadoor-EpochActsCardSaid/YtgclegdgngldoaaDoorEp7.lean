/-
  Package epoch: calls of a Rotor's methods, as steps; own work.
-/
import Derived.Test.YtgclegdgngldoaaDoorEp6
set_option linter.unusedSimpArgs false
set_option linter.unusedVariables false
namespace Go.Proofs.YtgclegdgngldoaaDoor
open Go.RowKit Fp
section
variable {S : Nat → Prop} {w0 w : World} {H : List (Nat × Array Value)} {B b g n c1 : Nat} {k : L8} {L L' : List Ep.Sl} {t : Nat} {v : Value} {cur : Array Value}
theorem RO.mono (R : RO w B b k L t v) {B' : Nat} (h : B' ≤ B) : RO w B' b k L t v := ⟨R.row, Nat.le_trans h R.bb, R.ow.mono (fun g hg => Nat.le_trans h (R.ow.at_ g hg).1), R.ne, R.kl, R.l0⟩
/-- out of rows -/
theorem ro_at (M : Mm S w0 H w) {A C : List (Nat × Array Value)} (hH : H = A ++ (g, cur) :: (b, ROR k v t) :: C) (R : Rw B 67 v n (fl (e67 k) L) g c1 cur) (hn : L.length = n) (hBb : B ≤ b) (hk : k.length = 32) (h0 : 0 < n) : RO w B b k L t v := by
  subst hn
  exact RO.of (b := b) (g := g) (cur := cur) M (by rw [hH]; simp) (by rw [hH]; simp) R hBb hk h0
theorem ro_rows {A : List (Nat × Array Value)} {w' : World} (M1 : Mm S w0 A w') (R' : RO w' B b k L' t v) (hS : ∀ x, RF b v x → (S x ∨ w0.heap.size ≤ x) ∧ ∀ p ∈ A, p.1 ≠ x) :
    ∃ g' c1' cur', Rw B 67 v L'.length (fl (e67 k) L') g' c1' cur' ∧ Mm S w0 ((g', cur') :: (b, ROR k v t) :: A) w' := by
  obtain ⟨T, hT, h⟩ := R'.row
  have M2 : Mm S w0 ((b, ROR k v t) :: A) w' := M1.more hT h (hS b (.inl rfl)).1 (hS b (.inl rfl)).2
  obtain ⟨g', c1', cur', R2, M3⟩ := M2.reown R'.ow R'.l0 (fun x hx => ⟨(hS x (.inr hx)).1, fun p hp => by
    rcases List.mem_cons.1 hp with e | e
    · subst e; intro e2; exact R'.ne (by rw [hx, ← e2])
    · exact (hS x (.inr hx)).2 p e⟩)
  exact ⟨g', c1', cur', R2, M3⟩
section
variable {P : Program} {ops : Array Oper} {Q : Exit → Act → World → Prop} {i : Nat} {tr : Tr} {a : Act} {o : Oper}
/-- a step: a method that changes the Rotor -/
theorem wpT_ro {f : FuncId} {args : Array Value} {u : Value} {t' n' : Nat} {H' : List (Nat × Array Value)} (dst : Nat) (M : Mm S w0 H w) (A C : List (Nat × Array Value)) (hH : H = A ++ (g, cur) :: (b, ROR k v t) :: C) (hH' : A ++ C = H') (R : Rw B 67 v n (fl (e67 k) L) g c1 cur) (hdst : o.dst = some dst) (ho : ops[i]? = some o) (hw : Region.wanted o (yielded ops a.tmps) = true) (hrun : (execOp a.eval o).run P w = .ok (.enter f args) w)
    (hc : Calls P f args w fun e w' => e = .returned u ∧ ∃ v', RO w' B b k L' t' v' ∧ Fr (RF b v) w w' ∧ ∀ x, RF b v' x → RF b v x ∨ w.heap.size ≤ x) (hn' : L'.length = n')
    (h : ∀ g' c1' cur' w', Rw B 67 (.slice (some ⟨g', 0, none⟩) n' c1') n' (fl (e67 k) L') g' c1' cur' → Mm S w0 ((g', cur') :: (b, ROR k (.slice (some ⟨g', 0, none⟩) n' c1') t') :: H') w' → wpT P ops Q tr (a.put (some dst) u) w') : wpT P ops Q (.op i tr) a w := by
  subst hH; subst hH'; subst hn'
  refine wpT_call ho hw hrun hc (fun e w' => ?_)
  rintro ⟨he, v', R', hf, hb⟩
  refine ⟨u, he, ?_⟩
  rw [hdst]
  have o1 := M.off (A := A) (B := (b, ROR k v t) :: C)
  have M' : Mm S w0 ((A ++ [(g, cur)]) ++ (b, ROR k v t) :: C) w := by simpa using M
  have o2 := M'.off
  have sub : List.Sublist (A ++ C) (A ++ (g, cur) :: (b, ROR k v t) :: C) := List.Sublist.append_left ((List.sublist_cons_self ..).trans (List.sublist_cons_self ..)) A
  have gS := (M.own (g, cur) (by simp)).1
  have bS := (M.own (b, ROR k v t) (by simp)).1
  have off : ∀ x, RF b v x → (S x ∨ w0.heap.size ≤ x) ∧ ∀ p ∈ A ++ C, p.1 ≠ x := by
    intro x hx
    rcases hx with rfl | hx
    · exact ⟨bS, fun p hp => o2 p (by simp only [List.mem_append, List.mem_cons] at hp ⊢; rcases hp with h | h <;> simp [h])⟩
    · rw [R.ob] at hx; injection hx with hx; subst hx
      exact ⟨gS, fun p hp => o1 p (by simp only [List.mem_append, List.mem_cons] at hp ⊢; rcases hp with h | h <;> simp [h])⟩
  have M1 : Mm S w0 (A ++ C) w' := (M.sub sub).frw hf off
  obtain ⟨g', c1', cur', R2, M2⟩ := ro_rows M1 R' (fun x hx => by
    rcases hb x hx with e | e
    · exact off x e
    · refine ⟨.inr (Nat.le_trans M.size e), fun p hp => ?_⟩
      have := (M.sub sub).lt (b := p.1) (c := p.2) hp
      omega)
  obtain ⟨rfl⟩ := R2.v
  exact h g' c1' cur' w' R2 M2
/-- a step: New -/
theorem wpT_ronew {f : FuncId} {args : Array Value} {t' n' : Nat} (dst : Nat) (M : Mm S w0 H w) (hdst : o.dst = some dst) (ho : ops[i]? = some o) (hw : Region.wanted o (yielded ops a.tmps) = true) (hrun : (execOp a.eval o).run P w = .ok (.enter f args) w)
    (hc : Calls P f args w fun e w' => ∃ b v, e = .returned (.pointer (some ⟨b, 0, none⟩)) ∧ RO w' w.heap.size b k L' t' v ∧ Below w.heap.size w w') (hn' : L'.length = n')
    (h : ∀ b g' c1' cur' w', w0.heap.size ≤ b → Rw w0.heap.size 67 (.slice (some ⟨g', 0, none⟩) n' c1') n' (fl (e67 k) L') g' c1' cur' → Mm S w0 ((g', cur') :: (b, ROR k (.slice (some ⟨g', 0, none⟩) n' c1') t') :: H) w' → wpT P ops Q tr (a.put (some dst) (.pointer (some ⟨b, 0, none⟩))) w') : wpT P ops Q (.op i tr) a w := by
  subst hn'
  refine wpT_call ho hw hrun hc (fun e w' => ?_)
  rintro ⟨b, v, he, R', hf⟩
  refine ⟨_, he, ?_⟩
  rw [hdst]
  have R1 := R'.mono M.size
  obtain ⟨g', c1', cur', R2, M2⟩ := ro_rows (M.below hf) R1 (fun x hx => by
    have := (R'.lt x hx).1
    refine ⟨.inr (Nat.le_trans M.size this), fun p hp => ?_⟩
    have := M.lt (b := p.1) (c := p.2) hp
    omega)
  obtain ⟨rfl⟩ := R2.v
  exact h b g' c1' cur' w' R1.bb R2 M2
/-- a step: a call that answers a new slice that is not empty -/
theorem wpT_ownr {f : FuncId} {args : Array Value} {kk : Nat} {xs : List Value} (dst : Nat) (M : Mm S w0 H w) (hdst : o.dst = some dst) (ho : ops[i]? = some o) (hw : Region.wanted o (yielded ops a.tmps) = true) (hrun : (execOp a.eval o).run P w = .ok (.enter f args) w)
    (hc : Calls P f args w fun e w' => ∃ u, e = .returned u ∧ Ow w' w.heap.size kk u n xs ∧ Below w.heap.size w w') (h0 : 0 < n)
    (h : ∀ g' c1' cur' w', Rw w0.heap.size kk (.slice (some ⟨g', 0, none⟩) n c1') n xs g' c1' cur' → Mm S w0 ((g', cur') :: H) w' → wpT P ops Q tr (a.put (some dst) (.slice (some ⟨g', 0, none⟩) n c1')) w') : wpT P ops Q (.op i tr) a w := by
  refine wpT_call ho hw hrun hc (fun e w' => ?_)
  rintro ⟨u, he, O, hf⟩
  refine ⟨u, he, ?_⟩
  rw [hdst]
  have O1 := O.mono (B := w0.heap.size) (fun x hx => Nat.le_trans M.size (O.at_ x hx).1)
  obtain ⟨g', c1', cur', R2, M2⟩ := (M.below hf).reown O1 h0 (fun x hx => by
    have := (O.at_ x hx).1
    refine ⟨.inr (Nat.le_trans M.size this), fun p hp => ?_⟩
    have := M.lt (b := p.1) (c := p.2) hp
    omega)
  obtain ⟨rfl⟩ := R2.v
  exact h g' c1' cur' w' R2 M2
end
/-! the methods, at a Rotor that is known by its rows -/
theorem tick_v (R : RO w B b k L t v) (hT : KT w0 ∧ 0 < B ∧ B ≤ w0.heap.size) (hb : Below B w0 w) (h9 : L.length ≤ 900) (now : Nat) (m : Int) (hm : m = now) (ht : t ≤ now) (hmx : now ≤ 1099511627776) (a : Ep.Sl) (hLa : L[0]? = some a) (hg : a.gen ≤ 1000000) (ha : a.made ≤ 1099511627776)
    (hL' : Ep.tick L now = L') (sl : Ep.Sl) (h4 : L'[L'.length - 1]? = some sl) (r : Int) (hr : r = sl.gen) :
    Calls Tryd.prog 28 #[.pointer (some ⟨b, 0, none⟩), .int .i64 m] w fun e w' => e = .returned (.int .i64 r) ∧ ∃ v', RO w' B b k L' now v' ∧ Fr (RF b v) w w' ∧ ∀ x, RF b v' x → RF b v x ∨ w.heap.size ≤ x := by
  subst hm; subst hr; subst hL'
  exact tick_c w B b k L t v R ⟨hT.1.below hb hT.2.1, hT.2.1, Nat.le_trans hT.2.2 hb.size⟩ a hLa h9 ⟨a.gen + 1, now⟩ rfl hg ht hmx ha sl (Nat.lt_of_le_of_lt (Nat.zero_le _) (List.getElem?_eq_some_iff.1 h4).1) h4
theorem restart_v (R : RO w B b k L t v) (hT : KT w0 ∧ 0 < B ∧ B ≤ w0.heap.size) (hb : Below B w0 w) (h9 : L.length ≤ 900) (now : Nat) (m : Int) (hm : m = now) (ht : t ≤ now) (hmx : now ≤ 1099511627776) (a : Ep.Sl) (hLa : L[0]? = some a) (hg : a.gen ≤ 1000000)
    (hL' : [⟨a.gen + 1, now⟩] = L') :
    Calls Tryd.prog 26 #[.pointer (some ⟨b, 0, none⟩), .int .i64 m] w fun e w' => e = .returned (.int .i64 0) ∧ ∃ v', RO w' B b k L' now v' ∧ Fr (RF b v) w w' ∧ ∀ x, RF b v' x → RF b v x ∨ w.heap.size ≤ x := by
  subst hm; subst hL'
  exact restart_c w B b k L t v R ⟨hT.1.below hb hT.2.1, hT.2.1, Nat.le_trans hT.2.2 hb.size⟩ a hLa h9 ⟨a.gen + 1, now⟩ rfl hg ht hmx
theorem new_v (hT : KT w0 ∧ 0 < w0.heap.size) (hb : Below w0.heap.size w0 w) (hk : k.length = 32) (now : Nat) (m : Int) (hm : m = now) (hmx : now ≤ 1099511627776) :
    Calls Tryd.prog 22 #[.agg (cs U8 k), .int .i64 m] w fun e w' => ∃ b v, e = .returned (.pointer (some ⟨b, 0, none⟩)) ∧ RO w' w.heap.size b k [⟨0, now⟩] now v ∧ Below w.heap.size w w' := by
  subst hm
  exact new_c w ⟨hT.1.below hb hT.2, Nat.lt_of_lt_of_le hT.2 hb.size⟩ k ⟨0, now⟩ hk rfl hmx
/-! elements of what Open answers -/
variable {T : TypeId}
theorem c66 {a : Ep.Sl} {j : Nat} {x : Value} (R : Rw B 66 v n (fl (e66 k) L) g c1 cur) (M : Mm S w0 H w) (hm : (g, cur) ∈ H) (hn : L.length = n) (i : Nat) (hi : L[i]? = some a) (hj : j < 66) (hx : (e66 k a)[j]? = some x) : w.cell? ⟨g, i * 66 + j, none⟩ = some x := by
  rw [cell_rowOf, M.row hm, grow_cell (e66_len k) hn R.tk hi j hj, hx]
theorem p66 {a : Ep.Sl} {m : Nat} {T : TypeId} {d : TypeDesc} (hu : Tryd.prog.underlying T = some d) (hd : d.isRow = true) (hi : (Tryd.prog.info? T).map (·.size) = some m) (R : Rw B 66 v n (fl (e66 k) L) g c1 cur) (M : Mm S w0 H w) (hm : (g, cur) ∈ H) (hn : L.length = n) (i : Nat) (hia : L[i]? = some a) (j : Nat) (hj : j + m ≤ 66) (X : Array Value) (hx : (((e66 k a).drop j).take m).toArray = X) :
    exLoad Tryd.prog T (.pointer (some ⟨g, i * 66 + j, none⟩)) w = .ok (.value (.agg X)) w := by
  have hi2 : i < n := by have := (List.getElem?_eq_some_iff.1 hia).1; omega
  have e := grow_elt (e66_len k) hn R.tk hia j m hj
  have hsz := R.sz
  have hnc := R.nc
  have hle : (i + 1) * 66 ≤ c1 * 66 := Nat.mul_le_mul_right _ (by omega)
  rw [Nat.add_mul] at hle
  rw [x_loadm w hu hd hi g (i * 66 + j) (by rw [M.row hm, hsz]; omega), M.row hm, e, hx]
theorem e66_0 (k : L8) (a : Ep.Sl) : (e66 k a)[0]? = some (.int .i64 a.gen) := by simp [e66, EPS]
theorem e66_1 (k : L8) (a : Ep.Sl) : (e66 k a)[1]? = some (.int .i64 (Ep.fin a.made)) := by simp [e66, EPS]
theorem e66_own (k : L8) (a : Ep.Sl) : (((e66 k a).drop 2).take 32).toArray = cs U8 (Ep.own k a.gen) := by
  simp [e66, EPS, cs, List.drop_append, List.take_append]
theorem e66_pub (k : L8) (a : Ep.Sl) : (((e66 k a).drop 34).take 32).toArray = cs U8 (Ep.pub k a.gen) := by
  simp [e66, EPS, cs, List.drop_append, List.take_append, List.drop_of_length_le, List.take_of_length_le]
theorem e66_all (k : L8) (a : Ep.Sl) : (((e66 k a).drop 0).take 66).toArray = EPS k a := by
  rw [List.drop_zero, List.take_of_length_le (by rw [e66_len]; decide)]; rfl
theorem eqKk (w : World) (D : L8) (hD : D.length = 32) : (Op.equalIn 10000 23 (.agg (cs U8 D)) (.agg (cs U8 D))).run Tryd.prog w = .ok true w := by
  rw [eqin_key w D D hD hD, beq_self_eq_true]
theorem xb_k1 (w : World) : exBuild Tryd.prog 23 #[(0, .int .u8 1)] w = .ok (.value (.agg (cs U8 (1 :: zs 31)))) w := by
  unfold exBuild; rw [run_build w _ _ (cs U8 (1 :: zs 31)) (by kernel_rfl)]; rfl
end
end Go.Proofs.YtgclegdgngldoaaDoor
