/-
  Walks of package sha: a hash that takes bytes; own work.
-/
import Derived.Test.YtbigmnhjnjeeaaaDoorSha2
import Derived.Test.YtbigmnhjnjeeaaaDoorBytes
set_option linter.unusedSimpArgs false
set_option linter.unusedVariables false
namespace Go.Proofs.YtbigmnhjnjeeaaaDoor
open Go.RowKit

theorem inf_int : (Tryd.prog.info? 3).map (·.size) = some 1 := by kernel_rfl
section
variable (ρ : Operand → Value) (dst : Option Tmp) (ty : TypeId) (pos : String) (after : Array Edge) (guard : Option (Nat × Bool)) (w : World)
@[go_sem ↓] theorem rs_int (x y : Operand) : (execOp ρ { dst, op := .store 3 x y, type := ty, pos, after, guard }).run Tryd.prog w = exStore Tryd.prog 3 (ρ x) (ρ y) w := x_store ..
@[go_sem] theorem xs_int (b o : Nat) (v : Value) (hv : ones1 v = true) (ho : o < (w.rowOf b).size) (hf : w.free b = true) : exStore Tryd.prog 3 (.pointer (some ⟨b, o, none⟩)) v w = .ok .skip (w.setRow b ((w.rowOf b).setIfInBounds o v)) :=
  x_storec inf_int w b o v hv ho hf
end

theorem inf_byts : (Tryd.prog.info? 24).map (·.size) = some 1 := by kernel_rfl
section
variable (ρ : Operand → Value) (dst : Option Tmp) (ty : TypeId) (pos : String) (after : Array Edge) (guard : Option (Nat × Bool)) (w : World)
@[go_sem ↓] theorem rs_byts (x y : Operand) : (execOp ρ { dst, op := .store 24 x y, type := ty, pos, after, guard }).run Tryd.prog w = exStore Tryd.prog 24 (ρ x) (ρ y) w := x_store ..
@[go_sem] theorem xs_byts (b o : Nat) (v : Value) (hv : ones1 v = true) (ho : o < (w.rowOf b).size) (hf : w.free b = true) : exStore Tryd.prog 24 (.pointer (some ⟨b, o, none⟩)) v w = .ok .skip (w.setRow b ((w.rowOf b).setIfInBounds o v)) :=
  x_storec inf_byts w b o v hv ho hf
end

/-- a hash, as its row of cells -/
def hrow (s : Sh.S8) (rv : Value) (n : Nat) : Array Value := #[.bool true, U32 s.a, U32 s.b, U32 s.c, U32 s.d, U32 s.e, U32 s.f, U32 s.g, U32 s.h, rv, .int .i64 n]
theorem hrow_mid (s : Sh.S8) (rv : Value) (n : Nat) : hrow s rv n = #[.bool true] ++ cs U32 s.list ++ #[rv, .int .i64 n] := rfl
/-- block b is a hash: its state, the bytes that wait, how many bytes there were, and the slice that holds those that wait -/
def HR (w : World) (b : Nat) (s : Sh.S8) (rest : List (BitVec 8)) (n : Nat) (rv : Value) : Prop :=
  w.free b = true ∧ w.rowOf b = hrow s rv n ∧ OB w (b + 1) rv rest
section
variable {w : World} {b : Nat} {s : Sh.S8} {rest : List (BitVec 8)} {n : Nat} {rv : Value}
theorem hr_c {i : Nat} (h : w.rowOf b = hrow s rv n) : w.cell? ⟨b, i, none⟩ = (hrow s rv n)[i]? := by rw [cell_rowOf, h]
end

set_option maxHeartbeats 400000 in
theorem good_yes (w : World) (b : Nat) (h : w.cell? ⟨b, 0, none⟩ = some (.bool true)) :
    Calls Tryd.prog 65 #[.pointer (some ⟨b, 0, none⟩)] w fun e w' => e = .returned (.bool true) ∧ w = w' := by
  go_enter Tryd.func65, Tryd.ntmps65
  go_wp2
  go_ret
  exact ⟨rfl, rfl⟩
set_option maxHeartbeats 400000 in
theorem good_nil (w : World) :
    Calls Tryd.prog 65 #[.pointer none] w fun e w' => e = .returned (.bool false) ∧ w = w' := by
  go_enter Tryd.func65, Tryd.ntmps65
  go_wp2
  go_ret
  exact ⟨rfl, rfl⟩
set_option maxHeartbeats 400000 in
theorem good_no (w : World) (b : Nat) (h : w.cell? ⟨b, 0, none⟩ = some (.bool false)) :
    Calls Tryd.prog 65 #[.pointer (some ⟨b, 0, none⟩)] w fun e w' => e = .returned (.bool false) ∧ w = w' := by
  go_enter Tryd.func65, Tryd.ntmps65
  go_wp2
  go_ret
  exact ⟨rfl, rfl⟩

theorem inf_st : (Tryd.prog.info? 92).map (·.size) = some 8 := by kernel_rfl
section
variable (ρ : Operand → Value) (dst : Option Tmp) (ty : TypeId) (pos : String) (after : Array Edge) (guard : Option (Nat × Bool)) (w : World)
@[go_sem ↓] theorem rl_st (x : Operand) : (execOp ρ { dst, op := .load 92 x, type := ty, pos, after, guard }).run Tryd.prog w = exLoad Tryd.prog 92 (ρ x) w := x_load ..
@[go_sem ↓] theorem rs_st (x y : Operand) : (execOp ρ { dst, op := .store 92 x y, type := ty, pos, after, guard }).run Tryd.prog w = exStore Tryd.prog 92 (ρ x) (ρ y) w := x_store ..
@[go_sem ↓] theorem ra_st : (execOp ρ { dst, op := .alloc 92, type := ty, pos, after, guard }).run Tryd.prog w = .ok (.value (.pointer (some ⟨w.heap.size, 0, none⟩))) (w.alloc (.cells (cs U32 (zs 8)) 92)) :=
  (x_alloc ..).trans (x_alloc0 (v := .agg (cs U32 (zs 8))) _ (by kernel_rfl))
@[go_sem] theorem xl_st (b : Nat) (h : (w.rowOf b).size = 8) : exLoad Tryd.prog 92 (.pointer (some ⟨b, 0, none⟩)) w = .ok (.value (.agg (w.rowOf b))) w := x_load0 _ Tryd.underlying92 rfl inf_st b h
@[go_sem] theorem xlm_st (b o : Nat) (ho : 0 < o) (h : o + 8 ≤ (w.rowOf b).size) : exLoad Tryd.prog 92 (.pointer (some ⟨b, o, none⟩)) w = .ok (.value (.agg ((w.rowOf b).extract o (o + 8)))) w := x_loadm _ Tryd.underlying92 rfl inf_st b o h
@[go_sem] theorem xs_st (b : Nat) (c : Array Value) (hl : c.size = 8) (h1 : ones c = true) (h : (w.rowOf b).size = 8) (hf : w.free b = true) : exStore Tryd.prog 92 (.pointer (some ⟨b, 0, none⟩)) (.agg c) w = .ok .skip (w.setRow b c) :=
  x_store0 _ inf_st b c hl h hf (ones_all h1)
@[go_sem] theorem xsm_st (b o : Nat) (ho : 0 < o) (c : Array Value) (hl : c.size = 8) (h1 : ones c = true) (h : o + 8 ≤ (w.rowOf b).size) (hf : w.free b = true) : exStore Tryd.prog 92 (.pointer (some ⟨b, o, none⟩)) (.agg c) w = .ok .skip (w.setSeg b o c) :=
  x_storem _ inf_st b o c hl h hf (ones_all h1)
end
/-- at a step: a store, and a variable made -/
theorem wps_st {a : Act} {w : World} {K : Act → World → Prop} {Q : Exit → Act → World → Prop} {o : Oper} (p x : Operand) (ho : o.op = .store 92 p x) (b : Nat) (c : Array Value) (hp : a.eval p = .pointer (some ⟨b, 0, none⟩)) (hx : a.eval x = .agg c)
    (hl : c.size = 8) (h1 : ones c = true) (h : (w.rowOf b).size = 8) (hf : w.free b = true) (hK : K (a.put o.dst undef) (w.setRow b c)) : o.wp Tryd.prog a w K Q := by
  obtain ⟨dst, op, ty, pos, after, guard⟩ := o
  subst ho
  unfold Oper.wp
  rw [rs_st, hp, hx, xs_st _ _ _ hl h1 h hf]
  simp only [Oper.upon]
  exact hK
theorem wpa_st {a : Act} {w : World} {K : Act → World → Prop} {Q : Exit → Act → World → Prop} {o : Oper} (ho : o.op = .alloc 92)
    (hK : K (a.put o.dst (.pointer (some ⟨w.heap.size, 0, none⟩))) (w.alloc (.cells (cs U32 (zs 8)) 92))) : o.wp Tryd.prog a w K Q := by
  obtain ⟨dst, op, ty, pos, after, guard⟩ := o
  subst ho
  unfold Oper.wp
  rw [ra_st]
  simp only [Oper.upon]
  exact hK

set_option maxHeartbeats 400000 in
theorem begin_any (w : World) :
    Calls Tryd.prog 64 #[] w fun e w' => e = .returned (.agg (cs U32 Sh.init.list)) ∧ Below w.heap.size w w' := by
  go_enter Tryd.func64, Tryd.ntmps64
  go_wp2_with fail
  refine bodyPost_ret (res_row (b := w.heap.size) rfl Tryd.underlying92 rfl inf_st _ _ rfl ?_) rfl ?_
  · rw [rowOf_alloc_at _ _ _ rfl]; rfl
  · rw [rowOf_alloc_at _ _ _ rfl]
    exact ⟨rfl, (Below.refl _ _).alloc (Nat.le_refl _) _⟩

set_option maxHeartbeats 400000 in
theorem new_any (w : World) :
    Calls Tryd.prog 56 #[] w fun e w' => ∃ b, e = .returned (.pointer (some ⟨b, 0, none⟩)) ∧ w.heap.size ≤ b ∧ b < w'.heap.size ∧ HR w' b Sh.init [] 0 (.slice none 0 0) ∧ Below w.heap.size w w' := by
  go_enter Tryd.func56, Tryd.ntmps56
  go_wp2_with (go_at_call 64; refine (begin_any _).mono ?_; rintro e w1 ⟨rfl, hb1⟩)
  go_ret
  exact ⟨w1.heap.size, rfl, hb1.size, by simp, ⟨free_alloc_at _ _ _ rfl, (rowOf_alloc_at _ _ _ rfl).trans (by kernel_rfl), OB.nil _ _⟩, hb1.alloc hb1.size _⟩

/-- how long the bytes that wait are: what falls from round to round -/
def lenAt (b : Nat) (w : World) : Nat := match w.cell? ⟨b, 9, none⟩ with | some (.slice _ n _) => n | _ => 0
theorem lenAt_eq {w : World} {b : Nat} {a : Option Addr} {n c : Nat} (h : w.cell? ⟨b, 9, none⟩ = some (.slice a n c)) : lenAt b w = n := by simp [lenAt, h]
/-- what a round of Write does -/
theorem write_round {w wr w4 : World} {b b2 o2 cap2 n m : Nat} {s' : Sh.S8} {r' : List (BitVec 8)} {rv : Value} {X : Sh.S8 × List (BitVec 8)} {a : Option Addr} (hfx : wr.free b = true) (hb0 : 0 < b)
    (hb : BS wr (.slice (some ⟨b2, o2, none⟩) r'.length cap2) r') (hb2 : b2 ≠ b) (hx : Sh.absorb s' r' = X) (hk : KT wr) (hfr : Fr (fun k => k = b ∨ some k = rv.ownBlock) w wr) (h64 : 64 ≤ r'.length)
    (hg : wr.drew.grownBy w4 (some b)) (hf4 : w4.free b = true) (ha : 64 < r'.length → a = some ⟨b2, o2 + 64, none⟩) (hn : a = none ∨ ∃ o, a = some ⟨b2, o, none⟩) (c : Array Value)
    (hc : c = #[.bool true, U32 (Sh.compress s' (r'.take 64)).a, U32 (Sh.compress s' (r'.take 64)).b, U32 (Sh.compress s' (r'.take 64)).c, U32 (Sh.compress s' (r'.take 64)).d, U32 (Sh.compress s' (r'.take 64)).e, U32 (Sh.compress s' (r'.take 64)).f, U32 (Sh.compress s' (r'.take 64)).g, U32 (Sh.compress s' (r'.take 64)).h, .slice a (r'.length - 64) (cap2 - 64), .int .i64 ((n : Int) + m)]) :
    ∃ s'' r'' rv'', (w4.setRow b c).free b = true ∧ (w4.setRow b c).rowOf b = #[.bool true, U32 s''.a, U32 s''.b, U32 s''.c, U32 s''.d, U32 s''.e, U32 s''.f, U32 s''.g, U32 s''.h, rv'', .int .i64 ((n : Int) + m)] ∧ BS (w4.setRow b c) rv'' r'' ∧ rv''.ownBlock ≠ some b ∧
      Sh.absorb s'' r'' = X ∧ KT (w4.setRow b c) ∧ Fr (fun k => k = b ∨ some k = rv.ownBlock) w (w4.setRow b c) := by
  have hbz := free_lt hfx
  refine ⟨Sh.compress s' (r'.take 64), r'.drop 64, .slice a (r'.length - 64) (cap2 - 64), by rw [free_setRow]; exact hf4, by rw [rowOf_setRow_same _ hf4, hc], ?_, ?_, by rw [← Sh.absorb_ge h64]; exact hx, ?_, ?_⟩
  · have h1 : BS w4 (.slice (some ⟨b2, o2, none⟩) r'.length cap2) r' := SV.grown (w := wr.drew) (SV.drewN hb 1) hg (.inr (by simp [Value.ownBlock]; exact hb2))
    have h2 : BS (w4.setRow b c) (.slice (some ⟨b2, o2, none⟩) r'.length cap2) r' := SV.grown h1 (gb_setRow (gb_refl _ (some b)) c) (.inr (by simp [Value.ownBlock]; exact hb2))
    exact h2.tail 64 h64 a ha
  · rcases hn with rfl | ⟨o, rfl⟩
    · simp [Value.ownBlock]
    · simp [Value.ownBlock]; exact hb2
  · show (w4.setRow b c).rowOf _ = _
    rw [rowOf_setRow_other _ _ (by omega), gb_row hg (by show _ < wr.heap.size; omega) (by simp; omega)]; exact hk
  · exact Fr.setRow (Fr.trans hfr ((Fr.drewN (Fr.refl _ wr) 1).trans ((Fr.of_grown hg).mono (fun k _ hk => by left; left; left; injection hk)))) (.inl (.inl rfl)) c
attribute [local irreducible] Sh.compress

set_option maxRecDepth 100000 in
set_option maxHeartbeats 1000000 in
theorem write_any (w : World) (b : Nat) (s : Sh.S8) (rest l : List (BitVec 8)) (n : Nat) (rv v : Value) (hK : KT w) (hb0 : 0 < b) (h : HR w b s rest n rv) (hv : BS w v l)
    (hsep2 : l = [] ∨ v.ownBlock ≠ some b) (hn : n + l.length ≤ 1073741824) (hr : rest.length < 64) :
    Calls Tryd.prog 57 #[.pointer (some ⟨b, 0, none⟩), v] w fun e w' => e = .returned (.int .i64 0) ∧ ∃ rv', HR w' b (Sh.absorb s (rest ++ l)).1 (Sh.absorb s (rest ++ l)).2 (n + l.length) rv' ∧
      Fr (fun k => k = b ∨ some k = rv.ownBlock) w w' ∧ (∀ g, rv'.ownBlock = some g → w.heap.size ≤ g) := by
  obtain ⟨hf, hrow, hown⟩ := h
  have hbz := free_lt hf
  have hgb : ∀ g, rv.ownBlock = some g → b + 1 ≤ g ∧ g < w.heap.size := hown.lt
  have HOB : ∀ c, OB (w.setRow b c) (b + 1) rv rest := fun c => hown.kept (gb_setRow (gb_refl _ _) c) (by
    cases hq : rv.ownBlock with
    | none => exact .inl rfl
    | some g => exact .inr (fun e => by injection e with e; have := (hgb g hq).1; omega))
  have HBS : ∀ c, BS (w.setRow b c) v l := fun c => SV.grown' hv (gb_setRow (gb_refl _ (some b)) c) (hsep2.imp (fun e => by rw [e]; rfl) id)
  have HBZ : ∀ c, b + 1 ≤ (w.setRow b c).heap.size := fun c => by simp; omega
  have HG : ∀ (c : Array Value) (w2 : World), (w.setRow b c).grownBy w2 rv.ownBlock → w2.free b = true ∧ w2.rowOf b = c ∧ KT w2 ∧ Fr (fun k => k = b ∨ some k = rv.ownBlock) w w2 := fun c w2 hg => by
    have hne : some b ≠ rv.ownBlock := fun e => by have := (hgb b e.symm).1; omega
    have hne0 : some 0 ≠ rv.ownBlock := fun e => by have := (hgb _ e.symm).1; omega
    refine ⟨by rw [gb_free hg (by simpa using hbz) hne, free_setRow]; exact hf, by rw [gb_row hg (by simpa using hbz) hne, rowOf_setRow_same _ hf], ?_, ?_⟩
    · show w2.rowOf _ = _
      rw [gb_row hg (by simp; omega) hne0, rowOf_setRow_other _ _ (by omega)]; exact hK
    · exact (Fr.setRow (Fr.refl _ w) (.inl (.inl rfl)) c).trans ((Fr.of_grown hg).mono (fun k _ hk => .inl (.inr hk)))
  obtain ⟨av, cv, rfl, hcv⟩ := hv.shape
  have c0 : w.cell? ⟨b, 0, none⟩ = some (.bool true) := hr_c hrow
  have c9 : w.cell? ⟨b, 9, none⟩ = some rv := hr_c hrow
  have c10 : w.cell? ⟨b, 10, none⟩ = some (.int .i64 n) := hr_c hrow
  have hrl : w.rowOf b = #[.bool true, U32 s.a, U32 s.b, U32 s.c, U32 s.d, U32 s.e, U32 s.f, U32 s.g, U32 s.h, rv, .int .i64 n] := hrow
  clear hrow
  have n1 : ¬ (1073741824 - (n : Int) < l.length) := by omega
  have H1 := hid HOB; have H2 := hid HBS; have H3 := hid HBZ; have H4 := hid HG; have H5 := hid hgb; have H6 := hid hK
  clear HOB HBS HBZ HG hgb hK hsep2 hv hown
  go_enter Tryd.func57, Tryd.ntmps57
  go_wp2_with (first
    | (go_at_call 65; refine (good_yes _ _ ?_).mono ?_; assumption; rintro e w' ⟨rfl, rfl⟩)
    | (refine wpList_apb rfl (.tmp 31) (.tmp 32) rfl (b + 1) rv _ rest l rfl (H1.out _) rfl (H2.out _) (by omega) (H3.out _) ?_; rintro v2 w2 hown2 hg2 -; obtain ⟨a2, c2, rfl, hc2⟩ := hown2.bs.shape; obtain ⟨hf2, hrow2, hK2, hfr2⟩ := H4.out _ w2 hg2; have H7 := hid hown2; have H8 := hid hK2; have H9 := hid hfr2; clear hown2 hK2 hfr2 hg2))
  obtain ⟨w3, hw3⟩ : ∃ w3, w3 = w2.setRow b #[.bool true, U32 s.a, U32 s.b, U32 s.c, U32 s.d, U32 s.e, U32 s.f, U32 s.g, U32 s.h, .slice a2 (rest.length + l.length) c2, .int .i64 ((n : Int) + l.length)] := ⟨_, rfl⟩
  have hob3 : BS w3 (.slice a2 (rest ++ l).length c2) (rest ++ l) := by
    rw [hw3]; exact SV.grown H7.out.bs (gb_setRow (gb_refl _ (some b)) _) (.inr (fun e => by have := (H7.out.lt b e).1; omega))
  have hne3 : (Value.slice a2 (rest ++ l).length c2).ownBlock ≠ some b := fun e => by have := (H7.out.lt b e).1; omega
  have hf3 : w3.free b = true := by rw [hw3, free_setRow]; exact hf2
  have hr3 : w3.rowOf b = #[.bool true, U32 s.a, U32 s.b, U32 s.c, U32 s.d, U32 s.e, U32 s.f, U32 s.g, U32 s.h, .slice a2 (rest ++ l).length c2, .int .i64 ((n : Int) + l.length)] := by
    rw [hw3, rowOf_setRow_same _ hf2, List.length_append]
  have hk3 : KT w3 := by rw [hw3]; show (w2.setRow b _).rowOf _ = _; rw [rowOf_setRow_other _ _ (by omega)]; exact H8.out
  have hfr3 : Fr (fun k => k = b ∨ some k = rv.ownBlock) w w3 := by rw [hw3]; exact Fr.setRow H9.out (.inl (.inl rfl)) _
  have e3 := hw3
  rw [List.length_append] at hob3 hne3 hr3
  have G0 := hid hob3; have G1 := hid hne3; have G2 := hid hf3; have G3 := hid hr3; have G4 := hid hk3; have G5 := hid hfr3
  clear hob3 hne3 hf3 hr3 hk3 hfr3 hw3 H7 H8 H9 hf2 hrow2 c0 c9 c10 hrl hf
  rw [← e3]
  clear e3
  go_loopw [] (fun wr => ∃ s' r' rv', wr.free b = true ∧ wr.rowOf b = #[.bool true, U32 s'.a, U32 s'.b, U32 s'.c, U32 s'.d, U32 s'.e, U32 s'.f, U32 s'.g, U32 s'.h, rv', .int .i64 ((n : Int) + l.length)] ∧ BS wr rv' r' ∧ rv'.ownBlock ≠ some b ∧ Sh.absorb s' r' = Sh.absorb s (rest ++ l) ∧ KT wr ∧
      Fr (fun k => k = b ∨ some k = rv.ownBlock) w wr) (fun wr => lenAt b wr)
  case atStart =>
    have e : (rest ++ l).length = rest.length + l.length := List.length_append
    exact ⟨s, rest ++ l, _, G2.out, G3.out, by rw [← e]; rw [← e] at G0; exact G0.out, G1.out, rfl, G4.out, G5.out⟩
  case round =>
    obtain ⟨s', r', rv', hfx, hrx, hbx, hnx, habs, hkx, hfr⟩ := hrel
    have HA := hid habs; have HK := hid hkx; have HFR := hid hfr; have HN := hid hnx; have HB := hid hbx
    have c9 : wr.cell? ⟨b, 9, none⟩ = some rv' := by rw [cell_rowOf, hrx]; rfl
    have hbz : b < wr.heap.size := free_lt hfx
    clear G0 G1 G2 G3 G4 G5 habs hkx hfr
    by_cases h64 : 64 ≤ r'.length
    · obtain ⟨b2, o2, cap2, rfl, hcap, hcells⟩ := hbx.open (by intro e; simp [e] at h64)
      have hb2 : b2 ≠ b := fun e => hnx (by simp [Value.ownBlock, e])
      have HBK := block_any b 1 b2 o2 64 cap2 s' #[.bool true] #[.slice (some ⟨b2, o2, none⟩) r'.length cap2, .int .i64 ((n : Int) + l.length)] (r'.take 64) wr.drew (Nat.le_refl _) (by omega) HK.out hb0 hfx hrx rfl
        (fun i hi => by
          have := hcells i (by omega)
          rw [List.getD_eq_getElem?_getD, List.getElem?_take_of_lt hi, ← List.getD_eq_getElem?_getD]; exact this)
      have HBL := hid HBK
      have hcap' : (64 : Int) ≤ cap2 := by omega
      have h64' : (64 : Int) ≤ r'.length := by omega
      clear HBK hbx hnx hcells
      go_wp
      refine wp_region_qtail 8 (by kernel_rfl) (by kernel_rfl) ?_
      simp only [List.take_succ_cons, List.take_zero, List.drop_succ_cons, List.drop_zero]
      repeat (go_big_quiet_step (fail))
      refine wpQuiet_nil ?_
      go_wp
      refine HBL.out.mono ?_
      rintro e w4 ⟨rfl, hg4, hf4, hq4⟩
      have hr4 : w4.rowOf b = #[.bool true, U32 (Sh.compress s' (r'.take 64)).a, U32 (Sh.compress s' (r'.take 64)).b, U32 (Sh.compress s' (r'.take 64)).c, U32 (Sh.compress s' (r'.take 64)).d, U32 (Sh.compress s' (r'.take 64)).e, U32 (Sh.compress s' (r'.take 64)).f, U32 (Sh.compress s' (r'.take 64)).g, U32 (Sh.compress s' (r'.take 64)).h, .slice (some ⟨b2, o2, none⟩) r'.length cap2, .int .i64 ((n : Int) + l.length)] := hq4
      clear hq4
      have d9 : w4.cell? ⟨b, 9, none⟩ = some (.slice (some ⟨b2, o2, none⟩) r'.length cap2) := by rw [cell_rowOf, hr4]; rfl
      have HG4 := hid hg4
      have HHX := hid hrx
      clear hg4 hrx
      by_cases hc64 : cap2 = 64
      · subst hc64
        have h65 : (r'.length : Int) ≤ 64 := by omega
        dsimp only
        go_wp
        go_roundw
        case rel => exact write_round (cap2 := 64) (a := some ⟨b2, o2, none⟩) hfx hb0 HB.out hb2 HA.out HK.out HFR.out h64 HG4.out hf4 (fun h => by omega) (.inr ⟨_, rfl⟩) _ (by rw [show r'.length - 64 = 0 from by omega])
        case measure =>
          rw [lenAt_eq (a := some ⟨b2, o2, none⟩) (n := 0) (c := 0) (by rw [cell_rowOf, rowOf_setRow_same _ hf4]; rfl), lenAt_eq c9]; omega
      · dsimp only
        go_wp
        go_roundw
        case rel => exact write_round (a := some ⟨b2, o2 + 64, none⟩) hfx hb0 HB.out hb2 HA.out HK.out HFR.out h64 HG4.out hf4 (fun h => rfl) (.inr ⟨_, rfl⟩) _ rfl
        case measure =>
          rw [lenAt_eq (a := some ⟨b2, o2 + 64, none⟩) (n := r'.length - 64) (c := cap2 - 64) (by rw [cell_rowOf, rowOf_setRow_same _ hf4]; rfl), lenAt_eq c9]; omega
    · obtain ⟨ar, cr, rfl, hcr⟩ := hbx.shape
      have hlt64 : ¬ ((64 : Int) ≤ r'.length) := by omega
      have HHX := hid hrx
      clear hbx hnx hrx
      go_wp2_with (refine wpList_apb rfl (.const (.slice none 0 0)) (.tmp 63) rfl wr.heap.size (.slice none 0 0) _ [] r' rfl (OB.nil _ _) rfl HB.out (by simp; omega) (Nat.le_refl _) ?_; rintro v5 w5 hown5 hg5 -; obtain ⟨a5, c5, rfl, hc5⟩ := hown5.bs.shape; have hf5 := (gb_free hg5 hbz (by simp [Value.ownBlock])).trans hfx; have hr5 := (gb_row hg5 hbz (by simp [Value.ownBlock])).trans HHX.out; have HO5 := hid hown5; have HG5 := hid hg5; clear hown5 hg5)
      go_ret
      have e := Sh.absorb_lt (s := s') (l := r') (by omega)
      have hzz := HFR.out.size
      rw [← HA.out, e]
      refine ⟨rfl, _, ⟨by rw [free_setRow]; exact hf5, by rw [rowOf_setRow_same _ hf5]; rfl, ?_⟩, ?_, ?_⟩
      · have h1 : OB w5 wr.heap.size (.slice a5 r'.length c5) r' := HO5.out
        exact (h1.kept (gb_setRow (gb_refl _ (some b)) _) (by
          cases hq : (Value.slice a5 r'.length c5).ownBlock with
          | none => exact .inl rfl
          | some g => exact .inr (fun e => by injection e with e; have := (h1.lt g hq).1; omega))).mono hbz
      · exact Fr.setRow (Fr.trans HFR.out ((Fr.of_grown HG5.out).mono (fun k _ hk => by simp [Value.ownBlock] at hk))) (.inl (.inl rfl)) _
      · intro g hg
        have h1 : OB w5 wr.heap.size (.slice a5 r'.length c5) r' := HO5.out
        have := (h1.lt g hg).1
        omega
end Go.Proofs.YtbigmnhjnjeeaaaDoor
