/-
  Steps at slices of bytes: parts of rows, literals, an append to a slice that is full, calls known by a law; own work.
  Walk of package aead: what is made of a key, what hides, a tag; own work.
-/
import Derived.Test.YtbigmnhjnjeeaaaDoorCha7
import Derived.Test.YtbigmnhjnjeeaaaDoorHmac5
import Derived.Test.YtbigmnhjnjeeaaaDoorFlow
import Derived.ArgAppend
import Derived.Test.YtbigmnhjnjeeaaaDoorSeaS
set_option linter.unusedSimpArgs false
set_option linter.unusedVariables false
namespace Go.Proofs.YtbigmnhjnjeeaaaDoor
open Go.RowKit
theorem OB.below {w w' : World} {base : Nat} {v : Value} {l : List (BitVec 8)} (h : OB w base v l) (hb : Below w.heap.size w w') : OB w' base v l := by
  refine ⟨h.1, ?_⟩
  rcases h.2 with e | ⟨g, cap, cur, rfl, h1, h2, h3⟩
  · exact .inl e
  · exact .inr ⟨g, cap, cur, rfl, h1, (hb.block g (Array.getElem?_eq_some_iff.1 h2).1).trans h2, h3⟩
/-- bytes of one's own, that are full, and as such -/
theorem BS.seg {w : World} {g o n c : Nat} {L X : List (BitVec 8)} (hr : w.rowOf g = cs U8 L) (hX : (L.drop o).take n = X) (hn : o + n ≤ L.length) (hc : n ≤ c) (hm : c ≤ maxLen) : BS w (.slice (some ⟨g, o, none⟩) n c) X := by
  subst hX
  have hl : ((L.drop o).take n).length = n := by rw [List.length_take, List.length_drop]; omega
  refine ⟨some ⟨g, o, none⟩, c, by rw [hl], by rw [hl]; exact hc, hm, fun _ => ⟨g, o, rfl, fun i hi => ?_⟩⟩
  rw [List.length_map, hl] at hi
  rw [cell_rowOf, hr]
  simp only [cs, List.getElem?_toArray, List.getElem?_map, List.getElem?_take_of_lt hi, List.getElem?_drop]
section
variable {ops : Array Oper} {Q : Exit → Act → World → Prop} {i : Nat} {t : Tr} {a : Act} {o : Oper} {S : Nat → Prop} {w0 w : World} {H : List (Nat × Array Value)}
theorem wpT_unw {P : Program} {a : Act} {w : World} (dst : Nat) (hdst : o.dst = some dst) (ho : ops[i]? = some o) (hw : Region.wanted o (yielded ops a.tmps) = false) (h : wpT P ops Q t (a.put (some dst) undef) w) : wpT P ops Q (.op i t) a w := by
  show wpOp P ops Q i (wpT P ops Q t) a w
  unfold wpOp
  rw [ho]
  simp only [hw, Bool.false_eq_true, if_false]
  rw [hdst]; exact h
/-- a literal of bytes: built, and told to be bytes -/
theorem wpT_lit8 {j : Nat} {o2 : Oper} {len : Nat} {ps : Array (Nat × Operand)} (d1 d2 : Nat) (M : Mm S w0 H w) (l : List (BitVec 8)) (hl : l.length = len) (h0 : 0 < len) (hs : len ≤ 1000000) (hdst : o.dst = some d1) (ho : ops[i]? = some o) (hop : o.op = .buildSlice 24 len ps)
    (hf : Instr.fill (fun i => some (i * 1, 1)) ((Array.range (len * 1)).map ((Value.int .u8 0).cells[· % (Value.int .u8 0).cells.size]!)) (ps.map fun (i, x) => (i, a.eval x)).toList = some (cs U8 l)) (hw : o.guard = none)
    (hdst2 : o2.dst = some d2) (ho2 : ops[j]? = some o2) (hop2 : o2.op = .convert 24 24 (.tmp d1)) (hw2 : o2.guard = none) (hev : ∀ v, (a.put (some d1) v).eval (.tmp d1) = v)
    (h : ∀ g w', BS w' (.slice (some ⟨g, 0, none⟩) len len) l → Mm S w0 H w' → Below w.heap.size w w' → w.heap.size ≤ g → wpT Tryd.prog ops Q t ((a.put (some d1) (.slice (some ⟨g, 0, none⟩) len len)).put (some d2) (.slice (some ⟨g, 0, none⟩) len len)) w') : wpT Tryd.prog ops Q (.op i (.op j t)) a w := by
  obtain ⟨inf, hi0, hz0, hz1, hz2⟩ := info_parts info_u8
  have hb : Below w.heap.size w (w.alloc (.cells (cs U8 l) 5)) := (Below.refl _ _).alloc (Nat.le_refl _) _
  have hh : (w.alloc (.cells (cs U8 l) 5)).heap[w.heap.size]? = some (.cells (cs U8 l) 5 (0, 0)) := heap_new' _
  refine wpT_val (w' := w.alloc (.cells (cs U8 l) 5)) (v := .slice (some ⟨w.heap.size, 0, none⟩) len len) ho (by simp [Region.wanted, hw]) ?_ ?_
  · obtain ⟨dst, op, ty, pos, after, guard⟩ := o
    subst hop
    simp only [execOp, Sem.run_bind]
    rw [run_buildSlice w 24 5 len _ (cs U8 l) inf (.int .u8 0) Tryd.underlying24 hi0 hz0 (by rw [hz1]; omega) (by rw [hz1]; omega) (by rw [hz1]; exact hf)]; rfl
  · rw [hdst]
    have hcr := conv_run len len hh
    obtain ⟨⟨fz', e1⟩, e2, e3⟩ := freeze_heap (cs U8 l).size hh
    generalize hw3 : (w.alloc (.cells (cs U8 l) 5)).freeze ⟨w.heap.size, (cs U8 l).size, none⟩ 1 = w3 at *
    have hos : w3.os = w.os ∧ w3.tape = w.tape ∧ w3.output = w.output := by rw [← hw3]; exact ⟨rfl, rfl, rfl⟩
    have hb3 : Below w.heap.size w w3 := ⟨hos.1, hos.2.1, hos.2.2, by rw [e3]; simp, fun k hk => (e2 k (by omega)).trans (hb.block k hk)⟩
    refine wpT_val (w' := w3) (v := .slice (some ⟨w.heap.size, 0, none⟩) len len) ho2 (by simp [Region.wanted, hw2]) ?_ ?_
    · obtain ⟨dst, op, ty, pos, after, guard⟩ := o2
      subst hop2
      simp only [execOp, Sem.run_bind, hev, hcr]; rfl
    · rw [hdst2]
      refine h _ _ ?_ (M.below hb3) hb3 (Nat.le_refl _)
      subst hl
      exact BS.row (rowOf_eq e1) rfl (by unfold maxLen; omega)
/-- a slice that is built of bytes -/
theorem wpT_b8 {len : Nat} {ps : Array (Nat × Operand)} (dst : Nat) (M : Mm S w0 H w) (l : List (BitVec 8)) (hl : l.length = len) (h0 : 0 < len) (hs : len ≤ 1000000) (hdst : o.dst = some dst) (ho : ops[i]? = some o) (hop : o.op = .buildSlice 24 len ps)
    (hf : Instr.fill (fun i => some (i * 1, 1)) ((Array.range (len * 1)).map ((Value.int .u8 0).cells[· % (Value.int .u8 0).cells.size]!)) (ps.map fun (i, x) => (i, a.eval x)).toList = some (cs U8 l)) (hw : Region.wanted o (yielded ops a.tmps) = true)
    (h : ∀ g w', BS w' (.slice (some ⟨g, 0, none⟩) len len) l → Mm S w0 H w' → Below w.heap.size w w' → g = w.heap.size → w'.heap.size = w.heap.size + 1 → wpT Tryd.prog ops Q t (a.put (some dst) (.slice (some ⟨g, 0, none⟩) len len)) w') : wpT Tryd.prog ops Q (.op i t) a w := by
  obtain ⟨inf, hi0, hz0, hz1, hz2⟩ := info_parts info_u8
  refine wpT_val (w' := w.alloc (.cells (cs U8 l) 5)) (v := .slice (some ⟨w.heap.size, 0, none⟩) len len) ho hw ?_ ?_
  · obtain ⟨dst, op, ty, pos, after, guard⟩ := o
    subst hop
    simp only [execOp, Sem.run_bind]
    rw [run_buildSlice w 24 5 len _ (cs U8 l) inf (.int .u8 0) Tryd.underlying24 hi0 hz0 (by rw [hz1]; omega) (by rw [hz1]; omega) (by rw [hz1]; exact hf)]; rfl
  · rw [hdst]
    have hb : Below w.heap.size w (w.alloc (.cells (cs U8 l) 5)) := (Below.refl _ _).alloc (Nat.le_refl _) _
    refine h _ _ ?_ (M.below hb) hb rfl (by simp)
    subst hl
    exact BS.row (rowOf_alloc_at _ _ _ rfl) rfl (by unfold maxLen; omega)
set_option maxRecDepth 100000 in
/-- append of bytes to bytes that are full: what comes lies in new memory -/
theorem wpT_apf (dst : Nat) (s x : Operand) (M : Mm S w0 H w) {A : Option Addr} {n : Nat} {u : Value} (l m : List (BitVec 8)) (hdst : o.dst = some dst) (ho : ops[i]? = some o)
    (hop : o.op = .call { callee := .builtin .append, args := #[s, x], argTypes := #[24, 24] }) (hw : Region.wanted o (yielded ops a.tmps) = true) (hs : a.eval s = .slice A n n) (hA : A = none → n = 0) (hn : l.length = n) (hbs : BS w (.slice A n n) l) (hx : a.eval x = u) (hu : BS w u m) (hm0 : 0 < m.length)
    (hlen : l.length + m.length ≤ 140737488355328) (h : ∀ v' w', OB w' w.heap.size v' (l ++ m) → Mm S w0 H w' → Below w.heap.size w w' → wpT Tryd.prog ops Q t (a.put (some dst) v') w') : wpT Tryd.prog ops Q (.op i t) a w := by
  obtain ⟨inf, hi0, hz0, hz1, hz2⟩ := info_parts info_u8
  obtain ⟨gb, go, cu, rfl, _, hcu⟩ := hu.open (by intro e; rw [e] at hm0; simp at hm0)
  have hnews : ∀ (j : Nat) (y : Value), (m.map U8)[j]? = some y → w.cell? ((⟨gb, go, none⟩ : Addr).add j) = some y := by
    intro j y hj
    have hlt : j < m.length := by have := (List.getElem?_eq_some_iff.1 hj).1; simpa using this
    rw [Addr.add_lit, hcu j hlt, ← hj, List.getElem?_map, List.getD_eq_getElem?_getD, List.getElem?_eq_getElem hlt]; rfl
  have hone : ∀ u ∈ m.map U8, u.oneCell' = true := by simp; intro _ _; rfl
  have key : ∃ v' w', (Builtin.append_ #[24, 24] o.type #[.slice A n n, .slice (some ⟨gb, go, none⟩) m.length cu]).run Tryd.prog w = .ok v' w' ∧ w'.ownsRow w.heap.size 5 1 v' (n + m.length) (l.map U8 ++ m.map U8) ∧ w.grownBy w' none := by
    cases A with
    | none =>
      obtain rfl := hA rfl
      obtain rfl : l = [] := List.eq_nil_of_length_eq_zero hn
      obtain ⟨v', w', hrun, r1, r2, _⟩ := run_append_own (P := Tryd.prog) w w.heap.size 24 o.type 5 inf (.int .u8 0) 1 1 Tryd.underlying24 hi0 hz0 hz1 hz2 rfl (by decide) (.slice none 0 0) 0 [] (World.ownsRow_nil w _ 5 1) ⟨gb, go, none⟩ m.length cu (m.map U8) (by simp) hnews hone (by unfold maxLen; omega) (by omega) (Nat.le_refl _)
      exact ⟨v', w', hrun, r1, r2⟩
    | some ad =>
      have holds : ∀ (j : Nat) (y : Value), (l.map U8)[j]? = some y → w.cell? (ad.add j) = some y := by
        intro j y hj
        have hlt : j < l.length := by have := (List.getElem?_eq_some_iff.1 hj).1; simpa using this
        obtain ⟨b, o', c', e, _, h3⟩ := hbs.open (by intro e; rw [e] at hlt; simp at hlt)
        injection e with e _ _
        injection e with e
        subst e
        rw [Addr.add_lit, h3 j hlt, ← hj, List.getElem?_map, List.getD_eq_getElem?_getD, List.getElem?_eq_getElem hlt]; rfl
      exact run_append_arg_grows (P := Tryd.prog) w 24 o.type 5 inf (.int .u8 0) 1 1 Tryd.underlying24 hi0 hz0 hz1 hz2 rfl (by decide) ad n n (l.map U8) (by simp [hn]) holds ⟨gb, go, none⟩ m.length cu (m.map U8) (by simp) hnews (by omega) (by unfold maxLen; omega) (by omega)
  obtain ⟨v', w', hrun, r1, r2⟩ := key
  have hb : Below w.heap.size w w' := ⟨r2.os, r2.tape, r2.output, r2.size, fun k hk => r2.block k hk (fun e => by cases e)⟩
  refine wpT_val (w' := w') (v := v') ho hw ?_ ?_
  · obtain ⟨dst, op, ty, pos, after, guard⟩ := o
    subst hop
    simp [execOp, resolve, invoke, builtin, hs, hx, hrun, Result.andThen]
  · rw [hdst]
    exact h _ _ (by unfold OB; rw [List.length_append, hn]; simpa using r1) (M.below hb) hb
end
section
variable {P : Program} {ops : Array Oper} {B N : Nat} {qs fs : List Nat} {K : Act → World → Prop} {i : Nat} {o : Oper} {r : List Oper} {a : Act} {acc : List (Nat × Array Value × TypeId)} {I : World → Prop}
/-- a call that makes no more than new memory, and answers what is known by a law -/
theorem SeqA.callP (X : Value → World → Prop) (f : FuncId) (args : Array Value) (hst : ∀ v w w', X v w → Sf B w w' → X v w') (hrun : ∀ w, (execOp a.eval o).run P w = .ok (.enter f args) w) (hc : ∀ w, I w → N ≤ w.heap.size → Calls P f args w fun e w' => ∃ v, e = .returned v ∧ X v w' ∧ Below w.heap.size w w') (hB : B ≤ N)
    (hq : i ∈ qs) (hn : isNewOp o = false) (hw : Region.wanted o (yielded ops a.tmps) = true)
    (h : ∀ u, SeqA P ops B N qs fs K (i + 1) r (a.put o.dst u) acc (fun w => I w ∧ X u w)) (hf : fs.contains i = false := by rfl) : SeqA P ops B N qs fs K i (o :: r) a acc I :=
  .opq X hq hn hw hst (fun w hI hN => by
    unfold Gives; rw [hrun w]
    exact (hc w hI hN).mono fun e w' ⟨v, he, hx, hb⟩ => ⟨v, he, hx, Sf.of hb (Nat.le_trans hB hN)⟩) h hf
end
section
variable {P : Program} {ops : Array Oper} {Q : Exit → Act → World → Prop}
theorem wpTJ_true : ∀ (t : Tr) {a : Act} {w : World}, wpT P ops Q t a w → wpTJ P ops Q (fun _ => True) t a w
  | .done, _, _, h => ⟨trivial, h⟩
  | .bad, _, _, h => h
  | .op _ t, _, _, h => ⟨trivial, wpOp_mono (fun a w h => wpTJ_true t h) h⟩
  | .both l r, _, _, h => ⟨wpTJ_true l h.1, wpTJ_true r h.2⟩
/-- a region that draws: what looks at no memory first, then the rest as a tree -/
theorem wp_region_P {id : Nat} {a : Act} {w : World} {l : List Oper} (ps : List Nat) (t : Tr) (hm : P.follows .mixedOrders = true)
    (hc : (Region.noSelect l.toArray && chkY .any l.toArray ps (Array.replicate l.length false) && decide (ps.length ≤ l.length)) = true)
    (ht : mkT .any l.toArray (l.length - ps.length) (setY ps (Array.replicate l.length false)) = t)
    (hQ : ∀ d v c a w, Q (.panic c) (a.put d v) w → Q (.panic c) a w)
    (h : wpYJ P l.toArray (fun _ => True) ps (fun a' => wpT P l.toArray Q t a' w.drew) a) : (Code.region id l.toArray true).wp P Q a w :=
  wp_region_J (fun _ => True) ps t hm hc ht hQ (wpYJ_mono (fun a' h => wpTJ_true t h) ps a h)
end
end Go.Proofs.YtbigmnhjnjeeaaaDoor
set_option linter.unusedSimpArgs false
set_option linter.unusedVariables false
namespace Go.Proofs.YtbigmnhjnjeeaaaDoor
open Go.RowKit
theorem inf_keys : (Tryd.prog.info? 46).map (·.size) = some 76 := by kernel_rfl
section
variable (ρ : Operand → Value) (dst : Option Tmp) (ty : TypeId) (pos : String) (after : Array Edge) (guard : Option (Nat × Bool)) (w : World)
@[go_sem ↓] theorem rl_keys (x : Operand) : (execOp ρ { dst, op := .load 46 x, type := ty, pos, after, guard }).run Tryd.prog w = exLoad Tryd.prog 46 (ρ x) w := x_load ..
@[go_sem ↓] theorem rs_keys (x y : Operand) : (execOp ρ { dst, op := .store 46 x y, type := ty, pos, after, guard }).run Tryd.prog w = exStore Tryd.prog 46 (ρ x) (ρ y) w := x_store ..
@[go_sem ↓] theorem ra_keys : (execOp ρ { dst, op := .alloc 46, type := ty, pos, after, guard }).run Tryd.prog w = .ok (.value (.pointer (some ⟨w.heap.size, 0, none⟩))) (w.alloc (.cells (cs U8 (zs 76)) 46)) :=
  (x_alloc ..).trans (x_alloc0 (v := .agg (cs U8 (zs 76))) _ (by kernel_rfl))
@[go_sem] theorem xl_keys (b : Nat) (h : (w.rowOf b).size = 76) : exLoad Tryd.prog 46 (.pointer (some ⟨b, 0, none⟩)) w = .ok (.value (.agg (w.rowOf b))) w := x_load0 _ Tryd.underlying46 rfl inf_keys b h
@[go_sem] theorem xlm_keys (b o : Nat) (ho : 0 < o) (h : o + 76 ≤ (w.rowOf b).size) : exLoad Tryd.prog 46 (.pointer (some ⟨b, o, none⟩)) w = .ok (.value (.agg ((w.rowOf b).extract o (o + 76)))) w := x_loadm _ Tryd.underlying46 rfl inf_keys b o h
@[go_sem] theorem xs_keys (b : Nat) (c : Array Value) (hl : c.size = 76) (h1 : ones c = true) (h : (w.rowOf b).size = 76) (hf : w.free b = true) : exStore Tryd.prog 46 (.pointer (some ⟨b, 0, none⟩)) (.agg c) w = .ok .skip (w.setRow b c) :=
  x_store0 _ inf_keys b c hl h hf (ones_all h1)
@[go_sem] theorem xsm_keys (b o : Nat) (ho : 0 < o) (c : Array Value) (hl : c.size = 76) (h1 : ones c = true) (h : o + 76 ≤ (w.rowOf b).size) (hf : w.free b = true) : exStore Tryd.prog 46 (.pointer (some ⟨b, o, none⟩)) (.agg c) w = .ok .skip (w.setSeg b o c) :=
  x_storem _ inf_keys b o c hl h hf (ones_all h1)
end
/-- at a step: a store, and a variable made -/
theorem wps_keys {a : Act} {w : World} {K : Act → World → Prop} {Q : Exit → Act → World → Prop} {o : Oper} (p x : Operand) (ho : o.op = .store 46 p x) (b : Nat) (c : Array Value) (hp : a.eval p = .pointer (some ⟨b, 0, none⟩)) (hx : a.eval x = .agg c)
    (hl : c.size = 76) (h1 : ones c = true) (h : (w.rowOf b).size = 76) (hf : w.free b = true) (hK : K (a.put o.dst undef) (w.setRow b c)) : o.wp Tryd.prog a w K Q := by
  obtain ⟨dst, op, ty, pos, after, guard⟩ := o
  subst ho
  unfold Oper.wp
  rw [rs_keys, hp, hx, xs_keys _ _ _ hl h1 h hf]
  simp only [Oper.upon]
  exact hK
theorem wpa_keys {a : Act} {w : World} {K : Act → World → Prop} {Q : Exit → Act → World → Prop} {o : Oper} (ho : o.op = .alloc 46)
    (hK : K (a.put o.dst (.pointer (some ⟨w.heap.size, 0, none⟩))) (w.alloc (.cells (cs U8 (zs 76)) 46))) : o.wp Tryd.prog a w K Q := by
  obtain ⟨dst, op, ty, pos, after, guard⟩ := o
  subst ho
  unfold Oper.wp
  rw [ra_keys]
  simp only [Oper.upon]
  exact hK

theorem bp_keys (l : List (Nat × Value)) : Tryd.prog.built 46 l = Instr.fill (([(0, 32), (32, 32), (64, 12)] : List (Nat × Nat)).toArray[·]?) (((Tryd.prog.info? 46).bind (·.zero)).getD undef).cells l := by kernel_rfl
theorem bz_keys : (((Tryd.prog.info? 46).bind (·.zero)).getD undef).cells.size = 76 := by kernel_rfl
@[go_sem ↓] theorem rb_keys (ρ : Operand → Value) (dst : Option Tmp) (ty : TypeId) (pos : String) (after : Array Edge) (guard : Option (Nat × Bool)) (w : World) (ps : Array (Nat × Operand)) :
    (execOp ρ { dst, op := .build 46 ps, type := ty, pos, after, guard }).run Tryd.prog w = exBuild Tryd.prog 46 (ps.map fun p => (p.1, ρ p.2)) w := x_build ..
theorem xb_keys (w : World) (ps : Array (Nat × Value)) (hc : Cont (([(0, 32), (32, 32), (64, 12)] : List (Nat × Nat)).toArray[·]?) 0 ps.toList) (hz : (catP ps.toList).size = 76) :
    exBuild Tryd.prog 46 ps w = .ok (.value (.agg (catP ps.toList))) w := by
  unfold exBuild; rw [run_build_cat w 46 ps _ _ bp_keys hc (by rw [bz_keys]; exact hz)]; rfl

theorem xb_keys3 (w : World) (a b n : List (BitVec 8)) (ha : a.length = 32) (hb : b.length = 32) (hn : n.length = 12) : exBuild Tryd.prog 46 #[(0, .agg (cs U8 a)), (1, .agg (cs U8 b)), (2, .agg (cs U8 n))] w = .ok (.value (.agg (cs U8 (a ++ (b ++ n))))) w := by
  rw [xb_keys w _ (by simp [Cont, Value.cells, ha, hb, hn]) (by simp [catP, Value.cells, ha, hb, hn])]
  simp [catP, Value.cells, cs_append]
theorem derHide {w0 w : World} {l D : List (BitVec 8)} (hD : D = Sh.derive l Ad.hideB) (hT : KT w0 ∧ 0 < w0.heap.size) (hb : Below w0.heap.size w0 w) (hl : l.length = 32) :
    Calls Tryd.prog 37 #[.agg (cs U8 l), .string ⟨#[104, 105, 100, 101]⟩] w fun e w' => e = .returned (.agg (cs U8 D)) ∧ Below w.heap.size w w' := by
  rw [hD]; exact derive_any w l Ad.hideB (hT.1.below hb hT.2) (Nat.lt_of_lt_of_le hT.2 hb.size) hl (by decide)
theorem derProve {w0 w : World} {l D : List (BitVec 8)} (hD : D = Sh.derive l Ad.proveB) (hT : KT w0 ∧ 0 < w0.heap.size) (hb : Below w0.heap.size w0 w) (hl : l.length = 32) :
    Calls Tryd.prog 37 #[.agg (cs U8 l), .string ⟨#[112, 114, 111, 118, 101]⟩] w fun e w' => e = .returned (.agg (cs U8 D)) ∧ Below w.heap.size w w' := by
  rw [hD]; exact derive_any w l Ad.proveB (hT.1.below hb hT.2) (Nat.lt_of_lt_of_le hT.2 hb.size) hl (by decide)
set_option maxRecDepth 100000 in
set_option maxHeartbeats 8000000 in
theorem of_c (w : World) (k n : List (BitVec 8)) (hT : KT w ∧ 0 < w.heap.size) (hk : k.length = 32) (hn : n.length = 12) :
    Calls Tryd.prog 25 #[.agg (cs U8 k), .agg (cs U8 n)] w fun e w' => e = .returned (.agg (cs U8 (Sh.derive k Ad.hideB ++ (Sh.derive k Ad.proveB ++ n)))) ∧ Below w.heap.size w w' := by
  obtain ⟨A, eA⟩ : ∃ A, A = Sh.derive k Ad.hideB := ⟨_, rfl⟩
  obtain ⟨B, eB⟩ : ∃ B, B = Sh.derive k Ad.proveB := ⟨_, rfl⟩
  have hA : A.length = 32 := by rw [eA]; exact derive_len ..
  have hB : B.length = 32 := by rw [eB]; exact derive_len ..
  rw [← eA, ← eB]
  have HA := hid eA
  have HB := hid eB
  have HT := hid hT
  clear eA eB hT
  have M0 := Mm.start no w
  go_enter Tryd.func25, Tryd.ntmps25
  have M2 := (((M0.alloc (cs U8 k) 23 (by decide)).alloc (cs U8 n) 29 (by decide)).alloc (cs U8 (zs 76)) 46 (by decide))
  try simp only [World.size_alloc] at M2
  go_upto_region 1 with fail
  obtain ⟨w1, hw1⟩ : ∃ w1, w1 = (((w.alloc (.cells (cs U8 k) 23)).alloc (.cells (cs U8 n) 29)).alloc (.cells (cs U8 (zs 76)) 46)) := ⟨_, rfl⟩
  rw [← hw1] at M2 ⊢
  clear hw1
  refine wp_region_seq 6 [5, 6, 7, 8, 9, 10] [] [] [] (.op 6 .done) (Mm no w _) (by kernel_rfl) (by kernel_rfl) (by kernel_rfl) (fun d _ _ _ _ h => by cases d <;> exact h) (by rfl) M2.size (fun _ _ h k => h.sf k) M2 ?_
  simp only [List.take_succ_cons, List.take_zero]
  refine SeqA.ld0 Tryd.underlying23 rfl inf_key (w.heap.size) (cs U8 k) rfl (by go_simp) (fun _ M => M.row (by simp)) (by simp [hk, hn, hA, hB]) rfl ?_
  refine SeqA.call _ _ _ (fun w' => by go_simp) (fun w' hI _ => derHide HA.out HT.out hI.end_ hk) M2.size rfl rfl ?_
  refine SeqA.ld0 Tryd.underlying23 rfl inf_key (w.heap.size) (cs U8 k) rfl (by go_simp) (fun _ M => M.row (by simp)) (by simp [hk, hn, hA, hB]) rfl ?_
  refine SeqA.call _ _ _ (fun w' => by go_simp) (fun w' hI _ => derProve HB.out HT.out hI.end_ hk) M2.size rfl rfl ?_
  refine SeqA.ld0 Tryd.underlying29 rfl inf_nonce (w.heap.size + 1) (cs U8 n) rfl (by go_simp) (fun _ M => M.row (by simp)) (by simp [hk, hn, hA, hB]) rfl ?_
  simp only [Act.put, List.setIfInBounds_toArray, List.set_cons_succ, List.set_cons_zero]
  refine SeqA.pure (.agg (cs U8 (A ++ (B ++ n)))) (fun w' => by have q := xb_keys3 w' A B n hA hB hn; go_simp) rfl rfl ?_
  refine SeqA.nil (fun w3 M4 hz => ?_)
  show wpT _ _ _ _ _ _
  simp only [Act.put, List.setIfInBounds_toArray, List.set_cons_succ, List.set_cons_zero]
  refine wpT_st0 M4 0 (cs U8 (A ++ (B ++ n))) inf_keys rfl rfl rfl rfl (by go_simp) (by go_simp) (by simp [hk, hn, hA, hB]) (by simp [hk, hn, hA, hB]) (by simp [go_sem]) rfl (fun w5 M6 => ?_)
  dsimp only [List.set] at M6
  dsimp only [wpT]
  go_wp2_with fail
  have r7 := M6.row (b := w.heap.size + 1 + 1) (c := cs U8 (A ++ (B ++ n))) (by simp)
  refine bodyPost_ret (res_row (b := w.heap.size + 1 + 1) rfl Tryd.underlying46 rfl inf_keys _ _ rfl (by rw [r7]; simp [hk, hn, hA, hB])) rfl ?_
  rw [r7]
  exact ⟨rfl, M6.end_⟩
attribute [local irreducible] Ch.xr
set_option maxRecDepth 100000 in
set_option maxHeartbeats 8000000 in
theorem turn_c (w : World) (A B n b : List (BitVec 8)) (vb : Value) (hA : A.length = 32) (hB : B.length = 32) (hn : n.length = 12) (hvb : BS w vb b) (hb : b.length ≤ 65536) :
    Calls Tryd.prog 26 #[.agg (cs U8 (A ++ (B ++ n))), vb] w fun e w' => ∃ v, e = .returned v ∧ OP w' w.heap.size v (Ch.xr A n 0#32 b) ∧ Below w.heap.size w w' := by
  obtain ⟨X, eX⟩ : ∃ X, X = Ch.xr A n 0#32 b := ⟨_, rfl⟩
  rw [← eX]
  have HX := hid eX
  have HV := hid hvb
  clear eX hvb
  have M0 := Mm.start no w
  go_enter Tryd.func26, Tryd.ntmps26
  have M2 := (M0.alloc (cs U8 (A ++ (B ++ n))) 46 (by decide))
  try simp only [World.size_alloc] at M2
  go_upto_region 1 with fail
  obtain ⟨w1, hw1⟩ : ∃ w1, w1 = (w.alloc (.cells (cs U8 (A ++ (B ++ n))) 46)) := ⟨_, rfl⟩
  rw [← hw1] at M2 ⊢
  clear hw1
  refine wp_region_lin (.op 0 (.op 1 (.op 2 (.op 3 (.op 4 (.op 5 (.op 6 (.op 7 (.op 8 (.op 9 (.op 10 .done))))))))))) (by rfl) ?_
  refine wpT_valp 8 (v := .pointer (some ⟨w.heap.size, 0, none⟩)) rfl rfl rfl (by go_simp) ?_
  refine wpT_ldm 9 Tryd.underlying23 rfl inf_key (w.heap.size) 0 (cs U8 (A ++ (B ++ n))) (cs U8 A) rfl rfl rfl (by go_simp) (M2.row (by simp)) (by simp [hA, hB, hn]) (by rw [cs_extract] <;> congr 1 <;> simp [List.take_append, List.drop_append, List.take_of_length_le, hA, hB, hn]) rfl ?_
  refine wpT_valp 10 (v := .pointer (some ⟨w.heap.size, 64, none⟩)) rfl rfl rfl (by go_simp) ?_
  refine wpT_ldm 11 Tryd.underlying29 rfl inf_nonce (w.heap.size) 64 (cs U8 (A ++ (B ++ n))) (cs U8 n) rfl rfl rfl (by go_simp) (M2.row (by simp)) (by simp [hA, hB, hn]) (by rw [cs_extract] <;> congr 1 <;> simp [List.take_append, List.drop_append, List.take_of_length_le, hA, hB, hn]) rfl ?_
  try simp only [Act.put, List.setIfInBounds_toArray, List.set_cons_succ, List.set_cons_zero]
  refine wpT_valp 12 (v := vb) rfl rfl rfl (by go_simp) ?_
  refine wpT_callx 13 M2 (X := fun v w' => ∃ u, v = .tuple #[u, .int .i64 0] ∧ OP w' w.heap.size u X) rfl rfl rfl (by go_simp; rfl) ((xor_c w1 A n b 0#32 vb hA hn (SV.below HV.out M2.end_) hb (by decide)).mono (fun e w' ⟨v, h1, h2, h3⟩ => ⟨_, h1, ⟨v, rfl, by rw [HX.out]; exact h2.mono M2.size⟩, h3⟩)) (fun v4 w5 h5 MZ _ => ?_)
  obtain ⟨v5, rfl, HO⟩ := h5
  have HO := hid HO
  refine wpT_valp 7 (v := .tuple #[v5, .int .i64 0]) rfl rfl rfl (by go_simp) ?_
  refine wpT_valp 14 (v := v5) rfl rfl rfl (by go_simp) ?_
  refine wpT_valp 15 (v := .int .i64 0) rfl rfl rfl (by go_simp) ?_
  try simp only [Act.put, List.setIfInBounds_toArray, List.set_cons_succ, List.set_cons_zero]
  refine wpT_valp 5 (v := v5) rfl rfl rfl (by go_simp) ?_
  refine wpT_valp 6 (v := .int .i64 0) rfl rfl rfl (by go_simp) ?_
  dsimp only [wpT]
  try simp only [Act.put, List.setIfInBounds_toArray, List.set_cons_succ, List.set_cons_zero]
  go_upto_region 2 with fail
  refine wp_region_lin (.op 0 (.op 1 .done)) (by rfl) ?_
  refine wpT_valp 16 (v := v5) rfl rfl rfl (by go_simp) ?_
  refine wpT_valp 4 (v := v5) rfl rfl rfl (by go_simp) ?_
  dsimp only [wpT]
  try simp only [Act.put, List.setIfInBounds_toArray, List.set_cons_succ, List.set_cons_zero]
  go_wp2_with fail
  go_ret
  exact ⟨v5, rfl, HO.out, MZ.end_⟩
/-- the first bytes of a number -/
def leP (n i : Nat) : List (BitVec 8) := (List.range i).map fun i => BitVec.ofNat 8 (n / 256 ^ i)
theorem leP_len (n i : Nat) : (leP n i).length = i := by simp [leP]
theorem leP_succ (n i : Nat) : leP n (i + 1) = leP n i ++ [BitVec.ofNat 8 (n / 256 ^ i)] := by simp [leP, List.range_succ]
theorem leP_8 (n : Nat) : leP n 8 = Ad.le8 n := rfl
theorem le8_z (n i : Nat) (hn : n < 18446744073709551616) : (BitVec.ofNat 64 n >>> (8 * i)).setWidth 8 = BitVec.ofNat 8 (n / 256 ^ i) := by
  apply BitVec.eq_of_toNat_eq
  rw [BitVec.toNat_setWidth, BitVec.toNat_ushiftRight, BitVec.toNat_ofNat, BitVec.toNat_ofNat, Nat.shiftRight_eq_div_pow, Nat.mod_eq_of_lt hn, Nat.pow_mul]
set_option maxRecDepth 100000 in
set_option maxHeartbeats 8000000 in
theorem tag_c (w : World) (A B n o h : List (BitVec 8)) (vo vh : Value) (hT : KT w ∧ 0 < w.heap.size) (hA : A.length = 32) (hB : B.length = 32) (hn : n.length = 12) (hvo : BS w vo o) (hvh : BS w vh h) (hol : o.length ≤ 70000) (hhl : h.length ≤ 70000) :
    Calls Tryd.prog 27 #[.agg (cs U8 (A ++ (B ++ n))), vo, vh] w fun e w' => e = .returned (.agg (cs U8 ((Sh.mac B (Ad.le8 o.length ++ o ++ n ++ h)).take 16))) ∧ Below w.heap.size w w' := by
  obtain ⟨L, hl⟩ : ∃ L, L = o.length := ⟨_, rfl⟩
  obtain ⟨AO, co, rfl, hco⟩ := hvo.shape' L hl.symm
  rw [← hl]
  obtain ⟨P, eP⟩ : ∃ P, P = Ad.le8 L ++ o ++ n ++ h := ⟨_, rfl⟩
  have hPl : P.length ≤ 200000 := by rw [eP]; simp [le8_len]; omega
  rw [← eP]
  obtain ⟨D, eD⟩ : ∃ D, D = Sh.mac B P := ⟨_, rfl⟩
  have hD : D.length = 32 := by rw [eD]; exact mac_len32 ..
  rw [← eD]
  obtain ⟨E, eE⟩ : ∃ E, E = D.take 16 := ⟨_, rfl⟩
  have hE : E.length = 16 := by rw [eE]; simp; omega
  rw [← eE]
  have HP := hid eP
  have HD := hid eD
  have HE := hid eE
  have hk0 := hT.2
  have HT := hid hT.1
  have HVO := hid hvo
  have HVH := hid hvh
  have HC := hid (show Value.int .u64 (IntKind.u64.wrap (L : Int)) = U64 (BitVec.ofNat 64 L) by rw [u64_wrap]; simp)
  have hsep : ∀ {x : World} {v : Value} (l : List (BitVec 8)), OB x (w.heap.size + 2) v l → ∀ g, v.ownBlock = some g → ∀ p ∈ [(w.heap.size + 1, cs U8 (zs 16)), (w.heap.size, cs U8 (A ++ (B ++ n)))], p.1 ≠ g := by
    intro x v l O g hg p hp
    have h1 := (O.lt g hg).1
    simp only [List.mem_cons, List.not_mem_nil, or_false] at hp
    rcases hp with rfl | rfl
    · show w.heap.size + 1 ≠ g; omega
    · show w.heap.size ≠ g; omega
  have hL7 : L ≤ 70000 := by omega
  have HL0 := hid hl
  clear eP eD eE hT hvo hvh hl
  have M0 := Mm.start no w
  go_enter Tryd.func27, Tryd.ntmps27
  have M2 := ((M0.alloc (cs U8 (A ++ (B ++ n))) 46 (by decide)).alloc (cs U8 (zs 16)) 40 (by decide))
  try simp only [World.size_alloc] at M2
  go_upto_region 3 with fail
  obtain ⟨w1, hw1⟩ : ∃ w1, w1 = ((w.alloc (.cells (cs U8 (A ++ (B ++ n))) 46)).alloc (.cells (cs U8 (zs 16)) 40)) := ⟨_, rfl⟩
  rw [← hw1] at M2 ⊢
  clear hw1
  go_loopw [7, 9] (fun u x wr => ∃ i : Nat, i ≤ 8 ∧ x = .int .i64 i ∧ OB wr (w.heap.size + 2) u (leP L i) ∧ Mm no w [(w.heap.size + 1, cs U8 (zs 16)), (w.heap.size, cs U8 (A ++ (B ++ n)))] wr) (fun _ x _ => 8 - (intOf x).toNat)
  case atStart => exact ⟨0, by omega, rfl, OB.nil _ _, M2⟩
  case round =>
    clear M2 M0
    obtain ⟨i, hi, rfl, HO, M⟩ := hrel
    by_cases hlt : i < 8
    · have hlt2 : (i : Int) < 8 := by omega
      have hi0 : (0 : Int) ≤ (i : Int) := by omega
      obtain ⟨q, hq⟩ : ∃ q, q = 8 * i := ⟨_, rfl⟩
      have HQ := hid (show IntKind.i64.wrap (8 * (i : Int)) = (q : Int) by rw [i64m _ (by omega) (by omega), hq]; omega)
      obtain ⟨z, hz⟩ : ∃ z, (BitVec.ofNat 64 L >>> q).setWidth 8 = z := ⟨_, rfl⟩
      have HZ := hid hz
      have HL := hid (show leP L (i + 1) = leP L i ++ [z] by rw [leP_succ, ← hz, hq, le8_z L i (by omega)])
      clear hq hz
      obtain ⟨AU, cu, rfl, -⟩ := HO.bs.shape' i (leP_len ..)
      go_upto_region 5 with fail
      refine wp_region_lin (.op 0 (.op 1 (.op 2 (.op 3 (.op 4 (.op 5 (.op 6 (.op 7 (.op 8 (.op 9 (.op 10 .done))))))))))) (by rfl) ?_
      refine wpT_valp 12 (v := .slice AU i cu) rfl rfl rfl (by go_simp) ?_
      refine wpT_valp 13 (v := .slice AO L co) rfl rfl rfl (by go_simp) ?_
      refine wpT_valp 14 (v := .int .i64 L) rfl rfl rfl (by go_simp) ?_
      refine wpT_valp 15 (v := U64 (BitVec.ofNat 64 L)) rfl rfl rfl (by have h := HC.out; go_simp) ?_
      try simp only [Act.put, List.setIfInBounds_toArray, List.set_cons_succ, List.set_cons_zero]
      refine wpT_valp 16 (v := .int .i64 i) rfl rfl rfl (by go_simp) ?_
      refine wpT_valp 17 (v := .int .i64 q) rfl rfl rfl (by have h := HQ.out; go_simp) ?_
      refine wpT_valp 18 (v := U64 (BitVec.ofNat 64 L >>> q)) rfl rfl rfl (by go_simp) ?_
      refine wpT_valp 19 (v := U8 z) rfl rfl rfl (by have h := HZ.out; go_simp) ?_
      refine wpT_b8 (len := 1) 20 M [z] rfl (by decide) (by decide) rfl rfl rfl (by go_simp; rfl) rfl (fun g1 w2 hu2 M2 hb2 hg1 _ => ?_)
      have HO2 := HO.below hb2
      try simp only [Act.put, List.setIfInBounds_toArray, List.set_cons_succ, List.set_cons_zero]
      refine wpT_apb 21 _ _ M2 (w.heap.size + 2) (.slice AU i cu) (.slice (some ⟨g1, 0, none⟩) 1 1) (leP L i) [z] rfl rfl rfl rfl (by go_simp) HO2 (by go_simp) hu2 (by simp [leP_len]; omega) (Nat.succ_le_of_lt (M2.lt (b := w.heap.size + 1) (c := cs U8 (zs 16)) (by simp))) (Nat.le_add_right _ _) (fun g hg p hp => hsep _ HO2 g hg p hp) (fun u3 w3 HO3 M3 => ?_)
      refine wpT_valp 7 (v := u3) rfl rfl rfl (by go_simp) ?_
      dsimp only [wpT]
      try simp only [Act.put, List.setIfInBounds_toArray, List.set_cons_succ, List.set_cons_zero]
      go_wp2_with fail
      go_roundw
      case rel => exact ⟨i + 1, by omega, by simp, by rw [HL.out]; exact HO3, M3⟩
      case measure => simp only [intOf]; omega
    · have : i = 8 := by omega
      subst this
      rw [leP_8] at HO
      obtain ⟨AU, cu, rfl, -⟩ := HO.bs.shape' 8 (le8_len ..)
      go_upto_region 7 with fail
      refine wp_region_lin (.op 0 (.op 1 (.op 2 (.op 3 .done)))) (by rfl) ?_
      refine wpT_valp 23 (v := .slice AU 8 cu) rfl rfl rfl (by go_simp) ?_
      refine wpT_valp 24 (v := .slice AO L co) rfl rfl rfl (by go_simp) ?_
      refine wpT_apb 25 _ _ M (w.heap.size + 2) (.slice AU 8 cu) (.slice AO L co) (Ad.le8 L) o rfl rfl rfl rfl (by go_simp) HO (by go_simp) (SV.below HVO.out M.end_) (by rw [le8_len]; omega) (Nat.succ_le_of_lt (M.lt (b := w.heap.size + 1) (c := cs U8 (zs 16)) (by simp))) (Nat.le_add_right _ _) (fun g hg p hp => hsep _ HO g hg p hp) (fun u4 w4 O4 M4 => ?_)
      refine wpT_valp 7 (v := u4) rfl rfl rfl (by go_simp) ?_
      dsimp only [wpT]
      try simp only [Act.put, List.setIfInBounds_toArray, List.set_cons_succ, List.set_cons_zero]
      go_upto_region 8 with fail
      refine wp_region_lin (.op 0 (.op 1 (.op 2 (.op 3 (.op 4 .done))))) (by rfl) ?_
      refine wpT_valp 26 (v := u4) rfl rfl rfl (by go_simp) ?_
      refine wpT_valp 27 (v := .pointer (some ⟨w.heap.size, 64, none⟩)) rfl rfl rfl (by go_simp) ?_
      refine wpT_valp 28 (v := .slice (some ⟨w.heap.size, 64, none⟩) 12 12) rfl rfl rfl (by go_simp) ?_
      refine wpT_apb 29 _ _ M4 (w.heap.size + 2) u4 (.slice (some ⟨w.heap.size, 64, none⟩) 12 12) (Ad.le8 L ++ o) n rfl rfl rfl rfl (by go_simp) O4 (by go_simp) (BS.seg (M4.row (b := w.heap.size) (c := cs U8 (A ++ (B ++ n))) (by simp)) (by simp [List.drop_append, hA, hB, List.drop_of_length_le, List.take_of_length_le, hn]) (by simp [hA, hB, hn]) (by decide) (by unfold maxLen; decide)) (by simp [le8_len]; omega) (Nat.succ_le_of_lt (M4.lt (b := w.heap.size + 1) (c := cs U8 (zs 16)) (by simp))) (Nat.le_add_right _ _) (fun g hg p hp => hsep _ O4 g hg p hp) (fun u5 w5 O5 M5 => ?_)
      try simp only [Act.put, List.setIfInBounds_toArray, List.set_cons_succ, List.set_cons_zero]
      refine wpT_valp 7 (v := u5) rfl rfl rfl (by go_simp) ?_
      dsimp only [wpT]
      try simp only [Act.put, List.setIfInBounds_toArray, List.set_cons_succ, List.set_cons_zero]
      go_upto_region 9 with fail
      refine wp_region_P [0, 1, 2, 3] (.op 4 (.op 5 (.op 6 (.op 7 .done)))) (by kernel_rfl) (by kernel_rfl) (by kernel_rfl) (fun d _ _ _ _ h => by cases d <;> exact h) ?_
      refine wpYJd_op 30 (.pointer (some ⟨w.heap.size, 32, none⟩)) rfl rfl rfl (fun w1 _ => by go_simp) ?_
      refine wpYJd_op 31 (.slice (some ⟨w.heap.size, 32, none⟩) 32 32) rfl rfl rfl (fun w1 _ => by go_simp) ?_
      refine wpYJd_op 32 (u5) rfl rfl rfl (fun w1 _ => by go_simp) ?_
      refine wpYJd_op 33 (vh) rfl rfl rfl (fun w1 _ => by go_simp) ?_
      show wpT _ _ _ _ _ _
      try simp only [Act.put, List.setIfInBounds_toArray, List.set_cons_succ, List.set_cons_zero]
      have M1 := M5.drewN 1
      have O5 := O5.drewN 1
      change wpT _ _ _ _ _ (w5.drewN 1)
      obtain ⟨w2, hw2⟩ : ∃ w2, w2 = w5.drewN 1 := ⟨_, rfl⟩
      rw [← hw2] at M1 O5 ⊢
      clear hw2
      refine wpT_apb 34 _ _ M1 (w.heap.size + 2) u5 (vh) (Ad.le8 L ++ o ++ n) h rfl rfl rfl rfl (by go_simp) O5 (by go_simp) (SV.below HVH.out M1.end_) (by simp [le8_len]; omega) (Nat.succ_le_of_lt (M1.lt (b := w.heap.size + 1) (c := cs U8 (zs 16)) (by simp))) (Nat.le_add_right _ _) (fun g hg p hp => hsep _ O5 g hg p hp) (fun u7 w7 O7 M7 => ?_)
      have hb8 := M7.size
      refine wpT_callv 35 M7 (v := .agg (cs U8 D)) rfl rfl rfl (by go_simp) ((mac_any w7 (.slice (some ⟨w.heap.size, 32, none⟩) 32 32) u7 B P (HT.out.below M7.end_ hk0) (by omega) (BS.seg (M7.row (b := w.heap.size) (c := cs U8 (A ++ (B ++ n))) (by simp)) (by simp [List.drop_append, hA, hB, List.drop_of_length_le, List.take_of_length_le, hn]) (by simp [hA, hB, hn]) (by decide) (by unfold maxLen; decide)) (by rw [HP.out]; exact O7.bs) (by omega) (by omega)).mono (fun e w' ⟨h1, h2⟩ => ⟨by rw [HD.out]; exact h1, h2⟩)) (fun w8 M8 => ?_)
      refine wpT_callv 36 M8 (v := .agg (cs U8 E)) rfl rfl rfl (by go_simp) ((short_any w8 D hD).mono (fun e w' ⟨h1, h2⟩ => ⟨by rw [HE.out]; exact h1, h2⟩)) (fun w9 M9 => ?_)
      refine wpT_st0 M9 0 (cs U8 E) inf_tag rfl rfl rfl rfl (by go_simp) (by go_simp) (by simp [hA, hB, hn, hE]) (by simp [hA, hB, hn, hE]) (by simp [go_sem]) rfl (fun w3 M4 => ?_)
      dsimp only [List.set] at M4
      dsimp only [wpT]
      try simp only [Act.put, List.setIfInBounds_toArray, List.set_cons_succ, List.set_cons_zero]
      go_wp2_with fail
      have r5 := M4.row (b := w.heap.size + 1) (c := cs U8 E) (by simp)
      refine bodyPost_ret (res_row (b := w.heap.size + 1) rfl Tryd.underlying40 rfl inf_tag _ _ rfl (by rw [r5]; simp [hA, hB, hn, hE])) rfl ?_
      rw [r5]
      exact ⟨rfl, M4.end_⟩
end Go.Proofs.YtbigmnhjnjeeaaaDoor
