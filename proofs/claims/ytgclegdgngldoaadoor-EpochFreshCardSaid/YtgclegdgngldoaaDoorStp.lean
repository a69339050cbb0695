/-
  Steps at bytes, and at calls, for the seats without package chacha; own work.
-/
import Derived.Test.YtgclegdgngldoaaDoorLin
import Derived.Test.YtgclegdgngldoaaDoorApp
import Derived.Test.YtgclegdgngldoaaDoorEqK
import Derived.Test.YtgclegdgngldoaaDoorHmc
import Derived.Test.YtgclegdgngldoaaDoorFlow3
import Derived.Deep.Cut
import Derived.Deep.CutBlock
import Derived.Laws.MakeOwn
import Derived.ArgAppend
set_option linter.unusedSimpArgs false
set_option linter.unusedVariables false
namespace Go.Proofs.YtgclegdgngldoaaDoor
open Go.RowKit
theorem OB.fr' {S : Nat → Prop} {w w' : World} {base : Nat} {v : Value} {l : List (BitVec 8)} (h : OB w base v l) (hf : Fr S w w') (hS : ∀ g, v.ownBlock = some g → ¬ S g) : OB w' base v l := by
  refine ⟨h.1, ?_⟩
  rcases h.2 with e | ⟨g, cap, cur, rfl, h1, h2, h3⟩
  · exact .inl e
  · exact .inr ⟨g, cap, cur, rfl, h1, (hf.block g (Array.getElem?_eq_some_iff.1 h2).1 (hS g rfl)).trans h2, h3⟩
theorem Mm.grown8 {S : Nat → Prop} {w0 w w' : World} {H : List (Nat × Array Value)} {r : Option Nat} (M : Mm S w0 H w) (hg : w.grownBy w' r) (hr : ∀ g, r = some g → (S g ∨ w0.heap.size ≤ g) ∧ ∀ p ∈ H, p.1 ≠ g) : Mm S w0 H w' := by
  refine ⟨⟨hg.os.trans M.fr.os, hg.tape.trans M.fr.tape, hg.output.trans M.fr.output, Nat.le_trans M.fr.size hg.size, fun k hk hS => ?_⟩, fun p hp => ?_, M.nd⟩
  · rw [hg.block k (Nat.lt_of_lt_of_le hk M.fr.size) (fun e => ?_)]
    · exact M.fr.block k hk hS
    · rcases (hr k e.symm).1 with h | h
      · exact hS h
      · omega
  · obtain ⟨h1, T, hT, hb⟩ := M.own p hp
    refine ⟨h1, T, hT, ?_⟩
    rw [hg.block p.1 (Array.getElem?_eq_some_iff.1 hb).1 (fun e => (hr p.1 e.symm).2 p hp rfl)]
    exact hb
section
variable {ops : Array Oper} {Q : Exit → Act → World → Prop} {i : Nat} {t : Tr} {a : Act} {o : Oper} {S S' : Nat → Prop} {w0 w w5 : World} {H : List (Nat × Array Value)} {R : List (Nat × Array Value) → World → Prop}
theorem wpT_apb (dst : Nat) (s x : Operand) (M : Mm S w0 H w) (base : Nat) (v u : Value) (l m : List (BitVec 8)) (hdst : o.dst = some dst) (ho : ops[i]? = some o)
    (hop : o.op = .call { callee := .builtin .append, args := #[s, x], argTypes := #[89, 89] }) (hg : o.guard = none) (hs : a.eval s = v) (hown : OB w base v l) (hx : a.eval x = u) (hu : BS w u m)
    (hlen : l.length + m.length ≤ 140737488355328) (hbase : base ≤ w.heap.size) (hb0 : w0.heap.size ≤ base) (hsep : ∀ g, v.ownBlock = some g → ∀ p ∈ H, p.1 ≠ g)
    (h : ∀ v' w', OB w' base v' (l ++ m) → Mm S w0 H w' → wpT Tryd.prog ops Q t (a.put (some dst) v') w') : wpT Tryd.prog ops Q (.op i t) a w := by
  refine wpT_step ho hg (fun K hK => ?_)
  refine wp_apb s x hop base v u l m hs hown hx hu hlen hbase ?_
  intro v' w' h1 h2 h3
  rw [hdst]
  exact hK _ _ (h v' w' h1 (M.grown8 h2 (fun g hg => ⟨.inr (Nat.le_trans hb0 (hown.lt g hg).1), hsep g hg⟩)))
end
theorem OB.below {w w' : World} {base : Nat} {v : Value} {l : List (BitVec 8)} (h : OB w base v l) (hb : Below w.heap.size w w') : OB w' base v l := by
  refine ⟨h.1, ?_⟩
  rcases h.2 with e | ⟨g, cap, cur, rfl, h1, h2, h3⟩
  · exact .inl e
  · exact .inr ⟨g, cap, cur, rfl, h1, (hb.block g (Array.getElem?_eq_some_iff.1 h2).1).trans h2, h3⟩
theorem BS.seg {w : World} {g o n c : Nat} {L X : List (BitVec 8)} (hr : w.rowOf g = cs U8 L) (hX : (L.drop o).take n = X) (hn : o + n ≤ L.length) (hc : n ≤ c) (hm : c ≤ maxLen) : BS w (.slice (some ⟨g, o, none⟩) n c) X := by
  subst hX
  have hl : ((L.drop o).take n).length = n := by rw [List.length_take, List.length_drop]; omega
  refine ⟨some ⟨g, o, none⟩, c, by rw [hl], by rw [hl]; exact hc, hm, fun _ => ⟨g, o, rfl, fun i hi => ?_⟩⟩
  rw [List.length_map, hl] at hi
  rw [cell_rowOf, hr]
  simp only [cs, List.getElem?_toArray, List.getElem?_map, List.getElem?_take_of_lt hi, List.getElem?_drop]
section
variable {ops : Array Oper} {Q : Exit → Act → World → Prop} {i : Nat} {t : Tr} {a : Act} {o : Oper} {S S' : Nat → Prop} {w0 w w5 : World} {H : List (Nat × Array Value)} {R : List (Nat × Array Value) → World → Prop}
theorem wpT_lit8 {j : Nat} {o2 : Oper} {len : Nat} {ps : Array (Nat × Operand)} (d1 d2 : Nat) (M : Mm S w0 H w) (l : List (BitVec 8)) (hl : l.length = len) (h0 : 0 < len) (hs : len ≤ 1000000) (hdst : o.dst = some d1) (ho : ops[i]? = some o) (hop : o.op = .buildSlice 89 len ps)
    (hf : Instr.fill (fun i => some (i * 1, 1)) ((Array.range (len * 1)).map ((Value.int .u8 0).cells[· % (Value.int .u8 0).cells.size]!)) (ps.map fun (i, x) => (i, a.eval x)).toList = some (cs U8 l)) (hw : o.guard = none)
    (hdst2 : o2.dst = some d2) (ho2 : ops[j]? = some o2) (hop2 : o2.op = .convert 89 89 (.tmp d1)) (hw2 : o2.guard = none) (hev : ∀ v, (a.put (some d1) v).eval (.tmp d1) = v)
    (h : ∀ g w', BS w' (.slice (some ⟨g, 0, none⟩) len len) l → Mm S w0 H w' → Below w.heap.size w w' → w.heap.size ≤ g → wpT Tryd.prog ops Q t ((a.put (some d1) (.slice (some ⟨g, 0, none⟩) len len)).put (some d2) (.slice (some ⟨g, 0, none⟩) len len)) w') : wpT Tryd.prog ops Q (.op i (.op j t)) a w := by
  obtain ⟨inf, hi0, hz0, hz1, hz2⟩ := info_parts info_u8
  have hb : Below w.heap.size w (w.alloc (.cells (cs U8 l) 5)) := (Below.refl _ _).alloc (Nat.le_refl _) _
  have hh : (w.alloc (.cells (cs U8 l) 5)).heap[w.heap.size]? = some (.cells (cs U8 l) 5 (0, 0)) := heap_new' _
  refine wpT_val (w' := w.alloc (.cells (cs U8 l) 5)) (v := .slice (some ⟨w.heap.size, 0, none⟩) len len) ho (by simp [Region.wanted, hw]) ?_ ?_
  · obtain ⟨dst, op, ty, pos, after, guard⟩ := o
    subst hop
    simp only [execOp, Sem.run_bind]
    rw [run_buildSlice w 89 5 len _ (cs U8 l) inf (.int .u8 0) Tryd.underlying89 hi0 hz0 (by rw [hz1]; omega) (by rw [hz1]; omega) (by rw [hz1]; exact hf)]; rfl
  · rw [hdst]
    have hcr := conv_run len len hh
    obtain ⟨⟨fz', e1⟩, e2, e3⟩ := freeze_heap (cs U8 l).size hh
    generalize hw3 : (w.alloc (.cells (cs U8 l) 5)).freeze ⟨w.heap.size, (cs U8 l).size, none⟩ 1 = w3 at *
    have hos : w3.os = w.os ∧ w3.tape = w.tape ∧ w3.output = w.output := by rw [← hw3]; exact ⟨rfl, rfl, rfl⟩
    have hb3 : Below w.heap.size w w3 := ⟨hos.1, hos.2.1, hos.2.2, by rw [e3]; simp, fun k hk => (e2 k (by omega)).trans (hb.block k hk)⟩
    refine wpT_val (w' := w3) (v := .slice (some ⟨w.heap.size, 0, none⟩) len len) ho2 (by simp [Region.wanted, hw2]) ?_ ?_
    · obtain ⟨dst, op, ty, pos, after, guard⟩ := o2
      subst hop2
      simp only [execOp, Sem.run_bind, hev, hcr]; rfl
    · rw [hdst2]
      refine h _ _ ?_ (M.below hb3) hb3 (Nat.le_refl _)
      subst hl
      exact BS.row (rowOf_eq e1) rfl (by unfold maxLen; omega)
theorem wpT_b8 {len : Nat} {ps : Array (Nat × Operand)} (dst : Nat) (M : Mm S w0 H w) (l : List (BitVec 8)) (hl : l.length = len) (h0 : 0 < len) (hs : len ≤ 1000000) (hdst : o.dst = some dst) (ho : ops[i]? = some o) (hop : o.op = .buildSlice 89 len ps)
    (hf : Instr.fill (fun i => some (i * 1, 1)) ((Array.range (len * 1)).map ((Value.int .u8 0).cells[· % (Value.int .u8 0).cells.size]!)) (ps.map fun (i, x) => (i, a.eval x)).toList = some (cs U8 l)) (hw : Region.wanted o (yielded ops a.tmps) = true)
    (h : ∀ g w', BS w' (.slice (some ⟨g, 0, none⟩) len len) l → Mm S w0 H w' → Below w.heap.size w w' → g = w.heap.size → w'.heap.size = w.heap.size + 1 → wpT Tryd.prog ops Q t (a.put (some dst) (.slice (some ⟨g, 0, none⟩) len len)) w') : wpT Tryd.prog ops Q (.op i t) a w := by
  obtain ⟨inf, hi0, hz0, hz1, hz2⟩ := info_parts info_u8
  refine wpT_val (w' := w.alloc (.cells (cs U8 l) 5)) (v := .slice (some ⟨w.heap.size, 0, none⟩) len len) ho hw ?_ ?_
  · obtain ⟨dst, op, ty, pos, after, guard⟩ := o
    subst hop
    simp only [execOp, Sem.run_bind]
    rw [run_buildSlice w 89 5 len _ (cs U8 l) inf (.int .u8 0) Tryd.underlying89 hi0 hz0 (by rw [hz1]; omega) (by rw [hz1]; omega) (by rw [hz1]; exact hf)]; rfl
  · rw [hdst]
    have hb : Below w.heap.size w (w.alloc (.cells (cs U8 l) 5)) := (Below.refl _ _).alloc (Nat.le_refl _) _
    refine h _ _ ?_ (M.below hb) hb rfl (by simp)
    subst hl
    exact BS.row (rowOf_alloc_at _ _ _ rfl) rfl (by unfold maxLen; omega)
end
theorem BS.end_ {w0 w : World} {v : Value} {l : List (BitVec 8)} (h : BS w0 v l) (hb : Below w0.heap.size w0 w) : BS w v l := SV.below h hb
theorem bs_cell {w : World} {b o n c : Nat} {l : List (BitVec 8)} (h : BS w (.slice (some ⟨b, o, none⟩) n c) l) (i : Nat) (hi : i < l.length) : w.cell? ⟨b, o + i, none⟩ = some (U8 (l.getD i 0)) := by
  obtain ⟨b', o', c', e, _, h3⟩ := h.open (by intro e; rw [e] at hi; simp at hi)
  injection e with e _ _
  injection e with e
  injection e with e1 e2 _
  subst e1; subst e2
  exact h3 i hi
section
variable {P : Program} {ops : Array Oper} {Q : Exit → Act → World → Prop} {i : Nat} {t : Tr} {a : Act} {o : Oper} {S S' : Nat → Prop} {w0 w w5 : World} {H : List (Nat × Array Value)} {R : List (Nat × Array Value) → World → Prop}
theorem wpT_callx (dst : Nat) (M : Mm S w0 H w) {f : FuncId} {args : Array Value} {X : Value → World → Prop} (hdst : o.dst = some dst) (ho : ops[i]? = some o) (hw : Region.wanted o (yielded ops a.tmps) = true) (hrun : (execOp a.eval o).run P w = .ok (.enter f args) w)
    (hc : Calls P f args w fun e w' => ∃ v, e = .returned v ∧ X v w' ∧ Below w.heap.size w w')
    (h : ∀ v w', X v w' → Mm S w0 H w' → Below w.heap.size w w' → wpT P ops Q t (a.put (some dst) v) w') : wpT P ops Q (.op i t) a w :=
  wpT_call ho hw hrun hc (fun e w' ⟨v, he, hx, hb⟩ => ⟨v, he, by rw [hdst]; exact h v w' hx (M.below hb) hb⟩)
theorem wpT_stb {T : TypeId} {p x : Operand} {b off : Nat} (v : Value) (hi : (P.info? T).map (·.size) = some 1) (ho : ops[i]? = some o) (hop : o.op = .store T p x) (hd : o.dst = none)
    (hp : a.eval p = .pointer (some ⟨b, off, none⟩)) (hx : a.eval x = v) (hoff : off < (w.rowOf b).size) (hv : ones1 v = true) (hf : w.free b = true) (hw : Region.wanted o (yielded ops a.tmps) = true)
    (h : wpT P ops Q t a (w.setRow b ((w.rowOf b).setIfInBounds off v))) : wpT P ops Q (.op i t) a w := by
  refine wpT_run (w' := w.setRow b ((w.rowOf b).setIfInBounds off v)) ho hw ?_ ?_
  · obtain ⟨dst, op, ty, pos, after, guard⟩ := o
    subst hop
    rw [x_store, hp, hx, x_storec hi w b off v hv hoff hf]
  · rw [hd]; exact h
end
def BN (w : World) (base : Nat) (v : Value) (l : List (BitVec 8)) : Prop := BS w v l ∧ ∀ g, v.ownBlock = some g → base ≤ g ∧ g < w.heap.size
theorem OB.bn {w : World} {base : Nat} {v : Value} {l : List (BitVec 8)} (h : OB w base v l) : BN w base v l := ⟨h.bs, h.lt⟩
theorem BN.nil (w : World) (base : Nat) : BN w base (.slice none 0 0) [] := (OB.nil w base).bn
theorem BN.mono {w : World} {base b' : Nat} {v : Value} {l : List (BitVec 8)} (h : BN w base v l) (hb : b' ≤ base) : BN w b' v l := ⟨h.1, fun g hg => ⟨Nat.le_trans hb (h.2 g hg).1, (h.2 g hg).2⟩⟩
theorem BN.sf {w w' : World} {base B : Nat} {v : Value} {l : List (BitVec 8)} (h : BN w base v l) (k : Sf B w w') : BN w' base v l := ⟨SV.soft h.1 k.2, fun g hg => ⟨(h.2 g hg).1, Nat.lt_of_lt_of_le (h.2 g hg).2 k.size⟩⟩
theorem BN.keep {w w' : World} {base : Nat} {v : Value} {l : List (BitVec 8)} (h : BN w base v l) (hs : w.heap.size ≤ w'.heap.size) (hk : ∀ g, base ≤ g → g < w.heap.size → w'.heap[g]? = w.heap[g]?) : BN w' base v l :=
  ⟨SV.keep h.1 (fun g e _ => hk g (h.2 g e).1 (h.2 g e).2), fun g hg => ⟨(h.2 g hg).1, Nat.lt_of_lt_of_le (h.2 g hg).2 hs⟩⟩
section
variable {P : Program} {ops : Array Oper} {Q : Exit → Act → World → Prop} {i : Nat} {t : Tr} {a : Act} {o : Oper} {S S' : Nat → Prop} {w0 w w5 : World} {H : List (Nat × Array Value)} {R : List (Nat × Array Value) → World → Prop}
theorem back0 : Hid (∀ H' w', Mm S w0 H' w' → Mm S w0 H' w') := hid fun _ _ M => M
theorem backT (K : Hid (∀ H' w', Mm S w0 H' w' → R H' w')) (T : Hid (∀ H' w', Mm S' w5 H' w' → Mm S w0 H' w')) : Hid (∀ H' w', Mm S' w5 H' w' → R H' w') := hid fun H' w' M => K.out H' w' (T.out H' w' M)
theorem Mm.hold (N : Mm S w0 H w5) (M : Mm S w0 H w) {v : Value} {l : List (BitVec 8)} (hx : BN w5 w.heap.size v l) : ∃ S', Mm S' w5 H w5 ∧ Hid (∀ H' w'', Mm S' w5 H' w'' → Mm S w0 H' w'') ∧ Hid (∀ H' w'', Mm S' w5 H' w'' → BN w'' w.heap.size v l) := by
  obtain ⟨S1, MR, hS1, hT1⟩ := N.rebase
  refine ⟨S1, MR, hid hT1, hid fun H' w'' N => hx.keep N.fr.size (fun g h1 h2 => N.fr.block g h2 (fun hs => ?_))⟩
  obtain ⟨p, hp, e⟩ := List.mem_map.1 (hS1 g hs)
  have := M.lt (b := p.1) (c := p.2) hp
  omega
theorem wpT_callN (dst : Nat) (M : Mm S w0 H w) {f : FuncId} {args : Array Value} {l : List (BitVec 8)} (V : Value → Value) (hdst : o.dst = some dst) (ho : ops[i]? = some o) (hw : Region.wanted o (yielded ops a.tmps) = true) (hrun : (execOp a.eval o).run P w = .ok (.enter f args) w)
    (hc : Calls P f args w fun e w' => ∃ v, e = .returned (V v) ∧ BN w' w.heap.size v l ∧ Below w.heap.size w w')
    (h : ∀ v w' S', Mm S' w' H w' → Hid (∀ H' w'', Mm S' w' H' w'' → Mm S w0 H' w'') → Hid (∀ H' w'', Mm S' w' H' w'' → BN w'' w.heap.size v l) → wpT P ops Q t (a.put (some dst) (V v)) w') : wpT P ops Q (.op i t) a w := by
  refine wpT_call ho hw hrun hc (fun e w' ⟨v, he, hx, hb⟩ => ⟨V v, he, ?_⟩)
  rw [hdst]
  obtain ⟨S1, MR, hT, hK⟩ := (M.below hb).hold M hx
  exact h v w' S1 MR hT hK
end
section
variable {ops : Array Oper} {Q : Exit → Act → World → Prop} {i : Nat} {t : Tr} {a : Act} {o : Oper} {S S' : Nat → Prop} {w0 w w5 : World} {H : List (Nat × Array Value)} {R : List (Nat × Array Value) → World → Prop}
theorem wpT_apb2 (dst : Nat) (s x : Operand) (M : Mm S w0 H w) (base : Nat) (v u : Value) (l m : List (BitVec 8)) (hdst : o.dst = some dst) (ho : ops[i]? = some o)
    (hop : o.op = .call { callee := .builtin .append, args := #[s, x], argTypes := #[89, 89] }) (hg : o.guard = none) (hs : a.eval s = v) (hown : OB w base v l) (hx : a.eval x = u) (hu : BS w u m)
    (hlen : l.length + m.length ≤ 140737488355328) (hbase : base ≤ w.heap.size) (hb0 : w0.heap.size ≤ base) (hsep : ∀ g, v.ownBlock = some g → ∀ p ∈ H, p.1 ≠ g)
    (h : ∀ v' w', OB w' base v' (l ++ m) → Mm S w0 H w' → (v'.ownBlock = v.ownBlock ∨ v'.ownBlock = some w.heap.size) → wpT Tryd.prog ops Q t (a.put (some dst) v') w') : wpT Tryd.prog ops Q (.op i t) a w := by
  refine wpT_step ho hg (fun K hK => ?_)
  refine wp_apb s x hop base v u l m hs hown hx hu hlen hbase ?_
  intro v' w' h1 h2 h3
  rw [hdst]
  exact hK _ _ (h v' w' h1 (M.grown8 h2 (fun g hg => ⟨.inr (Nat.le_trans hb0 (hown.lt g hg).1), hsep g hg⟩)) h3)
end
end Go.Proofs.YtgclegdgngldoaaDoor
