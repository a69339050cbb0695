/-
  Literals of bytes in a region that draws; own work.
-/
import Derived.Test.YtocledgjejlolaaDoorSeq3
import Derived.Test.YtocledgjejlolaaDoorHmac2
set_option linter.unusedSimpArgs false
set_option linter.unusedVariables false
namespace Go.Proofs.YtocledgjejlolaaDoor
open Go.RowKit
section
variable {ops : Array Oper} {B N : Nat} {qs fs : List Nat} {K : Act → World → Prop} {i : Nat} {o : Oper} {r : List Oper} {a : Act} {acc : List (Nat × Array Value × TypeId)} {I : World → Prop}
theorem SeqA.lit (l : List (BitVec 8)) (c : Array Value) (n : Nat) (hc : c = cs U8 l) (hln : n = l.length) (hB : B ≤ N) (hq : i ∈ qs) (hn : isNewOp o = false) (hw : Region.wanted o (yielded ops a.tmps) = true)
    (hrun : ∀ w, (execOp a.eval o).run Tryd.prog w = .ok (.value (.slice (some ⟨w.heap.size, 0, none⟩) n n)) (w.alloc (.cells c 5)))
    (h : ∀ u, SeqA Tryd.prog ops B N qs fs K (i + 1) r (a.put o.dst u) acc (fun w => I w ∧ (Sp.lit N l).p u w)) (hf : fs.contains i = false := by rfl) : SeqA Tryd.prog ops B N qs fs K i (o :: r) a acc I := by
  subst hc; subst hln
  exact .opq (Sp.lit N l).p hq hn hw (fun v w w' h k => (Sp.lit N l).st v w w' h k.2) (fun w hI hN => Gives.new _ (hrun w) ⟨⟨_, _, rfl, hN, heap_new' _⟩, Sf.of ((Below.refl _ _).alloc (Nat.le_refl _) _) (Nat.le_trans hB hN)⟩) h hf
theorem SeqA.conv (l : List (BitVec 8)) (u : Value) (hB : B ≤ N) (hm : l.length ≤ maxLen) (hI : ∀ w, I w → (Sp.lit N l).p u w) (hq : i ∈ qs) (hn : isNewOp o = false) (hw : Region.wanted o (yielded ops a.tmps) = true)
    (hrun : ∀ w, (execOp a.eval o).run Tryd.prog w = ((convert 22 22 u).run Tryd.prog w).andThen fun a w' => .ok (.value a) w')
    (h : ∀ v, SeqA Tryd.prog ops B N qs fs K (i + 1) r (a.put o.dst v) acc (fun w => I w ∧ BS w v l)) (hf : fs.contains i = false := by rfl) : SeqA Tryd.prog ops B N qs fs K i (o :: r) a acc I :=
  .opq (fun v w => BS w v l) hq hn hw (fun v w w' h k => SV.soft h k.2) (fun w hiw hN => by
    obtain ⟨g, fz, rfl, hg, hh⟩ := hI w hiw
    have hr := hrun w
    rw [conv_run _ _ hh] at hr
    obtain ⟨⟨fz', e1⟩, e2, e3⟩ := freeze_heap (cs U8 l).size hh
    have hgs : g < w.heap.size := (Array.getElem?_eq_some_iff.1 hh).1
    refine Gives.new _ hr ⟨?_, ⟨⟨rfl, rfl, rfl, by omega, fun k hk => e2 k (by omega)⟩, by omega, fun k hk => ?_⟩⟩
    · refine ⟨_, l.length, rfl, Nat.le_refl _, hm, fun _ => ⟨g, 0, rfl, fun i hi => ?_⟩⟩
      have hi' : i < l.length := by simpa using hi
      rw [cell_rowOf, rowOf_eq e1]; simp [cs]
    · by_cases hk2 : k = g
      · subst hk2; exact .inr ⟨_, _, _, hh, e1⟩
      · exact .inl (e2 k hk2)) h hf
end
end Go.Proofs.YtocledgjejlolaaDoor
