/-
  Things in memory that calls turn: an object is the blocks that it may write to, and what holds of the world; own work.
-/
import Derived.Test.YtojkcbhmhfjioaaGs
set_option linter.unusedSimpArgs false
set_option linter.unusedVariables false
namespace Go.Proofs.Ytojkcbhmhfjioaa
open Go.RowKit
/-- a region is done (wpT may be irreducible: a walk is quicker so) -/
theorem wpT_fin {P : Program} {ops : Array Oper} {Q : Exit → Act → World → Prop} {a : Act} {w : World} (h : Q .normal a w) : wpT P ops Q .done a w := h
theorem i64w {n : Int} (h1 : -9223372036854775808 ≤ n) (h2 : n < 9223372036854775808) : IntKind.i64.wrap n = n := by rw [IntKind.wrap_i64]; omega
theorem sv_row {w : World} {g : Nat} {C : Array Value} (h : w.rowOf g = C) (hm : 1 ≤ maxLen) : SV w (.slice (some ⟨g, 0, none⟩) 1 1) 1 C.toList :=
  ⟨_, _, rfl, Nat.le_refl _, hm, fun _ => ⟨g, 0, rfl, fun i hi => by rw [cell_rowOf, h, Nat.zero_add]; simp⟩⟩
/-- X holds on while the blocks F stay -/
structure Stb (F : Nat → Prop) (X : World → Prop) : Prop where
  fr : ∀ {w w' : World} {G : Nat → Prop}, X w → Fr G w w' → (∀ g, F g → ¬ G g) → X w'
  lt : ∀ {w : World} {g : Nat}, X w → F g → g < w.heap.size
theorem Stb.below {F : Nat → Prop} {X : World → Prop} (s : Stb F X) {w w' : World} (h : X w) (hb : Below w.heap.size w w') : X w' := s.fr h (Fr.of_below (S := fun _ => False) hb) (fun _ _ h => h)
theorem Stb.and {F G : Nat → Prop} {X Y : World → Prop} (s : Stb F X) (t : Stb G Y) : Stb (fun g => F g ∨ G g) (fun w => X w ∧ Y w) :=
  ⟨fun h hf hd => ⟨s.fr h.1 hf (fun g hg => hd g (.inl hg)), t.fr h.2 hf (fun g hg => hd g (.inr hg))⟩, fun h hg => hg.elim (s.lt h.1) (t.lt h.2)⟩
theorem Stb.ow (base k : Nat) (v : Value) (n : Nat) (xs : List Value) : Stb (fun g => obk v = some g) (fun w => Ow w base k v n xs) :=
  ⟨fun h hf hd => h.fr hf hd, fun h hg => (h.at_ _ hg).2⟩
/-- from w1 on, as long as S1 alone turns and what is new: X holds, and what was known at w0 -/
def Keeps (S : Nat → Prop) (w0 : World) (S1 : Nat → Prop) (w1 : World) (F : Nat → Prop) (X : World → Prop) : Prop := ∀ H' w', Mm S1 w1 H' w' → X w' ∧ Mm S w0 H' w' ∧ ∀ p ∈ H', ¬ F p.1
section
variable {S S1 : Nat → Prop} {w0 w1 w w' : World} {H : List (Nat × Array Value)} {F : Nat → Prop} {X : World → Prop}
theorem Mm.wide {S' : Nat → Prop} (M : Mm S w0 H w) (h : ∀ g, S g → S' g) : Mm S' w0 H w := ⟨M.fr.mono (fun g _ hg => h g hg), fun p hp => ⟨(M.own p hp).1.imp (h _) id, (M.own p hp).2⟩, M.nd⟩
theorem Mm.keep (M : Mm S w0 H w) (st : Stb F X) (hX : X w) (hd : ∀ p ∈ H, ¬ F p.1) : ∃ S1, Mm S1 w H w ∧ Keeps S w0 S1 w F X := by
  obtain ⟨S1, M1, hS, hT⟩ := M.rebase
  refine ⟨S1, M1, fun H' w' N => ⟨st.fr hX N.fr (fun g hF hg => ?_), hT _ _ N, fun p hp hF => ?_⟩⟩
  · obtain ⟨p, hp, rfl⟩ := List.mem_map.1 (hS g hg); exact hd p hp hF
  · rcases (N.own p hp).1 with h | h
    · obtain ⟨q, hq, e⟩ := List.mem_map.1 (hS _ h); exact hd q hq (by rw [e]; exact hF)
    · have := st.lt hX hF; omega
section
variable {P : Program} {ops : Array Oper} {Q : Exit → Act → World → Prop} {i : Nat} {t : Tr} {a : Act} {o : Oper} {f : FuncId} {args : Array Value}
/-- a step: a call that turns the object, or makes one -/
theorem wpT_obj {U : Type} (V : U → Value) (F' : U → Nat → Prop) (X' : U → World → Prop) (dst : Option Nat) (M : Mm S1 w1 H w) (K : Keeps S w0 S1 w1 F X) (hF : ∀ g, F g → S g ∨ w0.heap.size ≤ g) (hdst : o.dst = dst) (ho : ops[i]? = some o) (hw : Region.wanted o (yielded ops a.tmps) = true) (hrun : (execOp a.eval o).run P w = .ok (.enter f args) w)
    (hc : X w → Calls P f args w fun e w' => ∃ u, e = .returned (V u) ∧ X' u w' ∧ Fr F w w' ∧ ∀ g, F' u g → F g ∨ w.heap.size ≤ g)
    (st : ∀ u, Stb (F' u) (X' u))
    (h : ∀ u w' S2, Mm S2 w' H w' → Keeps S w0 S2 w' (F' u) (X' u) → (∀ g, F' u g → S g ∨ w0.heap.size ≤ g) → wpT P ops Q t (a.put dst (V u)) w') : wpT P ops Q (.op i t) a w := by
  obtain ⟨hX, Mo, hd⟩ := K _ _ M
  refine wpT_call ho hw hrun (hc hX) (fun e w' => ?_)
  rintro ⟨u, he, hX', hf, hF'⟩
  refine ⟨V u, he, ?_⟩
  rw [hdst]
  have Mo' : Mm S w0 H w' := Mo.frw hf (fun g hg => ⟨hF g hg, fun p hp e => hd p hp (by rw [e]; exact hg)⟩)
  obtain ⟨S2, M2, K2⟩ := Mo'.keep (st u) hX' (fun p hp hg => by
    rcases hF' p.1 hg with e | e
    · exact hd p hp e
    · have := Mo.lt (b := p.1) (c := p.2) hp; omega)
  refine h u w' S2 M2 K2 (fun g hg => ?_)
  rcases hF' g hg with e | e
  · exact hF g e
  · exact .inr (Nat.le_trans Mo.size e)
/-- a step: a call that makes the first object -/
theorem wpT_objS {U : Type} (V : U → Value) (F' : U → Nat → Prop) (X' : U → World → Prop) (dst : Option Nat) (M : Mm S w0 H w) (hdst : o.dst = dst) (ho : ops[i]? = some o) (hw : Region.wanted o (yielded ops a.tmps) = true) (hrun : (execOp a.eval o).run P w = .ok (.enter f args) w)
    (hc : Calls P f args w fun e w' => ∃ u, e = .returned (V u) ∧ X' u w' ∧ Below w.heap.size w w' ∧ ∀ g, F' u g → w.heap.size ≤ g)
    (st : ∀ u, Stb (F' u) (X' u))
    (h : ∀ u w' S2, Mm S2 w' H w' → Keeps S w0 S2 w' (F' u) (X' u) → (∀ g, F' u g → S g ∨ w0.heap.size ≤ g) → wpT P ops Q t (a.put dst (V u)) w') : wpT P ops Q (.op i t) a w := by
  obtain ⟨S1, M1, K1⟩ := M.keep (F := fun _ => False) (X := fun _ => True) ⟨fun _ _ _ => trivial, fun _ h => h.elim⟩ trivial (fun _ _ h => h)
  refine wpT_obj V F' X' dst M1 K1 (fun _ h => h.elim) hdst ho hw hrun (fun _ => hc.mono ?_) st h
  rintro e w' ⟨u, he, hx, hb, hn⟩
  exact ⟨u, he, hx, Fr.of_below hb, fun g hg => .inr (hn g hg)⟩
/-- a step: a call that answers a new thing, whatever it is; the old ones stay -/
theorem wpT_objN {U : Type} (V : U → Value) (F' : U → Nat → Prop) (X' : U → World → Prop) (dst : Option Nat) (M : Mm S1 w1 H w) (K : Keeps S w0 S1 w1 F X) (hF : ∀ g, F g → S g ∨ w0.heap.size ≤ g) (stX : Stb F X) (hdst : o.dst = dst) (ho : ops[i]? = some o) (hw : Region.wanted o (yielded ops a.tmps) = true) (hrun : (execOp a.eval o).run P w = .ok (.enter f args) w)
    (hc : X w → Calls P f args w fun e w' => ∃ u, e = .returned (V u) ∧ X' u w' ∧ Below w.heap.size w w' ∧ ∀ g, F' u g → w.heap.size ≤ g)
    (st : ∀ u, Stb (F' u) (X' u))
    (h : ∀ u w' S2, Mm S2 w' H w' → Keeps S w0 S2 w' (fun g => F g ∨ F' u g) (fun v => X v ∧ X' u v) → (∀ g, F g ∨ F' u g → S g ∨ w0.heap.size ≤ g) → wpT P ops Q t (a.put dst (V u)) w') : wpT P ops Q (.op i t) a w := by
  refine wpT_obj V (fun u g => F g ∨ F' u g) (fun u v => X v ∧ X' u v) dst M K hF hdst ho hw hrun (fun hX => (hc hX).mono ?_) (fun u => stX.and (st u)) h
  rintro e w' ⟨u, he, hx, hb, hn⟩
  exact ⟨u, he, ⟨stX.below hX hb, hx⟩, Fr.of_below hb, fun g hg => hg.imp id (hn g)⟩
end
end
end Go.Proofs.Ytojkcbhmhfjioaa
