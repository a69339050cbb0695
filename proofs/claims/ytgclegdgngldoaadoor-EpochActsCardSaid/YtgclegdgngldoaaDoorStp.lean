/-
  Steps at bytes, and at calls, for the seats without package chacha; own work.
-/
import Derived.Test.YtgclegdgngldoaaDoorLin
import Derived.Test.YtgclegdgngldoaaDoorApp
import Derived.Test.YtgclegdgngldoaaDoorEqK
import Derived.Test.YtgclegdgngldoaaDoorHmc
import Derived.Test.YtgclegdgngldoaaDoorFlow3
import Derived.Deep.Cut
import Derived.Deep.CutBlock
import Derived.Laws.MakeOwn
import Derived.ArgAppend
set_option linter.unusedSimpArgs false
set_option linter.unusedVariables false
namespace Go.Proofs.YtgclegdgngldoaaDoor
open Go.RowKit
section
variable {ops : Array Oper} {Q : Exit → Act → World → Prop} {i : Nat} {t : Tr} {a : Act} {o : Oper} {S S' : Nat → Prop} {w0 w w5 : World} {H : List (Nat × Array Value)} {R : List (Nat × Array Value) → World → Prop}
end
theorem OB.below {w w' : World} {base : Nat} {v : Value} {l : List (BitVec 8)} (h : OB w base v l) (hb : Below w.heap.size w w') : OB w' base v l := by
  refine ⟨h.1, ?_⟩
  rcases h.2 with e | ⟨g, cap, cur, rfl, h1, h2, h3⟩
  · exact .inl e
  · exact .inr ⟨g, cap, cur, rfl, h1, (hb.block g (Array.getElem?_eq_some_iff.1 h2).1).trans h2, h3⟩
section
variable {ops : Array Oper} {Q : Exit → Act → World → Prop} {i : Nat} {t : Tr} {a : Act} {o : Oper} {S S' : Nat → Prop} {w0 w w5 : World} {H : List (Nat × Array Value)} {R : List (Nat × Array Value) → World → Prop}
end
theorem BS.end_ {w0 w : World} {v : Value} {l : List (BitVec 8)} (h : BS w0 v l) (hb : Below w0.heap.size w0 w) : BS w v l := SV.below h hb
section
variable {P : Program} {ops : Array Oper} {Q : Exit → Act → World → Prop} {i : Nat} {t : Tr} {a : Act} {o : Oper} {S S' : Nat → Prop} {w0 w w5 : World} {H : List (Nat × Array Value)} {R : List (Nat × Array Value) → World → Prop}
end
def BN (w : World) (base : Nat) (v : Value) (l : List (BitVec 8)) : Prop := BS w v l ∧ ∀ g, v.ownBlock = some g → base ≤ g ∧ g < w.heap.size
theorem OB.bn {w : World} {base : Nat} {v : Value} {l : List (BitVec 8)} (h : OB w base v l) : BN w base v l := ⟨h.bs, h.lt⟩
theorem BN.nil (w : World) (base : Nat) : BN w base (.slice none 0 0) [] := (OB.nil w base).bn
theorem BN.mono {w : World} {base b' : Nat} {v : Value} {l : List (BitVec 8)} (h : BN w base v l) (hb : b' ≤ base) : BN w b' v l := ⟨h.1, fun g hg => ⟨Nat.le_trans hb (h.2 g hg).1, (h.2 g hg).2⟩⟩
theorem BN.sf {w w' : World} {base B : Nat} {v : Value} {l : List (BitVec 8)} (h : BN w base v l) (k : Sf B w w') : BN w' base v l := ⟨SV.soft h.1 k.2, fun g hg => ⟨(h.2 g hg).1, Nat.lt_of_lt_of_le (h.2 g hg).2 k.size⟩⟩
theorem BN.keep {w w' : World} {base : Nat} {v : Value} {l : List (BitVec 8)} (h : BN w base v l) (hs : w.heap.size ≤ w'.heap.size) (hk : ∀ g, base ≤ g → g < w.heap.size → w'.heap[g]? = w.heap[g]?) : BN w' base v l :=
  ⟨SV.keep h.1 (fun g e _ => hk g (h.2 g e).1 (h.2 g e).2), fun g hg => ⟨(h.2 g hg).1, Nat.lt_of_lt_of_le (h.2 g hg).2 hs⟩⟩
section
variable {P : Program} {ops : Array Oper} {Q : Exit → Act → World → Prop} {i : Nat} {t : Tr} {a : Act} {o : Oper} {S S' : Nat → Prop} {w0 w w5 : World} {H : List (Nat × Array Value)} {R : List (Nat × Array Value) → World → Prop}
end
section
variable {ops : Array Oper} {Q : Exit → Act → World → Prop} {i : Nat} {t : Tr} {a : Act} {o : Oper} {S S' : Nat → Prop} {w0 w w5 : World} {H : List (Nat × Array Value)} {R : List (Nat × Array Value) → World → Prop}
end
end Go.Proofs.YtgclegdgngldoaaDoor
