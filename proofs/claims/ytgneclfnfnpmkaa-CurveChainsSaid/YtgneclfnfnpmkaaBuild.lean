/-
  A struct that is built of parts, some of them whole rows; own work.
-/
import Derived.Test.YtgneclfnfnpmkaaMem
set_option linter.unusedSimpArgs false
set_option linter.unusedVariables false
namespace Go.Proofs.Ytgneclfnfnpmkaa
open Go.RowKit

/-- the parts, one behind the other -/
def catP : List (Nat × Value) → Array Value
  | [] => #[]
  | (_, v) :: r => v.cells ++ catP r
def Cont (place : Nat → Option (Nat × Nat)) : Nat → List (Nat × Value) → Prop
  | _, [] => True
  | off, (i, v) :: r => place i = some (off, v.cells.size) ∧ Cont place (off + v.cells.size) r
theorem fold_put (c a b : List Value) (o : Nat) (k : Nat) (ho : o = a.length) (hk : k ≤ b.length) (hc : c.length ≤ b.length - k) :
    ((c.zipIdx k).foldl (fun cs (x : Value × Nat) => cs.setIfInBounds (o + x.2) x.1) (a ++ b).toArray) = (a ++ (b.take k ++ c ++ b.drop (k + c.length))).toArray := by
  induction c generalizing k b with
  | nil => simp
  | cons x r ih =>
    simp only [List.zipIdx_cons, List.foldl_cons, List.length_cons] at hc ⊢
    have h1 : ((a ++ b).toArray.setIfInBounds (o + k) x) = (a ++ b.set k x).toArray := by
      subst ho
      simp only [List.setIfInBounds_toArray]
      rw [List.set_append_right _ _ (by omega)]
      simp
    rw [h1, ih (b.set k x) (k + 1) (by simp; omega) (by simp; omega)]
    congr 2
    have hlt : k < b.length := by omega
    rw [List.drop_set_of_lt (by omega), List.take_set, List.take_succ_eq_append_getElem hlt, List.set_append_right _ _ (by simp; omega)]
    simp [Nat.min_eq_left (Nat.le_of_lt hlt), Nat.add_assoc, Nat.add_comm 1]
theorem fill_cat (place : Nat → Option (Nat × Nat)) : ∀ (ps : List (Nat × Value)) (done rest : Array Value), Cont place done.size ps → rest.size = (catP ps).size → Instr.fill place (done ++ rest) ps = some (done ++ catP ps)
  | [], done, rest, _, h => by
    have : rest = #[] := by simpa [catP] using h
    subst this; simp [Instr.fill, catP]
  | (i, v) :: r, done, rest, hc, h => by
    obtain ⟨h1, h2⟩ := hc
    simp only [catP, Array.size_append] at h
    have hf : v.cells.zipIdx.foldl (fun cs (x : Value × Nat) => cs.setIfInBounds (done.size + x.2) x.1) (done ++ rest) = done ++ v.cells ++ (rest.toList.drop v.cells.size).toArray := by
      have := fold_put v.cells.toList done.toList rest.toList done.size 0 (by simp) (by simp) (by simp; omega)
      simp only [List.take_zero, List.nil_append, Nat.zero_add] at this
      rw [← Array.foldl_toList, Array.toList_zipIdx]
      have e : (done ++ rest) = (done.toList ++ rest.toList).toArray := by simp
      rw [e]
      refine this.trans ?_
      simp
    unfold Instr.fill
    rw [h1]
    simp only []
    rw [if_neg (by simp; omega)]
    have h3 := fill_cat place r (done ++ v.cells) (rest.toList.drop v.cells.size).toArray (by rw [Array.size_append]; exact h2) (by simp; omega)
    refine (congrArg (fun z => Instr.fill place z r) hf).trans (h3.trans ?_)
    simp [catP, Array.append_assoc]
section
variable {P : Program}
theorem run_build_cat (w : World) (T : TypeId) (ps : Array (Nat × Value)) (place : Nat → Option (Nat × Nat)) (z : Array Value) (hb : ∀ l, P.built T l = Instr.fill place z l) (hc : Cont place 0 ps.toList) (hz : (catP ps.toList).size = z.size) :
    (Instr.build T ps).run P w = .ok (.agg (catP ps.toList)) w := by
  refine run_build w T ps _ ?_
  rw [hb]
  have := fill_cat place ps.toList #[] z hc hz.symm
  simpa using this
def exBuild (P : Program) (T : TypeId) (ps : Array (Nat × Value)) (w : World) : Result Next := ((Instr.build T ps).run P w).andThen fun x w' => .ok (.value x) w'
theorem x_build (ρ : Operand → Value) (dst : Option Tmp) (ty : TypeId) (pos : String) (after : Array Edge) (guard : Option (Nat × Bool)) (w : World) (T : TypeId) (ps : Array (Nat × Operand)) :
    (execOp ρ { dst, op := .build T ps, type := ty, pos, after, guard }).run P w = exBuild P T (ps.map fun p => (p.1, ρ p.2)) w := by
  simp only [execOp, Sem.run_bind, exBuild]; rfl
end
end Go.Proofs.Ytgneclfnfnpmkaa
