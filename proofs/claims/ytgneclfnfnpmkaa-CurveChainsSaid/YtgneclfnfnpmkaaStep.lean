/-
  Steps at keys: a key that is read, or built; own work.
-/
import Derived.Test.YtgneclfnfnpmkaaBytes
import Derived.Test.YtgneclfnfnpmkaaBuild
import Derived.Test.YtgneclfnfnpmkaaTree
set_option linter.unusedSimpArgs false
set_option linter.unusedVariables false
namespace Go.Proofs.Ytgneclfnfnpmkaa
open Go.RowKit

@[go_sem ↓] theorem rb_key (ρ : Operand → Value) (dst : Option Tmp) (ty : TypeId) (pos : String) (after : Array Edge) (guard : Option (Nat × Bool)) (w : World) (ps : Array (Nat × Operand)) :
    (execOp ρ { dst, op := .build 23 ps, type := ty, pos, after, guard }).run Try.prog w = exBuild Try.prog 23 (ps.map fun p => (p.1, ρ p.2)) w := x_build ..
@[go_sem] theorem xb_key0 (w : World) : exBuild Try.prog 23 #[] w = .ok (.value (.agg (cs U8 (zs 32)))) w := by
  unfold exBuild; rw [run_build w _ #[] (cs U8 (zs 32)) (by kernel_rfl)]; rfl
@[go_sem] theorem xb_key1 (w : World) : exBuild Try.prog 23 #[(0, .int .u8 1)] w = .ok (.value (.agg (cs U8 (1 :: zs 31)))) w := by
  unfold exBuild; rw [run_build w _ _ (cs U8 (1 :: zs 31)) (by kernel_rfl)]; rfl
def lget : List Oper → Nat → Option Oper
  | [], _ => none
  | a :: _, 0 => some a
  | _ :: r, n + 1 => lget r n
theorem lget_eq : ∀ (l : List Oper) (n : Nat), lget l n = l[n]?
  | [], _ => by simp [lget]
  | a :: _, 0 => by simp [lget]
  | _ :: r, n + 1 => by simp [lget, lget_eq r n]
/-- one step of the tree, over a list: its operation is found fast -/
theorem wpL_step {P : Program} {l : List Oper} {Q : Exit → Act → World → Prop} {i : Nat} {t : Tr} {a : Act} {w : World} {o : Oper} (ho : lget l i = some o) (hg : o.guard = none)
    (h : ∀ K, (∀ a w, wpT P l.toArray Q t a w → K a w) → o.wp P a w K Q) : wpT P l.toArray Q (.op i t) a w :=
  wpT_step (by rw [lget_eq] at ho; simpa using ho) hg h
/-- a pure operation that is taken first -/
theorem wpYL_cons {P : Program} {l : List Oper} {ps : List Nat} {K : Act → Prop} {a : Act} {i : Nat} {o : Oper} {d : Tmp} (v : Value) (ho : lget l i = some o) (hd : o.dst = some d) (hg : o.guard = none) (hv : ∀ w', (execOp a.eval o).run P w' = .ok (.value v) w')
    (h : wpY P l.toArray ps K (a.put (some d) v)) : wpY P l.toArray (i :: ps) K a := by
  have e : l.toArray[i]? = some o := by rw [lget_eq] at ho; simpa using ho
  unfold wpY
  rw [e]
  exact ⟨v, .inl ⟨by simp [Region.wanted, hg], hv⟩, by rw [hd]; exact h⟩
theorem wpYL_nil {P : Program} {ops : Array Oper} {K : Act → Prop} {a : Act} (h : K a) : wpY P ops [] K a := h
/-- a step that yields a value; one that yields none -/
theorem wpL_val {P : Program} {l : List Oper} {Q : Exit → Act → World → Prop} {i : Nat} {t : Tr} {a : Act} {w w' : World} {o : Oper} {d : Tmp} (v : Value) (ho : lget l i = some o) (hg : o.guard = none) (hd : o.dst = some d)
    (hv : (execOp a.eval o).run P w = .ok (.value v) w') (h : wpT P l.toArray Q t (a.put (some d) v) w') : wpT P l.toArray Q (.op i t) a w :=
  wpL_step ho hg (fun K hK => by unfold Oper.wp; rw [hv]; simp only [Oper.upon]; rw [hd]; exact hK _ _ h)
theorem wpL_ld {P : Program} {l : List Oper} {Q : Exit → Act → World → Prop} {i : Nat} {t : Tr} {a : Act} {w : World} {o : Oper} {d : Tmp} (v : Value) (ho : lget l i = some o) (hg : o.guard = none) (hd : o.dst = some d)
    (hv : (execOp a.eval o).run P w = .ok (.value v) w) (h : wpT P l.toArray Q t (a.put (some d) v) w) : wpT P l.toArray Q (.op i t) a w := wpL_val v ho hg hd hv h
theorem wpL_skip {P : Program} {l : List Oper} {Q : Exit → Act → World → Prop} {i : Nat} {t : Tr} {a : Act} {w : World} {o : Oper} (w' : World) (ho : lget l i = some o) (hg : o.guard = none) (hd : o.dst = none)
    (hv : (execOp a.eval o).run P w = .ok .skip w') (h : wpT P l.toArray Q t a w') : wpT P l.toArray Q (.op i t) a w :=
  wpL_step ho hg (fun K hK => by unfold Oper.wp; rw [hv]; simp only [Oper.upon]; rw [hd]; exact hK _ _ h)
theorem wpl_key {a : Act} {w : World} {K : Act → World → Prop} {Q : Exit → Act → World → Prop} {o : Oper} (p : Operand) (ho : o.op = .load 23 p) (b i : Nat) (c : Array Value) (hp : a.eval p = .pointer (some ⟨b, i, none⟩))
    (hx : exLoad Try.prog 23 (.pointer (some ⟨b, i, none⟩)) w = .ok (.value (.agg c)) w) (hK : K (a.put o.dst (.agg c)) w) : o.wp Try.prog a w K Q := by
  obtain ⟨dst, op, ty, pos, after, guard⟩ := o
  subst ho
  unfold Oper.wp
  rw [rl_key, hp, hx]
  simp only [Oper.upon]
  exact hK
end Go.Proofs.Ytgneclfnfnpmkaa
