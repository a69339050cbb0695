/-
  Several results, of which some lie in rows; own work.
-/
import Derived.Test.YtgneclfnfnpmkaaMem
set_option linter.unusedSimpArgs false
set_option linter.unusedVariables false
namespace Go.Proofs.Ytgneclfnfnpmkaa
open Go.RowKit

def rvS (tmps : Array Value) : ResultVar → Sem Value
  | .tmp t => pure (tmps.getD t undef)
  | .cell a t => do loadVar t (← asAddr (tmps.getD a undef))
theorem results_rv (fn : Func) (tmps : Array Value) : results fn tmps = (do let vs ← fn.results.mapM (rvS tmps); pure (if h : vs.size = 1 then vs[0] else .tuple vs)) := by
  unfold results
  congr 1
section
variable {P : Program} {fn : Func} {tmps : Array Value} {w : World}
theorem rv_tmp (t : Tmp) (v : Value) (h : tmps.getD t undef = v) : (rvS tmps (.tmp t)).run P w = .ok v w := by
  subst h; rfl
theorem rv_row {n : Nat} {d : TypeDesc} {a ty : Nat} (hu : P.underlying ty = some d) (hd : d.isRow = true) (hi : (P.info? ty).map (·.size) = some n) (b : Nat) (hp : tmps.getD a undef = .pointer (some ⟨b, 0, none⟩)) (hr : (w.rowOf b).size = n) :
    (rvS tmps (.cell a ty)).run P w = .ok (.agg (w.rowOf b)) w := by
  have hp' : tmps[a]?.getD undef = .pointer (some ⟨b, 0, none⟩) := by simpa using hp
  simp [rvS, hp', asAddr, lv_row0 hu hd hi w b hr]
theorem res_two {r1 r2 : ResultVar} {v1 v2 : Value} (h : fn.results = #[r1, r2]) (h1 : (rvS tmps r1).run P w = .ok v1 w) (h2 : (rvS tmps r2).run P w = .ok v2 w) :
    (results fn tmps).run P w = .ok (.tuple #[v1, v2]) w := by
  rw [results_rv, h]
  simp [h1, h2]
theorem res_three {r1 r2 r3 : ResultVar} {v1 v2 v3 : Value} (h : fn.results = #[r1, r2, r3]) (h1 : (rvS tmps r1).run P w = .ok v1 w) (h2 : (rvS tmps r2).run P w = .ok v2 w) (h3 : (rvS tmps r3).run P w = .ok v3 w) :
    (results fn tmps).run P w = .ok (.tuple #[v1, v2, v3]) w := by
  rw [results_rv, h]
  simp [h1, h2, h3]
theorem res_four {r1 r2 r3 r4 : ResultVar} {v1 v2 v3 v4 : Value} (h : fn.results = #[r1, r2, r3, r4]) (h1 : (rvS tmps r1).run P w = .ok v1 w) (h2 : (rvS tmps r2).run P w = .ok v2 w) (h3 : (rvS tmps r3).run P w = .ok v3 w) (h4 : (rvS tmps r4).run P w = .ok v4 w) :
    (results fn tmps).run P w = .ok (.tuple #[v1, v2, v3, v4]) w := by
  rw [results_rv, h]
  simp [h1, h2, h3, h4]
end
end Go.Proofs.Ytgneclfnfnpmkaa
