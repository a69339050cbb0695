/-
  A region that draws, as a tree of one's own: at each node the operations that are ready, or such as yield the same wherever J holds, taken first; own work.
-/
import Derived.Test.YtgclegdgngldoaaDoorLin
set_option linter.unusedSimpArgs false
set_option linter.unusedVariables false
namespace Go.Proofs.YtgclegdgngldoaaDoor
open Go.RowKit
inductive TX
  | done
  | op (i : Nat) (t : TX)
  | two (i : Nat) (t : TX) (j : Nat) (u : TX)
  | yld (ps : List Nat) (t : TX)
section
variable {P : Program} {ops : Array Oper} {Q : Exit → Act → World → Prop} {md : Region.Mode} {J : World → Prop}
def okX (md : Region.Mode) (ops : Array Oper) : TX → Nat → Array Bool → Bool
  | .done, _, L => decide (Region.ready md ops L = [])
  | .op _ _, 0, _ => false
  | .op i t, f + 1, L => decide (Region.ready md ops L = [i]) && okX md ops t f (L.setIfInBounds i true)
  | .two _ _ _ _, 0, _ => false
  | .two i t j u, f + 1, L => decide (Region.ready md ops L = [i, j]) && okX md ops t f (L.setIfInBounds i true) && okX md ops u f (L.setIfInBounds j true)
  | .yld ps t, f, L => chkY md ops ps L && decide (ps.length ≤ f) && okX md ops t (f - ps.length) (setY ps L)
def wpX (P : Program) (ops : Array Oper) (Q : Exit → Act → World → Prop) (J : World → Prop) : TX → Act → World → Prop
  | .done, a, w => J w ∧ Q .normal a w
  | .op i t, a, w => J w ∧ wpOp P ops Q i (wpX P ops Q J t) a w
  | .two i t j u, a, w => J w ∧ wpOp P ops Q i (wpX P ops Q J t) a w ∧ wpOp P ops Q j (wpX P ops Q J u) a w
  | .yld ps t, a, w => wpYJ P ops J ps (fun a' => wpX P ops Q J t a' w) a
theorem wpX_any (hs : Region.noSelect ops = true) (hQ : ∀ d v c a w, Q (.panic c) (a.put d v) w → Q (.panic c) a w) : ∀ (t : TX) (f : Nat) (L : Array Bool) (a : Act) (w : World), okX md ops t f L = true → wpX P ops Q J t a w → wpAnyJ P md ops Q J f L a w
  | .done, f, L, a, w, hc, h => by
    simp only [okX, decide_eq_true_eq] at hc
    cases f with
    | zero => exact ⟨h.1, hc, h.2⟩
    | succ f => exact ⟨h.1, fun _ => h.2, by rw [hc]; simp⟩
  | .op i t, 0, L, a, w, hc, h => by simp [okX] at hc
  | .op i t, f + 1, L, a, w, hc, h => by
    simp only [okX, Bool.and_eq_true, decide_eq_true_eq] at hc
    refine ⟨h.1, fun e => (by rw [hc.1] at e; cases e), fun k hk => ?_⟩
    rw [hc.1, List.mem_singleton] at hk
    subst hk
    exact wpOp_mono (fun a' w' h' => wpX_any hs hQ t f _ a' w' hc.2 h') h.2
  | .two i t j u, 0, L, a, w, hc, h => by simp [okX] at hc
  | .two i t j u, f + 1, L, a, w, hc, h => by
    simp only [okX, Bool.and_eq_true, decide_eq_true_eq] at hc
    refine ⟨h.1, fun e => (by rw [hc.1.1] at e; cases e), fun k hk => ?_⟩
    rw [hc.1.1, List.mem_cons, List.mem_singleton] at hk
    rcases hk with e | e
    · subst e; exact wpOp_mono (fun a' w' h' => wpX_any hs hQ t f _ a' w' hc.1.2 h') h.2.1
    · subst e; exact wpOp_mono (fun a' w' h' => wpX_any hs hQ u f _ a' w' hc.2 h') h.2.2
  | .yld ps t, f, L, a, w, hc, h => by
    simp only [okX, Bool.and_eq_true, decide_eq_true_eq] at hc
    have h2 := wpAny_YJ (md := md) (w := w) hs hQ ps (f - ps.length) L a hc.1.1 (wpYJ_mono (fun a' h' => wpX_any hs hQ t _ _ a' w hc.2 h') ps a h)
    rwa [Nat.sub_add_cancel hc.1.2] at h2
theorem wp_region_X {id : Nat} {a : Act} {w : World} {l : List Oper} (J : World → Prop) (t : TX) (hm : P.follows .mixedOrders = true) (hs : Region.noSelect l.toArray = true)
    (hc : okX .any l.toArray t l.length (Array.replicate l.length false) = true) (hQ : ∀ d v c a w, Q (.panic c) (a.put d v) w → Q (.panic c) a w)
    (h : wpX P l.toArray Q J t a w.drew) : (Code.region id l.toArray true).wp P Q a w := by
  refine wp_region_any hm ?_
  have h2 := wpX_any (md := .any) hs hQ t l.length (Array.replicate l.length false) a w.drew hc h
  exact h2.drop
/-! the steps -/
variable {i : Nat} {t u : TX} {a : Act} {o : Oper} {S : Nat → Prop} {w0 w : World} {H : List (Nat × Array Value)}
theorem wpX_yld {ps : List Nat} (h : wpYJ P ops J ps (fun a' => wpX P ops Q J t a' w) a) : wpX P ops Q J (.yld ps t) a w := h
end
end Go.Proofs.YtgclegdgngldoaaDoor
