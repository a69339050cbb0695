/-
  Package skipped: Clone; own work.
-/
import Derived.Test.YtojkcbhmhfjioaaSk2
import Derived.Deep.Cut
import Derived.Deep.CutBlock
import Derived.Lib.SliceRun
set_option linter.unusedSimpArgs false
set_option linter.unusedVariables false
namespace Go.Proofs.Ytojkcbhmhfjioaa
open Go.RowKit
/-- a step: a slice literal without elements -/
theorem wpT_bs0 {P : Program} {ops : Array Oper} {Q : Exit → Act → World → Prop} {i : Nat} {t : Tr} {a : Act} {o : Oper} {S : Nat → Prop} {w0 w : World} {H : List (Nat × Array Value)} {T : TypeId} (dst : Nat) (M : Mm S w0 H w) (hT : T ≠ 5) (hdst : o.dst = some dst) (ho : ops[i]? = some o) (hw : Region.wanted o (yielded ops a.tmps) = true)
    (hrun : (execOp a.eval o).run P w = .ok (.value (.slice (some ⟨w.heap.size, 0, none⟩) 0 0)) (w.alloc (.cells #[] T)))
    (h : ∀ b w', Mm S w0 ((b, #[]) :: H) w' → wpT P ops Q t (a.put (some dst) (.slice (some ⟨b, 0, none⟩) 0 0)) w') : wpT P ops Q (.op i t) a w :=
  wpT_val ho hw hrun (by rw [hdst]; exact h _ _ (M.alloc #[] T hT))
theorem eql_nil1 (w : World) (cap : Nat) : (binOp .eql 38 (.slice none 0 cap) (.slice none 0 0)).run Try.prog w = .ok (.bool true) w :=
  Lib.run_eql_slice_nil w _ _ none 0 cap 0 0 Try.underlying38
theorem eql_nil0 (w : World) (ad : Addr) (n cap : Nat) : (binOp .eql 38 (.slice (some ad) n cap) (.slice none 0 0)).run Try.prog w = .ok (.bool false) w :=
  Lib.run_eql_slice_nil w _ _ (some ad) n cap 0 0 Try.underlying38
attribute [local irreducible] ENR STR
set_option maxRecDepth 100000 in
set_option maxHeartbeats 2000000 in
theorem sclone_c (w : World) (v : Value) (n : Nat) (L : List Sk.En) (hV : SV w v n (fl eE L)) (hn : L.length = n) (h9 : n ≤ 100000) :
    Calls Try.prog 41 #[v] w fun e w' => ∃ u, e = .returned u ∧ Ow w' w.heap.size 65 u n (fl eE L) ∧ Below w.heap.size w w' := by
  have HV0 := hid hV
  obtain ⟨a, cap, rfl, hc, hm, hx⟩ := hV
  cases a with
  | none =>
    obtain rfl : L = [] := by
      cases L with
      | nil => rfl
      | cons x r =>
        obtain ⟨b, o, e, _⟩ := hx (by intro e; have := congrArg List.length e; simp [fl_cons, eE_len] at this)
        cases e
    obtain rfl : 0 = n := hn
    clear HV0 hx
    have M0 := Mm.start no w
    go_enter Try.func41, Try.ntmps41
    go_upto_region 1 with fail
    refine wp_region_lin (.op 0 (.op 1 .done)) (by rfl) ?_
    refine wpT_valp 3 (v := .slice none 0 cap) rfl rfl rfl (by go_simp) ?_
    refine wpT_valp 4 (v := .bool true) rfl rfl rfl (by have q := eql_nil1 w cap; go_simp) ?_
    first | dsimp only [wpT] | refine wpT_fin ?_
    try simp only [Act.put, List.setIfInBounds_toArray, List.set_cons_succ, List.set_cons_zero]
    go_upto_region 2 with fail
    refine wp_region_lin (.op 0 .done) (by rfl) ?_
    refine wpT_valp 2 (v := .slice none 0 0) rfl rfl rfl (by go_simp) ?_
    first | dsimp only [wpT] | refine wpT_fin ?_
    try simp only [Act.put, List.setIfInBounds_toArray, List.set_cons_succ, List.set_cons_zero]
    go_wp2_with fail
    go_ret
    exact ⟨_, rfl, Ow.nil _ _ _ _, M0.end_⟩
  | some ad =>
    have HV := HV0
    have HLN := hid (show (fl eE L).length = n * 65 by rw [fl_len eE_len, hn])
    clear HV0 hx hn
    have M0 := Mm.start no w
    go_enter Try.func41, Try.ntmps41
    go_upto_region 1 with fail
    refine wp_region_lin (.op 0 (.op 1 .done)) (by rfl) ?_
    refine wpT_valp 3 (v := .slice (some ad) n cap) rfl rfl rfl (by go_simp) ?_
    refine wpT_valp 4 (v := .bool false) rfl rfl rfl (by have q := eql_nil0 w ad n cap; go_simp) ?_
    first | dsimp only [wpT] | refine wpT_fin ?_
    try simp only [Act.put, List.setIfInBounds_toArray, List.set_cons_succ, List.set_cons_zero]
    go_upto_region 3 with fail
    refine wp_region_lin (.op 0 (.op 1 (.op 2 (.op 3 .done)))) (by rfl) ?_
    refine wpT_bs0 (T := 41) 5 M0 (by decide) rfl rfl rfl (by go_simp) (fun gb wB MB => ?_)
    replace MB := MB.sub (H' := []) (by simp)
    refine wpT_valp 6 (v := .slice (some ad) n cap) rfl rfl rfl (by go_simp) ?_
    refine wpT_gapp 7 _ _ MB elt_en (.slice (some ⟨gb, 0, none⟩) 0 0) (.slice (some ad) n cap) 0 n [] (fl eE L) rfl rfl rfl rfl (by go_simp) (Ow.nil _ w.heap.size 65 (some ⟨gb, 0, none⟩)) (by go_simp) (SV.below HV.out MB.end_) HLN.out (fl_one' (fun _ => one_ENR)) (by omega) MB.size (fun x hx => by simp [obk] at hx) (fun ua wA OA MA _ _ => ?_)
    rw [Nat.zero_add, List.nil_append] at OA
    refine wpT_valp 2 (v := ua) rfl rfl rfl (by go_simp) ?_
    first | dsimp only [wpT] | refine wpT_fin ?_
    try simp only [Act.put, List.setIfInBounds_toArray, List.set_cons_succ, List.set_cons_zero]
    go_wp2_with fail
    go_ret
    exact ⟨_, rfl, OA, MA.end_⟩
end Go.Proofs.Ytojkcbhmhfjioaa
