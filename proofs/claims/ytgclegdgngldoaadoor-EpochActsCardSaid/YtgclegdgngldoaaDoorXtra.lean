import Derived.Test.YtgclegdgngldoaaDoorBase
import Derived.Test.YtgclegdgngldoaaDoorMem
import Derived.Test.YtgclegdgngldoaaDoorShaSpec
import Derived.Test.YtgclegdgngldoaaDoorCelI
import Derived.Test.YtgclegdgngldoaaDoorBytes
import Derived.Test.YtgclegdgngldoaaDoorSha4
import Derived.Test.YtgclegdgngldoaaDoorRefe
import Derived.Test.YtgclegdgngldoaaDoorEqK
import Derived.Test.YtgclegdgngldoaaDoorHash
import Derived.Test.YtgclegdgngldoaaDoorApp
import Derived.Test.YtgclegdgngldoaaDoorLaw3
import Derived.Test.YtgclegdgngldoaaDoorRowK2
import Derived.Test.YtgclegdgngldoaaDoorStep
import Derived.Test.YtgclegdgngldoaaDoorFlow3
import Derived.Test.YtgclegdgngldoaaDoorSeq3
import Derived.Test.YtgclegdgngldoaaDoorLin
import Derived.Test.YtgclegdgngldoaaDoorTx
import Derived.Test.YtgclegdgngldoaaDoorGs
import Derived.Test.YtgclegdgngldoaaDoorTrd
import Derived.Test.YtgclegdgngldoaaDoorEdw
import Derived.Test.YtgclegdgngldoaaDoorFe7
import Derived.Test.YtgclegdgngldoaaDoorRf5
import Derived.Test.YtgclegdgngldoaaDoorFldD
import Derived.Test.YtgclegdgngldoaaDoorCv7
import Derived.Test.YtgclegdgngldoaaDoorHmc
import Derived.Test.YtgclegdgngldoaaDoorEval
import Derived.Test.YtgclegdgngldoaaDoorSuS
import Derived.Test.YtgclegdgngldoaaDoorEpS
import Derived.Test.YtgclegdgngldoaaDoorPsl
import Derived.Test.YtgclegdgngldoaaDoorStp
import Derived.Test.YtgclegdgngldoaaDoorSu1
import Derived.Test.YtgclegdgngldoaaDoorEp1
import Derived.Test.YtgclegdgngldoaaDoorEp2
import Derived.Test.YtgclegdgngldoaaDoorEp3
import Derived.Test.YtgclegdgngldoaaDoorEp4
import Derived.Test.YtgclegdgngldoaaDoorEp5
import Derived.Test.YtgclegdgngldoaaDoorEp6
import Derived.Test.YtgclegdgngldoaaDoorEp7
import Derived.Test.YtgclegdgngldoaaDoorL14a
import Derived.Test.YtgclegdgngldoaaDoorL14b
import Derived.Test.YtgclegdgngldoaaDoorL14c
import Derived.Test.YtgclegdgngldoaaDoorL14d
import Derived.Test.YtgclegdgngldoaaDoorRowA
set_option linter.unusedSimpArgs false
set_option linter.unusedVariables false
namespace Go
end Go
namespace Go.Proofs.YtgclegdgngldoaaDoor
open Go.RowKit

section
variable {α : Type} {f : α → Value} {l : List α}
end
section
variable {w : World} {b : Nat}
end
section
variable {P : Program}
end
/-! Operations on rows, each under one name: so that the walk does not open them cell by cell. -/
section
variable (P : Program) (T : TypeId) (v u : Value) (w : World)
end
section
variable {P : Program} (ρ : Operand → Value) (dst : Option Tmp) (ty : TypeId) (pos : String) (after : Array Edge) (guard : Option (Nat × Bool)) (w : World)
end
section
variable {P : Program} {Q : Exit → Act → World → Prop} {n : Nat} {l : List Oper}
theorem addE_at (j : Nat) : (addE n l).toArray[j]? = (l.toArray[j]?).map fun o => if n = j then after1 o else o := by
  simp only [addE, List.getElem?_toArray, List.getElem?_modify]
  cases l[j]? with
  | none => rfl
  | some o => by_cases h : n = j <;> simp [h]
theorem addE_yielded : yielded (addE n l).toArray = yielded l.toArray := by
  funext t g
  unfold yielded
  rw [addE_at]
  cases l.toArray[g]? with
  | none => rfl
  | some o => by_cases h : n = g <;> simp [h, after1]
theorem after1_exec (ρ : Operand → Value) (o : Oper) : execOp ρ (after1 o) = execOp ρ o := by cases o; rfl
theorem after1_wanted (o : Oper) : Region.wanted (after1 o) = Region.wanted o := rfl
theorem after1_wp (o : Oper) (a : Act) (w : World) (K : Act → World → Prop) : (after1 o).wp P a w K Q = o.wp P a w K Q := by
  unfold Oper.wp; rw [after1_exec]; rfl
theorem after1_asks (o : Oper) (a : Act) (w : World) : (after1 o).asks P a w = o.asks P a w := by
  unfold Oper.asks; rw [after1_exec]
theorem addE_wpOp (i : Nat) (K : Act → World → Prop) (a : Act) (w : World) : wpOp P (addE n l).toArray Q i K a w = wpOp P l.toArray Q i K a w := by
  unfold wpOp
  rw [addE_at, addE_yielded]
  cases l.toArray[i]? with
  | none => rfl
  | some o =>
    by_cases h : n = i
    · simp only [h, Option.map_some, if_true, after1_wp, after1_asks, after1_wanted]; rfl
    · simp only [h, Option.map_some, if_false]
theorem addE_ready {md : Region.Mode} {listed : Array Bool} (h0 : listed.getD 0 false = true) : Region.ready md (addE n l).toArray listed = Region.ready md l.toArray listed := by
  unfold Region.ready
  have hs : (addE n l).toArray.size = l.toArray.size := by simp [addE]
  rw [hs]
  apply List.filter_congr
  intro i _
  rw [addE_at]
  cases l.toArray[i]? with
  | none => rfl
  | some o =>
    by_cases h : n = i
    · simp only [h, Option.map_some, if_true, after1, Array.all_push, h0, Bool.or_true, Bool.and_true]
    · simp only [h, Option.map_some, if_false]
theorem addE_any {md : Region.Mode} : ∀ (f : Nat) (listed : Array Bool) (a : Act) (w : World), listed.getD 0 false = true →
    wpAny P md (addE n l).toArray Q f listed a w → wpAny P md l.toArray Q f listed a w
  | 0, listed, a, w, h0, h => by unfold wpAny at *; rwa [addE_ready h0] at h
  | f + 1, listed, a, w, h0, h => by
    unfold wpAny at *
    rw [addE_ready h0] at h
    refine ⟨h.1, fun i hi => ?_⟩
    have h1 := h.2 i hi
    rw [addE_wpOp] at h1
    exact wpOp_mono (fun a' w' h' => addE_any f _ a' w' (getD_set_true h0) h') h1
theorem addE_still {w : World} {K K' : Act → Prop} (hK : ∀ a, K a → K' a) : ∀ (m : List Oper) (a : Act), wpStill P l.toArray w K m a → wpStill P (addE n l).toArray w K' m a
  | [], a, h => hK a h
  | o :: m, a, h => by
    unfold wpStill at *
    rw [addE_yielded]
    split
    · rename_i hw; rw [if_pos hw] at h; exact Oper.still_mono (fun a' h' => addE_still hK m a' h') h
    · rename_i hw; rw [if_neg hw] at h; exact addE_still hK m _ h
theorem addE_list : ∀ (m : List Oper) (a : Act) (w : World), wpList P l.toArray Q m a w → wpList P (addE n l).toArray Q m a w
  | [], a, w, h => h
  | o :: m, a, w, h => by
    unfold wpList at *
    rw [addE_yielded]
    split
    · rename_i hw; rw [if_pos hw] at h; exact h.imp (Oper.wp_mono fun a' w' h' => addE_list m a' w' h') id
    · rename_i hw; rw [if_neg hw] at h; exact addE_list m _ _ h
theorem addE_tail (a : Act) (w : World) (h : wpList P l.toArray Q (l.drop n) a w) : wpList P (addE n l).toArray Q ((addE n l).drop n) a w := by
  have he : (addE n l).drop n = match l.drop n with | [] => [] | o :: m => after1 o :: m := by
    apply List.ext_getElem?
    intro j
    rw [List.getElem?_drop]
    have h1 := addE_at (n := n) (l := l) (n + j)
    simp only [List.getElem?_toArray] at h1
    rw [h1]
    have h2 : l[n + j]? = (l.drop n)[j]? := (List.getElem?_drop ..).symm
    rw [h2]
    cases l.drop n with
    | nil => simp
    | cons o m =>
      cases j with
      | zero => simp
      | succ j => simp [show ¬ n = n + (j + 1) by omega]
  rw [he]
  cases hd : l.drop n with
  | nil => rw [hd] at h; exact h
  | cons o m =>
    rw [hd] at h
    have h1 := addE_list (n := n) _ _ _ h
    unfold wpList at h1 ⊢
    simp only [after1_wanted, after1_wp, after1_asks] at *
    exact h1
theorem wp_region_qtail1 {id : Nat} {a : Act} {w : World} {o : Oper} {rest : List Oper} (n : Nat) (hm : P.follows .mixedOrders = true) (hB : Region.lexTailB .any (addE (n + 1) (o :: rest)).toArray (n + 1) = true)
    (hF : (isMove o && Region.free .any (o :: rest).toArray (Array.replicate (rest.length + 1) false) 0 && (Region.ready .any (o :: rest).toArray (Array.replicate (rest.length + 1) false)).contains 0 && Region.noSelect (o :: rest).toArray) = true)
    (hQ : ∀ v c a w, Q (.panic c) (a.put o.dst v) w → Q (.panic c) a w)
    (h : wpQuiet P (o :: rest).toArray (fun w' => w' = w.drew) (fun a' => wpList P (o :: rest).toArray Q ((o :: rest).drop (n + 1)) a' w.drew) ((o :: rest).take (n + 1)) a) : (Code.region id (o :: rest).toArray true).wp P Q a w := by
  have hs := wpStill_of_quiet _ _ h
  clear h
  simp only [Bool.and_eq_true] at hF
  obtain ⟨⟨⟨hmv, hfr⟩, hrd⟩, hns⟩ := hF
  obtain ⟨dst, op, ty, pos, after, guard⟩ := o
  cases op <;> cases guard <;> simp only [isMove, Bool.false_eq_true] at hmv
  rename_i x
  rw [List.take_succ_cons] at hs
  unfold wpStill at hs
  have hwt : ∀ t, Region.wanted ⟨dst, .move x, ty, pos, after, none⟩ t = true := fun t => rfl
  have hex : ∀ (ρ : Operand → Value) w', (execOp ρ ⟨dst, .move x, ty, pos, after, none⟩).run P w' = .ok (.value (ρ x)) w' := fun ρ w' => rfl
  rw [if_pos (hwt _)] at hs
  unfold Oper.still at hs
  rw [hex, Oper.stillUpon_value] at hs
  generalize ho : (⟨dst, .move x, ty, pos, after, none⟩ : Oper) = o at *
  have hod : o.dst = dst := by rw [← ho]
  have hlen : ((o :: rest).toArray).size = rest.length + 1 := by simp
  have hlen' : ((addE (n + 1) (o :: rest)).toArray).size = rest.length + 1 := by simp [addE]
  simp only [Region.lexTailB, Bool.and_eq_true, decide_eq_true_eq, hlen'] at hB
  obtain ⟨⟨⟨⟨hsel, hn⟩, hsk⟩, hc⟩, hlex⟩ := hB
  have hn' : n < rest.length := by omega
  simp only [Region.lexHead, Bool.and_eq_true] at hlex
  obtain ⟨⟨hr0, hf0⟩, hlex⟩ := hlex
  have inv0 : HeadInv .any (addE (n + 1) (o :: rest)).toArray (n + 1) (Array.replicate (rest.length + 1) false) :=
    ⟨by simp [hlen'], fun j oj _ hl => (by rw [getD_replicate_false] at hl; cases hl), fun t _ ht => getD_in (by rw [hlen'] at ht; simpa using ht) (getD_replicate_false _ _)⟩
  have htl : (rest.take n).length = n := by simp; omega
  have inv1 := inv0.set (by simpa using hr0) (by omega)
  have h1 := addE_still (n := n + 1) (fun a' h' => addE_tail a' _ h') _ _ hs
  have H := wpAnyL_lex (md := .any) (g := rest.length + 1 - (n + 1)) hsel hsk hc (by rw [hlen']; exact hn) (rest.take n) 1 _ _ (fun j hj => by
    have hj' : j < n := by rw [htl] at hj; exact hj
    have h2 := addE_at (n := n + 1) (l := o :: rest) (1 + j)
    rw [h2]
    simp [Nat.add_comm 1 j, hj', show ¬ n = j by omega]) (by rw [htl]; omega) inv1 (by rw [htl]; exact hlex) h1
  have H2 := wpAny_of_head (Q' := Q) (g := rest.length + 1 - (n + 1)) (fun listed a' hL => by
    have hdl : ((addE (n + 1) (o :: rest)).drop (n + 1)).length = rest.length + 1 - (n + 1) := by simp [addE]
    have h3 := wpAny_of_seq (md := .any) (Q' := Q) ((addE (n + 1) (o :: rest)).drop (n + 1)) (n + 1) listed a' w.drew (fun j => by simp [List.getElem?_drop]) (by rw [hdl]; exact hL.1) hL.2
    rwa [hdl] at h3) _ _ _ H
  rw [htl] at H2
  refine wp_region_any hm ?_
  have hsz : ((o :: rest).toArray).size = n + (rest.length + 1 - (n + 1)) + 1 := by rw [hlen]; omega
  rw [hsz]
  have hrep : Array.replicate (n + (rest.length + 1 - (n + 1)) + 1) false = Array.replicate (rest.length + 1) false := by congr 1; omega
  rw [hrep]
  refine wpAny_take (i := 0) (oi := o) (v := a.eval x) (by simp) hns hfr hrd (fun _ _ _ h => ?_) (.inl ⟨by rw [← ho]; rfl, fun w' => by rw [← ho]; rfl⟩) ?_
  · exact hQ _ _ _ _ h
  · exact addE_any _ _ _ _ (by simp) H2
end
end Go.Proofs.YtgclegdgngldoaaDoor

set_option linter.unusedSimpArgs false
set_option linter.unusedVariables false
namespace Go.Proofs.YtgclegdgngldoaaDoor
open Go.RowKit

section
variable {w w' : World} {v : Value} {l : List (BitVec 32)} {base : Nat}
theorem ow_below {B : Nat} {w0 : World} (h : Below B w0 w) (hown : OW w B v l) (hB : B ≤ w.heap.size) (hg : w.grownBy w' v.ownBlock) : Below B w0 w' := h.grown hg hB (fun k hk => (hown.lt k hk).1)
theorem OW.litb (w : World) (l : List (BitVec 8)) (c : Array Value) (hc : c = cs U8 l) (n : Nat) (hn : n = l.length) (hm : l.length ≤ maxLen) (base : Nat) (hb : base ≤ w.heap.size) :
    OB (w.alloc (.cells c 5)) base (.slice (some ⟨w.heap.size, 0, none⟩) n n) l := by
  subst hc; subst hn
  have := World.ownsRow_lit (base := base) (e := 5) (size := 1) w (cs U8 l) l.length hb hm (by simp)
  simpa [OB, cs] using this
end
theorem info_u32 : (Tryd.prog.info? 67).map (fun i => (i.zero, i.size, i.bytes)) = some (some (.int .u32 0), 1, 4) := by kernel_rfl
theorem wpList_apw {w : World} {ops : Array Oper} {rest : List Oper} {o : Oper} {a : Act} {Q : Exit → Act → World → Prop} (hgd : o.guard = none) (s x : Operand)
    (ho : o.op = .call { callee := .builtin .append, args := #[s, x], argTypes := #[147, 147] })
    (base : Nat) (v u : Value) (l m : List (BitVec 32)) (hs : a.eval s = v) (hown : OW w base v l) (hx : a.eval x = u) (hu : WS w u m)
    (hlen : l.length + m.length ≤ 1073741824) (hbase : base ≤ w.heap.size)
    (h : ∀ v' w', OW w' base v' (l ++ m) → w.grownBy w' v.ownBlock → (v' = .slice none 0 0 ↔ v = .slice none 0 0 ∧ m = []) → wpList Tryd.prog ops Q rest (a.put o.dst v') w') : wpList Tryd.prog ops Q (o :: rest) a w := by
  refine wpList_ap hgd s x 147 ho base 67 (.int .u32 0) 1 4 Tryd.underlying147 info_u32 rfl (by decide) v u l.length m.length (l.map U32) (m.map U32) hs hown hx hu (by simp) (by simp; intro _ _; rfl) (by unfold maxLen; omega) (by omega) hbase ?_
  intro v' w' h1 h2 h3
  refine h v' w' (by unfold OW; simpa using h1) h2 (by rw [h3]; simp)

set_option maxHeartbeats 400000 in
theorem turn_any (x : BitVec 32) (k : Int) (w : World) (hk : 0 < k ∧ k < 32) :
    Calls Tryd.prog 119 #[U32 x, .int .i64 k] w fun e w' => e = .returned (U32 (Sh.rr x k.toNat)) ∧ w' = w := by
  obtain ⟨j, rfl⟩ : ∃ j : Nat, k = (j : Int) := ⟨k.toNat, by omega⟩
  have h0 : (0 : Int) ≤ j := by omega
  have h1 : (0 : Int) ≤ 32 - j := by omega
  have h2 : (j : Int) ≤ 32 := by omega
  go_enter Tryd.func119, Tryd.ntmps119
  go_wp2
  go_ret
  refine ⟨?_, rfl⟩
  show Ending.returned (U32 (x >>> j ||| x <<< (32 - j))) = _
  simp [Sh.rr]

set_option maxRecDepth 100000 in
set_option maxHeartbeats 1000000 in
theorem constants_any (w : World) :
    Calls Tryd.prog 118 #[] w fun e w' => ∃ v, e = .returned v ∧ OW w' w.heap.size v Sh.K ∧ Below w.heap.size w w' := by
  go_enter Tryd.func118, Tryd.ntmps118
  go_wp2
  go_ret
  exact ⟨_, rfl, OW.lit w Sh.K _ rfl _ rfl (by unfold maxLen; decide) _ (Nat.le_refl _), (Below.refl _ _).alloc (Nat.le_refl _) _⟩

set_option maxHeartbeats 1000000 in
theorem first_any (w : World) :
    Calls Tryd.prog 108 #[] w fun e w' => ∃ v, e = .returned v ∧ OW w' w.heap.size v Sh.init.list ∧ Below w.heap.size w w' := by
  go_enter Tryd.func108, Tryd.ntmps108
  go_wp2
  go_ret
  exact ⟨_, rfl, OW.lit w Sh.init.list _ rfl _ rfl (by unfold maxLen; decide) _ (Nat.le_refl _), (Below.refl _ _).alloc (Nat.le_refl _) _⟩
end Go.Proofs.YtgclegdgngldoaaDoor
set_option linter.unusedSimpArgs false
set_option linter.unusedVariables false
namespace Go.Proofs.YtgclegdgngldoaaDoor
open Go.RowKit

set_option maxRecDepth 100000 in
set_option maxHeartbeats 1000000 in
theorem rsched_any (w : World) (v : Value) (l : List (BitVec 8)) (hv : BS w v l) (hn : l.length = 64) :
    Calls Tryd.prog 117 #[v] w fun e w' => ∃ u, e = .returned u ∧ OW w' w.heap.size u (Sh.sched l 64) ∧ Below w.heap.size w w' := by
  obtain ⟨b, o, cap, rfl, hcap, hcells⟩ := hv.open (by intro e; rw [e] at hn; cases hn)
  have hlt := SV.lt hv b rfl (by intro e; rw [List.map_eq_nil_iff] at e; rw [e] at hn; cases hn)
  rw [hn] at hcells hcap
  rw [hn]
  have HN := hid hn
  have HC := hid hcells
  clear hn hcells hv
  go_enter Tryd.func117, Tryd.ntmps117
  go_wp2_with fail
  go_loopw [3, 4] (fun v t wr => ∃ k : Nat, k ≤ 16 ∧ t = .int .i64 k ∧ OW wr w.heap.size v (Sh.sched l k) ∧ Below w.heap.size w wr) (fun _ t _ => 16 - (intOf t).toNat)
  case atStart => exact ⟨0, by omega, rfl, OW.nil _ _, Below.refl _ _⟩
  case round =>
    obtain ⟨k, hk, rfl, hov, hbl⟩ := hrel
    have hz := hbl.size
    obtain ⟨av, cv, rfl, hcv⟩ := hov.ws.shape' k (Sh.sched_len l k)
    by_cases hlk : k < 16
    · have hcl : ∀ i, i < 64 → wr.cell? ⟨b, o + i, none⟩ = some (U8 (l.getD i 0)) := fun i hi => (hbl.cell (p := ⟨b, o + i, none⟩) hlt).trans (HC.out i hi)
      have x0 := hcl (4 * k) (by omega); have x1 := hcl (4 * k + 1) (by omega); have x2 := hcl (4 * k + 2) (by omega); have x3 := hcl (4 * k + 3) (by omega)
      have y0 : wr.cell? ⟨b, o + (4 * k + 1), none⟩ = some (U8 (l.getD (4 * k + 1) 0)) := x1
      clear hcl x1
      have x1 : wr.cell? ⟨b, o + (4 * k + 1), none⟩ = some (U8 (l.getD (4 * k + 1) 0)) := y0
      clear y0
      have q0 : (0 : Int) ≤ 4 * k := by omega
      have q1 : (0 : Int) ≤ 4 * k + 1 := by omega
      have q2 : (0 : Int) ≤ 4 * k + 2 := by omega
      have q3 : (0 : Int) ≤ 4 * k + 3 := by omega
      have p0 : 4 * (k : Int) < 64 := by omega
      have p1 : 4 * (k : Int) + 1 < 64 := by omega
      have p2 : 4 * (k : Int) + 2 < 64 := by omega
      have p3 : 4 * (k : Int) + 3 < 64 := by omega
      have hsz : (Sh.sched l k).length + [Sh.wordAt l k].length ≤ 1073741824 := by simp [Sh.sched_len]; omega
      have HZ := hid hsz
      clear hsz
      go_wp
      refine wp_region_qtail1 33 (by kernel_rfl) (by kernel_rfl) (by kernel_rfl) (fun _ _ _ _ h => h) ?_
      simp only [List.take_succ_cons, List.take_zero, List.drop_succ_cons, List.drop_zero]
      repeat (go_big_quiet_step (fail))
      refine wpQuiet_nil ?_
      go_wp2_with (first | (refine wpList_apw rfl (.tmp 14) (.tmp 48) rfl w.heap.size _ _ _ [Sh.wordAt l k] rfl ((OW.alloc hov _).drewN 1) rfl ((WS.one _ _ _ rfl _).drewN 1) HZ.out (by simp; omega) ?_; rintro v2 w2 hown2 hg2 -))
      go_roundw
      case rel => exact ⟨k + 1, by omega, rfl, by rw [Sh.sched, if_pos hlk]; exact hown2, ow_below (below_drewN (hbl.alloc hz _) 1) ((OW.alloc hov _).drewN 1) (by simp; omega) hg2⟩
      case measure => simp [intOf]; omega
    · have : k = 16 := by omega
      subst this
      have HOV := hid hov
      clear hov
      rw [show ((16 : Nat) : Int) = 16 from rfl]
      go_wp2_with fail
      obtain ⟨wo, hwo⟩ : ∃ wo, wo = wr := ⟨_, rfl⟩
      rw [← hwo] at HOV hbl hz
      rw [← hwo]
      go_loopw [3, 5, 6, 7, 8, 9] (fun v t _ _ _ _ wr => ∃ k : Nat, 16 ≤ k ∧ k ≤ 64 ∧ t = .int .i64 k ∧ OW wr w.heap.size v (Sh.sched l k) ∧ Below w.heap.size w wr) (fun _ t _ _ _ _ _ => 64 - (intOf t).toNat)
      case atStart => exact ⟨16, by omega, by omega, rfl, HOV.out, hbl⟩
      case round =>
        clear hbl hz HOV hwo hcv
        obtain ⟨k, h16, hk, rfl, hov, hbl⟩ := hrel
        have hz := hbl.size
        obtain ⟨bv, ov, cv, rfl, hcv, hcl⟩ := hov.ws.open (by intro e; have := Sh.sched_len l k; rw [e] at this; simp at this; omega)
        rw [Sh.sched_len] at hcl hov ⊢
        by_cases hlk : k < 64
        · have c2 := hcl (k - 2) (by omega); have c7 := hcl (k - 7) (by omega); have c15 := hcl (k - 15) (by omega); have c16 := hcl (k - 16) (by omega)
          have g2 : (0 : Int) ≤ k - 2 := by omega
          have g7 : (0 : Int) ≤ k - 7 := by omega
          have g15 : (0 : Int) ≤ k - 15 := by omega
          have g16 : (0 : Int) ≤ k - 16 := by omega
          have hsz : (Sh.sched l k).length + [Sh.nextW (Sh.sched l k) k].length ≤ 1073741824 := by simp [Sh.sched_len]; omega
          have HZ := hid hsz
          clear hsz hcl
          go_wp2_with fail
          go_quiet (fail)
          go_wp2_with (go_at_call 119; refine (turn_any _ _ _ (by omega)).mono ?_; rintro e w' ⟨rfl, rfl⟩)
          refine wp_region_qtail1 15 (by kernel_rfl) (by kernel_rfl) (by kernel_rfl) (fun _ _ _ _ h => h) ?_
          simp only [List.take_succ_cons, List.take_zero, List.drop_succ_cons, List.drop_zero]
          repeat (go_big_quiet_step (fail))
          refine wpQuiet_nil ?_
          go_wp2_with (first | (refine wpList_apw rfl (.tmp 80) (.tmp 96) rfl w.heap.size _ _ _ [Sh.nextW (Sh.sched l k) k] rfl ((OW.alloc (hov.drewN (nq + 1)) _).drewN 1) rfl ((WS.one _ _ _ rfl _).drewN 1) HZ.out (by simp; omega) ?_; rintro v2 w2 hown2 hg2 -))
          go_roundw
          case rel => exact ⟨k + 1, by omega, by omega, rfl, by rw [show Sh.sched l (k + 1) = Sh.sched l k ++ [Sh.nextW (Sh.sched l k) k] by rw [Sh.sched, if_neg (by omega)]]; exact hown2, ow_below ((below_drewN hbl (nq + 1)).alloc (by simp; omega) _) (OW.alloc (hov.drewN (nq + 1)) _) (by simp; omega) hg2⟩
          case measure => simp [intOf]; omega
        · have : k = 64 := by omega
          subst this
          go_wp2_with fail
          go_ret
          exact ⟨_, rfl, hov, hbl⟩
end Go.Proofs.YtgclegdgngldoaaDoor
set_option linter.unusedSimpArgs false
set_option linter.unusedVariables false
namespace Go.Proofs.YtgclegdgngldoaaDoor
open Go.RowKit

theorem ow_belowb {B : Nat} {w w0 w' : World} {v : Value} {l : List (BitVec 8)} (h : Below B w0 w) (hown : OB w B v l) (hB : B ≤ w.heap.size) (hg : w.grownBy w' v.ownBlock) : Below B w0 w' := h.grown hg hB (fun k hk => (hown.lt k hk).1)
theorem be8_val' (n k : Nat) (hk : k < 8) : Value.int .u8 ((n : Int) * 8 / 2 ^ (8 * (7 - k)) % 256) = U8 ((Sh.be8 n).getD k 0) := by
  rw [← be8_val n k hk, show 8 * (7 - k) = 56 - 8 * k by omega]
set_option maxRecDepth 100000 in
set_option maxHeartbeats 1000000 in
theorem padded_any (w : World) (v : Value) (l : List (BitVec 8)) (hv : BS w v l) (hn : l.length ≤ 1073741000) :
    Calls Tryd.prog 107 #[v] w fun e w' => ∃ u, e = .returned u ∧ OB w' w.heap.size u (Sh.finish l l.length) ∧ Below w.heap.size w w' := by
  obtain ⟨n, hnl⟩ : ∃ n, n = l.length := ⟨_, rfl⟩
  obtain ⟨av, cv, rfl, hcv⟩ := hv.shape' n hnl.symm
  have HL := hid hnl
  rw [← hnl] at hn ⊢
  clear hnl
  go_enter Tryd.func107, Tryd.ntmps107
  go_wp2_with (first
    | (refine wpList_apb rfl (.tmp 6) (.tmp 7) rfl w.heap.size _ _ [] l rfl (OW.litb w [] _ rfl _ rfl (by unfold maxLen; decide) _ (Nat.le_refl _)) rfl (SV.alloc hv _) (by rw [← HL.out]; simp; omega) (by simp) ?_; rintro v1 w1 hown1 hg1 -)
    | (refine wpList_apb rfl (.tmp 9) (.tmp 10) rfl w.heap.size _ _ l [128] rfl (OB.alloc hown1 _) rfl (BS.one _ _ 128 rfl _) (by rw [← HL.out]; simp; omega) (by have := hg1.size; simp at this ⊢; omega) ?_; rintro v2 w2 hown2 hg2 -))
  have hB1 : Below w.heap.size w w1 := ow_belowb ((Below.refl _ _).alloc (Nat.le_refl _) _) (OW.litb w [] _ rfl _ rfl (by unfold maxLen; decide) _ (Nat.le_refl _)) (by simp) hg1
  have hB2 : Below w.heap.size w w2 := ob_below1 _ hB1 hown1 hB1.size hg2
  clear hg1 hg2 hown1 hB1
  go_loopw [3] (fun v wr => ∃ j, j ≤ Sh.npad n ∧ OB wr w.heap.size v (l ++ [128] ++ Sh.zeros j) ∧ Below w.heap.size w wr) (fun v _ => n + 300 - slLen v)
  case atStart => exact ⟨0, by omega, by simpa [Sh.zeros] using hown2, hB2⟩
  case round =>
    obtain ⟨j, hj, hov, hbw⟩ := hrel
    have hpd : Sh.npad n = (119 - n % 64) % 64 := rfl
    have hz := hbw.size
    obtain ⟨N, hN⟩ : ∃ N, N = (l ++ [128] ++ Sh.zeros j).length := ⟨_, rfl⟩
    have hN' : N = n + 1 + j := by rw [hN, HL.out]; simp [Sh.zeros]; omega
    obtain ⟨av, cv, rfl, hcv⟩ := hov.bs.shape' N hN.symm
    have hNle : N ≤ n + 64 := by omega
    have HN := hid hN
    clear hB2 hown2
    by_cases hlt : j < Sh.npad n
    · have h56 : ((N : Int) % 64 != 56) = true := by rw [bne_iff_ne]; omega
      have HN' := hid hN'; have HP := hid hpd
      clear hN hN' hpd
      go_wp2_with (refine wpList_apb rfl (.tmp 16) (.tmp 17) rfl w.heap.size _ _ _ [0] rfl (OB.alloc hov _) rfl (BS.one _ _ 0 rfl _) (by rw [← HN.out]; simp; omega) (by simp; omega) ?_; rintro v3 w4 hown3 hg3 -; have HB4 := ob_below1 _ hbw hov hz hg3)
      go_roundw
      case rel => exact ⟨j + 1, by omega, by simpa [Sh.zeros, List.replicate_succ'] using hown3, HB4⟩
      case measure =>
        obtain ⟨a3, c3, rfl, hc3⟩ := hown3.bs.shape' (N + 1) (by rw [List.length_append, ← HN.out]; rfl)
        show n + 300 - (N + 1) < n + 300 - N
        omega
    · have h56 : ((N : Int) % 64 != 56) = false := by rw [bne_eq_false_iff_eq]; omega
      have hje : j = Sh.npad n := by omega
      have HN' := hid hN'; have HP := hid hpd; have HJ := hid hje
      clear hN hN' hpd hje
      go_wp2_with fail
      obtain ⟨wo, hwo⟩ : ∃ wo : World, wo = wr := ⟨_, rfl⟩
      rw [← hwo] at hov hbw hz
      rw [← hwo]
      clear hwo
      go_loopw [3, 5] (fun v i wr => ∃ k : Nat, k ≤ 8 ∧ i = .int .i64 (7 - (k : Int)) ∧ OB wr w.heap.size v (l ++ [128] ++ Sh.zeros (Sh.npad n) ++ (Sh.be8 n).take k) ∧ Below w.heap.size w wr) (fun _ i _ => (intOf i + 8).toNat)
      case atStart => exact ⟨0, by omega, rfl, by rw [← HJ.out]; simpa using hov, hbw⟩
      case round =>
        obtain ⟨k, hk, rfl, hok, hbk⟩ := hrel
        clear hov hbw hz
        have hz := hbk.size
        by_cases hlt : k < 8
        · have i0 : (0 : Int) ≤ 7 - k := by omega
          go_wp2_with (refine wpList_apb rfl (.tmp 27) (.tmp 34) rfl w.heap.size _ _ _ [(Sh.be8 n).getD k 0] rfl (OB.alloc hok _) rfl (BS.one _ _ _ (be8_val' n k hlt) _) (by simp [Sh.be8, Sh.zeros, Sh.npad, ← HL.out]; omega) (by simp; omega) ?_; rintro v3 w4 hown3 hg3 -; have HB4 := ob_below1 _ hbk hok hz hg3)
          go_roundw
          case rel => exact ⟨k + 1, by omega, by go_num, by rw [be8_take n k hlt, ← List.append_assoc]; exact hown3, HB4⟩
          case measure => simp [intOf]; omega
        · have hke : k = 8 := by omega
          subst hke
          go_wp2_with fail
          go_ret
          exact ⟨_, rfl, by have hf : l ++ [128] ++ Sh.zeros (Sh.npad n) ++ (Sh.be8 n).take 8 = Sh.finish l n := by rw [HL.out]; rfl
                            rw [hf] at hok; exact hok, hbk⟩
end Go.Proofs.YtgclegdgngldoaaDoor
set_option linter.unusedSimpArgs false
set_option linter.unusedVariables false
namespace Go.Proofs.YtgclegdgngldoaaDoor
open Go.RowKit

theorem ch_same (e f g : BitVec 32) : (e &&& f ^^^ ~~~e &&& g) = (g ^^^ e &&& (f ^^^ g)) := by
  apply BitVec.eq_of_getLsbD_eq
  intro i hi
  simp only [BitVec.getLsbD_xor, BitVec.getLsbD_and, BitVec.getLsbD_not, hi, decide_true, Bool.true_and]
  cases e.getLsbD i <;> cases f.getLsbD i <;> cases g.getLsbD i <;> rfl
theorem maj_same (a b c : BitVec 32) : (a &&& b ^^^ a &&& c ^^^ b &&& c) = (a &&& b ||| c &&& (a ||| b)) := by
  apply BitVec.eq_of_getLsbD_eq
  intro i hi
  simp only [BitVec.getLsbD_xor, BitVec.getLsbD_and, BitVec.getLsbD_or]
  cases a.getLsbD i <;> cases b.getLsbD i <;> cases c.getLsbD i <;> rfl
theorem OW.shape2 {w : World} {base : Nat} {v : Value} {l : List (BitVec 32)} (h : OW w base v l) (n : Nat) (hn : l.length = n) (h0 : 0 < n) : ∃ g cap, v = .slice (some ⟨g, 0, none⟩) n cap ∧ base ≤ g ∧ n ≤ cap := by
  subst hn
  rcases h.2 with ⟨h1, h2⟩ | ⟨g, cap, cur, hv, hb, hg, hc, r⟩
  · rw [h2] at h0; omega
  · exact ⟨g, cap, hv, hb, hc⟩
theorem oplus_get (s r : Sh.S8) (j : Nat) (h : j < 8) : (mixed s r j).getD j 0 = s.list.getD j 0 := by
  rw [List.getD_eq_getElem?_getD, List.getElem?_eq_getElem (by rw [mixed_len s r j (by omega)]; exact h), mixed_get s r j h]; rfl
theorem mixed_8 (s r : Sh.S8) : mixed s r 8 = (s.plus r).list := by simp [mixed, Sh.S8.list]
theorem plus_comm (s r : Sh.S8) : s.plus r = r.plus s := by simp [Sh.S8.plus, BitVec.add_comm]
theorem step_list (s : Sh.S8) (k w : BitVec 32) : (s.step k w).list = [s.h + (Sh.rr s.e 6 ^^^ Sh.rr s.e 11 ^^^ Sh.rr s.e 25) + (s.e &&& s.f ^^^ ~~~s.e &&& s.g) + k + w + ((Sh.rr s.a 2 ^^^ Sh.rr s.a 13 ^^^ Sh.rr s.a 22) + (s.a &&& s.b ^^^ s.a &&& s.c ^^^ s.b &&& s.c)), s.a, s.b, s.c, s.d + (s.h + (Sh.rr s.e 6 ^^^ Sh.rr s.e 11 ^^^ Sh.rr s.e 25) + (s.e &&& s.f ^^^ ~~~s.e &&& s.g) + k + w), s.e, s.f, s.g] := by
  rw [ch_same, maj_same]; rfl
theorem quiet_of_add {P : Program} {f : FuncId} {args : Array Value} {w : World} {m n : Nat} {v : Value}
    (h : Calls P f args (w.drewN (m + n)) fun e w' => e = .returned v ∧ w' = w.drewN (m + n)) : Calls P f args (w.drewN (m + n)) fun e w'' => e = .returned v ∧ ∃ k, w'' = w.drewN (m + k) :=
  h.mono fun _ _ ⟨he, hm⟩ => ⟨he, n, hm⟩
set_option maxRecDepth 100000 in
set_option maxHeartbeats 2000000 in
theorem rblock_any (w : World) (v0 v1 : Value) (s : Sh.S8) (l : List (BitVec 8)) (h0 : WS w v0 s.list) (h1 : BS w v1 l) (hl : l.length = 64) :
    Calls Tryd.prog 109 #[v0, v1] w fun e w' => ∃ u, e = .returned u ∧ OW w' w.heap.size u (Sh.compress s l).list ∧ Below w.heap.size w w' := by
  obtain ⟨av, cv, rfl, hcv⟩ := h0.shape' 8 rfl
  have HL := hid hl
  clear hl
  go_enter Tryd.func109, Tryd.ntmps109
  go_wp2_with (first
    | (go_at_call 117; refine (rsched_any w v1 l h1 HL.out).mono ?_; rintro e w1 ⟨us, rfl, hs1, hb1⟩; dsimp only)
    | (go_at_call 118; refine (constants_any w1).mono ?_; rintro e w2 ⟨uk, rfl, hk2, hb2⟩; dsimp only)
    | (refine wpList_apw rfl (.tmp 17) (.tmp 18) rfl w2.heap.size _ _ [] s.list rfl (OW.lit w2 [] _ rfl _ rfl (by unfold maxLen; decide) _ (Nat.le_refl _)) rfl (SV.alloc ((h0.below hb1).below hb2) _) (by simp [Sh.S8.list]) (by simp) ?_; rintro v3 w3 hown3 hg3 -))
  have hB2 : Below w.heap.size w w2 := hb1.trans (hb2.mono hb1.size)
  have hz2 := hB2.size
  have hB3 : Below w2.heap.size w2 w3 := ow_below ((Below.refl _ _).alloc (Nat.le_refl _) _) (OW.lit w2 [] _ rfl _ rfl (by unfold maxLen; decide) _ (Nat.le_refl _)) (by simp) hg3
  have hz3 := hB3.size
  have HS := hid (WS.below ((hs1.ws).below hb2) hB3)
  have HK := hid (WS.below hk2.ws hB3)
  have HB3 := hid (hB2.trans (hB3.mono hz2))
  have HW0 := hid h0
  have hz20 := hz2
  have hz30 : w.heap.size ≤ w3.heap.size := by omega
  clear hg3 hs1 hk2 hb1 hb2 hB2 hB3 h0 h1 hz2 hz3
  go_loopw [7, 8, 9, 10, 11, 12] (fun v t _ _ _ _ wr => ∃ k : Nat, k ≤ 64 ∧ t = .int .i64 k ∧ OW wr w.heap.size v (Sh.rounds s (Sh.sched l 64) k).list ∧ Below w3.heap.size w3 wr) (fun _ t _ _ _ _ _ => 64 - (intOf t).toNat)
  case atStart => exact ⟨0, by omega, rfl, hown3.mono hz20, Below.refl _ _⟩
  case round =>
    obtain ⟨k, hk, rfl, hov, hbw⟩ := hrel
    have hz := hbw.size
    obtain ⟨r, hr⟩ : ∃ r, r = Sh.rounds s (Sh.sched l 64) k := ⟨_, rfl⟩
    rw [← hr] at hov
    have HR := hid hr
    clear hr
    by_cases hlt : k < 64
    · obtain ⟨bv, ov, cv, rfl, hcv, hcl⟩ := hov.ws.open (by simp [Sh.S8.list])
      obtain ⟨bs, os, cs', rfl, hcs, hcls⟩ := (WS.below HS.out hbw).open (by intro e; have := Sh.sched_len l 64; rw [e] at this; cases this)
      obtain ⟨bk, ok, ck, rfl, hck, hclk⟩ := (WS.below HK.out hbw).open (by simp [Sh.K])
      rw [show r.list.length = 8 from rfl] at hcl hcv hov ⊢
      rw [Sh.sched_len] at hcls hcs ⊢
      rw [show Sh.K.length = 64 from rfl] at hclk hck ⊢
      have c0 : wr.cell? ⟨bv, ov, none⟩ = some (U32 r.a) := hcl 0 (by decide)
      have c1 : wr.cell? ⟨bv, ov + 1, none⟩ = some (U32 r.b) := hcl 1 (by decide)
      have c2 : wr.cell? ⟨bv, ov + 2, none⟩ = some (U32 r.c) := hcl 2 (by decide)
      have c3 : wr.cell? ⟨bv, ov + 3, none⟩ = some (U32 r.d) := hcl 3 (by decide)
      have c4 : wr.cell? ⟨bv, ov + 4, none⟩ = some (U32 r.e) := hcl 4 (by decide)
      have c5 : wr.cell? ⟨bv, ov + 5, none⟩ = some (U32 r.f) := hcl 5 (by decide)
      have c6 : wr.cell? ⟨bv, ov + 6, none⟩ = some (U32 r.g) := hcl 6 (by decide)
      have c7 : wr.cell? ⟨bv, ov + 7, none⟩ = some (U32 r.h) := hcl 7 (by decide)
      have k1 := hcls k hlt
      have k2 := hclk k hlt
      clear hcl hcls hclk
      go_wp2_with fail
      go_quiet (fail)
      go_wp
      go_quiet ((go_at_call 119; first | exact Calls.quiet_of_same (turn_any _ _ _ (by omega)) | exact quiet_of_add (turn_any _ _ _ (by omega))))
      go_wp
      go_quiet ((go_at_call 119; first | exact Calls.quiet_of_same (turn_any _ _ _ (by omega)) | exact quiet_of_add (turn_any _ _ _ (by omega))))
      go_wp2_with fail
      refine wp_region_qtail 26 (by kernel_rfl) (by kernel_rfl) ?_
      simp only [List.take_succ_cons, List.take_zero, List.drop_succ_cons, List.drop_zero]
      repeat (go_big_quiet_step (fail))
      refine wpQuiet_nil ?_
      go_wp2_with fail
      go_roundw
      case rel => 
        refine ⟨k + 1, by omega, rfl, ?_, ?_⟩
        · refine OW.lit _ _ _ ?_ _ rfl (by show 8 ≤ maxLen; unfold maxLen; decide) _ (by first | omega | (simp; omega))
          rw [Sh.rounds, ← HR.out, step_list]; rfl
        · exact (below_drewN hbw _).alloc (by simp; omega) _
      case measure => simp [intOf]; omega
    · have : k = 64 := by omega
      subst this
      go_wp2_with fail
      obtain ⟨g, cap, rfl, hbg, hcap⟩ := hov.shape2 8 rfl (by omega)
      have hbw2 : Below w.heap.size w wr := HB3.out.trans (hbw.mono hz30)
      obtain ⟨wo, hwo⟩ : ∃ wo : World, wo = wr := ⟨_, rfl⟩
      rw [← hwo] at hov hbw2
      rw [← hwo]
      clear hwo hbw hz
      go_loopw [13] (fun t wr => ∃ j : Nat, j ≤ 8 ∧ t = .int .i64 j ∧ OW wr w.heap.size (.slice (some ⟨g, 0, none⟩) 8 cap) (mixed r s j) ∧ Below w.heap.size w wr) (fun t _ => 8 - (intOf t).toNat)
      case atStart => exact ⟨0, by omega, rfl, by simpa [mixed] using hov, hbw2⟩
      case round =>
        clear hov hbw2
        obtain ⟨j, hj, rfl, hov, hbw⟩ := hrel
        have hml := mixed_len r s j hj
        by_cases hlj : j < 8
        · obtain ⟨gv, ov, cv, hgv, hcv, hcl⟩ := hov.ws.open (by intro e; rw [e] at hml; cases hml)
          rw [hml] at hgv hcl hcv
          cases hgv
          obtain ⟨b0, o0, c0, h00, hc0, hcl0⟩ := (WS.below HW0.out hbw).open (by simp [Sh.S8.list])
          obtain ⟨sj, hsj⟩ : ∃ sj, sj = s.list.getD j 0 := ⟨_, rfl⟩
          obtain ⟨rj, hrj⟩ : ∃ rj, rj = r.list.getD j 0 := ⟨_, rfl⟩
          have k1 := hcl j (by omega)
          have k2 := hcl0 j (by exact hlj)
          rw [oplus_get r s j hlj, ← hrj] at k1
          rw [← hsj] at k2
          obtain ⟨e1, e2, e3⟩ := hov.set hml j hlj (rj + sj)
          cases h00
          have hff := free_frozen e1 j
          rw [Nat.zero_add] at k1
          have HSJ := hid hsj; have HRJ := hid hrj; have HM := hid hml; have HE := hid e3
          clear hcl hcl0 hsj hrj hml hov e3
          go_wp2_with fail
          refine wp_region_qtail 12 (by kernel_rfl) (by kernel_rfl) ?_
          simp only [List.take_succ_cons, List.take_zero, List.drop_succ_cons, List.drop_zero]
          repeat (go_big_quiet_step (fail))
          refine wpQuiet_nil ?_
          go_wp2_with fail
          go_roundw
          case rel =>
            refine ⟨j + 1, by omega, by go_num, ?_, ?_⟩
            · rw [setCell_row e1, ← mixed_set r s j hlj, ← HSJ.out, ← HRJ.out]; exact OW.drewN HE.out 1
            · rw [setCell_row e1]; exact below_drewN (below_setRow' hbw hbg _) 1
          case measure => simp [intOf]; omega
        · have : j = 8 := by omega
          subst this
          go_wp2_with fail
          go_ret
          refine ⟨_, rfl, ?_, hbw⟩
          rw [Sh.compress, plus_comm, ← HR.out, ← mixed_8]
          exact hov
end Go.Proofs.YtgclegdgngldoaaDoor
set_option linter.unusedSimpArgs false
set_option linter.unusedVariables false
namespace Go.Proofs.YtgclegdgngldoaaDoor
open Go.RowKit

theorem BS.mid {w : World} {b o n cap : Nat} {l : List (BitVec 8)} (h : BS w (.slice (some ⟨b, o, none⟩) n cap) l) (hn : l.length = n) (k m c : Nat) (hk : k + m ≤ n) (hm : 0 < m) (hc : m ≤ c) (hcc : c + k ≤ cap) :
    BS w (.slice (some ⟨b, o + k, none⟩) m c) ((l.drop k).take m) := by
  subst hn
  have h1 := h.tail k (by omega) (some ⟨b, o + k, none⟩) (fun _ => rfl)
  have h2 : (l.drop k).length = l.length - k := List.length_drop
  rw [← h2] at h1
  exact h1.head m c (by omega) hc (by omega)
theorem absorb_done (s : Sh.S8) : Sh.absorb s [] = (s, []) := Sh.absorb_lt (by decide)
theorem bytes_at (s : Sh.S8) (i : Nat) (hi : i < 32) : s.bytes.getD i 0 = (s.list.getD (i / 4) 0 >>> (24 - 8 * (i % 4))).setWidth 8 := by
  rcases s with ⟨a, b, c, d, e, f, g, h⟩
  have : i = 0 ∨ i = 1 ∨ i = 2 ∨ i = 3 ∨ i = 4 ∨ i = 5 ∨ i = 6 ∨ i = 7 ∨ i = 8 ∨ i = 9 ∨ i = 10 ∨ i = 11 ∨ i = 12 ∨ i = 13 ∨ i = 14 ∨ i = 15 ∨ i = 16 ∨ i = 17 ∨ i = 18 ∨ i = 19 ∨ i = 20 ∨ i = 21 ∨ i = 22 ∨ i = 23 ∨ i = 24 ∨ i = 25 ∨ i = 26 ∨ i = 27 ∨ i = 28 ∨ i = 29 ∨ i = 30 ∨ i = 31 := by omega
  rcases this with h | h | h | h | h | h | h | h | h | h | h | h | h | h | h | h | h | h | h | h | h | h | h | h | h | h | h | h | h | h | h | h <;> subst h <;> simp [Sh.S8.bytes, Sh.S8.list, Sh.wbytes]
theorem outB_len (s : Sh.S8) (i : Nat) (hi : i ≤ 32) : (outB s i).length = 32 := by simp [outB, Sh.bytes_len]; omega
theorem outB_step (s : Sh.S8) (i : Nat) (hi : i < 32) : (outB s i).set i (s.bytes.getD i 0) = outB s (i + 1) := by
  have hl : i < s.bytes.length := by rw [Sh.bytes_len]; exact hi
  have e1 : (s.bytes.take i).length = i := by simp [Sh.bytes_len]; omega
  have e2 : (zs (32 - i) : List (BitVec 8)) = 0 :: zs (32 - (i + 1)) := by unfold zs; rw [show 32 - i = (32 - (i + 1)) + 1 by omega, List.replicate_succ]
  unfold outB
  rw [List.set_append_right _ _ (by omega), e1, Nat.sub_self, e2, List.set_cons_zero, List.take_succ_eq_append_getElem hl, List.getD_eq_getElem?_getD, List.getElem?_eq_getElem hl, List.append_assoc]
  rfl
theorem outB_zero (s : Sh.S8) : outB s 0 = zs 32 := by simp [outB]
theorem outB_all (s : Sh.S8) : outB s 32 = s.bytes := by
  have : s.bytes.take 32 = s.bytes := List.take_of_length_le (by rw [Sh.bytes_len]; exact Nat.le_refl _)
  simp [outB, zs, this]
attribute [local irreducible] outB
set_option maxRecDepth 100000 in
set_option maxHeartbeats 2000000 in
theorem rsum_any (w : World) (v : Value) (l : List (BitVec 8)) (hv : BS w v l) (hn : l.length ≤ 1073741000) :
    Calls Tryd.prog 91 #[v] w fun e w' => e = .returned (.agg (cs U8 (Sh.sum l))) ∧ Below w.heap.size w w' := by
  have hv1 : BS (w.alloc (.cells (cs U8 (zs 32)) 23)) v l := SV.alloc hv _
  go_enter Tryd.func91, Tryd.ntmps91
  go_wp2_with (first
    | (go_at_call 107; refine (padded_any _ v l hv1 hn).mono ?_; rintro e w1 ⟨up, rfl, hp1, hb1⟩; dsimp only)
    | (go_at_call 108; refine (first_any w1).mono ?_; rintro e w2 ⟨uk, rfl, hk2, hb2⟩; dsimp only))
  obtain ⟨m, hm⟩ : ∃ m, m = Sh.finish l l.length := ⟨_, rfl⟩
  obtain ⟨N, hN⟩ : ∃ N, N = m.length := ⟨_, rfl⟩
  have hNm : N % 64 = 0 := by rw [hN, hm]; exact Sh.finish_mod _ _
  have hNb : 0 < N ∧ N ≤ 1073742000 := by rw [hN, hm, Sh.finish_len]; unfold Sh.npad; omega
  have hsum : (Sh.absorb Sh.init m).1.bytes = Sh.sum l := by rw [hm]; rfl
  rw [← hm] at hp1
  obtain ⟨bp, op, cp, rfl, hcp, hcells⟩ := hp1.bs.open (by intro e; rw [e] at hN; simp at hN; omega)
  rw [← hN] at hcp hp1 ⊢
  have hB1 : Below (w.heap.size + 1) (w.alloc (Obj.cells (cs U8 (zs 32)) 23)) w1 := by simpa using hb1
  have hz1 : w.heap.size + 1 ≤ w1.heap.size := by have := hB1.size; simpa using this
  have hB2 : Below (w.heap.size + 1) (w.alloc (Obj.cells (cs U8 (zs 32)) 23)) w2 := hB1.trans (hb2.mono hz1)
  have hz2 : w.heap.size + 1 ≤ w2.heap.size := by have := hb2.size; omega
  have hP := hid (hp1.bs.below hb2)
  have HSUM := hid hsum
  have HM := hid hm
  have HN := hid hN
  have HB2 := hid hB2
  clear hcells hb1 hb2 hB1 hB2 hv hv1 hsum hm hN hp1
  go_loopw [4, 5] (fun v t wr => ∃ (j : Nat) (s : Sh.S8), 64 * j ≤ N ∧ t = .int .i64 ((64 * j : Nat) : Int) ∧ OW wr (w.heap.size + 1) v s.list ∧ Sh.absorb s (m.drop (64 * j)) = Sh.absorb Sh.init m ∧ Below w2.heap.size w2 wr) (fun _ t _ => N - (intOf t).toNat)
  case atStart => exact ⟨0, Sh.init, by omega, rfl, hk2.mono hz1, rfl, Below.refl _ _⟩
  case round =>
    obtain ⟨j, s, hj, rfl, hov, hab, hbw⟩ := hrel
    have HAB := hid hab
    have hz := hbw.size
    clear hab
    by_cases hlt : 64 * j < N
    · have hP' : BS wr (.slice (some ⟨bp, op, none⟩) N cp) m := hP.out.below hbw
      have hmid := hP'.mid HN.out.symm (64 * j) 64 (cp - 64 * j) (by omega) (by omega) (by omega) (by omega)
      have hlen : ((m.drop (64 * j)).take 64).length = 64 := by rw [List.length_take, List.length_drop, ← HN.out]; omega
      have HMID := hid hmid; have HLEN := hid hlen
      clear hP' hmid hlen
      have q0 : (0 : Int) ≤ 64 * j := by omega
      have q1 : (64 * (j : Int)) < N := by omega
      have q2 : (64 * (j : Int) + 64) ≤ cp := by omega
      go_wp
      refine (rblock_any wr _ _ s ((m.drop (64 * j)).take 64) hov.ws HMID.out HLEN.out).mono ?_
      rintro e w4 ⟨u5, rfl, h5, hb5⟩
      dsimp only
      go_wp
      go_roundw
      case rel =>
        refine ⟨j + 1, Sh.compress s ((m.drop (64 * j)).take 64), by omega, by go_num, h5.mono (by omega), ?_, hbw.trans (hb5.mono hz)⟩
        rw [← HAB.out, Sh.absorb_ge (l := m.drop (64 * j)) (by rw [List.length_drop, ← HN.out]; omega), List.drop_drop]
        rfl
      case measure => simp [intOf]; omega
    · have hje : 64 * j = N := by omega
      have q1 : ¬ (64 * (j : Int) < N) := by omega
      have hfin : s.bytes = Sh.sum l := by
        have h1 := HAB.out
        rw [List.drop_eq_nil_of_le (by rw [← HN.out]; omega), absorb_done] at h1
        rw [← HSUM.out, ← h1]
      have HF := hid hfin
      have HJ := hid hje
      have hb3 : Below (w.heap.size + 1) (w.alloc (Obj.cells (cs U8 (zs 32)) 23)) wr := HB2.out.trans (hbw.mono hz2)
      have HB3 := hid hb3
      have hz3 : w.heap.size + 1 ≤ wr.heap.size := by omega
      clear hfin hje hb3
      go_wp
      obtain ⟨wo, hwo⟩ : ∃ wo : World, wo = wr := ⟨_, rfl⟩
      rw [← hwo] at hov HB3 hz3
      rw [← hwo]
      clear hwo hbw hz hk2
      go_loopw [7] (fun t wr => ∃ i : Nat, i ≤ 32 ∧ t = .int .i64 i ∧ wr.rowOf wo.heap.size = cs U8 (outB s i) ∧ wr.free wo.heap.size = true ∧ Below wo.heap.size wo wr) (fun t _ => 32 - (intOf t).toNat)
      case atStart => exact ⟨0, by omega, rfl, by simp [go_sem, outB_zero], by simp [go_sem], (Below.refl _ _).alloc (Nat.le_refl _) _⟩
      case round =>
        obtain ⟨i, hi, rfl, hrow, hfr, hbw⟩ := hrel
        by_cases hli : i < 32
        · obtain ⟨gv, ov, cv, rfl, hcv, hcl⟩ := (WS.below hov.ws hbw).open (by simp [Sh.S8.list])
          have c1 := hcl (i / 4) (by show _ < 8; omega)
          have hrs : (wr.rowOf wo.heap.size).size = 32 := by rw [hrow]; simp [outB_len s i hi]
          have HROW := hid hrow
          have a0 : (0 : Int) ≤ i := by omega
          have a1 : (i : Int) < 32 := by omega
          have a2 : (i : Int) / 4 < 8 := by omega
          have a3 : (0 : Int) ≤ 24 - 8 * ((i : Int) % 4) := by omega
          have a4 : 8 * ((i : Int) % 4) ≤ 24 := by omega
          rw [show s.list.length = 8 from rfl] at hov ⊢
          clear hcl hrow
          go_wp2_with fail
          go_roundw
          case rel =>
            refine ⟨i + 1, by omega, by go_num, ?_, ?_, ?_⟩
            · rw [rowOf_setRow_same _ hfr, HROW.out]
              have hb := bytes_at s i hli
              rw [List.getD_eq_getElem?_getD (l := s.list)] at hb
              refine Eq.trans (congrArg (fun z => (cs U8 (outB s i)).setIfInBounds i (U8 z)) hb.symm) ?_
              rw [cs_set8, outB_step s i hli]
            · rw [free_setRow]; exact hfr
            · exact below_setRow' hbw (Nat.le_refl _) _
          case measure => simp [intOf]; omega
        · have : i = 32 := by omega
          subst this
          have hb4 : Below (w.heap.size + 1) (w.alloc (Obj.cells (cs U8 (zs 32)) 23)) wr := HB3.out.trans (hbw.mono hz3)
          have r0 : wr.rowOf w.heap.size = cs U8 (zs 32) := by rw [below_row hb4 (by omega)]; simp [go_sem]
          have f0 : wr.free w.heap.size = true := by rw [below_free hb4 (by omega)]; simp [go_sem]
          have s0 : (wr.rowOf w.heap.size).size = 32 := by rw [r0]; simp [zs]
          have s1 : (wr.rowOf wo.heap.size).size = 32 := by rw [hrow]; simp [outB_len s 32 (by omega)]
          have hro : wr.rowOf wo.heap.size = cs U8 (Sh.sum l) := by rw [hrow, outB_all, HF.out]
          have HB4 := hid hb4
          have HSL : Hid ((Sh.sum l).length = 32) := hid (by rw [← HF.out]; rfl)
          have ho1 : ones (wr.rowOf wo.heap.size) = true := by rw [hro]; simp [go_sem]
          have HRO := hid hro
          clear r0 hrow hb4 hro
          go_wp2_with fail
          refine bodyPost_ret (res_row (b := w.heap.size) rfl Tryd.underlying23 rfl inf_key _ _ rfl ?_) rfl ?_
          · rw [rowOf_setRow_same _ f0, HRO.out, cs_size]; exact HSL.out
          · rw [rowOf_setRow_same _ f0, HRO.out]
            refine ⟨rfl, ?_⟩
            refine Below.trans ((Below.refl _ _).alloc (Nat.le_refl _) _) (below_setRow' (HB4.out.mono (by omega)) (Nat.le_refl _) _)
end Go.Proofs.YtgclegdgngldoaaDoor

set_option linter.unusedSimpArgs false
set_option linter.unusedVariables false
namespace Go.Proofs.YtgclegdgngldoaaDoor
open Go.RowKit

theorem append_dich {P : Program} (w : World) (base : Nat) (t ty e : TypeId) (i : TypeInfo) (z : Value) (size bytes : Nat) (ht : P.underlying t = some (.slice e)) (hi : P.info? e = some i) (hz : i.zero = some z)
    (hsize : i.size = size) (hby : i.bytes = bytes) (hzs : z.cells.size = size) (hsz : 0 < size)
    (v : Value) (n : Nat) (xs : List Value) (hown : w.ownsRow base e size v n xs)
    (a : Addr) (m c : Nat) (news : List Value) (hl : news.length = m * size) (hnews : ∀ j u, news[j]? = some u → w.cell? (a.add j) = some u) (h1 : ∀ u ∈ news, u.oneCell' = true)
    (h63 : n + m ≤ maxLen) (hbytes : (n + m) * bytes ≤ 140737488355328) (v' : Value) (w' : World)
    (hrun : (Builtin.append_ #[t, t] ty #[v, .slice (some a) m c]).run P w = .ok v' w') : v'.ownBlock = v.ownBlock ∨ v'.ownBlock = some w.heap.size := by
  subst hsize
  subst hby
  have hsmall : n + m ≤ 9223372036854775807 := by simp only [maxLen] at h63; omega
  rcases hown.2 with ⟨rfl, rfl⟩ | ⟨g, cap, cur, rfl, hbg, hg, hnc, hcm, hcs, htake⟩
  · by_cases hm : m = 0
    · subst hm
      have hn : news = [] := List.eq_nil_of_length_eq_zero (by simpa using hl)
      subst hn
      have hr : (Builtin.append_ #[t, t] ty #[.slice none 0 0, .slice (some a) 0 c]).run P w = .ok (.slice none 0 0) w := by
        simp [Builtin.append_, run_underlying ht, sizeOf, typeInfo, hi, Builtin.lenOf, Builtin.firstCells, loadCells, loadCellsFrom]
      rw [hr] at hrun
      injection hrun with e1 e2
      subst e1; exact .inl rfl
    · have hr := run_append_nil (P := P) w t ty e i z ht hi hz a m c news hl hnews (by omega) (by omega) (by have hb := hbytes; simp only [Nat.zero_add] at hb; omega)
      rw [hr] at hrun
      injection hrun with e1 e2
      subst e1; exact .inr rfl
  · by_cases hroom : n + m ≤ cap
    · have hfit : n * i.size + news.length ≤ cur.size := by rw [hl, hcs, ← Nat.add_mul]; exact Nat.mul_le_mul_right _ hroom
      have hr := run_append_room (P := P) w t ty e i ht hi g n cap cur hg a m c news hl hnews h1 hroom hfit
      rw [hr] at hrun
      injection hrun with e1 e2
      subst e1; exact .inl rfl
    · have holds : ∀ j u, xs[j]? = some u → w.cell? ((⟨g, 0, none⟩ : Addr).add j) = some u := hown.cells (g := g) rfl
      have hr := run_append_grow (P := P) w t ty e i z ht hi hz ⟨g, 0, none⟩ n cap xs hown.1 holds a m c news hl hnews (by omega) (by omega) (growslice_fits (by omega) hbytes)
      rw [hr] at hrun
      injection hrun with e1 e2
      subst e1; exact .inr rfl
/-- append, and which block its outcome lies in -/
theorem wp_apd {P : Program} {w : World} {K : Act → World → Prop} {o : Oper} {a : Act} {Q : Exit → Act → World → Prop} (s x : Operand) (t : TypeId)
    (ho : o.op = .call { callee := .builtin .append, args := #[s, x], argTypes := #[t, t] })
    (base : Nat) (e : TypeId) (z : Value) (size bytes : Nat) (ht : P.underlying t = some (.slice e)) (hi : (P.info? e).map (fun i => (i.zero, i.size, i.bytes)) = some (some z, size, bytes))
    (hzs : z.cells.size = size) (hsz : 0 < size)
    (v u : Value) (n m : Nat) (xs ys : List Value) (hs : a.eval s = v) (hown : w.ownsRow base e size v n xs) (hx : a.eval x = u) (hu : SV w u m ys) (hl : ys.length = m * size) (h1 : ∀ u ∈ ys, u.oneCell' = true)
    (h63 : n + m ≤ maxLen) (hbytes : (n + m) * bytes ≤ 140737488355328) (hbase : base ≤ w.heap.size)
    (h : ∀ v' w', w'.ownsRow base e size v' (n + m) (xs ++ ys) → w.grownBy w' v.ownBlock → (v'.ownBlock = v.ownBlock ∨ v'.ownBlock = some w.heap.size) → K (a.put o.dst v') w') : o.wp P a w K Q := by
  obtain ⟨i, hi0, hz0, hz1, hz2⟩ := info_parts hi
  obtain ⟨ad, cap, rfl, h2, h3, h4⟩ := hu
  cases ad with
  | some ad =>
    have hnews : ∀ j y, ys[j]? = some y → w.cell? (ad.add j) = some y := by
      intro j y hj
      have hlt : j < ys.length := (List.getElem?_eq_some_iff.1 hj).1
      obtain ⟨b, o', e1, h5⟩ := h4 (by intro e; rw [e] at hlt; simp at hlt)
      injection e1 with e1
      subst e1
      rw [Addr.add_mid, h5 j hlt, hj]
    obtain ⟨v', w', hr, k2, k3, k4⟩ := run_append_own (P := P) w base t o.type e i z size bytes ht hi0 hz0 hz1 hz2 hzs hsz v n xs hown ad m cap ys hl hnews h1 h63 hbytes hbase
    have hd := append_dich w base t o.type e i z size bytes ht hi0 hz0 hz1 hz2 hzs hsz v n xs hown ad m cap ys hl hnews h1 h63 hbytes v' w' hr
    have h5 := h v' w' k2 k3 hd
    unfold Oper.wp execOp
    simp only [ho, resolve, invoke, builtin, Sem.run_bind, Sem.run_pure, Result.andThen_ok, List.map_toArray, List.map_cons, List.map_nil, hs, hx, hr]
    exact h5
  | none =>
    have hy : ys = [] := by
      apply Classical.byContradiction
      intro hne
      obtain ⟨b, o', e1, _⟩ := h4 hne
      cases e1
    subst hy
    have hm : m = 0 := by
      rcases Nat.mul_eq_zero.1 (show m * size = 0 from hl.symm) with h | h
      · exact h
      · omega
    subst hm
    have hsame : ∃ w', (Builtin.append_ #[t, t] o.type #[v, .slice none 0 cap]).run P w = .ok v w' ∧ w' = w := by
      refine ⟨w, ?_, rfl⟩
      rcases hown.2 with ⟨rfl, rfl⟩ | ⟨g, cap', cur, rfl, _, _, hnc, _⟩
      · simp [Builtin.append_, run_underlying ht, sizeOf, typeInfo, hi0, Builtin.lenOf, Builtin.firstCells]
      · simp [Builtin.append_, run_underlying ht, sizeOf, typeInfo, hi0, Builtin.lenOf, Builtin.firstCells, hnc, storeCells]
    obtain ⟨w', hrun, rfl⟩ := hsame
    have h5 := h v w' (by simpa using hown) (gb_refl _ _) (.inl rfl)
    unfold Oper.wp
    simp [execOp, ho, resolve, invoke, builtin, hs, hx, hrun, Result.andThen]
    exact h5
theorem wpList_apbd {w : World} {ops : Array Oper} {rest : List Oper} {o : Oper} {a : Act} {Q : Exit → Act → World → Prop} (hgd : o.guard = none) (s x : Operand)
    (ho : o.op = .call { callee := .builtin .append, args := #[s, x], argTypes := #[89, 89] })
    (base : Nat) (v u : Value) (l m : List (BitVec 8)) (hs : a.eval s = v) (hown : OB w base v l) (hx : a.eval x = u) (hu : BS w u m)
    (hlen : l.length + m.length ≤ 140737488355328) (hbase : base ≤ w.heap.size)
    (h : ∀ v' w', OB w' base v' (l ++ m) → w.grownBy w' v.ownBlock → (v'.ownBlock = v.ownBlock ∨ v'.ownBlock = some w.heap.size) → wpList Tryd.prog ops Q rest (a.put o.dst v') w') : wpList Tryd.prog ops Q (o :: rest) a w := by
  refine wpList_plain hgd fun K hK => wp_apd s x 89 ho base 5 (.int .u8 0) 1 1 Tryd.underlying89 info_u8 rfl (by decide) v u l.length m.length (l.map U8) (m.map U8) hs hown hx hu (by simp) (by simp; intro _ _; rfl) (by unfold maxLen; omega) (by omega) hbase ?_
  intro v' w' h1 h2 h3
  exact hK _ _ (h v' w' (by unfold OB; simpa using h1) h2 h3)
end Go.Proofs.YtgclegdgngldoaaDoor

set_option linter.unusedSimpArgs false
set_option linter.unusedVariables false
namespace Go.Proofs.YtgclegdgngldoaaDoor
open Go.RowKit

end Go.Proofs.YtgclegdgngldoaaDoor
set_option linter.unusedSimpArgs false
set_option linter.unusedVariables false
namespace Go.Proofs.YtgclegdgngldoaaDoor
open Go.RowKit

end Go.Proofs.YtgclegdgngldoaaDoor
set_option linter.unusedSimpArgs false
set_option linter.unusedVariables false
namespace Go.Proofs.YtgclegdgngldoaaDoor
open Go.RowKit

theorem OB.shape2 {w : World} {base : Nat} {v : Value} {l : List (BitVec 8)} (h : OB w base v l) (n : Nat) (hn : l.length = n) (h0 : 0 < n) : ∃ g cap, v = .slice (some ⟨g, 0, none⟩) n cap ∧ base ≤ g ∧ n ≤ cap := by
  subst hn
  rcases h.2 with ⟨h1, h2⟩ | ⟨g, cap, cur, hv, hb, hg, hc, r⟩
  · rw [h2] at h0; omega
  · exact ⟨g, cap, hv, hb, hc⟩
end Go.Proofs.YtgclegdgngldoaaDoor
set_option linter.unusedSimpArgs false
set_option linter.unusedVariables false
namespace Go.Proofs.YtgclegdgngldoaaDoor
open Go.RowKit

end Go.Proofs.YtgclegdgngldoaaDoor

set_option linter.unusedSimpArgs false
set_option linter.unusedVariables false
namespace Go.Proofs.YtgclegdgngldoaaDoor
open Go.RowKit
section
variable {P : Program} {Q : Exit → Act → World → Prop}
end
section
variable {P : Program} {ops : Array Oper} {Q : Exit → Act → World → Prop} {i : Nat} {t : Tr} {a : Act} {o : Oper} {S : Nat → Prop} {w0 w : World} {H : List (Nat × Array Value)}
end
end Go.Proofs.YtgclegdgngldoaaDoor
set_option linter.unusedSimpArgs false
set_option linter.unusedVariables false
namespace Go.Proofs.YtgclegdgngldoaaDoor
open Go.RowKit
section
variable {P : Program} {ops : Array Oper} {Q : Exit → Act → World → Prop} {md : Region.Mode} {J : World → Prop}
theorem wpTJ_all (a : Act) (w : World) : ∀ (l : List Tr), wpTJ P ops Q J (Tr.all l) a w → ∀ t ∈ l, wpTJ P ops Q J t a w
  | [], _, t, ht => by cases ht
  | [x], h, t, ht => by rw [List.mem_singleton] at ht; subst ht; exact h
  | x :: y :: r, h, t, ht => by
    have h' : wpTJ P ops Q J x a w ∧ wpTJ P ops Q J (Tr.all (y :: r)) a w := h
    rcases List.mem_cons.1 ht with e | e
    · subst e; exact h'.1
    · exact wpTJ_all a w (y :: r) h'.2 t e
theorem wpAnyJ_tree : ∀ (f : Nat) (listed : Array Bool) (a : Act) (w : World), wpTJ P ops Q J (mkT md ops f listed) a w → wpAnyJ P md ops Q J f listed a w
  | 0, listed, a, w, h => by
    unfold mkT at h
    unfold wpAnyJ
    by_cases e : Region.ready md ops listed = []
    · rw [if_pos e] at h; exact ⟨h.1, e, h.2⟩
    · rw [if_neg e] at h; exact h.elim
  | f + 1, listed, a, w, h => by
    have hJ := wpTJ.at_ _ h
    unfold mkT at h
    unfold wpAnyJ
    refine ⟨hJ, fun e => by rw [e] at h; exact h.2, fun i hi => ?_⟩
    have h2 := wpTJ_all a w _ h (.op i (mkT md ops f (listed.setIfInBounds i true))) (List.mem_map.2 ⟨i, hi, rfl⟩)
    exact wpOp_mono (fun a' w' h' => wpAnyJ_tree f _ a' w' h') h2.2
theorem wp_region_J {id : Nat} {a : Act} {w : World} {l : List Oper} (J : World → Prop) (ps : List Nat) (t : Tr) (hm : P.follows .mixedOrders = true)
    (hc : (Region.noSelect l.toArray && chkY .any l.toArray ps (Array.replicate l.length false) && decide (ps.length ≤ l.length)) = true)
    (ht : mkT .any l.toArray (l.length - ps.length) (setY ps (Array.replicate l.length false)) = t)
    (hQ : ∀ d v c a w, Q (.panic c) (a.put d v) w → Q (.panic c) a w)
    (h : wpYJ P l.toArray J ps (fun a' => wpTJ P l.toArray Q J t a' w.drew) a) : (Code.region id l.toArray true).wp P Q a w := by
  simp only [Bool.and_eq_true, decide_eq_true_eq] at hc
  refine wp_region_any hm ?_
  have h2 := wpAny_YJ (md := .any) (w := w.drew) hc.1.1 hQ ps (l.length - ps.length) (Array.replicate l.length false) a hc.1.2
    (wpYJ_mono (fun a' h' => wpAnyJ_tree _ _ _ _ (by rw [ht]; exact h')) ps a h)
  rw [Nat.sub_add_cancel hc.2] at h2
  exact h2.drop
/-! the steps -/
variable {i : Nat} {t : Tr} {a : Act} {o : Oper} {S : Nat → Prop} {w0 w : World} {H : List (Nat × Array Value)}
theorem wpYJL_op {l : List Oper} {r : List Nat} {K : Act → Prop} (v : Value) (ho : lget l i = some o) (hw : Region.wanted o (yielded l.toArray a.tmps) = true) (hrun : ∀ w, J w → (execOp a.eval o).run P w = .ok (.value v) w) (h : wpYJ P l.toArray J r K (a.put o.dst v)) : wpYJ P l.toArray J (i :: r) K a :=
  wpYJ_op v (by rw [lget_eq] at ho; simpa using ho) hw hrun h
/-- a whole row is read -/
theorem wpYJ_ld {r : List Nat} {K : Act → Prop} {T : TypeId} {p : Operand} {n : Nat} {d : TypeDesc} (hu : P.underlying T = some d) (hd : d.isRow = true) (hi : (P.info? T).map (·.size) = some n) (b : Nat) (C : Array Value) (ho : ops[i]? = some o) (hop : o.op = .load T p)
    (hp : a.eval p = .pointer (some ⟨b, 0, none⟩)) (hI : ∀ w, J w → w.rowOf b = C) (hC : C.size = n) (hw : Region.wanted o (yielded ops a.tmps) = true)
    (h : wpYJ P ops J r K (a.put o.dst (.agg C))) : wpYJ P ops J (i :: r) K a :=
  wpYJ_op (.agg C) ho hw (fun w hiw => by
    obtain ⟨dst, op, ty, pos, after, guard⟩ := o
    subst hop
    have e := hI w hiw
    rw [x_load, hp, x_load0 w hu hd hi b (by rw [e]; exact hC), e]) h
theorem wpYJd_ld {l : List Oper} {r : List Nat} {K : Act → Prop} {T : TypeId} {p : Operand} {n : Nat} {d : TypeDesc} (dst : Nat) (hu : P.underlying T = some d) (hd : d.isRow = true) (hi : (P.info? T).map (·.size) = some n) (b : Nat) (C : Array Value) (hdst : o.dst = some dst) (ho : lget l i = some o) (hop : o.op = .load T p)
    (hp : a.eval p = .pointer (some ⟨b, 0, none⟩)) (hI : ∀ w, J w → w.rowOf b = C) (hC : C.size = n) (hw : Region.wanted o (yielded l.toArray a.tmps) = true)
    (h : wpYJ P l.toArray J r K (a.put (some dst) (.agg C))) : wpYJ P l.toArray J (i :: r) K a :=
  wpYJ_ld (ops := l.toArray) hu hd hi b C (by rw [lget_eq] at ho; simpa using ho) hop hp hI hC hw (by rw [hdst]; exact h)
theorem wpTJ_val {w' : World} {v : Value} (hJ : J w) (ho : ops[i]? = some o) (hw : Region.wanted o (yielded ops a.tmps) = true) (hrun : (execOp a.eval o).run P w = .ok (.value v) w') (h : wpTJ P ops Q J t (a.put o.dst v) w') : wpTJ P ops Q J (.op i t) a w := by
  refine ⟨hJ, ?_⟩
  unfold wpOp
  rw [ho]
  simp only [hw, if_true]
  refine .inl ?_
  unfold Oper.wp
  rw [hrun]
  exact h
theorem wpTJ_run {w' : World} (hJ : J w) (ho : ops[i]? = some o) (hw : Region.wanted o (yielded ops a.tmps) = true) (hrun : (execOp a.eval o).run P w = .ok .skip w') (h : wpTJ P ops Q J t (a.put o.dst undef) w') : wpTJ P ops Q J (.op i t) a w := by
  refine ⟨hJ, ?_⟩
  unfold wpOp
  rw [ho]
  simp only [hw, if_true]
  refine .inl ?_
  unfold Oper.wp
  rw [hrun]
  exact h
theorem wpTJ_new {T : TypeId} {z : Value} (hJ : J w) (M : Mm S w0 H w) (hz : ((P.info? T).bind (·.zero)) = some z) (hT : T ≠ 5) (ho : ops[i]? = some o) (hop : o.op = .alloc T) (hw : Region.wanted o (yielded ops a.tmps) = true)
    (h : ∀ b w', Mm S w0 ((b, z.cells) :: H) w' → wpTJ P ops Q J t (a.put o.dst (.pointer (some ⟨b, 0, none⟩))) w') : wpTJ P ops Q J (.op i t) a w :=
  wpTJ_val (w' := w.alloc (.cells z.cells T)) hJ ho hw (by
    obtain ⟨dst, op, ty, pos, after, guard⟩ := o
    subst hop
    rw [x_alloc, x_alloc0 w hz]) (h _ _ (M.alloc _ T hT))
theorem wpTJ_st0 {T : TypeId} {p x : Operand} {n : Nat} {b : Nat} {C : Array Value} (hJ : J w) (M : Mm S w0 H w) (k : Nat) (C' : Array Value) (hi : (P.info? T).map (·.size) = some n) (hk : H[k]? = some (b, C)) (ho : ops[i]? = some o) (hop : o.op = .store T p x) (hd : o.dst = none)
    (hp : a.eval p = .pointer (some ⟨b, 0, none⟩)) (hx : a.eval x = .agg C') (hC : C.size = n) (hC' : C'.size = n) (h1 : ones C' = true) (hw : Region.wanted o (yielded ops a.tmps) = true)
    (h : ∀ w', Mm S w0 (H.set k (b, C')) w' → wpTJ P ops Q J t a w') : wpTJ P ops Q J (.op i t) a w := by
  have hm := List.mem_of_getElem? hk
  refine wpTJ_run (w' := w.setRow b C') hJ ho hw ?_ ?_
  · obtain ⟨dst, op, ty, pos, after, guard⟩ := o
    subst hop
    rw [x_store, hp, hx, x_store0 w hi b C' hC' (by rw [M.row hm]; exact hC) (M.free hm) (ones_all h1)]
  · rw [hd]; exact h _ (M.set k C' hk)
end
end Go.Proofs.YtgclegdgngldoaaDoor

/-
  Primes, Fermat's little theorem and Pocklington's test, in plain Lean; own work.
  The field of 2^255 - 19 numbers, Edwards curves over it, and the ladder; own work.
  Numbers as digits to the base 256 and as four parts of 64 bits, and what is left of them modulo 2^255 - 19: plain Lean; own work.
  What the loops of package fe leave, part by part: plain Lean; own work.
  Products, part by part: plain Lean; own work.
  The reference's digits, carried: plain Lean; own work.
  The reference's comparison with p, and the difference: plain Lean; own work.
  The reference's sums, differences and products of digits: plain Lean; own work.
  The ladder over an Edwards curve; own work.
  X25519 in plain Lean: the ladder, that two secrets may change places, and that what is shared is not nought; own work.
-/
set_option linter.unusedVariables false
namespace Go.Proofs.YtgclegdgngldoaaDoor.Fp
end Go.Proofs.YtgclegdgngldoaaDoor.Fp
set_option linter.unusedVariables false
namespace Go.Proofs.YtgclegdgngldoaaDoor.Fp
section
variable {D : F}
variable (hD : NS D)
end
end Go.Proofs.YtgclegdgngldoaaDoor.Fp
set_option linter.unusedVariables false
namespace Go.Proofs.YtgclegdgngldoaaDoor.Fp
theorem kbN_leN : ∀ l : List B8, kbN l.length (leN l) = l
  | [] => rfl
  | x :: r => by
    have hx := x.isLt
    rw [List.length_cons, kbN, leN_cons]
    have e : (x.toNat + 256 * leN r) / 256 = leN r := by omega
    rw [e, kbN_leN r]
    congr 1
    apply BitVec.eq_of_toNat_eq
    rw [BitVec.toNat_ofNat]; omega
theorem kb_leN {l : List B8} (h : l.length = 32) : kb (leN l) = l := by
  have := kbN_leN l
  rw [h] at this; exact this
theorem cn_eq {a b : Nat} (h : a % P = b % P) : cn a = cn b := by unfold cn; rw [h]
end Go.Proofs.YtgclegdgngldoaaDoor.Fp
set_option linter.unusedVariables false
namespace Go.Proofs.YtgclegdgngldoaaDoor.Fp
end Go.Proofs.YtgclegdgngldoaaDoor.Fp
set_option linter.unusedVariables false
namespace Go.Proofs.YtgclegdgngldoaaDoor.Fp
end Go.Proofs.YtgclegdgngldoaaDoor.Fp
set_option linter.unusedVariables false
namespace Go.Proofs.YtgclegdgngldoaaDoor.Fp
theorem vd_app : ∀ (l m : List Nat), vd (l ++ m) = vd l + 256 ^ l.length * vd m
  | [], m => by simp [vd]
  | x :: r, m => by
    simp only [List.cons_append, vd, vd_app r m, List.length_cons, Nat.pow_succ, Nat.mul_add, Nat.mul_comm (256 ^ r.length) 256, Nat.mul_assoc]; omega
theorem vd_set : ∀ (l : List Nat) (k x : Nat), k < l.length → vd (l.set k x) + 256 ^ k * l.getD k 0 = vd l + 256 ^ k * x
  | [], k, x, h => by simp at h
  | y :: r, 0, x, _ => by simp [vd]; omega
  | y :: r, k + 1, x, h => by
    have := vd_set r k x (by simpa using h)
    have e := congrArg (256 * ·) this
    simp only [Nat.mul_add, ← Nat.mul_assoc] at e
    simp only [List.set_cons_succ, vd, Nat.pow_succ, Nat.mul_comm (256 ^ k) 256]
    have e2 : (y :: r).getD (k + 1) 0 = r.getD k 0 := rfl
    rw [e2]
    omega
theorem getD_take_succ {l : List Nat} {i : Nat} (h : i < l.length) : l.take (i + 1) = l.take i ++ [l.getD i 0] := by
  rw [List.take_succ_eq_append_getElem h, List.getD_eq_getElem?_getD, List.getElem?_eq_getElem h]; rfl
theorem vd_take_succ {l : List Nat} {i : Nat} (h : i < l.length) : vd (l.take (i + 1)) = vd (l.take i) + 256 ^ i * l.getD i 0 := by
  rw [getD_take_succ h, vd_app, List.length_take, Nat.min_eq_left (by omega)]
  simp [vd]
theorem spL_len (l : List Nat) (i : Nat) : (spL l i).length = i := by simp [spL]
theorem spL_zero (l : List Nat) : spL l 0 = [] := rfl
theorem spL_succ (l : List Nat) (i : Nat) : spL l (i + 1) = spL l i ++ [(l.getD i 0 + spC l i) % 256] := by simp [spL, List.range_succ]
theorem spL_lt (l : List Nat) (i : Nat) : ∀ x ∈ spL l i, x < 256 := by
  intro x hx
  simp only [spL, List.mem_map] at hx
  obtain ⟨j, _, rfl⟩ := hx
  exact Nat.mod_lt _ (by decide)
theorem spL_vd (l : List Nat) : ∀ i, i ≤ l.length → vd (spL l i) + 256 ^ i * spC l i = vd (l.take i)
  | 0, _ => by simp [spL, spC, vd]
  | i + 1, h => by
    have ih := spL_vd l i (by omega)
    rw [spL_succ, vd_app, spL_len, vd_take_succ (by omega), ← ih]
    simp only [vd, Nat.mul_zero, Nat.add_zero, spC, Nat.pow_succ]
    have := Nat.mod_add_div (l.getD i 0 + spC l i) 256
    have e := congrArg (256 ^ i * ·) this
    simp only [Nat.mul_add, ← Nat.mul_assoc] at e
    omega
theorem getD_le {l : List Nat} {C : Nat} (h : ∀ x ∈ l, x ≤ C) (i : Nat) : l.getD i 0 ≤ C := by
  rw [List.getD_eq_getElem?_getD]
  cases e : l[i]? with
  | none => simp
  | some y => exact h y (List.mem_of_getElem? e)
theorem spC_le {l : List Nat} {C : Nat} (h : ∀ x ∈ l, x ≤ C) : ∀ i, spC l i ≤ C / 128
  | 0 => Nat.zero_le _
  | i + 1 => by
    have h1 := getD_le h i
    have h2 := spC_le h i
    simp only [spC]
    omega
theorem spr_len (l : List Nat) : (spr l).length = l.length + 1 := by simp [spr, spL_len]
theorem spr_le {l : List Nat} {C : Nat} (h : ∀ x ∈ l, x ≤ C) (hC : 32768 ≤ C) : ∀ x ∈ spr l, x ≤ C / 128 := by
  intro x hx
  rcases List.mem_append.1 hx with e | e
  · have := spL_lt _ _ x e; omega
  · rw [List.mem_singleton] at e; subst e; exact spC_le h _
theorem fL_len (d : List Nat) : ∀ i, (fL d i).length = 32
  | 0 => by simp [fL]
  | i + 1 => by simp only [fL]; split <;> simp [fL_len d i]
theorem vd_zeros : ∀ n, vd (List.replicate n 0) = 0
  | 0 => rfl
  | n + 1 => by simp [List.replicate_succ, vd, vd_zeros n]
theorem fL_low (d : List Nat) : ∀ i, i ≤ 32 → i ≤ d.length → vd (fL d i) = vd (d.take i)
  | 0, _, _ => by simp [fL]; rfl
  | i + 1, h, hd => by
    have ih := fL_low d i (by omega) (by omega)
    simp only [fL, show i < 32 by omega, if_true]
    have h1 := vd_set (fL d i) i ((fL d i).getD i 0 + d.getD i 0) (by rw [fL_len]; omega)
    rw [Nat.mul_add] at h1
    rw [vd_take_succ (by omega), ← ih]
    omega
theorem fL_mod (d : List Nat) : ∀ i, i ≤ 64 → i ≤ d.length → vd (fL d i) % P = vd (d.take i) % P
  | 0, _, _ => by rw [fL_low d 0 (by omega) (by omega)]
  | i + 1, h, hd => by
    by_cases hi : i < 32
    · rw [fL_low d (i + 1) (by omega) hd]
    · have ih := fL_mod d i (by omega) (by omega)
      simp only [fL, hi, if_false]
      have h1 := vd_set (fL d i) (i - 32) ((fL d i).getD (i - 32) 0 + 38 * d.getD i 0) (by rw [fL_len]; omega)
      rw [Nat.mul_add] at h1
      have h2 : vd ((fL d i).set (i - 32) ((fL d i).getD (i - 32) 0 + 38 * d.getD i 0)) = vd (fL d i) + 38 * (256 ^ (i - 32) * d.getD i 0) := by
        have e : 256 ^ (i - 32) * (38 * d.getD i 0) = 38 * (256 ^ (i - 32) * d.getD i 0) := by simp only [Nat.mul_left_comm]
        omega
      rw [h2, fold_mod, vd_take_succ (by omega)]
      have e2 : 256 ^ i * d.getD i 0 = M256 * (256 ^ (i - 32) * d.getD i 0) := by
        rw [← Nat.mul_assoc, ← pow32, ← Nat.pow_add]
        congr 2; omega
      rw [e2, Nat.add_mod, ih, ← Nat.add_mod]
theorem fL_le {d : List Nat} {C : Nat} (h : ∀ x ∈ d, x ≤ C) : ∀ i, ∀ x ∈ fL d i, x ≤ i * (38 * C)
  | 0, x, hx => by rw [List.eq_of_mem_replicate hx]; omega
  | i + 1, x, hx => by
    have ih := fL_le h i
    have hd := getD_le h i
    have e : (i + 1) * (38 * C) = i * (38 * C) + 38 * C := by rw [Nat.add_mul, Nat.one_mul]
    simp only [fL] at hx
    split at hx
    · rcases List.mem_or_eq_of_mem_set hx with e1 | e1
      · have := ih x e1; omega
      · have := getD_le ih i; omega
    · rcases List.mem_or_eq_of_mem_set hx with e1 | e1
      · have := ih x e1; omega
      · have := getD_le ih (i - 32); omega
theorem rd_len (d : List Nat) : (rd d).length = 33 := by unfold rd; rw [spr_len, fL_len]
theorem rd_le {d : List Nat} {C : Nat} (h : ∀ x ∈ d, x ≤ C) (hl : d.length ≤ 64) (hC : 32768 ≤ C) : ∀ x ∈ rd d, x ≤ 32 * C := by
  intro x hx
  have h1 := fL_le h d.length
  have h2 : ∀ x ∈ fL d d.length, x ≤ 64 * (38 * C) := fun x hx => Nat.le_trans (h1 x hx) (Nat.mul_le_mul_right _ hl)
  have := spr_le h2 (by omega) x hx
  omega
theorem rdn_le {l : List Nat} (h : ∀ x ∈ l, x ≤ 2147483648) (hl : l.length ≤ 64) : ∀ n, (rdn l n).length ≤ 64 ∧ ∀ x ∈ rdn l n, x ≤ 32 ^ n * 2147483648
  | 0 => ⟨hl, by simpa [rdn] using h⟩
  | n + 1 => by
    obtain ⟨h1, h2⟩ := rdn_le h hl n
    refine ⟨by simp only [rdn]; rw [rd_len]; decide, fun x hx => ?_⟩
    have h3 : 1 ≤ 32 ^ n := Nat.one_le_pow _ _ (by decide)
    have := rd_le h2 h1 (by omega) x hx
    rw [Nat.pow_succ]; omega
theorem vd_lt256 : ∀ l : List Nat, (∀ x ∈ l, x < 256) → vd l < 256 ^ l.length
  | [], _ => by simp [vd]
  | x :: r, h => by
    have := vd_lt256 r (fun y hy => h y (List.mem_cons_of_mem _ hy))
    have hx := h x (by simp)
    rw [List.length_cons, Nat.pow_succ]
    simp only [vd]; omega
theorem leN_map : ∀ l : List Nat, (∀ x ∈ l, x < 256) → leN (l.map (BitVec.ofNat 8)) = vd l
  | [], _ => rfl
  | x :: r, h => by
    have := leN_map r (fun y hy => h y (List.mem_cons_of_mem _ hy))
    have hx := h x (by simp)
    rw [List.map_cons, leN_cons, this, BitVec.toNat_ofNat, Nat.mod_eq_of_lt hx]; rfl
/-- a round's outcome: what it is worth, in digits -/
theorem rd_parts (d : List Nat) : (rd d).take 32 = spL (fL d d.length) 32 ∧ (rd d).getD 32 0 = spC (fL d d.length) 32 ∧ vd (spL (fL d d.length) 32) + M256 * spC (fL d d.length) 32 = vd (fL d d.length) := by
  have h := fL_len d d.length
  have e : rd d = spL (fL d d.length) 32 ++ [spC (fL d d.length) 32] := by unfold rd spr; rw [h]
  refine ⟨by rw [e, List.take_left' (spL_len _ _)], ?_, ?_⟩
  · rw [e, List.getD_eq_getElem?_getD, List.getElem?_append_right (by rw [spL_len]; exact Nat.le_refl _), spL_len]; rfl
  · have := spL_vd (fL d d.length) 32 (by rw [h]; exact Nat.le_refl _)
    rwa [pow32, List.take_of_length_le (by rw [h]; exact Nat.le_refl _)] at this
theorem rd_next (d : List Nat) : vd (fL (rd d) (rd d).length) = fold1 (vd (fL d d.length)) := by
  obtain ⟨h1, h2, h3⟩ := rd_parts d
  have hl := rd_len d
  rw [hl]
  have e : fL (rd d) 33 = (fL (rd d) 32).set 0 ((fL (rd d) 32).getD 0 0 + 38 * (rd d).getD 32 0) := rfl
  have h4 := vd_set (fL (rd d) 32) 0 ((fL (rd d) 32).getD 0 0 + 38 * (rd d).getD 32 0) (by rw [fL_len]; decide)
  rw [← e, fL_low (rd d) 32 (Nat.le_refl _) (by omega), h1, h2, Nat.pow_zero, Nat.one_mul, Nat.one_mul] at h4
  have hlt := vd_lt256 _ (spL_lt (fL d d.length) 32)
  rw [spL_len, pow32] at hlt
  unfold fold1
  have h5 : vd (fL d d.length) % M256 = vd (spL (fL d d.length) 32) := by rw [← h3, Nat.add_mul_mod_self_left, Nat.mod_eq_of_lt hlt]
  have h6 : vd (fL d d.length) / M256 = spC (fL d d.length) 32 := by rw [← h3, Nat.add_mul_div_left _ _ (by decide), Nat.div_eq_of_lt hlt]; omega
  rw [h5, h6]
  omega
theorem vd_le {C : Nat} : ∀ l : List Nat, (∀ x ∈ l, x ≤ C) → 255 * vd l + C ≤ C * 256 ^ l.length
  | [], _ => by simp [vd]
  | x :: r, h => by
    have := vd_le r (fun y hy => h y (List.mem_cons_of_mem _ hy))
    have hx := h x (by simp)
    rw [List.length_cons, Nat.pow_succ, ← Nat.mul_assoc]
    simp only [vd]; omega
theorem carL_spec (l : List Nat) (h : ∀ x ∈ l, x ≤ 2147483648) (hl : l.length ≤ 64) (h32 : 32 ≤ l.length) : (carL l).length = 32 ∧ leN (carL l) % P = vd l % P := by
  have hv : vd (fL l l.length) < M256 * 288230376151711744 := by
    have h1 := fL_le h l.length
    have h2 : ∀ x ∈ fL l l.length, x ≤ 64 * (38 * 2147483648) := fun x hx => Nat.le_trans (h1 x hx) (Nat.mul_le_mul_right _ hl)
    have h3 := vd_le _ h2
    rw [fL_len, pow32] at h3
    simp only [M256] at *
    omega
  have e2 : vd (fL (rdn l 3) (rdn l 3).length) = red (vd (fL l l.length)) := by
    have a := rd_next l
    have b := rd_next (rd l)
    have c := rd_next (rd (rd l))
    rw [a] at b
    rw [b] at c
    show vd (fL (rd (rd (rd l))) (rd (rd (rd l))).length) = _
    rw [c]
    exact fold1_lt (red_lt hv)
  obtain ⟨h1, h2, h3⟩ := rd_parts (rdn l 3)
  have hlt := vd_lt256 _ (spL_lt (fL (rdn l 3) (rdn l 3).length) 32)
  rw [spL_len, pow32] at hlt
  have e3 : carL l = (spL (fL (rdn l 3) (rdn l 3).length) 32).map (BitVec.ofNat 8) := by unfold carL; rw [← h1]; rfl
  refine ⟨by rw [e3]; simp [spL_len], ?_⟩
  rw [e3, leN_map _ (spL_lt _ _)]
  rw [e2] at h3
  have hr := red_lt hv
  have : vd (spL (fL (rdn l 3) (rdn l 3).length) 32) = red (vd (fL l l.length)) := by
    have : spC (fL (rdn l 3) (rdn l 3).length) 32 = 0 := by
      apply Classical.byContradiction
      intro hne
      have : M256 * 1 ≤ M256 * spC (fL (rdn l 3) (rdn l 3).length) 32 := Nat.mul_le_mul_left _ (by omega)
      omega
    rw [this] at h3; omega
  rw [this, red_P, fL_mod l l.length hl (Nat.le_refl _), List.take_of_length_le (Nat.le_refl _)]
end Go.Proofs.YtgclegdgngldoaaDoor.Fp
set_option linter.unusedVariables false
namespace Go.Proofs.YtgclegdgngldoaaDoor.Fp
theorem pl_vd : vd pl = P := by decide
theorem pl_len : pl.length = 32 := rfl
theorem pl_get {i : Nat} (h : i < 32) : pl.getD i 0 = prd i := by simp [pl, List.getD_eq_getElem?_getD, h]
theorem prd_le (i : Nat) : prd i ≤ 255 := by unfold prd; split <;> (try split) <;> decide
theorem vd_split {l : List Nat} {i : Nat} (h : i < l.length) : vd l = vd (l.take i) + 256 ^ i * (l.getD i 0 + 256 * vd (l.drop (i + 1))) := by
  conv => lhs; rw [← List.take_append_drop i l, vd_app, List.length_take, Nat.min_eq_left (by omega)]
  rw [List.drop_eq_getElem_cons h]
  simp only [vd]
  rw [List.getD_eq_getElem?_getD, List.getElem?_eq_getElem h]; rfl
theorem vd_cmp {l m : List Nat} (hl : ∀ x ∈ l, x < 256) {i : Nat} (h1 : i < l.length) (h2 : i < m.length) (hd : l.drop (i + 1) = m.drop (i + 1)) (hlt : l.getD i 0 < m.getD i 0) : vd l < vd m := by
  rw [vd_split h1, vd_split h2, hd]
  have h3 := vd_lt256 (l.take i) (fun x hx => hl x (List.mem_of_mem_take hx))
  rw [List.length_take, Nat.min_eq_left (by omega)] at h3
  have h4 : 256 ^ i * (l.getD i 0 + 256 * vd (m.drop (i + 1)) + 1) ≤ 256 ^ i * (m.getD i 0 + 256 * vd (m.drop (i + 1))) := Nat.mul_le_mul_left _ (by omega)
  rw [Nat.mul_add, Nat.mul_one] at h4
  omega
theorem drop_eq {l m : List Nat} (hl : l.length = 32) (hm : m.length = 32) {j : Nat} (h : ∀ k, j ≤ k → k < 32 → l.getD k 0 = m.getD k 0) : l.drop j = m.drop j := by
  apply List.ext_getElem?
  intro k
  rw [List.getElem?_drop, List.getElem?_drop]
  by_cases hk : j + k < 32
  · have := h (j + k) (by omega) hk
    rw [List.getD_eq_getElem?_getD, List.getD_eq_getElem?_getD, List.getElem?_eq_getElem (by omega), List.getElem?_eq_getElem (by omega)] at this
    rw [List.getElem?_eq_getElem (by omega), List.getElem?_eq_getElem (by omega)]
    simpa using this
  · rw [List.getElem?_eq_none (by omega), List.getElem?_eq_none (by omega)]
theorem tn_get (a : List B8) (i : Nat) : (tn a).getD i 0 = (a.getD i 0).toNat := by
  simp only [tn, List.getD_eq_getElem?_getD, List.getElem?_map]
  cases a[i]? <;> rfl
theorem tn_lt (a : List B8) : ∀ x ∈ tn a, x < 256 := by
  intro x hx
  simp only [tn, List.mem_map] at hx
  obtain ⟨y, _, rfl⟩ := hx
  exact y.isLt
theorem pl_lt : ∀ x ∈ pl, x < 256 := by decide
theorem cmp_ne {a : List B8} (ha : a.length = 32) {i : Nat} (hi : i < 32) (h : ∀ k, i + 1 ≤ k → k < 32 → (a.getD k 0).toNat = prd k) (hne : (a.getD i 0).toNat ≠ prd i) : decide (P ≤ leN a) = decide (prd i < (a.getD i 0).toNat) := by
  have hl : (tn a).length = 32 := by simp [tn, ha]
  have hd : (tn a).drop (i + 1) = pl.drop (i + 1) := drop_eq hl pl_len (fun k h1 h2 => by rw [tn_get, pl_get h2]; exact h k h1 h2)
  have e : leN a = vd (tn a) := rfl
  by_cases hlt : prd i < (a.getD i 0).toNat
  · have := vd_cmp pl_lt (by rw [pl_len]; exact hi) (by rw [hl]; exact hi) hd.symm (by rw [pl_get hi, tn_get]; exact hlt)
    rw [pl_vd] at this
    rw [decide_eq_true (by rw [e]; omega), decide_eq_true hlt]
  · have := vd_cmp (tn_lt a) (by rw [hl]; exact hi) (by rw [pl_len]; exact hi) hd (by rw [pl_get hi, tn_get]; omega)
    rw [pl_vd] at this
    rw [decide_eq_false (by rw [e]; omega), decide_eq_false hlt]
theorem cmp_eq {a : List B8} (ha : a.length = 32) (h : ∀ k, k < 32 → (a.getD k 0).toNat = prd k) : leN a = P := by
  have hl : (tn a).length = 32 := by simp [tn, ha]
  have hd : (tn a).drop 0 = pl.drop 0 := drop_eq hl pl_len (fun k _ h2 => by rw [tn_get, pl_get h2]; exact h k h2)
  simp only [List.drop_zero] at hd
  show vd (tn a) = P
  rw [hd, pl_vd]
theorem leN_set (l : List B8) (k : Nat) (x : B8) (h : k < l.length) : leN (l.set k x) + 256 ^ k * (l.getD k 0).toNat = leN l + 256 ^ k * x.toNat := by
  have := vd_set (tn l) k x.toNat (by simpa [tn] using h)
  rw [tn_get] at this
  have e : tn (l.set k x) = (tn l).set k x.toNat := by simp [tn, List.map_set]
  rw [← e] at this
  exact this
theorem ls_zero (a : List B8) : ls a 0 = (a, 0) := rfl
theorem ls_succ (a : List B8) (i : Nat) : ls a (i + 1) = ((ls a i).1.set i (BitVec.ofNat 8 (((ls a i).1.getD i 0).toNat + 256 - prd i - (ls a i).2)), if ((ls a i).1.getD i 0).toNat < prd i + (ls a i).2 then 1 else 0) := rfl
attribute [local irreducible] ls pl prd P
theorem ls_spec {a : List B8} (ha : a.length = 32) (i : Nat) (hi : i ≤ 32) : (ls a i).1.length = 32 ∧ (ls a i).2 ≤ 1 ∧ leN (ls a i).1 + vd (pl.take i) = leN a + 256 ^ i * (ls a i).2 := by
  induction i with
  | zero => rw [ls_zero]; exact ⟨ha, Nat.zero_le _, by simp [vd]⟩
  | succ i ih =>
    obtain ⟨h1, h2, h3⟩ := ih (by omega)
    rw [ls_succ]
    refine ⟨by simp [h1], by split <;> omega, ?_⟩
    have h4 := leN_set (ls a i).1 i (BitVec.ofNat 8 (((ls a i).1.getD i 0).toNat + 256 - prd i - (ls a i).2)) (by omega)
    have hp := prd_le i
    have hx := ((ls a i).1.getD i 0).isLt
    have h5 : (BitVec.ofNat 8 (((ls a i).1.getD i 0).toNat + 256 - prd i - (ls a i).2)).toNat + prd i + (ls a i).2 = ((ls a i).1.getD i 0).toNat + 256 * (if ((ls a i).1.getD i 0).toNat < prd i + (ls a i).2 then 1 else 0) := by
      rw [BitVec.toNat_ofNat]
      split <;> omega
    have h6 := congrArg (256 ^ i * ·) h5
    simp only [Nat.mul_add, ← Nat.mul_assoc] at h6
    rw [vd_take_succ (by rw [pl_len]; omega), pl_get (by omega), Nat.pow_succ]
    show leN ((ls a i).1.set i _) + _ = _
    generalize hite : (if ((ls a i).1.getD i 0).toNat < prd i + (ls a i).2 then 1 else 0) = z at *
    generalize (ls a i).1.set i (BitVec.ofNat 8 (((ls a i).1.getD i 0).toNat + 256 - prd i - (ls a i).2)) = L' at *
    generalize (BitVec.ofNat 8 (((ls a i).1.getD i 0).toNat + 256 - prd i - (ls a i).2)).toNat = q at *
    dsimp only
    omega
theorem ls_end {a : List B8} (ha : a.length = 32) (hP : P ≤ leN a) : (ls a 32).1 = kb (leN a - P) := by
  obtain ⟨h1, h2, h3⟩ := ls_spec ha 32 (Nat.le_refl _)
  rw [List.take_of_length_le (by rw [pl_len]; exact Nat.le_refl _), pl_vd, pow32] at h3
  have h4 := leN_lt32 h1
  have h5 := leN_lt32 ha
  have h6 : (ls a 32).2 = 0 := by
    apply Classical.byContradiction
    intro h
    have : (ls a 32).2 = 1 := by omega
    rw [this] at h3
    have := P_lt
    omega
  rw [h6] at h3
  rw [← kb_leN h1]
  congr 1
  omega
end Go.Proofs.YtgclegdgngldoaaDoor.Fp
set_option linter.unusedVariables false
namespace Go.Proofs.YtgclegdgngldoaaDoor.Fp
theorem leN_tn (a : List B8) : vd (tn a) = leN a := rfl
theorem tn_len (a : List B8) : (tn a).length = a.length := by simp [tn]
theorem aD_zero (a b : List B8) : aD a b 0 = tn a := rfl
theorem aD_succ (a b : List B8) (i : Nat) : aD a b (i + 1) = (aD a b i).set i ((aD a b i).getD i 0 + (b.getD i 0).toNat) := rfl
theorem sD_zero (a b : List B8) : sD a b 0 = tn a := rfl
theorem sD_succ (a b : List B8) (i : Nat) : sD a b (i + 1) = (sD a b i).set i ((sD a b i).getD i 0 + 4 * prd i - (b.getD i 0).toNat) := rfl
theorem tn_le (a : List B8) : ∀ x ∈ tn a, x ≤ 255 := fun x hx => by have := tn_lt a x hx; omega
theorem aD_spec {a b : List B8} (ha : a.length = 32) (hb : b.length = 32) (i : Nat) (hi : i ≤ 32) : (aD a b i).length = 32 ∧ (∀ x ∈ aD a b i, x ≤ 255 + i * 255) ∧ vd (aD a b i) = leN a + vd ((tn b).take i) := by
  induction i with
  | zero => exact ⟨by rw [aD_zero, tn_len, ha], by simpa [aD_zero] using tn_le a, by rw [aD_zero, List.take_zero, leN_tn]; rfl⟩
  | succ i ih =>
    obtain ⟨h1, h2, h3⟩ := ih (by omega)
    have hbx := (b.getD i 0).isLt
    rw [aD_succ]
    refine ⟨by simp [h1], fun x hx => ?_, ?_⟩
    · rcases List.mem_or_eq_of_mem_set hx with e | e
      · exact Nat.le_trans (h2 x e) (Nat.add_le_add_left (Nat.mul_le_mul_right _ (Nat.le_succ i)) _)
      · have := getD_le h2 i; omega
    · have h4 := vd_set (aD a b i) i ((aD a b i).getD i 0 + (b.getD i 0).toNat) (by omega)
      rw [Nat.mul_add] at h4
      rw [vd_take_succ (by rw [tn_len, hb]; omega), tn_get]
      omega
theorem aD_end {a b : List B8} (ha : a.length = 32) (hb : b.length = 32) : vd (aD a b 32) = leN a + leN b := by
  rw [(aD_spec ha hb 32 (Nat.le_refl _)).2.2, List.take_of_length_le (by rw [tn_len, hb]; exact Nat.le_refl _)]; rfl
theorem prd_ge (i : Nat) : 127 ≤ prd i := by unfold prd; split <;> (try split) <;> decide
theorem sD_spec {a b : List B8} (ha : a.length = 32) (hb : b.length = 32) (i : Nat) (hi : i ≤ 32) : (sD a b i).length = 32 ∧ (∀ x ∈ sD a b i, x ≤ 255 + i * 1020) ∧ vd (sD a b i) + vd ((tn b).take i) = leN a + 4 * vd (pl.take i) := by
  induction i with
  | zero => exact ⟨by rw [sD_zero, tn_len, ha], by simpa [sD_zero] using tn_le a, by rw [sD_zero, List.take_zero, List.take_zero, leN_tn]; rfl⟩
  | succ i ih =>
    obtain ⟨h1, h2, h3⟩ := ih (by omega)
    have hbx := (b.getD i 0).isLt
    have hp := prd_le i
    have hp2 := prd_ge i
    rw [sD_succ]
    refine ⟨by simp [h1], fun x hx => ?_, ?_⟩
    · rcases List.mem_or_eq_of_mem_set hx with e | e
      · exact Nat.le_trans (h2 x e) (Nat.add_le_add_left (Nat.mul_le_mul_right _ (Nat.le_succ i)) _)
      · have := getD_le h2 i; omega
    · have h4 := vd_set (sD a b i) i ((sD a b i).getD i 0 + 4 * prd i - (b.getD i 0).toNat) (by omega)
      have e : (sD a b i).getD i 0 + 4 * prd i - (b.getD i 0).toNat + (b.getD i 0).toNat = (sD a b i).getD i 0 + 4 * prd i := by omega
      have e2 := congrArg (256 ^ i * ·) e
      simp only [Nat.mul_add] at e2
      rw [vd_take_succ (by rw [tn_len, hb]; omega), vd_take_succ (by rw [pl_len]; omega), tn_get, pl_get (by omega), Nat.mul_add]
      have e3 : 256 ^ i * (4 * prd i) = 4 * (256 ^ i * prd i) := by simp only [Nat.mul_left_comm]
      omega
theorem sD_end {a b : List B8} (ha : a.length = 32) (hb : b.length = 32) : vd (sD a b 32) + leN b = leN a + 4 * P := by
  have h := (sD_spec ha hb 32 (Nat.le_refl _)).2.2
  rw [List.take_of_length_le (by rw [tn_len, hb]; exact Nat.le_refl _), List.take_of_length_le (by rw [pl_len]; exact Nat.le_refl _), pl_vd] at h
  exact h
theorem mI_zero (L : List Nat) (b : List B8) (i x : Nat) : mI L b i x 0 = L := rfl
theorem mI_succ (L : List Nat) (b : List B8) (i x k : Nat) : mI L b i x (k + 1) = (mI L b i x k).set (i + k) ((mI L b i x k).getD (i + k) 0 + x * (b.getD k 0).toNat) := rfl
theorem mO_zero (a b : List B8) : mO a b 0 = List.replicate 64 0 := rfl
theorem mO_succ (a b : List B8) (i : Nat) : mO a b (i + 1) = mI (mO a b i) b i (a.getD i 0).toNat 32 := rfl
theorem mI_spec {L : List Nat} {b : List B8} {i x C : Nat} (hL : L.length = 64) (hb : b.length = 32) (hi : i < 32) (hx : x ≤ 255) (hC : ∀ y ∈ L, y ≤ C) (k : Nat) (hk : k ≤ 32) :
    (mI L b i x k).length = 64 ∧ (∀ y ∈ mI L b i x k, y ≤ C + k * 65025) ∧ vd (mI L b i x k) = vd L + 256 ^ i * (x * vd ((tn b).take k)) := by
  induction k with
  | zero => exact ⟨hL, by simpa [mI_zero] using hC, by rw [mI_zero, List.take_zero]; rfl⟩
  | succ k ih =>
    obtain ⟨h1, h2, h3⟩ := ih (by omega)
    have hbx := (b.getD k 0).isLt
    have hm : x * (b.getD k 0).toNat ≤ 255 * 255 := Nat.mul_le_mul hx (by omega)
    rw [mI_succ]
    refine ⟨by simp [h1], fun y hy => ?_, ?_⟩
    · rcases List.mem_or_eq_of_mem_set hy with e | e
      · exact Nat.le_trans (h2 y e) (Nat.add_le_add_left (Nat.mul_le_mul_right _ (Nat.le_succ k)) _)
      · have := getD_le h2 (i + k); omega
    · have h4 := vd_set (mI L b i x k) (i + k) ((mI L b i x k).getD (i + k) 0 + x * (b.getD k 0).toNat) (by omega)
      rw [Nat.mul_add] at h4
      rw [vd_take_succ (by rw [tn_len, hb]; omega), tn_get, Nat.mul_add, Nat.mul_add]
      have e : 256 ^ i * (x * (256 ^ k * (b.getD k 0).toNat)) = 256 ^ (i + k) * (x * (b.getD k 0).toNat) := by
        rw [Nat.pow_add]; simp only [Nat.mul_assoc, Nat.mul_left_comm]
      omega
theorem mO_spec {a b : List B8} (ha : a.length = 32) (hb : b.length = 32) (i : Nat) (hi : i ≤ 32) : (mO a b i).length = 64 ∧ (∀ y ∈ mO a b i, y ≤ i * 2080800) ∧ vd (mO a b i) = vd ((tn a).take i) * leN b := by
  induction i with
  | zero => exact ⟨by simp [mO_zero], fun y hy => by rw [mO_zero] at hy; rw [List.eq_of_mem_replicate hy]; omega, by rw [mO_zero, vd_zeros]; simp [vd]⟩
  | succ i ih =>
    obtain ⟨h1, h2, h3⟩ := ih (by omega)
    have hx := (a.getD i 0).isLt
    obtain ⟨k1, k2, k3⟩ := mI_spec (b := b) (i := i) (x := (a.getD i 0).toNat) h1 hb (by omega) (by omega) h2 32 (Nat.le_refl _)
    rw [mO_succ]
    refine ⟨k1, fun y hy => by have := k2 y hy; omega, ?_⟩
    rw [k3, h3, List.take_of_length_le (l := tn b) (by rw [tn_len, hb]; exact Nat.le_refl _), vd_take_succ (l := tn a) (i := i) (by rw [tn_len, ha]; omega), tn_get, Nat.add_mul, leN_tn, Nat.mul_assoc]
theorem mO_end {a b : List B8} (ha : a.length = 32) (hb : b.length = 32) : vd (mO a b 32) = leN a * leN b := by
  rw [(mO_spec ha hb 32 (Nat.le_refl _)).2.2, List.take_of_length_le (by rw [tn_len, ha]; exact Nat.le_refl _)]; rfl
end Go.Proofs.YtgclegdgngldoaaDoor.Fp
set_option linter.unusedVariables false
set_option maxRecDepth 8000
namespace Go.Proofs.YtgclegdgngldoaaDoor.Fp
section
variable {D : F} (hD : NS D)
end
section
variable {D s A : F} (M : Mo D s A)
include M
omit M in
omit M in
omit M in
end
end Go.Proofs.YtgclegdgngldoaaDoor.Fp
set_option linter.unusedVariables false
set_option maxRecDepth 8000
namespace Go.Proofs.YtgclegdgngldoaaDoor.Fp
section
variable {D s : F} (M : Mo D s 486662)
include M
omit M in
omit M in
omit M in
omit M in
omit M in
omit M in
omit M in
omit M in
omit M in
end
end Go.Proofs.YtgclegdgngldoaaDoor.Fp

set_option linter.unusedSimpArgs false
set_option linter.unusedVariables false
namespace Go.Proofs.YtgclegdgngldoaaDoor
open Go.RowKit Fp
section
variable (ρ : Operand → Value) (dst : Option Tmp) (ty : TypeId) (pos : String) (after : Array Edge) (guard : Option (Nat × Bool)) (w : World)
end
section
variable (ρ : Operand → Value) (dst : Option Tmp) (ty : TypeId) (pos : String) (after : Array Edge) (guard : Option (Nat × Bool)) (w : World)
end

attribute [local irreducible] rip aL dL sL
end Go.Proofs.YtgclegdgngldoaaDoor
set_option linter.unusedSimpArgs false
set_option linter.unusedVariables false
namespace Go.Proofs.YtgclegdgngldoaaDoor.Fp
end Go.Proofs.YtgclegdgngldoaaDoor.Fp
namespace Go.Proofs.YtgclegdgngldoaaDoor
open Go.RowKit Fp
attribute [local irreducible] dL bL
end Go.Proofs.YtgclegdgngldoaaDoor
set_option linter.unusedSimpArgs false
set_option linter.unusedVariables false
namespace Go.Proofs.YtgclegdgngldoaaDoor.Fp
end Go.Proofs.YtgclegdgngldoaaDoor.Fp
namespace Go.Proofs.YtgclegdgngldoaaDoor
open Go.RowKit Fp
attribute [local irreducible] sL
attribute [local irreducible] P
end Go.Proofs.YtgclegdgngldoaaDoor
set_option linter.unusedSimpArgs false
set_option linter.unusedVariables false
namespace Go.Proofs.YtgclegdgngldoaaDoor.Fp
end Go.Proofs.YtgclegdgngldoaaDoor.Fp
namespace Go.Proofs.YtgclegdgngldoaaDoor
open Go.RowKit Fp
attribute [local irreducible] P kb
attribute [local go_sem ↓] cvn_8
end Go.Proofs.YtgclegdgngldoaaDoor
set_option linter.unusedSimpArgs false
set_option linter.unusedVariables false
namespace Go.Proofs.YtgclegdgngldoaaDoor.Fp
end Go.Proofs.YtgclegdgngldoaaDoor.Fp
namespace Go.Proofs.YtgclegdgngldoaaDoor
open Go.RowKit Fp
attribute [local irreducible] oL
end Go.Proofs.YtgclegdgngldoaaDoor
set_option linter.unusedSimpArgs false
set_option linter.unusedVariables false
namespace Go.Proofs.YtgclegdgngldoaaDoor.Fp
end Go.Proofs.YtgclegdgngldoaaDoor.Fp
namespace Go.Proofs.YtgclegdgngldoaaDoor
open Go.RowKit Fp
attribute [local irreducible] rL
section
variable (ρ : Operand → Value) (dst : Option Tmp) (ty : TypeId) (pos : String) (after : Array Edge) (guard : Option (Nat × Bool)) (w : World)
end
attribute [local irreducible] mW
end Go.Proofs.YtgclegdgngldoaaDoor
set_option linter.unusedSimpArgs false
set_option linter.unusedVariables false
namespace Go.Proofs.YtgclegdgngldoaaDoor
open Go.RowKit

section
variable {w w' : World} {v : Value} {l : List (Nat)} {base : Nat}
theorem oi_below {B : Nat} {w0 : World} (h : Below B w0 w) (hown : OI w B v l) (hB : B ≤ w.heap.size) (hg : w.grownBy w' v.ownBlock) : Below B w0 w' := h.grown hg hB (fun k hk => (hown.lt k hk).1)
theorem oi_below1 {B : Nat} {w0 : World} (o : Obj) (h : Below B w0 w) (hown : OI w B v l) (hB : B ≤ w.heap.size) (hg : (w.alloc o).grownBy w' v.ownBlock) : Below B w0 w' :=
  oi_below (h.alloc hB o) (hown.alloc o) (by simp; omega) hg
end
theorem info_int : (Tryd.prog.info? 3).map (fun i => (i.zero, i.size, i.bytes)) = some (some (.int .i64 0), 1, 8) := by kernel_rfl
theorem wpList_api {w : World} {ops : Array Oper} {rest : List Oper} {o : Oper} {a : Act} {Q : Exit → Act → World → Prop} (hgd : o.guard = none) (s x : Operand)
    (ho : o.op = .call { callee := .builtin .append, args := #[s, x], argTypes := #[133, 133] })
    (base : Nat) (v u : Value) (l m : List (Nat)) (hs : a.eval s = v) (hown : OI w base v l) (hx : a.eval x = u) (hu : IS w u m)
    (hlen : l.length + m.length ≤ 1073741824) (hbase : base ≤ w.heap.size)
    (h : ∀ v' w', OI w' base v' (l ++ m) → w.grownBy w' v.ownBlock → (v' = .slice none 0 0 ↔ v = .slice none 0 0 ∧ m = []) → wpList Tryd.prog ops Q rest (a.put o.dst v') w') : wpList Tryd.prog ops Q (o :: rest) a w := by
  refine wpList_ap hgd s x 133 ho base 3 (.int .i64 0) 1 8 Tryd.underlying133 info_int rfl (by decide) v u l.length m.length (l.map I64) (m.map I64) hs hown hx hu (by simp) (by simp; intro _ _; rfl) (by unfold maxLen; omega) (by omega) hbase ?_
  intro v' w' h1 h2 h3
  refine h v' w' (by unfold OI; simpa using h1) h2 (by rw [h3]; simp)

theorem set_gI {L : List Nat} {R : Array Value} {i : Nat} (hi : i < L.length) (x : Nat) : (cs I64 L ++ R).setIfInBounds i (I64 x) = cs I64 (L.set i x) ++ R := by
  rw [← cs_set]
  apply Array.ext_getElem?
  intro j
  simp only [Array.getElem?_setIfInBounds, Array.getElem?_append, Array.size_setIfInBounds, cs_size, Array.size_append]
  by_cases h : i = j
  · subst h; simp [hi]; omega
  · simp [h]
end Go.Proofs.YtgclegdgngldoaaDoor
set_option linter.unusedSimpArgs false
set_option linter.unusedVariables false
namespace Go.Proofs.YtgclegdgngldoaaDoor.Fp
end Go.Proofs.YtgclegdgngldoaaDoor.Fp
namespace Go.Proofs.YtgclegdgngldoaaDoor
open Go.RowKit Fp
end Go.Proofs.YtgclegdgngldoaaDoor

set_option linter.unusedSimpArgs false
set_option linter.unusedVariables false
namespace Go.Proofs.YtgclegdgngldoaaDoor
open Go.RowKit Fp

set_option maxHeartbeats 1000000 in
theorem rprime_any (w : World) (i : Nat) (hi : i < 32) :
    Calls Tryd.prog 113 #[.int .i64 i] w fun e w' => e = .returned (I64 (pr i)) ∧ w = w' := by
  by_cases h0 : i = 0
  · subst h0
    go_enter Tryd.func113, Tryd.ntmps113
    go_wp2_with fail
    go_ret
    exact ⟨rfl, rfl⟩
  · by_cases h1 : i = 31
    · subst h1
      clear h0
      go_enter Tryd.func113, Tryd.ntmps113
      go_wp2_with fail
      go_ret
      exact ⟨rfl, rfl⟩
    · have e0 : ((i : Int) == 0) = false := by simp; omega
      have e1 : ((i : Int) == 31) = false := by simp; omega
      have e : pr i = 255 := by unfold pr; rw [if_neg h0, if_neg h1]
      rw [e]
      clear h0 h1 e
      go_enter Tryd.func113, Tryd.ntmps113
      go_wp2_with fail
      go_ret
      exact ⟨rfl, rfl⟩
theorem take_map_succ (a : List (BitVec 8)) (i : Nat) (h : i < a.length) : (a.take (i + 1)).map (·.toNat) = (a.take i).map (·.toNat) ++ [(g8 a i).toNat] := by
  rw [List.take_succ_eq_append_getElem h, List.map_append]
  unfold g8
  rw [List.getD_eq_getElem?_getD, List.getElem?_eq_getElem h]; rfl
set_option maxRecDepth 100000 in
set_option maxHeartbeats 1000000 in
theorem rdigits_any (w : World) (a : List (BitVec 8)) (ha : a.length = 32) :
    Calls Tryd.prog 112 #[.agg (cs U8 a)] w fun e w' => ∃ u, e = .returned u ∧ OI w' w.heap.size u (a.map (·.toNat)) ∧ Below w.heap.size w w' := by
  have M0 := Mm.start no w
  have M1 := M0.alloc (cs U8 a) 23 (by decide)
  have HA := hid ha
  clear ha
  go_enter Tryd.func112, Tryd.ntmps112
  go_wp2_with fail
  obtain ⟨w1, hw1⟩ : ∃ w1, w1 = w.alloc (.cells (cs U8 a) 23) := ⟨_, rfl⟩
  have hz1 : w1.heap.size = w.heap.size + 1 := by rw [hw1]; simp
  rw [← hw1] at M1 ⊢
  have HZ := hid hz1
  clear hw1 hz1
  go_loopw [3, 4] (fun u t wr => ∃ i : Nat, i ≤ 32 ∧ t = .int .i64 i ∧ OI wr (w.heap.size + 1) u ((a.take i).map (·.toNat)) ∧ Below (w.heap.size + 1) w1 wr) (fun _ t _ => 32 - (intOf t).toNat)
  case atStart => exact ⟨0, by omega, rfl, OI.nil _ _, Below.refl _ _⟩
  case round =>
    obtain ⟨i, hi, rfl, hov, hbw⟩ := hrel
    have hz := hbw.size
    have hz1 := HZ.out
    by_cases hlt : i < 32
    · have k1 := cell_g8 ((below_row hbw (by omega)).trans (M1.row (b := w.heap.size) (c := cs U8 a) (by simp))) (i := i) (by rw [HA.out]; exact hlt)
      have q0 : (0 : Int) ≤ i := by omega
      have q1 : (i : Int) < 32 := by omega
      have hlen : Hid (((a.take i).map (·.toNat)).length + 1 ≤ 1073741824) := hid (by simp; omega)
      have hts := hid (take_map_succ a i (by rw [HA.out]; exact hlt))
      clear hz1
      go_wp2_with (refine wpList_api rfl (.tmp 9) (.tmp 14) rfl (w.heap.size + 1) _ _ ((a.take i).map (·.toNat)) [(g8 a i).toNat] rfl (OI.alloc hov _) rfl (IS.one _ _ _ rfl _) hlen.out (by have := HZ.out; simp; omega) ?_; rintro v3 w4 hown3 hg3 -; have HB4 := oi_below1 _ hbw hov (by have := HZ.out; omega) hg3)
      go_roundw
      case rel => exact ⟨i + 1, by omega, by go_num, by rw [hts.out]; exact hown3, HB4⟩
      case measure => simp [intOf]; omega
    · have : i = 32 := by omega
      subst this
      have e32 : a.take 32 = a := List.take_of_length_le (by rw [HA.out]; exact Nat.le_refl _)
      rw [e32] at hov
      have HV := hid hov
      clear hov e32
      go_wp2_with fail
      go_ret
      exact ⟨_, rfl, HV.out.mono (by omega), M1.end_.trans (hbw.mono (by omega))⟩
end Go.Proofs.YtgclegdgngldoaaDoor
set_option linter.unusedSimpArgs false
set_option linter.unusedVariables false
namespace Go.Proofs.YtgclegdgngldoaaDoor
open Go.RowKit Fp

theorem IS.cellD {w : World} {a : Option Addr} {n cap : Nat} {l : List Nat} (h : IS w (.slice a n cap) l) (hn : n = l.length) (i : Nat) (hi : i < l.length) : ∃ b o, a = some ⟨b, o, none⟩ ∧ b < w.heap.size ∧ ∀ i, i < l.length → w.cell? ⟨b, o + i, none⟩ = some (I64 (gI l i)) := by
  have hne : l ≠ [] := by intro e; rw [e] at hi; simp at hi
  have h2 := h.open hne
  obtain ⟨b, o, cap', e, _, hc⟩ := h2
  injection e with e1 e2 e3
  refine ⟨b, o, e1, ?_, hc⟩
  have := hc i hi
  rw [cell_rowOf] at this
  exact row_lt (Array.getElem?_eq_some_iff.1 this).1
theorem spC_succ (l : List Nat) (i : Nat) : spC l (i + 1) = (l.getD i 0 + spC l i) / 256 := rfl
theorem spC_zero (l : List Nat) : spC l 0 = 0 := rfl
attribute [local irreducible] spC spL
set_option maxRecDepth 100000 in
set_option maxHeartbeats 2000000 in
theorem rspread_any (w : World) (v : Value) (l : List Nat) (hv : IS w v l) (hb : ∀ x ∈ l, x ≤ 288230376151711744) (hlen : l.length ≤ 1000) :
    Calls Tryd.prog 114 #[v] w fun e w' => ∃ u, e = .returned u ∧ OI w' w.heap.size u (spr l) ∧ Below w.heap.size w w' := by
  obtain ⟨n, hn⟩ : ∃ n, n = l.length := ⟨_, rfl⟩
  obtain ⟨av, cv, rfl, hcv⟩ := hv.shape' n hn.symm
  have hnl : n ≤ 1000 := by omega
  have HC : Hid (∀ i, i < l.length → ∃ b o, av = some ⟨b, o, none⟩ ∧ b < w.heap.size ∧ ∀ i, i < l.length → w.cell? ⟨b, o + i, none⟩ = some (I64 (gI l i))) := hid fun i hi => IS.cellD hv hn i hi
  have HB := hid hb; have HN := hid hn
  have HCC := hid (spC_le hb)
  clear hv hb hlen hn
  go_enter Tryd.func114, Tryd.ntmps114
  go_wp2_with fail
  go_loopw [3, 4, 5] (fun u c t wr => ∃ i : Nat, i ≤ n ∧ t = .int .i64 i ∧ c = I64 (spC l i) ∧ OI wr w.heap.size u (spL l i) ∧ Below w.heap.size w wr) (fun _ _ t _ => n - (intOf t).toNat)
  case atStart => exact ⟨0, by omega, rfl, by rw [spC_zero]; rfl, by rw [spL_zero]; exact OI.nil _ _, Below.refl _ _⟩
  case round =>
    obtain ⟨i, hi, rfl, rfl, hov, hbw⟩ := hrel
    have hz := hbw.size
    have hcl := HCC.out i
    obtain ⟨c, hc⟩ : ∃ c, c = spC l i := ⟨_, rfl⟩
    rw [← hc] at hcl ⊢
    by_cases hlt : i < n
    · obtain ⟨b, o, rfl, hbs, hcell⟩ := HC.out i (by rw [← HN.out]; exact hlt)
      have c0 : wr.cell? ⟨b, o + i, none⟩ = some (I64 (gI l i)) := (hbw.cell (p := ⟨b, o + i, none⟩) hbs).trans (hcell i (by rw [← HN.out]; exact hlt))
      obtain ⟨x, hx⟩ : ∃ x, x = gI l i := ⟨_, rfl⟩
      rw [← hx] at c0
      have hxl : x ≤ 288230376151711744 := by rw [hx]; exact getD_le HB.out i
      obtain ⟨s, hs⟩ : ∃ s, s = x + c := ⟨_, rfl⟩
      have q0 : IntKind.i64.wrap ((x : Int) + (c : Int)) = (s : Int) := by rw [IntKind.wrap_i64]; omega
      have q1 : (0 : Int) ≤ s := by omega
      have q2 : (s : Int) ≤ 1000000000000000000 := by omega
      have hlen : Hid ((spL l i).length + 1 ≤ 1073741824) := hid (by rw [spL_len]; omega)
      have HS := hid hs; have HX := hid hx; have HCN := hid hc
      clear hcell hs hx hc hcl hxl
      go_wp2_with (refine wpList_api rfl (.tmp 19) (.tmp 22) rfl w.heap.size _ _ (spL l i) [s % 256] rfl (OI.alloc hov _) rfl (IS.one _ _ _ rfl _) hlen.out (by simp; omega) ?_; rintro v3 w4 hown3 hg3 -; have HB4 := oi_below1 _ hbw hov hz hg3)
      go_roundw
      case rel => exact ⟨i + 1, by omega, by go_num, by
          have e : spC l (i + 1) = s / 256 := by rw [spC_succ, HS.out, HX.out, HCN.out]; rfl
          rw [e]; go_num, by
          rw [spL_succ]
          have e : (l.getD i 0 + spC l i) % 256 = s % 256 := by rw [HS.out, HX.out, HCN.out]; rfl
          rw [e]; exact hown3, HB4⟩
      case measure => simp [intOf]; omega
    · have : i = n := by omega
      subst this
      have hlen : Hid ((spL l i).length + 1 ≤ 1073741824) := hid (by rw [spL_len]; omega)
      have HCN := hid hc
      clear hc hcl
      go_wp2_with (refine wpList_api rfl (.tmp 26) (.tmp 28) rfl w.heap.size _ _ (spL l i) [c] rfl (OI.alloc hov _) rfl (IS.one _ _ _ rfl _) hlen.out (by simp; omega) ?_; rintro v3 w4 hown3 hg3 -; have HB4 := oi_below1 _ hbw hov hz hg3)
      go_ret
      refine ⟨_, rfl, ?_, HB4⟩
      unfold spr
      rw [← HN.out, ← HCN.out]; exact hown3
end Go.Proofs.YtgclegdgngldoaaDoor
set_option linter.unusedSimpArgs false
set_option linter.unusedVariables false
namespace Go.Proofs.YtgclegdgngldoaaDoor
open Go.RowKit Fp
theorem cvi_8 {P : Program} (w : World) (src dst : TypeId) (x : Nat) (hs : (P.underlying src).isSome = true) (hd : P.underlying dst = some (.int .u8)) : (convert src dst (I64 x)).run P w = .ok (U8 (BitVec.ofNat 8 x)) w := by
  obtain ⟨d, hd'⟩ := Option.isSome_iff_exists.mp hs
  have e : Value.int .u8 (IntKind.u8.wrap (x : Int)) = U8 (BitVec.ofNat 8 x) := by
    rw [u8_wrap]; congr 1 <;> (apply BitVec.eq_of_toNat_eq; rw [BitVec.toNat_ofInt, BitVec.toNat_ofNat]; omega)
  simp [convert, run_underlying hd', run_underlying hd, Conv.intToInt, e]
theorem fL_zero (d : List Nat) : fL d 0 = List.replicate 32 0 := rfl
theorem fL_succ (d : List Nat) (i : Nat) : fL d (i + 1) = if i < 32 then (fL d i).set i ((fL d i).getD i 0 + d.getD i 0) else (fL d i).set (i - 32) ((fL d i).getD (i - 32) 0 + 38 * d.getD i 0) := rfl
theorem rdn_succ (l : List Nat) (n : Nat) : rdn l (n + 1) = spr (fL (rdn l n) (rdn l n).length) := rfl
theorem take_set_zs (l : List (BitVec 8)) (hl : l.length = 32) (j : Nat) (hj : j < 32) : (l.take j ++ (zs (32 - j) : List (BitVec 8))).set j (l.getD j 0) = l.take (j + 1) ++ zs (32 - (j + 1)) := by
  have h1 : (l.take j).length = j := by simp; omega
  rw [List.set_append_right _ _ (by omega), h1, Nat.sub_self]
  obtain ⟨m, hm⟩ : ∃ m, 32 - j = m + 1 := ⟨31 - j, by omega⟩
  have hj' : j < l.length := by omega
  rw [List.take_succ_eq_append_getElem hj', List.append_assoc]
  congr 1
  rw [hm, show 32 - (j + 1) = m by omega]
  simp only [zs, List.replicate_succ, List.set_cons_zero, List.singleton_append]
  congr 1
  rw [List.getD_eq_getElem?_getD, List.getElem?_eq_getElem hj']; rfl
theorem rd_mk (w : World) : (Instr.makeSlice 133 (.int .i64 32) (.int .i64 32)).run Tryd.prog w = .ok (.slice (some ⟨w.heap.size, 0, none⟩) 32 32) (w.alloc (.cells (cs I64 z32 ++ #[]) 3)) := by kernel_rfl
attribute [local irreducible] fL rdn
set_option maxRecDepth 100000 in
set_option maxHeartbeats 4000000 in
theorem rcarried_any (w : World) (v : Value) (l : List Nat) (hv : IS w v l) (hb : ∀ x ∈ l, x ≤ 2147483648) (hlen : l.length ≤ 64) (h32 : 32 ≤ l.length) :
    Calls Tryd.prog 97 #[v] w fun e w' => e = .returned (.agg (cs U8 (carL l))) ∧ Below w.heap.size w w' := by
  have M0 := Mm.start no w
  have M1 := M0.alloc (cs U8 (zs 32)) 23 (by decide)
  have HV := hid hv; have HB := hid (rdn_le hb hlen); have HSP := hid (carL_spec l hb hlen h32)
  have HLN := hid hlen; have H32 := hid h32
  obtain ⟨w1, hw1⟩ : ∃ w1, w1 = w.alloc (.cells (cs U8 (zs 32)) 23) := ⟨_, rfl⟩
  have hb1 : Below w.heap.size w w1 := by rw [hw1]; exact (Below.refl _ _).alloc (Nat.le_refl _) _
  rw [← hw1] at M1
  have hv1 : IS w1 v l := hv.below hb1
  have hz : Below w1.heap.size w1 (w1.alloc (.cells #[] 3)) := (Below.refl _ _).alloc (Nat.le_refl _) _
  have he : OI (w1.alloc (.cells #[] 3)) w1.heap.size (.slice (some ⟨w1.heap.size, 0, none⟩) 0 0) [] := OI.lit w1 [] #[] rfl 0 rfl (by decide) _ (Nat.le_refl _)
  have HV1 := hid (hv1.below hz); have HE := hid he; have HZ := hid hz; have HW1 := hid hw1
  clear hv hb hlen h32 hw1 hb1 hv1 hz he
  go_enter Tryd.func97, Tryd.ntmps97
  go_upto_region 1 with fail
  rw [← HW1.out]
  go_wp2_with (refine wpList_api rfl (.tmp 9) (.tmp 10) rfl w1.heap.size _ _ [] l rfl HE.out rfl HV1.out (by have := HLN.out; simp; omega) (by simp) ?_; rintro v3 w4 hown3 hg3 -; have HB4 := oi_below HZ.out HE.out (by simp) hg3)
  rw [List.nil_append] at hown3
  have hne : l ≠ [] := by intro e; have := H32.out; rw [e] at this; simp at this
  obtain ⟨g0, cap0, R00, rfl, hcap0, hmx0, -, M4⟩ := M1.take HB4 hown3 hne
  have M4' : Mm no w [(g0, cs I64 (rdn l 0) ++ R00), (w.heap.size, cs U8 (zs 32))] w4 := by rw [show rdn l 0 = l by unfold rdn; rfl]; exact M4
  have hl0 : l.length = (rdn l 0).length := by rw [show rdn l 0 = l by unfold rdn; rfl]
  clear M1 M4 hown3 hg3 hne HV1 HE HZ HW1 HB4 M0
  rw [hl0] at hcap0 ⊢
  have HCP := hid hcap0; have HMX := hid hmx0
  obtain ⟨n0, hn0⟩ : ∃ n, n = (rdn l 0).length := ⟨_, rfl⟩
  rw [← hn0]
  have HN0 := hid hn0
  clear hl0 hcap0 hmx0 hn0
  go_loopw [3, 4] (fun u t wr => ∃ (r g cap : Nat) (R : Array Value), r ≤ 4 ∧ t = .int .i64 r ∧ u = .slice (some ⟨g, 0, none⟩) (rdn l r).length cap ∧ (rdn l r).length ≤ cap ∧ cap ≤ maxLen ∧ Mm no w [(g, cs I64 (rdn l r) ++ R), (w.heap.size, cs U8 (zs 32))] wr) (fun _ t _ => 4 - (intOf t).toNat)
  case atStart => exact ⟨0, g0, cap0, R00, by omega, rfl, by rw [HN0.out], HCP.out, HMX.out, M4'⟩
  case round =>
    clear M4' HCP HMX HN0
    obtain ⟨r, g, cap, R, hr, rfl, rfl, hcap, hmx, M⟩ := hrel
    obtain ⟨hln, hle⟩ := HB.out r
    obtain ⟨d, hd⟩ : ∃ d, d = rdn l r := ⟨_, rfl⟩
    rw [← hd] at hcap M hln hle ⊢
    obtain ⟨n, hn⟩ : ∃ n, n = d.length := ⟨_, rfl⟩
    rw [← hn] at hcap hln ⊢
    have HN := hid hn; have HD := hid hd; have HLE := hid hle; have HCAP := hid hcap; have HMX := hid hmx
    have hcapi : (n : Int) ≤ cap := by omega
    clear hn hd hle hmx
    by_cases hr4 : r < 4
    · have hC : ∀ x ∈ d, x ≤ 70368744177664 := fun x hx => by
        have h1 := HLE.out x hx
        have h2 : 32 ^ r ≤ 32 ^ 3 := Nat.pow_le_pow_right (by decide) (by omega)
        have h3 : 32 ^ r * 2147483648 ≤ 32 ^ 3 * 2147483648 := Nat.mul_le_mul_right _ h2
        have h4 : 32 ^ 3 * 2147483648 = 70368744177664 := by decide
        omega
      have HC := hid hC
      clear hC
      go_upto_region 5 with fail
      have hmk := rd_mk
      obtain ⟨R0, hR0⟩ : ∃ R0, R0 = (#[] : Array Value) := ⟨_, rfl⟩
      rw [← hR0] at hmk
      clear hR0
      have M2 := M.alloc (cs I64 z32 ++ R0) 3 (by decide)
      obtain ⟨gl, hgl⟩ : ∃ b, b = wr.heap.size := ⟨_, rfl⟩
      go_upto_region 6 with fail
      obtain ⟨w2, hw2⟩ : ∃ w2, w2 = wr.alloc (.cells (cs I64 z32 ++ R0) 3) := ⟨_, rfl⟩
      rw [← hgl, ← hw2] at M2
      rw [← hgl, ← hw2]
      have M3 : Mm no w [(gl, cs I64 (fL d 0) ++ R0), (g, cs I64 d ++ R), (w.heap.size, cs U8 (zs 32))] w2 := by rw [fL_zero]; exact M2
      clear hgl hw2 M2 M hmk
      go_wp2_with fail
      go_loopw [6] (fun t wr => ∃ i : Nat, i ≤ n ∧ t = .int .i64 i ∧ Mm no w [(gl, cs I64 (fL d i) ++ R0), (g, cs I64 d ++ R), (w.heap.size, cs U8 (zs 32))] wr) (fun t _ => n - (intOf t).toNat)
      case atStart => exact ⟨0, by omega, rfl, M3⟩
      case round =>
        clear M3
        obtain ⟨i, hi, rfl, M⟩ := hrel
        have hfb := fL_le HC.out i
        have hfB : ∀ j, gI (fL d i) j ≤ 171138785836900000 := fun j => by
          have h1 := getD_le hfb j
          have h2 : i * (38 * 70368744177664) ≤ 64 * (38 * 70368744177664) := Nat.mul_le_mul_right _ (by omega)
          have h3 : 64 * (38 * 70368744177664) ≤ 171138785836900000 := by decide
          exact Nat.le_trans h1 (Nat.le_trans h2 h3)
        have hdB : gI d i ≤ 70368744177664 := getD_le HC.out i
        have HFB := hid hfB
        clear hfb hfB
        by_cases hlt : i < n
        · by_cases hi32 : i < 32
          · have hf1 := HFB.out i
            go_upto_region 10 with fail
            refine wp_region_seq 12 [25, 26, 27, 28, 29, 30, 31, 32, 33, 34, 35, 36] [] [] [] (.op 12 .done) (Mm no w _) (by kernel_rfl) (by kernel_rfl) (by kernel_rfl) (fun d _ _ _ _ h => by cases d <;> exact h) (by rfl) M.size (fun _ _ h k => h.sf k) M ?_
            simp only [List.take_succ_cons, List.take_zero]
            refine SeqA.pure (.slice (some ⟨gl, 0, none⟩) 32 32) (fun w' => by go_simp) rfl rfl ?_
            refine SeqA.pure (.int .i64 i) (fun w' => by go_simp) rfl rfl ?_
            refine SeqA.pure (.slice (some ⟨gl, 0, none⟩) 32 32) (fun w' => by go_simp) rfl rfl ?_
            refine SeqA.pure (.int .i64 i) (fun w' => by go_simp) rfl rfl ?_
            refine SeqA.pure (.pointer (some ⟨gl, i, none⟩)) (fun w' => by go_simp) rfl rfl ?_
            simp only [Act.put, List.setIfInBounds_toArray, List.set_cons_succ, List.set_cons_zero]
            refine SeqA.read (I64 (gI (fL d i) i)) (fun w' M => by have c0 := cell_gI (M.row (b := gl) (c := cs I64 (fL d i) ++ R0) (by simp)) (i := i) (by rw [fL_len]; omega); go_simp) rfl rfl ?_
            refine SeqA.pure (.slice (some ⟨g, 0, none⟩) n cap) (fun w' => by go_simp) rfl rfl ?_
            refine SeqA.pure (.int .i64 i) (fun w' => by go_simp) rfl rfl ?_
            refine SeqA.pure (.pointer (some ⟨g, i, none⟩)) (fun w' => by go_simp) rfl rfl ?_
            refine SeqA.read (I64 (gI d i)) (fun w' M => by have c0 := cell_gI (M.row (b := g) (c := cs I64 d ++ R) (by simp)) (i := i) (by rw [← HN.out]; omega); go_simp) rfl rfl ?_
            refine SeqA.pure (I64 (gI (fL d i) i + gI d i)) (fun w' => by have q := i64w ((gI (fL d i) i : Int) + (gI d i : Int)) (by omega) (by omega); go_simp) rfl rfl ?_
            simp only [Act.put, List.setIfInBounds_toArray, List.set_cons_succ, List.set_cons_zero]
            refine SeqA.pure (.pointer (some ⟨gl, i, none⟩)) (fun w' => by go_simp) rfl rfl ?_
            refine SeqA.nil (fun w1 M2 hz => ?_)
            show wpT _ _ _ _ _ _
            simp only [Act.put, List.setIfInBounds_toArray, List.set_cons_succ, List.set_cons_zero]
            refine wpT_stc M2 0 (I64 (gI (fL d i) i + gI d i)) (cs I64 ((fL d i).set i (gI (fL d i) i + gI d i)) ++ R0) inf_int rfl rfl rfl rfl (by go_simp) (by go_simp) (by have := (by rw [fL_len]; omega : i < (fL d i).length); first | (simp; done) | (simpa using this) | (simp; omega)) (by simp [go_sem]) (set_gI (by rw [fL_len]; omega) _) rfl (fun w3 M4 => ?_)
            dsimp only [List.set] at M4
            dsimp only [wpT]
            go_wp2_with fail
            go_roundw
            case rel => exact ⟨i + 1, by omega, by go_num, by rw [fL_succ, if_pos hi32]; exact M4⟩
            case measure => simp [intOf]; omega
          · obtain ⟨h, hh⟩ : ∃ h, h = i - 32 := ⟨_, rfl⟩
            have hhI : ((i : Int) - 32) = (h : Int) := by omega
            have HH := hid hhI; have HHN := hid hh
            have hh32 : h < 32 := by omega
            have hf1 := HFB.out h
            have q9 : (h : Int) < 32 := by omega
            clear hhI hh
            go_upto_region 11 with fail
            refine wp_region_seq 15 [37, 38, 39, 40, 41, 42, 43, 44, 45, 46, 47, 48, 49, 50, 51] [] [] [] (.op 15 .done) (Mm no w _) (by kernel_rfl) (by kernel_rfl) (by kernel_rfl) (fun d _ _ _ _ h => by cases d <;> exact h) (by rfl) M.size (fun _ _ h k => h.sf k) M ?_
            simp only [List.take_succ_cons, List.take_zero]
            refine SeqA.pure (.slice (some ⟨gl, 0, none⟩) 32 32) (fun w' => by go_simp) rfl rfl ?_
            refine SeqA.pure (.int .i64 i) (fun w' => by go_simp) rfl rfl ?_
            refine SeqA.pure (.int .i64 h) (fun w' => by have q := HH.out; have q2 := i64w (h : Int) (by omega) (by omega); go_simp) rfl rfl ?_
            refine SeqA.pure (.slice (some ⟨gl, 0, none⟩) 32 32) (fun w' => by go_simp) rfl rfl ?_
            refine SeqA.pure (.int .i64 i) (fun w' => by go_simp) rfl rfl ?_
            simp only [Act.put, List.setIfInBounds_toArray, List.set_cons_succ, List.set_cons_zero]
            refine SeqA.pure (.int .i64 h) (fun w' => by have q := HH.out; have q2 := i64w (h : Int) (by omega) (by omega); go_simp) rfl rfl ?_
            refine SeqA.pure (.pointer (some ⟨gl, h, none⟩)) (fun w' => by go_simp) rfl rfl ?_
            refine SeqA.read (I64 (gI (fL d i) h)) (fun w' M => by have c0 := cell_gI (M.row (b := gl) (c := cs I64 (fL d i) ++ R0) (by simp)) (i := h) (by rw [fL_len]; omega); go_simp) rfl rfl ?_
            refine SeqA.pure (.slice (some ⟨g, 0, none⟩) n cap) (fun w' => by go_simp) rfl rfl ?_
            refine SeqA.pure (.int .i64 i) (fun w' => by go_simp) rfl rfl ?_
            refine SeqA.pure (.pointer (some ⟨g, i, none⟩)) (fun w' => by go_simp) rfl rfl ?_
            simp only [Act.put, List.setIfInBounds_toArray, List.set_cons_succ, List.set_cons_zero]
            refine SeqA.read (I64 (gI d i)) (fun w' M => by have c0 := cell_gI (M.row (b := g) (c := cs I64 d ++ R) (by simp)) (i := i) (by rw [← HN.out]; omega); go_simp) rfl rfl ?_
            refine SeqA.pure (I64 (38 * gI d i)) (fun w' => by have q := i64w (38 * (gI d i : Int)) (by omega) (by omega); go_simp) rfl rfl ?_
            refine SeqA.pure (I64 (gI (fL d i) h + 38 * gI d i)) (fun w' => by have q := i64w ((gI (fL d i) h : Int) + 38 * (gI d i : Int)) (by omega) (by omega); go_simp) rfl rfl ?_
            refine SeqA.pure (.pointer (some ⟨gl, h, none⟩)) (fun w' => by go_simp) rfl rfl ?_
            refine SeqA.nil (fun w1 M2 hz => ?_)
            show wpT _ _ _ _ _ _
            simp only [Act.put, List.setIfInBounds_toArray, List.set_cons_succ, List.set_cons_zero]
            refine wpT_stc M2 0 (I64 (gI (fL d i) h + 38 * gI d i)) (cs I64 ((fL d i).set h (gI (fL d i) h + 38 * gI d i)) ++ R0) inf_int rfl rfl rfl rfl (by go_simp) (by go_simp) (by have := (by rw [fL_len]; omega : h < (fL d i).length); first | (simp; done) | (simpa using this) | (simp; omega)) (by simp [go_sem]) (set_gI (by rw [fL_len]; omega) _) rfl (fun w3 M4 => ?_)
            dsimp only [List.set] at M4
            dsimp only [wpT]
            go_wp2_with fail
            go_roundw
            case rel => exact ⟨i + 1, by omega, by go_num, by rw [fL_succ, if_neg hi32, ← HHN.out]; exact M4⟩
            case measure => simp [intOf]; omega
        · have : i = n := by omega
          subst this
          have hl : (fL d i).length = 32 := fL_len d i
          have hI : IS wr (.slice (some ⟨gl, 0, none⟩) 32 32) (fL d i) := M.is (R := R0) (by simp) hl.symm (by decide) (by decide)
          have hfb : ∀ x ∈ fL d i, x ≤ 288230376151711744 := fun x hx => by
            have h1 := fL_le HC.out i x hx
            have h2 : i * (38 * 70368744177664) ≤ 64 * (38 * 70368744177664) := Nat.mul_le_mul_right _ (by omega)
            omega
          have HI := hid hI; have HFB2 := hid hfb; have HL := hid hl
          clear hI hfb hl hi hlt hdB
          go_wp2_with fail
          with_reducible refine ((rspread_any wr _ (fL d i) HI.out HFB2.out (by rw [HL.out]; decide)).mono ?_)
          rintro e w5 ⟨u, rfl, hou, hb5⟩
          have hsl : (spr (fL d i)).length = 33 := by rw [spr_len, HL.out]
          obtain ⟨g6, cap6, R6, rfl, hc6, hx6, -, M6⟩ := M.take hb5 hou (by intro e; rw [e] at hsl; simp at hsl)
          have hrd : spr (fL d i) = rdn l (r + 1) := by rw [rdn_succ, ← HD.out, ← HN.out]
          rw [hrd] at hc6 M6 hsl ⊢
          have M7 := M6.sub (H' := [(g6, cs I64 (rdn l (r + 1)) ++ R6), (w.heap.size, cs U8 (zs 32))]) (.cons_cons _ (.cons _ (.cons _ (List.Sublist.refl _))))
          have HC6 := hid hc6; have HX6 := hid hx6
          rw [hsl]
          have HSL := hid hsl
          clear hc6 hx6 hou hb5 M6 M hsl hrd
          dsimp only
          go_wp2_with fail
          go_roundw
          case rel => exact ⟨r + 1, g6, cap6, R6, by omega, by go_num, by rw [HSL.out], HC6.out, HX6.out, M7⟩
          case measure => simp [intOf]; omega
    · have : r = 4 := by omega
      subst this
      obtain ⟨hcl, -⟩ := HSP.out
      have hn33 : 32 ≤ n := by
        have e : rdn l 4 = spr (fL (rdn l 3) (rdn l 3).length) := rdn_succ l 3
        rw [HN.out, HD.out, e, spr_len, fL_len]; omega
      have hget : ∀ i, i < 32 → (carL l).getD i 0 = BitVec.ofNat 8 (gI d i) := fun i hi => by
        unfold carL
        rw [← HD.out]
        have h1 : i < d.length := by rw [← HN.out]; omega
        simp [List.getD_eq_getElem?_getD, List.getElem?_take, hi, h1, gI]
      have HG := hid hget; have HCL := hid hcl
      clear hget hcl
      rw [show ((4 : Nat) : Int) = 4 from rfl]
      go_upto_region 14 with fail
      have M2 := M.alloc (cs U8 (zs 32)) 23 (by decide)
      obtain ⟨g7, hg7⟩ : ∃ b, b = wr.heap.size := ⟨_, rfl⟩
      obtain ⟨w2, hw2⟩ : ∃ w2, w2 = wr.alloc (.cells (cs U8 (zs 32)) 23) := ⟨_, rfl⟩
      rw [← hg7, ← hw2] at M2
      rw [← hg7, ← hw2]
      clear hg7 hw2 M
      go_wp2_with fail
      go_loopw [8] (fun t wr => ∃ i : Nat, i ≤ 32 ∧ t = .int .i64 i ∧ Mm no w [(g7, cs U8 ((carL l).take i ++ zs (32 - i))), (g, cs I64 d ++ R), (w.heap.size, cs U8 (zs 32))] wr) (fun t _ => 32 - (intOf t).toNat)
      case atStart => exact ⟨0, by omega, rfl, M2⟩
      case round =>
        clear M2
        obtain ⟨i, hi, rfl, M⟩ := hrel
        by_cases hlt : i < 32
        · have q1 : (i : Int) < 32 := by omega
          have q2 : (i : Int) < n := by omega
          have hL := hid (show ((carL l).take i ++ (zs (32 - i) : List (BitVec 8))).length = 32 by simp [HCL.out]; omega)
          go_upto_region 17 with fail
          refine wp_region_seqF 7 [58, 59, 60, 61, 62, 63, 64] [] [] [] (.op 7 .done) (Mm no w _) (by kernel_rfl) (by kernel_rfl) (fun d _ _ _ _ h => by cases d <;> exact h) (by rfl) M.size (fun _ _ h k => h.sf k) M (by kernel_rfl) ?_
          simp only [List.take_succ_cons, List.take_zero]
          refine SeqA.pure (.int .i64 i) (fun w' => by go_simp) rfl rfl ?_
          refine SeqA.pure (.slice (some ⟨g, 0, none⟩) n cap) (fun w' => by go_simp) rfl rfl ?_
          refine SeqA.pure (.int .i64 i) (fun w' => by go_simp) rfl rfl ?_
          refine SeqA.pure (.pointer (some ⟨g, i, none⟩)) (fun w' => by go_simp) rfl rfl ?_
          refine SeqA.read (I64 (gI d i)) (fun w' M => by have c0 := cell_gI (M.row (b := g) (c := cs I64 d ++ R) (by simp)) (i := i) (by rw [← HN.out]; omega); go_simp) rfl rfl ?_
          simp only [Act.put, List.setIfInBounds_toArray, List.set_cons_succ, List.set_cons_zero]
          refine SeqA.pure (U8 (BitVec.ofNat 8 (gI d i))) (fun w' => by have q := cvi_8 (P := Tryd.prog) w' 3 5 (gI d i) (by kernel_rfl) Tryd.underlying5; go_simp) rfl rfl ?_
          refine SeqA.pure (.pointer (some ⟨g7, i, none⟩)) (fun w' => by go_simp) rfl rfl ?_
          refine SeqA.nil (fun w1 M2 hz => ?_)
          show wpT _ _ _ _ _ _
          simp only [Act.put, List.setIfInBounds_toArray, List.set_cons_succ, List.set_cons_zero]
          refine wpT_stc M2 0 (U8 (BitVec.ofNat 8 (gI d i))) (cs U8 (((carL l).take i ++ zs (32 - i)).set i (BitVec.ofNat 8 (gI d i)))) inf_u8 rfl rfl rfl rfl (by go_simp) (by go_simp) (by have := (by rw [hL]; exact hlt : i < ((carL l).take i ++ zs (32 - i)).length); first | (simp; done) | (simpa using this) | (simp; omega)) (by simp [go_sem]) (cs_set _ _) rfl (fun w3 M4 => ?_)
          dsimp only [List.set] at M4
          dsimp only [wpT]
          go_wp2_with fail
          go_roundw
          case rel => exact ⟨i + 1, by omega, by go_num, by
              have e := take_set_zs (carL l) HCL.out i hlt
              rw [HG.out i hlt] at e
              rw [← e]; exact M4⟩
          case measure => simp [intOf]; omega
        · have : i = 32 := by omega
          subst this
          have e : (carL l).take 32 ++ (zs (32 - 32) : List (BitVec 8)) = carL l := by rw [List.take_of_length_le (by rw [HCL.out]; exact Nat.le_refl _)]; simp [zs]
          rw [e] at M
          clear e
          go_upto_region 18 with fail
          have r2 := M.row (b := g7) (c := cs U8 (carL l)) (by simp)
          have f3 := M.free (b := w.heap.size) (c := cs U8 (zs 32)) (by simp)
          have r3 := M.row (b := w.heap.size) (c := cs U8 (zs 32)) (by simp)
          have hkl := HCL.out
          go_wp2_with fail
          have M3 := M.set 2 (cs U8 (carL l)) rfl
          dsimp only [List.set] at M3
          have r4 := M3.row (b := w.heap.size) (c := cs U8 (carL l)) (by simp)
          refine bodyPost_ret (res_row (b := w.heap.size) rfl Tryd.underlying23 rfl inf_key _ _ rfl (by rw [r4]; simp [HCL.out])) rfl ?_
          rw [r4]
          exact ⟨rfl, M3.end_⟩
end Go.Proofs.YtgclegdgngldoaaDoor
set_option linter.unusedSimpArgs false
set_option linter.unusedVariables false
namespace Go.Proofs.YtgclegdgngldoaaDoor
open Go.RowKit Fp
theorem rprime_b (w : World) (i : Nat) (hi : i < 32) :
    Calls Tryd.prog 113 #[.int .i64 i] w fun e w' => e = .returned (I64 (prd i)) ∧ Below w.heap.size w w' :=
  (rprime_any w i hi).mono fun e w' ⟨h1, h2⟩ => ⟨h1, by rw [h2]; exact Below.refl _ _⟩
attribute [local irreducible] prd P ls
set_option maxRecDepth 100000 in
set_option maxHeartbeats 2000000 in
theorem ratl_any (w : World) (a : List (BitVec 8)) (ha : a.length = 32) :
    Calls Tryd.prog 110 #[.agg (cs U8 a)] w fun e w' => e = .returned (.bool (decide (P ≤ leN a))) ∧ Below w.heap.size w w' := by
  have M0 := Mm.start no w
  have M1 := M0.alloc (cs U8 a) 23 (by decide)
  have HA := hid ha
  obtain ⟨res, hres⟩ : ∃ b, b = decide (P ≤ leN a) := ⟨_, rfl⟩
  rw [← hres]
  have HR := hid hres
  clear ha hres
  go_enter Tryd.func110, Tryd.ntmps110
  go_wp2_with fail
  go_loopw [3] (fun t wr => ∃ j : Nat, j ≤ 32 ∧ t = .int .i64 ((j : Int) - 1) ∧ (∀ k, j ≤ k → k < 32 → (a.getD k 0).toNat = prd k) ∧ Mm no w [(w.heap.size, cs U8 a)] wr) (fun t _ => (intOf t + 1).toNat)
  case atStart => exact ⟨32, by omega, rfl, fun k h1 h2 => by omega, M1⟩
  case round =>
    clear M1 M0
    obtain ⟨j, hj, rfl, hall, M⟩ := hrel
    have HALL := hid hall
    clear hall
    by_cases hj0 : 0 < j
    · obtain ⟨i, rfl⟩ : ∃ i, j = i + 1 := ⟨j - 1, by omega⟩
      have hi32 : i < 32 := by omega
      have ei : (((i + 1 : Nat) : Int) - 1) = (i : Int) := by omega
      rw [ei]
      have q0 : (0 : Int) ≤ i := by omega
      have q1 : (i : Int) < 32 := by omega
      by_cases hpe : (g8 a i).toNat = prd i
      · have heq : (((g8 a i).toNat : Int) != (prd i : Int)) = false := by simp [hpe]
        have HPE := hid hpe
        have HEQ := hid heq
        clear hpe heq ei
        go_upto_region 4 with fail
        have heq := HEQ.out
        refine wp_region_seq 7 [8, 9, 10, 11, 12, 13, 14] [] [] [] (.done) (Mm no w _) (by kernel_rfl) (by kernel_rfl) (by kernel_rfl) (fun d _ _ _ _ h => by cases d <;> exact h) (by rfl) M.size (fun _ _ h k => h.sf k) M ?_
        simp only [List.take_succ_cons, List.take_zero]
        refine SeqA.pure (.int .i64 i) (fun w' => by go_simp) rfl rfl ?_
        refine SeqA.pure (.pointer (some ⟨w.heap.size, i, none⟩)) (fun w' => by go_simp) rfl rfl ?_
        refine SeqA.read (U8 (g8 a i)) (fun w' M => by have c0 := cell_g8 (M.row (b := w.heap.size) (c := cs U8 a) (by simp)) (i := i) (by rw [HA.out]; exact hi32); go_simp) rfl rfl ?_
        refine SeqA.pure (I64 (g8 a i).toNat) (fun w' => by go_simp) rfl rfl ?_
        refine SeqA.pure (.int .i64 i) (fun w' => by go_simp) rfl rfl ?_
        simp only [Act.put, List.setIfInBounds_toArray, List.set_cons_succ, List.set_cons_zero]
        refine SeqA.call _ _ _ (fun w' => by go_simp) (fun w' hI _ => rprime_b w' i hi32) M.size rfl rfl ?_
        refine SeqA.pure (.bool false) (fun w' => by have q := heq; go_simp) rfl rfl ?_
        refine SeqA.nil (fun w1 M2 hz => ?_)
        show wpT _ _ _ _ _ _
        simp only [Act.put, List.setIfInBounds_toArray, List.set_cons_succ, List.set_cons_zero]
        dsimp only [wpT]
        go_wp2_with fail
        clear heq
        go_roundw
        case rel => exact ⟨i, by omega, by go_num, fun k h1 h2 => by
            by_cases hk : k = i
            · subst hk; exact HPE.out
            · exact HALL.out k (by omega) h2, M2⟩
        case measure => simp [intOf]
      · have hne : (((g8 a i).toNat : Int) != (prd i : Int)) = true := by simp; omega
        have HPE := hid hpe
        have HNE := hid hne
        clear hpe hne ei
        go_upto_region 4 with fail
        have hne := HNE.out
        refine wp_region_seq 7 [8, 9, 10, 11, 12, 13, 14] [] [] [] (.done) (Mm no w _) (by kernel_rfl) (by kernel_rfl) (by kernel_rfl) (fun d _ _ _ _ h => by cases d <;> exact h) (by rfl) M.size (fun _ _ h k => h.sf k) M ?_
        simp only [List.take_succ_cons, List.take_zero]
        refine SeqA.pure (.int .i64 i) (fun w' => by go_simp) rfl rfl ?_
        refine SeqA.pure (.pointer (some ⟨w.heap.size, i, none⟩)) (fun w' => by go_simp) rfl rfl ?_
        refine SeqA.read (U8 (g8 a i)) (fun w' M => by have c0 := cell_g8 (M.row (b := w.heap.size) (c := cs U8 a) (by simp)) (i := i) (by rw [HA.out]; exact hi32); go_simp) rfl rfl ?_
        refine SeqA.pure (I64 (g8 a i).toNat) (fun w' => by go_simp) rfl rfl ?_
        refine SeqA.pure (.int .i64 i) (fun w' => by go_simp) rfl rfl ?_
        simp only [Act.put, List.setIfInBounds_toArray, List.set_cons_succ, List.set_cons_zero]
        refine SeqA.call _ _ _ (fun w' => by go_simp) (fun w' hI _ => rprime_b w' i hi32) M.size rfl rfl ?_
        refine SeqA.pure (.bool true) (fun w' => by have q := hne; go_simp) rfl rfl ?_
        refine SeqA.nil (fun w1 M2 hz => ?_)
        show wpT _ _ _ _ _ _
        simp only [Act.put, List.setIfInBounds_toArray, List.set_cons_succ, List.set_cons_zero]
        dsimp only [wpT]
        go_upto_region 5 with fail
        clear hne
        have M := M2
        refine wp_region_seq 8 [15, 16, 17, 18, 19, 20, 21, 2] [] [] [] (.done) (Mm no w _) (by kernel_rfl) (by kernel_rfl) (by kernel_rfl) (fun d _ _ _ _ h => by cases d <;> exact h) (by rfl) M.size (fun _ _ h k => h.sf k) M ?_
        simp only [List.take_succ_cons, List.take_zero]
        refine SeqA.pure (.int .i64 i) (fun w' => by go_simp) rfl rfl ?_
        refine SeqA.pure (.pointer (some ⟨w.heap.size, i, none⟩)) (fun w' => by go_simp) rfl rfl ?_
        refine SeqA.read (U8 (g8 a i)) (fun w' M => by have c0 := cell_g8 (M.row (b := w.heap.size) (c := cs U8 a) (by simp)) (i := i) (by rw [HA.out]; exact hi32); go_simp) rfl rfl ?_
        refine SeqA.pure (I64 (g8 a i).toNat) (fun w' => by go_simp) rfl rfl ?_
        refine SeqA.pure (.int .i64 i) (fun w' => by go_simp) rfl rfl ?_
        simp only [Act.put, List.setIfInBounds_toArray, List.set_cons_succ, List.set_cons_zero]
        refine SeqA.call _ _ _ (fun w' => by go_simp) (fun w' hI _ => rprime_b w' i hi32) M.size rfl rfl ?_
        refine SeqA.pure (.bool (decide (prd i < (g8 a i).toNat))) (fun w' => by go_simp) rfl rfl ?_
        refine SeqA.pure (.bool (decide (prd i < (g8 a i).toNat))) (fun w' => by go_simp) rfl rfl ?_
        refine SeqA.nil (fun w1 M2 hz => ?_)
        show wpT _ _ _ _ _ _
        simp only [Act.put, List.setIfInBounds_toArray, List.set_cons_succ, List.set_cons_zero]
        dsimp only [wpT]
        go_wp2_with fail
        go_ret
        refine ⟨?_, M2.end_⟩
        rw [HR.out, cmp_ne HA.out hi32 HALL.out HPE.out]; rfl
    · have : j = 0 := by omega
      subst this
      rw [show (((0 : Nat) : Int) - 1) = -1 from rfl]
      go_wp2_with fail
      go_ret
      refine ⟨?_, M.end_⟩
      rw [HR.out, cmp_eq HA.out (fun k h => HALL.out k (Nat.zero_le _) h), decide_eq_true (Nat.le_refl _)]; rfl
set_option maxRecDepth 100000 in
set_option maxHeartbeats 2000000 in
theorem rless_any (w : World) (a : List (BitVec 8)) (ha : a.length = 32) (hP : P ≤ leN a) :
    Calls Tryd.prog 111 #[.agg (cs U8 a)] w fun e w' => e = .returned (.agg (cs U8 (kb (leN a - P)))) ∧ Below w.heap.size w w' := by
  have M0 := Mm.start no w
  have M1 := ((M0.alloc (cs U8 a) 23 (by decide)).alloc (cs U8 (zs 32)) 23 (by decide))
  simp only [World.size_alloc] at M1
  have HE := hid (ls_end ha hP); have HSP := hid (ls_spec ha); have H0 := hid (ls_zero a); have HS := hid (ls_succ a)
  clear ha hP
  go_enter Tryd.func111, Tryd.ntmps111
  go_wp2_with fail
  go_loopw [3, 4] (fun c t wr => ∃ i : Nat, i ≤ 32 ∧ t = .int .i64 i ∧ c = I64 (ls a i).2 ∧ Mm no w [(w.heap.size + 1, cs U8 (zs 32)), (w.heap.size, cs U8 (ls a i).1)] wr) (fun _ t _ => 32 - (intOf t).toNat)
  case atStart => exact ⟨0, by omega, rfl, by rw [H0.out]; rfl, by rw [H0.out]; exact M1⟩
  case round =>
    clear M1 M0
    obtain ⟨i, hi, rfl, rfl, M⟩ := hrel
    obtain ⟨hl, hc1, -⟩ := HSP.out i hi
    have hL := hid hl
    clear hl
    obtain ⟨c, hc⟩ : ∃ c, c = (ls a i).2 := ⟨_, rfl⟩
    rw [← hc] at hc1 ⊢
    have HC := hid hc
    clear hc
    by_cases hi32 : i < 32
    · obtain ⟨x, hxx⟩ : ∃ x, x = (g8 (ls a i).1 i).toNat := ⟨_, rfl⟩
      have hx : (((g8 (ls a i).1 i).toNat : Nat) : Int) = (x : Int) := by omega
      have hxl : x < 256 := by rw [hxx]; exact (g8 (ls a i).1 i).isLt
      have hpl := prd_le i
      have HXX := hid hxx; have HX := hid hx
      clear hxx hx
      have q0 : (0 : Int) ≤ i := by omega
      have q1 : (i : Int) < 32 := by omega
      go_upto_region 5 with fail
      have hx := HX.out
      refine wp_region_seq 10 [10, 11, 12, 13, 14, 15, 16, 17, 18, 5] [] [] [] (.done) (Mm no w _) (by kernel_rfl) (by kernel_rfl) (by kernel_rfl) (fun d _ _ _ _ h => by cases d <;> exact h) (by rfl) M.size (fun _ _ h k => h.sf k) M ?_
      simp only [List.take_succ_cons, List.take_zero]
      refine SeqA.pure (.int .i64 i) (fun w' => by go_simp) rfl rfl ?_
      refine SeqA.pure (.pointer (some ⟨w.heap.size, i, none⟩)) (fun w' => by go_simp) rfl rfl ?_
      refine SeqA.read (U8 (g8 (ls a i).1 i)) (fun w' M => by have c0 := cell_g8 (M.row (b := w.heap.size) (c := cs U8 (ls a i).1) (by simp)) (i := i) (by rw [hL]; exact hi32); go_simp) rfl rfl ?_
      refine SeqA.pure (I64 x) (fun w' => by have q := hx; go_simp) rfl rfl ?_
      refine SeqA.pure (.int .i64 i) (fun w' => by go_simp) rfl rfl ?_
      simp only [Act.put, List.setIfInBounds_toArray, List.set_cons_succ, List.set_cons_zero]
      refine SeqA.call _ _ _ (fun w' => by go_simp) (fun w' hI _ => rprime_b w' i hi32) M.size rfl rfl ?_
      refine SeqA.pure (.int .i64 ((x : Int) - (prd i : Int))) (fun w' => by have q := i64w ((x : Int) - (prd i : Int)) (by omega) (by omega); go_simp) rfl rfl ?_
      refine SeqA.pure (I64 c) (fun w' => by go_simp) rfl rfl ?_
      refine SeqA.pure (.int .i64 ((x : Int) - (prd i : Int) - (c : Int))) (fun w' => by have q := i64w ((x : Int) - (prd i : Int) - (c : Int)) (by omega) (by omega); go_simp) rfl rfl ?_
      refine SeqA.pure (.int .i64 ((x : Int) - (prd i : Int) - (c : Int))) (fun w' => by go_simp) rfl rfl ?_
      refine SeqA.nil (fun w1 M2 hz => ?_)
      show wpT _ _ _ _ _ _
      simp only [Act.put, List.setIfInBounds_toArray, List.set_cons_succ, List.set_cons_zero]
      dsimp only [wpT]
      go_upto_region 6 with fail
      clear hx
      obtain ⟨p, hp⟩ : ∃ p, p = prd i := ⟨_, rfl⟩
      rw [← hp] at hpl ⊢
      have HP := hid hp
      clear hp M
      have M := M2
      clear M2
      by_cases hneg : x < p + c
      · obtain ⟨m, hm⟩ : ∃ m, m = x + 256 - p - c := ⟨_, rfl⟩
        have e1 : (x : Int) - p - c < 0 := by omega
        have e2 : (x : Int) - p - c + 256 = (m : Int) := by omega
        have HM := hid hm
        have HN := hid hneg
        clear hm hneg
        go_upto_region 10 with fail
        clear e1 e2
        refine wp_region_seqF 4 [23, 24, 25, 26] [] [] [] (.op 4 .done) (Mm no w _) (by kernel_rfl) (by kernel_rfl) (fun d _ _ _ _ h => by cases d <;> exact h) (by rfl) M.size (fun _ _ h k => h.sf k) M (by kernel_rfl) ?_
        simp only [List.take_succ_cons, List.take_zero]
        refine SeqA.pure (.int .i64 i) (fun w' => by go_simp) rfl rfl ?_
        refine SeqA.pure (I64 m) (fun w' => by go_simp) rfl rfl ?_
        refine SeqA.pure (U8 (BitVec.ofNat 8 m)) (fun w' => by have q := cvi_8 (P := Tryd.prog) w' 3 5 m (by kernel_rfl) Tryd.underlying5; go_simp) rfl rfl ?_
        refine SeqA.pure (.pointer (some ⟨w.heap.size, i, none⟩)) (fun w' => by go_simp) rfl rfl ?_
        refine SeqA.nil (fun w1 M2 hz => ?_)
        show wpT _ _ _ _ _ _
        simp only [Act.put, List.setIfInBounds_toArray, List.set_cons_succ, List.set_cons_zero]
        refine wpT_stc M2 1 (U8 (BitVec.ofNat 8 m)) (cs U8 ((ls a i).1.set i (BitVec.ofNat 8 m))) inf_u8 rfl rfl rfl rfl (by go_simp) (by go_simp) (by have := (by rw [hL]; exact hi32 : i < (ls a i).1.length); first | (simp; done) | (simpa using this) | (simp; omega)) (by simp [go_sem]) (cs_set _ _) rfl (fun w3 M4 => ?_)
        dsimp only [List.set] at M4
        dsimp only [wpT]
        go_wp2_with fail
        go_roundw
        case rel => exact ⟨i + 1, by omega, by go_num, by
            rw [HS.out]
            have e : ((ls a i).1.getD i 0).toNat < prd i + (ls a i).2 := by have := HN.out; rw [HXX.out, HP.out, HC.out] at this; exact this
            show _ = I64 (if ((ls a i).1.getD i 0).toNat < prd i + (ls a i).2 then 1 else 0)
            rw [if_pos e]; rfl, by
            rw [HS.out]
            have e := HM.out
            rw [HXX.out, HP.out, HC.out] at e
            rw [e] at M4; exact M4⟩
        case measure => simp [intOf]; omega
      · obtain ⟨m, hm⟩ : ∃ m, m = x - p - c := ⟨_, rfl⟩
        have e2 : (x : Int) - p - c = (m : Int) := by omega
        have e1 : ¬ ((m : Int) < 0) := by omega
        have HM := hid hm
        have HN := hid hneg
        rw [e2]
        clear hm hneg e2
        go_upto_region 10 with fail
        clear e1
        refine wp_region_seqF 4 [23, 24, 25, 26] [] [] [] (.op 4 .done) (Mm no w _) (by kernel_rfl) (by kernel_rfl) (fun d _ _ _ _ h => by cases d <;> exact h) (by rfl) M.size (fun _ _ h k => h.sf k) M (by kernel_rfl) ?_
        simp only [List.take_succ_cons, List.take_zero]
        refine SeqA.pure (.int .i64 i) (fun w' => by go_simp) rfl rfl ?_
        refine SeqA.pure (I64 m) (fun w' => by go_simp) rfl rfl ?_
        refine SeqA.pure (U8 (BitVec.ofNat 8 m)) (fun w' => by have q := cvi_8 (P := Tryd.prog) w' 3 5 m (by kernel_rfl) Tryd.underlying5; go_simp) rfl rfl ?_
        refine SeqA.pure (.pointer (some ⟨w.heap.size, i, none⟩)) (fun w' => by go_simp) rfl rfl ?_
        refine SeqA.nil (fun w1 M2 hz => ?_)
        show wpT _ _ _ _ _ _
        simp only [Act.put, List.setIfInBounds_toArray, List.set_cons_succ, List.set_cons_zero]
        refine wpT_stc M2 1 (U8 (BitVec.ofNat 8 m)) (cs U8 ((ls a i).1.set i (BitVec.ofNat 8 m))) inf_u8 rfl rfl rfl rfl (by go_simp) (by go_simp) (by have := (by rw [hL]; exact hi32 : i < (ls a i).1.length); first | (simp; done) | (simpa using this) | (simp; omega)) (by simp [go_sem]) (cs_set _ _) rfl (fun w3 M4 => ?_)
        dsimp only [List.set] at M4
        dsimp only [wpT]
        go_wp2_with fail
        go_roundw
        case rel => exact ⟨i + 1, by omega, by go_num, by
            rw [HS.out]
            have e : ¬ ((ls a i).1.getD i 0).toNat < prd i + (ls a i).2 := by have := HN.out; rw [HXX.out, HP.out, HC.out] at this; exact this
            show _ = I64 (if ((ls a i).1.getD i 0).toNat < prd i + (ls a i).2 then 1 else 0)
            rw [if_neg e]; rfl, by
            rw [HS.out]
            have e : BitVec.ofNat 8 m = BitVec.ofNat 8 (((ls a i).1.getD i 0).toNat + 256 - prd i - (ls a i).2) := by
              have h1 := HM.out
              have h2 := HN.out
              have h3 : m + 256 = x + 256 - p - c := by omega
              rw [HXX.out, HP.out, HC.out] at h3
              apply BitVec.eq_of_toNat_eq
              rw [BitVec.toNat_ofNat, BitVec.toNat_ofNat]
              show m % 256 = (((ls a i).1.getD i 0).toNat + 256 - prd i - (ls a i).2) % 256
              have h4 : ((ls a i).1.getD i 0).toNat + 256 - prd i - (ls a i).2 = m + 256 := h3.symm
              rw [h4]; omega
            rw [e] at M4; exact M4⟩
        case measure => simp [intOf]; omega
    · have : i = 32 := by omega
      subst this
      rw [HE.out] at M
      go_upto_region 11 with fail
      have r2 := M.row (b := w.heap.size) (c := cs U8 (kb (leN a - P))) (by simp)
      have f3 := M.free (b := w.heap.size + 1) (c := cs U8 (zs 32)) (by simp)
      have r3 := M.row (b := w.heap.size + 1) (c := cs U8 (zs 32)) (by simp)
      have hkl := kb_len (leN a - P)
      go_wp2_with fail
      have M3 := M.set 0 (cs U8 (kb (leN a - P))) rfl
      dsimp only [List.set] at M3
      have r4 := M3.row (b := w.heap.size + 1) (c := cs U8 (kb (leN a - P))) (by simp)
      refine bodyPost_ret (res_row (b := w.heap.size + 1) rfl Tryd.underlying23 rfl inf_key _ _ rfl (by rw [r4]; simp)) rfl ?_
      rw [r4]
      exact ⟨rfl, M3.end_⟩
theorem mvk_cs (l : List (BitVec 8)) : mvk (cs U8 l) = leN l := by
  unfold mvk leN
  congr 1
  simp [cs, intOf, U8, Function.comp_def]
set_option maxRecDepth 100000 in
set_option maxHeartbeats 2000000 in
theorem rcanon_any (w : World) (a : List (BitVec 8)) (ha : a.length = 32) :
    Calls Tryd.prog 94 #[.agg (cs U8 a)] w fun e w' => e = .returned (.agg (cs U8 (cn (leN a)))) ∧ Below w.heap.size w w' := by
  have M0 := Mm.start no w
  have M1 := ((M0.alloc (cs U8 a) 23 (by decide)).alloc (cs U8 (zs 32)) 23 (by decide))
  simp only [World.size_alloc] at M1
  have HK := hid (kb_leN ha); have HLT := hid (leN_lt32 ha)
  clear ha
  go_enter Tryd.func94, Tryd.ntmps94
  go_wp2_with fail
  go_loopw [4] (fun _ wr => ∃ v : Nat, v < M256 ∧ v % P = leN a % P ∧ Mm no w [(w.heap.size + 1, cs U8 (zs 32)), (w.heap.size, cs U8 (kb v))] wr) (fun _ wr => mvk (wr.rowOf w.heap.size))
  case atStart => exact ⟨leN a, HLT.out, rfl, by rw [HK.out]; exact M1⟩
  case round =>
    clear M1 M0
    obtain ⟨v, hv, hp, M⟩ := hrel
    have hmv : mvk (wr.rowOf w.heap.size) = v := by rw [M.row (b := w.heap.size) (c := cs U8 (kb v)) (by simp), mvk_cs, leN_kb hv]
    have HMV := hid hmv; have HV := hid hv; have HP := hid hp
    clear hmv hv hp
    have r1 := M.row (b := w.heap.size) (c := cs U8 (kb v)) (by simp)
    have hkl := kb_len v
    have hatl := ratl_any wr (kb v) (kb_len v)
    rw [leN_kb HV.out] at hatl
    have HATL := hid hatl
    clear hatl
    by_cases hle : P ≤ v
    · have hd : decide (P ≤ v) = true := decide_eq_true hle
      have HLE := hid hle; have HD := hid hd
      clear hle hd
      go_wp2_with fail
      with_reducible refine ((HATL.out).mono ?_)
      rintro e w2 ⟨rfl, hb2⟩
      rw [HD.out]
      have M2 := M.below hb2
      clear r1 hb2
      have r2 := M2.row (b := w.heap.size) (c := cs U8 (kb v)) (by simp)
      have hls := rless_any w2 (kb v) (kb_len v) (by rw [leN_kb HV.out]; exact HLE.out)
      rw [leN_kb HV.out] at hls
      have HLS := hid hls
      clear hls
      dsimp only
      go_wp2_with fail
      with_reducible refine ((HLS.out).mono ?_)
      rintro e w3 ⟨rfl, hb3⟩
      have M3 := M2.below hb3
      clear r2 hb3
      have r3 := M3.row (b := w.heap.size) (c := cs U8 (kb v)) (by simp)
      have f3 := M3.free (b := w.heap.size) (c := cs U8 (kb v)) (by simp)
      have hkl2 := kb_len (v - P)
      dsimp only
      go_wp2_with fail
      have M4 := M3.set 1 (cs U8 (kb (v - P))) rfl
      dsimp only [List.set] at M4
      have hlt2 : v - P < v := by have := P_pos; have := HLE.out; omega
      go_roundw
      case rel => exact ⟨v - P, by have := HV.out; omega, by rw [← HP.out]; exact (Nat.mod_eq_sub_mod (by have := HLE.out; omega)).symm, M4⟩
      case measure =>
        rw [M4.row (b := w.heap.size) (c := cs U8 (kb (v - P))) (by simp), mvk_cs, HMV.out, leN_kb (by have := HV.out; omega)]
        exact hlt2
    · have hd : decide (P ≤ v) = false := decide_eq_false hle
      have HLE := hid hle; have HD := hid hd
      clear hle hd
      go_wp2_with fail
      with_reducible refine ((HATL.out).mono ?_)
      rintro e w2 ⟨rfl, hb2⟩
      rw [HD.out]
      have M2 := M.below hb2
      clear r1 hb2
      have r2 := M2.row (b := w.heap.size) (c := cs U8 (kb v)) (by simp)
      have f3 := M2.free (b := w.heap.size + 1) (c := cs U8 (zs 32)) (by simp)
      have r3 := M2.row (b := w.heap.size + 1) (c := cs U8 (zs 32)) (by simp)
      dsimp only
      go_wp2_with fail
      have M3 := M2.set 0 (cs U8 (kb v)) rfl
      dsimp only [List.set] at M3
      have r4 := M3.row (b := w.heap.size + 1) (c := cs U8 (kb v)) (by simp)
      refine bodyPost_ret (res_row (b := w.heap.size + 1) rfl Tryd.underlying23 rfl inf_key _ _ rfl (by rw [r4]; simp)) rfl ?_
      rw [r4]
      have e : kb v = cn (leN a) := by unfold cn; rw [← HP.out, Nat.mod_eq_of_lt (by have := HLE.out; omega)]
      exact ⟨by rw [e], M3.end_⟩
end Go.Proofs.YtgclegdgngldoaaDoor
set_option linter.unusedSimpArgs false
set_option linter.unusedVariables false
namespace Go.Proofs.YtgclegdgngldoaaDoor
open Go.RowKit Fp
attribute [local irreducible] prd P aD sD mI mO carL
theorem carL_cn {l : List Nat} (h : ∀ x ∈ l, x ≤ 2147483648) (hl : l.length ≤ 64) (h32 : 32 ≤ l.length) {n : Nat} (hn : vd l % P = n % P) : (carL l).length = 32 ∧ cn (leN (carL l)) = cn n := by
  obtain ⟨h1, h2⟩ := carL_spec l h hl h32
  exact ⟨h1, cn_eq (h2.trans hn)⟩
set_option maxRecDepth 100000 in
set_option maxHeartbeats 4000000 in
theorem radd_any (w : World) (a b : List (BitVec 8)) (ha : a.length = 32) (hb : b.length = 32) :
    Calls Tryd.prog 95 #[.agg (cs U8 a), .agg (cs U8 b)] w fun e w' => e = .returned (.agg (cs U8 (cn (leN a + leN b)))) ∧ Below w.heap.size w w' := by
  have HSP := hid (aD_spec ha hb)
  have HCN := hid (carL_cn (l := aD a b 32) (fun x hx => by have := (aD_spec ha hb 32 (Nat.le_refl _)).2.1 x hx; omega) (by rw [(aD_spec ha hb 32 (Nat.le_refl _)).1]; decide) (by rw [(aD_spec ha hb 32 (Nat.le_refl _)).1]; decide) (by rw [aD_end ha hb]))
  have H0 := hid (aD_zero a b); have HS := hid (aD_succ a b)
  have M0 := Mm.start no w
  have M1 := (((M0.alloc (cs U8 a) 23 (by decide)).alloc (cs U8 b) 23 (by decide)).alloc (cs U8 (zs 32)) 23 (by decide))
  simp only [World.size_alloc] at M1
  have HA := hid ha; have HB := hid hb
  clear ha hb
  go_enter Tryd.func95, Tryd.ntmps95
  go_upto_region 1 with fail
  obtain ⟨w1, hw1⟩ : ∃ w1, w1 = (((w.alloc (.cells (cs U8 a) 23)).alloc (.cells (cs U8 b) 23)).alloc (.cells (cs U8 (zs 32)) 23)) := ⟨_, rfl⟩
  rw [← hw1] at M1 ⊢
  clear hw1
  have r1 := M1.row (b := w.heap.size) (c := cs U8 a) (by simp)
  have hal := HA.out
  go_wp2_with fail
  with_reducible refine ((rdigits_any w1 a HA.out).mono ?_)
  rintro e w2 ⟨u, rfl, hou, hb2⟩
  have hne : a.map (·.toNat) ≠ [] := by intro e; have := HA.out; rw [List.map_eq_nil_iff] at e; rw [e] at this; cases this
  obtain ⟨g, cap, R, rfl, hcap, hmx, hge, M2⟩ := M1.take hb2 hou hne
  rw [List.length_map, HA.out] at hcap ⊢
  have HCAP := hid hcap; have HMX := hid hmx
  have hcapi : (32 : Int) ≤ cap := by omega
  clear r1 hal hou hb2 hne hcap hmx hge M1 M0
  dsimp only
  go_wp2_with fail
  go_loopw [6] (fun t wr => ∃ i : Nat, i ≤ 32 ∧ t = .int .i64 i ∧ Mm no w [(g, cs I64 (aD a b i) ++ R), (w.heap.size + 1 + 1, cs U8 (zs 32)), (w.heap.size + 1, cs U8 b), (w.heap.size, cs U8 a)] wr) (fun t _ => 32 - (intOf t).toNat)
  case atStart => exact ⟨0, by omega, rfl, by rw [H0.out]; exact M2⟩
  case round =>
    clear M2
    obtain ⟨i, hi, rfl, M⟩ := hrel
    obtain ⟨hl, hle, -⟩ := HSP.out i hi
    have hL := hid hl
    by_cases hi32 : i < 32
    · have hx1 : gI (aD a b i) i ≤ 255 + i * 255 := getD_le hle i
      have hx2 := (g8 b i).isLt
      have q0 : (0 : Int) ≤ i := by omega
      have q1 : (i : Int) < 32 := by omega
      clear hle hl
      go_upto_region 5 with fail
      refine wp_region_seq 12 [13, 14, 15, 16, 17, 18, 19, 20, 21, 22, 23, 24] [] [] [] (.op 12 .done) (Mm no w _) (by kernel_rfl) (by kernel_rfl) (by kernel_rfl) (fun d _ _ _ _ h => by cases d <;> exact h) (by rfl) M.size (fun _ _ h k => h.sf k) M ?_
      simp only [List.take_succ_cons, List.take_zero]
      refine SeqA.pure (.slice (some ⟨g, 0, none⟩) 32 cap) (fun w' => by go_simp) rfl rfl ?_
      refine SeqA.pure (.int .i64 i) (fun w' => by go_simp) rfl rfl ?_
      refine SeqA.pure (.slice (some ⟨g, 0, none⟩) 32 cap) (fun w' => by go_simp) rfl rfl ?_
      refine SeqA.pure (.int .i64 i) (fun w' => by go_simp) rfl rfl ?_
      refine SeqA.pure (.pointer (some ⟨g, i, none⟩)) (fun w' => by go_simp) rfl rfl ?_
      simp only [Act.put, List.setIfInBounds_toArray, List.set_cons_succ, List.set_cons_zero]
      refine SeqA.read (I64 (gI (aD a b i) i)) (fun w' M => by have c0 := cell_gI (M.row (b := g) (c := cs I64 (aD a b i) ++ R) (by simp)) (i := i) (by rw [hL]; exact hi32); go_simp) rfl rfl ?_
      refine SeqA.pure (.int .i64 i) (fun w' => by go_simp) rfl rfl ?_
      refine SeqA.pure (.pointer (some ⟨w.heap.size + 1, i, none⟩)) (fun w' => by go_simp) rfl rfl ?_
      refine SeqA.read (U8 (g8 b i)) (fun w' M => by have c0 := cell_g8 (M.row (b := w.heap.size + 1) (c := cs U8 b) (by simp)) (i := i) (by rw [HB.out]; exact hi32); go_simp) rfl rfl ?_
      refine SeqA.pure (I64 (g8 b i).toNat) (fun w' => by go_simp) rfl rfl ?_
      refine SeqA.pure (I64 (gI (aD a b i) i + (g8 b i).toNat)) (fun w' => by have q := i64w ((gI (aD a b i) i : Int) + ((g8 b i).toNat : Int)) (by omega) (by omega); go_simp) rfl rfl ?_
      simp only [Act.put, List.setIfInBounds_toArray, List.set_cons_succ, List.set_cons_zero]
      refine SeqA.pure (.pointer (some ⟨g, i, none⟩)) (fun w' => by go_simp) rfl rfl ?_
      refine SeqA.nil (fun w1 M2 hz => ?_)
      show wpT _ _ _ _ _ _
      simp only [Act.put, List.setIfInBounds_toArray, List.set_cons_succ, List.set_cons_zero]
      refine wpT_stc M2 0 (I64 (gI (aD a b i) i + (g8 b i).toNat)) (cs I64 ((aD a b i).set i (gI (aD a b i) i + (g8 b i).toNat)) ++ R) inf_int rfl rfl rfl rfl (by go_simp) (by go_simp) (by have := (by rw [hL]; exact hi32 : i < (aD a b i).length); first | (simp; done) | (simpa using this) | (simp; omega)) (by simp [go_sem]) (set_gI (by rw [hL]; exact hi32) _) rfl (fun w3 M4 => ?_)
      dsimp only [List.set] at M4
      dsimp only [wpT]
      go_wp2_with fail
      go_roundw
      case rel => exact ⟨i + 1, by omega, by go_num, by rw [HS.out]; exact M4⟩
      case measure => simp [intOf]; omega
    · have : i = 32 := by omega
      subst this
      have HL2 := hid hl
      have HB2 := hid (fun x hx => by have := hle x hx; omega : ∀ x ∈ aD a b 32, x ≤ 2147483648)
      clear hle hl hL
      have r4 := M.row (b := w.heap.size + 1 + 1) (c := cs U8 (zs 32)) (by simp)
      clear r4
      have HI := hid (M.is (g := g) (l := (aD a b 32)) (R := R) (n := 32) (cap := cap) (by simp) (HL2.out.symm) (HCAP.out) (HMX.out))
      go_upto_region 6 with fail
      go_wp2_with fail
      with_reducible refine ((rcarried_any wr _ (aD a b 32) HI.out HB2.out (by rw [HL2.out]; decide) (by rw [HL2.out]; decide)).mono ?_)
      rintro e w5 ⟨rfl, hb5⟩
      have M5 := M.below hb5
      clear hb5
      dsimp only
      go_wp2_with fail
      with_reducible refine ((rcanon_any w5 (carL (aD a b 32)) HCN.out.1).mono ?_)
      rintro e w6 ⟨rfl, hb6⟩
      have M6 := M5.below hb6
      rw [HCN.out.2]
      have r2 := M6.row (b := w.heap.size + 1 + 1) (c := cs U8 (zs 32)) (by simp)
      have f3 := M6.free (b := w.heap.size + 1 + 1) (c := cs U8 (zs 32)) (by simp)
      have hkl := cn_len (leN a + leN b)
      clear hb6
      dsimp only
      go_wp2_with fail
      have M7 := M6.set 1 (cs U8 (cn (leN a + leN b))) rfl
      dsimp only [List.set] at M7
      have r4 := M7.row (b := w.heap.size + 1 + 1) (c := cs U8 (cn (leN a + leN b))) (by simp)
      refine bodyPost_ret (res_row (b := w.heap.size + 1 + 1) rfl Tryd.underlying23 rfl inf_key _ _ rfl (by rw [r4]; simp)) rfl ?_
      rw [r4]
      exact ⟨rfl, M7.end_⟩
set_option maxRecDepth 100000 in
set_option maxHeartbeats 4000000 in
theorem rsub_any (w : World) (a b : List (BitVec 8)) (ha : a.length = 32) (hb : b.length = 32) :
    Calls Tryd.prog 96 #[.agg (cs U8 a), .agg (cs U8 b)] w fun e w' => e = .returned (.agg (cs U8 (cn (leN a + 4 * P - leN b)))) ∧ Below w.heap.size w w' := by
  have HSP := hid (sD_spec ha hb)
  have HCN := hid (carL_cn (l := sD a b 32) (fun x hx => by have := (sD_spec ha hb 32 (Nat.le_refl _)).2.1 x hx; omega) (by rw [(sD_spec ha hb 32 (Nat.le_refl _)).1]; decide) (by rw [(sD_spec ha hb 32 (Nat.le_refl _)).1]; decide) (by rw [show vd (sD a b 32) = leN a + 4 * P - leN b by have := sD_end ha hb; omega]))
  have H0 := hid (sD_zero a b); have HS := hid (sD_succ a b)
  have M0 := Mm.start no w
  have M1 := (((M0.alloc (cs U8 a) 23 (by decide)).alloc (cs U8 b) 23 (by decide)).alloc (cs U8 (zs 32)) 23 (by decide))
  simp only [World.size_alloc] at M1
  have HA := hid ha; have HB := hid hb
  clear ha hb
  go_enter Tryd.func96, Tryd.ntmps96
  go_upto_region 1 with fail
  obtain ⟨w1, hw1⟩ : ∃ w1, w1 = (((w.alloc (.cells (cs U8 a) 23)).alloc (.cells (cs U8 b) 23)).alloc (.cells (cs U8 (zs 32)) 23)) := ⟨_, rfl⟩
  rw [← hw1] at M1 ⊢
  clear hw1
  have r1 := M1.row (b := w.heap.size) (c := cs U8 a) (by simp)
  have hal := HA.out
  go_wp2_with fail
  with_reducible refine ((rdigits_any w1 a HA.out).mono ?_)
  rintro e w2 ⟨u, rfl, hou, hb2⟩
  have hne : a.map (·.toNat) ≠ [] := by intro e; have := HA.out; rw [List.map_eq_nil_iff] at e; rw [e] at this; cases this
  obtain ⟨g, cap, R, rfl, hcap, hmx, hge, M2⟩ := M1.take hb2 hou hne
  rw [List.length_map, HA.out] at hcap ⊢
  have HCAP := hid hcap; have HMX := hid hmx
  have hcapi : (32 : Int) ≤ cap := by omega
  clear r1 hal hou hb2 hne hcap hmx hge M1 M0
  dsimp only
  go_wp2_with fail
  go_loopw [6] (fun t wr => ∃ i : Nat, i ≤ 32 ∧ t = .int .i64 i ∧ Mm no w [(g, cs I64 (sD a b i) ++ R), (w.heap.size + 1 + 1, cs U8 (zs 32)), (w.heap.size + 1, cs U8 b), (w.heap.size, cs U8 a)] wr) (fun t _ => 32 - (intOf t).toNat)
  case atStart => exact ⟨0, by omega, rfl, by rw [H0.out]; exact M2⟩
  case round =>
    clear M2
    obtain ⟨i, hi, rfl, M⟩ := hrel
    obtain ⟨hl, hle, -⟩ := HSP.out i hi
    have hL := hid hl
    by_cases hi32 : i < 32
    · have hx1 : gI (sD a b i) i ≤ 255 + i * 1020 := getD_le hle i
      have hx2 := (g8 b i).isLt
      have hp1 := prd_le i
      have hp2 := prd_ge i
      obtain ⟨m, hm⟩ : ∃ m, m = gI (sD a b i) i + 4 * prd i - (g8 b i).toNat := ⟨_, rfl⟩
      have hmI : ((gI (sD a b i) i : Int) + 4 * (prd i : Int) - ((g8 b i).toNat : Int)) = (m : Int) := by omega
      have HM := hid hmI; have HMN := hid hm
      have hml : m ≤ 100000 := by omega
      have q0 : (0 : Int) ≤ i := by omega
      have q1 : (i : Int) < 32 := by omega
      clear hle hl hm hmI
      go_upto_region 5 with fail
      refine wp_region_seq 16 [13, 14, 15, 16, 17, 18, 19, 20, 21, 22, 23, 24, 25, 26, 27, 28] [] [] [] (.op 16 .done) (Mm no w _) (by kernel_rfl) (by kernel_rfl) (by kernel_rfl) (fun d _ _ _ _ h => by cases d <;> exact h) (by rfl) M.size (fun _ _ h k => h.sf k) M ?_
      simp only [List.take_succ_cons, List.take_zero]
      refine SeqA.pure (.slice (some ⟨g, 0, none⟩) 32 cap) (fun w' => by go_simp) rfl rfl ?_
      refine SeqA.pure (.int .i64 i) (fun w' => by go_simp) rfl rfl ?_
      refine SeqA.pure (.slice (some ⟨g, 0, none⟩) 32 cap) (fun w' => by go_simp) rfl rfl ?_
      refine SeqA.pure (.int .i64 i) (fun w' => by go_simp) rfl rfl ?_
      refine SeqA.pure (.pointer (some ⟨g, i, none⟩)) (fun w' => by go_simp) rfl rfl ?_
      simp only [Act.put, List.setIfInBounds_toArray, List.set_cons_succ, List.set_cons_zero]
      refine SeqA.read (I64 (gI (sD a b i) i)) (fun w' M => by have c0 := cell_gI (M.row (b := g) (c := cs I64 (sD a b i) ++ R) (by simp)) (i := i) (by rw [hL]; exact hi32); go_simp) rfl rfl ?_
      refine SeqA.pure (.int .i64 i) (fun w' => by go_simp) rfl rfl ?_
      refine SeqA.call _ _ _ (fun w' => by go_simp) (fun w' hI _ => rprime_b w' i hi32) M.size rfl rfl ?_
      refine SeqA.pure (I64 (4 * prd i)) (fun w' => by have q := i64w (4 * (prd i : Int)) (by omega) (by omega); go_simp) rfl rfl ?_
      refine SeqA.pure (I64 (gI (sD a b i) i + 4 * prd i)) (fun w' => by have q := i64w ((gI (sD a b i) i : Int) + 4 * (prd i : Int)) (by omega) (by omega); go_simp) rfl rfl ?_
      refine SeqA.pure (.int .i64 i) (fun w' => by go_simp) rfl rfl ?_
      simp only [Act.put, List.setIfInBounds_toArray, List.set_cons_succ, List.set_cons_zero]
      refine SeqA.pure (.pointer (some ⟨w.heap.size + 1, i, none⟩)) (fun w' => by go_simp) rfl rfl ?_
      refine SeqA.read (U8 (g8 b i)) (fun w' M => by have c0 := cell_g8 (M.row (b := w.heap.size + 1) (c := cs U8 b) (by simp)) (i := i) (by rw [HB.out]; exact hi32); go_simp) rfl rfl ?_
      refine SeqA.pure (I64 (g8 b i).toNat) (fun w' => by go_simp) rfl rfl ?_
      refine SeqA.pure (I64 m) (fun w' => by have q := HM.out; have q2 := i64w (m : Int) (by omega) (by omega); go_simp) rfl rfl ?_
      refine SeqA.pure (.pointer (some ⟨g, i, none⟩)) (fun w' => by go_simp) rfl rfl ?_
      refine SeqA.nil (fun w1 M2 hz => ?_)
      show wpT _ _ _ _ _ _
      simp only [Act.put, List.setIfInBounds_toArray, List.set_cons_succ, List.set_cons_zero]
      refine wpT_stc M2 0 (I64 m) (cs I64 ((sD a b i).set i m) ++ R) inf_int rfl rfl rfl rfl (by go_simp) (by go_simp) (by have := (by rw [hL]; exact hi32 : i < (sD a b i).length); first | (simp; done) | (simpa using this) | (simp; omega)) (by simp [go_sem]) (set_gI (by rw [hL]; exact hi32) _) rfl (fun w3 M4 => ?_)
      dsimp only [List.set] at M4
      dsimp only [wpT]
      go_wp2_with fail
      go_roundw
      case rel => exact ⟨i + 1, by omega, by go_num, by
          rw [HS.out]
          have e := HMN.out
          rw [e] at M4; exact M4⟩
      case measure => simp [intOf]; omega
    · have : i = 32 := by omega
      subst this
      have HL2 := hid hl
      have HB2 := hid (fun x hx => by have := hle x hx; omega : ∀ x ∈ sD a b 32, x ≤ 2147483648)
      clear hle hl hL
      have r4 := M.row (b := w.heap.size + 1 + 1) (c := cs U8 (zs 32)) (by simp)
      clear r4
      have HI := hid (M.is (g := g) (l := (sD a b 32)) (R := R) (n := 32) (cap := cap) (by simp) (HL2.out.symm) (HCAP.out) (HMX.out))
      go_upto_region 6 with fail
      go_wp2_with fail
      with_reducible refine ((rcarried_any wr _ (sD a b 32) HI.out HB2.out (by rw [HL2.out]; decide) (by rw [HL2.out]; decide)).mono ?_)
      rintro e w5 ⟨rfl, hb5⟩
      have M5 := M.below hb5
      clear hb5
      dsimp only
      go_wp2_with fail
      with_reducible refine ((rcanon_any w5 (carL (sD a b 32)) HCN.out.1).mono ?_)
      rintro e w6 ⟨rfl, hb6⟩
      have M6 := M5.below hb6
      rw [HCN.out.2]
      have r2 := M6.row (b := w.heap.size + 1 + 1) (c := cs U8 (zs 32)) (by simp)
      have f3 := M6.free (b := w.heap.size + 1 + 1) (c := cs U8 (zs 32)) (by simp)
      have hkl := cn_len (leN a + 4 * P - leN b)
      clear hb6
      dsimp only
      go_wp2_with fail
      have M7 := M6.set 1 (cs U8 (cn (leN a + 4 * P - leN b))) rfl
      dsimp only [List.set] at M7
      have r4 := M7.row (b := w.heap.size + 1 + 1) (c := cs U8 (cn (leN a + 4 * P - leN b))) (by simp)
      refine bodyPost_ret (res_row (b := w.heap.size + 1 + 1) rfl Tryd.underlying23 rfl inf_key _ _ rfl (by rw [r4]; simp)) rfl ?_
      rw [r4]
      exact ⟨rfl, M7.end_⟩
theorem rd_mk64 (w : World) : (Instr.makeSlice 133 (.int .i64 64) (.int .i64 64)).run Tryd.prog w = .ok (.slice (some ⟨w.heap.size, 0, none⟩) 64 64) (w.alloc (.cells (cs I64 z64 ++ #[]) 3)) := by kernel_rfl
set_option maxRecDepth 100000 in
set_option maxHeartbeats 4000000 in
theorem rmul_any (w : World) (a b : List (BitVec 8)) (ha : a.length = 32) (hb : b.length = 32) :
    Calls Tryd.prog 77 #[.agg (cs U8 a), .agg (cs U8 b)] w fun e w' => e = .returned (.agg (cs U8 (cn (leN a * leN b)))) ∧ Below w.heap.size w w' := by
  have HSP := hid (mO_spec ha hb)
  have HCN := hid (carL_cn (l := mO a b 32) (fun x hx => by have := (mO_spec ha hb 32 (Nat.le_refl _)).2.1 x hx; omega) (by rw [(mO_spec ha hb 32 (Nat.le_refl _)).1]; decide) (by rw [(mO_spec ha hb 32 (Nat.le_refl _)).1]; decide) (by rw [mO_end ha hb]))
  have HO0 := hid (mO_zero a b); have HOS := hid (mO_succ a b)
  have M0 := Mm.start no w
  have M1 := (((M0.alloc (cs U8 a) 23 (by decide)).alloc (cs U8 b) 23 (by decide)).alloc (cs U8 (zs 32)) 23 (by decide))
  simp only [World.size_alloc] at M1
  have HA := hid ha; have HB := hid hb
  clear ha hb
  go_enter Tryd.func77, Tryd.ntmps77
  go_upto_region 1 with fail
  obtain ⟨w1, hw1⟩ : ∃ w1, w1 = (((w.alloc (.cells (cs U8 a) 23)).alloc (.cells (cs U8 b) 23)).alloc (.cells (cs U8 (zs 32)) 23)) := ⟨_, rfl⟩
  rw [← hw1] at M1 ⊢
  clear hw1
  have hmk := rd_mk64
  obtain ⟨R, hR⟩ : ∃ R, R = (#[] : Array Value) := ⟨_, rfl⟩
  rw [← hR] at hmk
  have M2 := M1.alloc (cs I64 z64 ++ R) 3 (by decide)
  obtain ⟨g, hg⟩ : ∃ b, b = w1.heap.size := ⟨_, rfl⟩
  clear hR
  go_upto_region 2 with fail
  obtain ⟨w2, hw2⟩ : ∃ w2, w2 = w1.alloc (.cells (cs I64 z64 ++ R) 3) := ⟨_, rfl⟩
  rw [← hg, ← hw2] at M2
  rw [← hg, ← hw2]
  clear hg hw2 hmk M1 M0
  go_wp2_with fail
  go_loopw [6] (fun t wr => ∃ i : Nat, i ≤ 32 ∧ t = .int .i64 i ∧ Mm no w [(g, cs I64 (mO a b i) ++ R), (w.heap.size + 1 + 1, cs U8 (zs 32)), (w.heap.size + 1, cs U8 b), (w.heap.size, cs U8 a)] wr) (fun t _ => 32 - (intOf t).toNat)
  case atStart => exact ⟨0, by omega, rfl, by rw [HO0.out]; exact M2⟩
  case round =>
    clear M2
    obtain ⟨i, hi, rfl, M⟩ := hrel
    obtain ⟨hl, hle, -⟩ := HSP.out i hi
    by_cases hi32 : i < 32
    · obtain ⟨x, hx⟩ : ∃ x, x = (a.getD i 0).toNat := ⟨_, rfl⟩
      have hxl : x ≤ 255 := by rw [hx]; have := (a.getD i 0).isLt; omega
      have HMI := hid (mI_spec (b := b) (i := i) (x := x) hl HB.out hi32 hxl hle)
      obtain ⟨L, hLL⟩ : ∃ L, L = mO a b i := ⟨_, rfl⟩
      rw [← hLL] at HMI M
      have HLL := hid hLL
      have HI0 := hid (mI_zero L b i x); have HIS := hid (mI_succ L b i x)
      have hxI : ((g8 a i).toNat : Int) = (x : Int) := by rw [hx]; rfl
      have HX := hid hxI; have HXN := hid hx
      have q0 : (0 : Int) ≤ i := by omega
      have q1 : (i : Int) < 32 := by omega
      clear hl hle hx hxI hLL
      go_wp2_with fail
      obtain ⟨wo, hwo⟩ : ∃ wo, wo = wr := ⟨_, rfl⟩
      rw [← hwo] at M ⊢
      clear hwo
      go_loopw [7] (fun t wr => ∃ k : Nat, k ≤ 32 ∧ t = .int .i64 k ∧ Mm no w [(g, cs I64 (mI L b i x k) ++ R), (w.heap.size + 1 + 1, cs U8 (zs 32)), (w.heap.size + 1, cs U8 b), (w.heap.size, cs U8 a)] wr) (fun t _ => 32 - (intOf t).toNat)
      case atStart => exact ⟨0, by omega, rfl, by rw [HI0.out]; exact M⟩
      case round =>
        clear M
        obtain ⟨k, hk, rfl, M⟩ := hrel
        obtain ⟨hl, hle, -⟩ := HMI.out k hk
        have hL := hid hl
        by_cases hk32 : k < 32
        · obtain ⟨j, hj⟩ : ∃ j, j = i + k := ⟨_, rfl⟩
          have hj64 : j < 64 := by omega
          have hjI : ((i : Int) + (k : Int)) = (j : Int) := by omega
          have hx1 : gI (mI L b i x k) j ≤ i * 2080800 + k * 65025 := getD_le hle j
          obtain ⟨m, hm⟩ : ∃ m, m = x * (g8 b k).toNat := ⟨_, rfl⟩
          have hx2 := (g8 b k).isLt
          have hml : m ≤ 255 * 255 := by rw [hm]; exact Nat.mul_le_mul hxl (by omega)
          have hmI : ((x : Int) * ((g8 b k).toNat : Int)) = (m : Int) := by rw [hm]; simp
          have HM := hid hmI; have HJ := hid hjI; have HMN := hid hm; have HJN := hid hj
          have p0 : (0 : Int) ≤ k := by omega
          have p1 : (k : Int) < 32 := by omega
          have p2 : (j : Int) < 64 := by omega
          clear hl hle hm hmI hj hjI
          go_upto_region 8 with fail
          have hxl2 := hxl
          refine wp_region_seq 21 [17, 18, 19, 20, 21, 22, 23, 24, 25, 26, 27, 28, 29, 30, 31, 32, 33, 34, 35, 36, 37] [] [] [] (.op 21 .done) (Mm no w _) (by kernel_rfl) (by kernel_rfl) (by kernel_rfl) (fun d _ _ _ _ h => by cases d <;> exact h) (by rfl) M.size (fun _ _ h k => h.sf k) M ?_
          simp only [List.take_succ_cons, List.take_zero]
          refine SeqA.pure (.slice (some ⟨g, 0, none⟩) 64 64) (fun w' => by go_simp) rfl rfl ?_
          refine SeqA.pure (.int .i64 i) (fun w' => by go_simp) rfl rfl ?_
          refine SeqA.pure (.int .i64 k) (fun w' => by go_simp) rfl rfl ?_
          refine SeqA.pure (.int .i64 j) (fun w' => by have q := HJ.out; have q2 := i64w (j : Int) (by omega) (by omega); go_simp) rfl rfl ?_
          refine SeqA.pure (.slice (some ⟨g, 0, none⟩) 64 64) (fun w' => by go_simp) rfl rfl ?_
          simp only [Act.put, List.setIfInBounds_toArray, List.set_cons_succ, List.set_cons_zero]
          refine SeqA.pure (.int .i64 i) (fun w' => by go_simp) rfl rfl ?_
          refine SeqA.pure (.int .i64 k) (fun w' => by go_simp) rfl rfl ?_
          refine SeqA.pure (.int .i64 j) (fun w' => by have q := HJ.out; have q2 := i64w (j : Int) (by omega) (by omega); go_simp) rfl rfl ?_
          refine SeqA.pure (.pointer (some ⟨g, j, none⟩)) (fun w' => by go_simp) rfl rfl ?_
          refine SeqA.read (I64 (gI (mI L b i x k) j)) (fun w' M => by have c0 := cell_gI (M.row (b := g) (c := cs I64 (mI L b i x k) ++ R) (by simp)) (i := j) (by rw [hL]; exact hj64); go_simp) rfl rfl ?_
          refine SeqA.pure (.int .i64 i) (fun w' => by go_simp) rfl rfl ?_
          simp only [Act.put, List.setIfInBounds_toArray, List.set_cons_succ, List.set_cons_zero]
          refine SeqA.pure (.pointer (some ⟨w.heap.size, i, none⟩)) (fun w' => by go_simp) rfl rfl ?_
          refine SeqA.read (U8 (g8 a i)) (fun w' M => by have c0 := cell_g8 (M.row (b := w.heap.size) (c := cs U8 a) (by simp)) (i := i) (by rw [HA.out]; exact hi32); go_simp) rfl rfl ?_
          refine SeqA.pure (I64 x) (fun w' => by have q := HX.out; go_simp) rfl rfl ?_
          refine SeqA.pure (.int .i64 k) (fun w' => by go_simp) rfl rfl ?_
          refine SeqA.pure (.pointer (some ⟨w.heap.size + 1, k, none⟩)) (fun w' => by go_simp) rfl rfl ?_
          refine SeqA.read (U8 (g8 b k)) (fun w' M => by have c0 := cell_g8 (M.row (b := w.heap.size + 1) (c := cs U8 b) (by simp)) (i := k) (by rw [HB.out]; exact hk32); go_simp) rfl rfl ?_
          simp only [Act.put, List.setIfInBounds_toArray, List.set_cons_succ, List.set_cons_zero]
          refine SeqA.pure (I64 (g8 b k).toNat) (fun w' => by go_simp) rfl rfl ?_
          refine SeqA.pure (I64 m) (fun w' => by have q := HM.out; have q2 := i64w (m : Int) (by omega) (by omega); go_simp) rfl rfl ?_
          refine SeqA.pure (I64 (gI (mI L b i x k) j + m)) (fun w' => by have q := i64w ((gI (mI L b i x k) j : Int) + (m : Int)) (by omega) (by omega); go_simp) rfl rfl ?_
          refine SeqA.pure (.pointer (some ⟨g, j, none⟩)) (fun w' => by go_simp) rfl rfl ?_
          refine SeqA.nil (fun w1 M2 hz => ?_)
          show wpT _ _ _ _ _ _
          simp only [Act.put, List.setIfInBounds_toArray, List.set_cons_succ, List.set_cons_zero]
          refine wpT_stc M2 0 (I64 (gI (mI L b i x k) j + m)) (cs I64 ((mI L b i x k).set j (gI (mI L b i x k) j + m)) ++ R) inf_int rfl rfl rfl rfl (by go_simp) (by go_simp) (by have := (by rw [hL]; exact hj64 : j < (mI L b i x k).length); first | (simp; done) | (simpa using this) | (simp; omega)) (by simp [go_sem]) (set_gI (by rw [hL]; exact hj64) _) rfl (fun w3 M4 => ?_)
          dsimp only [List.set] at M4
          dsimp only [wpT]
          go_wp2_with fail
          go_roundw
          case rel => exact ⟨k + 1, by omega, by go_num, by
              rw [HIS.out]
              have e := HMN.out
              rw [e, HJN.out] at M4; exact M4⟩
          case measure => simp [intOf]; omega
        · have : k = 32 := by omega
          subst this
          rw [show ((32 : Nat) : Int) = 32 from rfl]
          go_wp2_with fail
          go_roundw
          case rel => exact ⟨i + 1, by omega, by go_num, by rw [HOS.out, ← HLL.out, ← HXN.out]; exact M⟩
          case measure => simp [intOf]; omega
    · have : i = 32 := by omega
      subst this
      have HL2 := hid hl
      have HB2 := hid (fun x hx => by have := hle x hx; omega : ∀ x ∈ mO a b 32, x ≤ 2147483648)
      clear hle hl
      have r4 := M.row (b := w.heap.size + 1 + 1) (c := cs U8 (zs 32)) (by simp)
      clear r4
      have HI := hid (M.is (g := g) (l := (mO a b 32)) (R := R) (n := 64) (cap := 64) (by simp) (HL2.out.symm) (Nat.le_refl _) (by decide))
      go_upto_region 9 with fail
      go_wp2_with fail
      with_reducible refine ((rcarried_any wr _ (mO a b 32) HI.out HB2.out (by rw [HL2.out]; decide) (by rw [HL2.out]; decide)).mono ?_)
      rintro e w5 ⟨rfl, hb5⟩
      have M5 := M.below hb5
      clear hb5
      dsimp only
      go_wp2_with fail
      with_reducible refine ((rcanon_any w5 (carL (mO a b 32)) HCN.out.1).mono ?_)
      rintro e w6 ⟨rfl, hb6⟩
      have M6 := M5.below hb6
      rw [HCN.out.2]
      have r2 := M6.row (b := w.heap.size + 1 + 1) (c := cs U8 (zs 32)) (by simp)
      have f3 := M6.free (b := w.heap.size + 1 + 1) (c := cs U8 (zs 32)) (by simp)
      have hkl := cn_len (leN a * leN b)
      clear hb6
      dsimp only
      go_wp2_with fail
      have M7 := M6.set 1 (cs U8 (cn (leN a * leN b))) rfl
      dsimp only [List.set] at M7
      have r4 := M7.row (b := w.heap.size + 1 + 1) (c := cs U8 (cn (leN a * leN b))) (by simp)
      refine bodyPost_ret (res_row (b := w.heap.size + 1 + 1) rfl Tryd.underlying23 rfl inf_key _ _ rfl (by rw [r4]; simp)) rfl ?_
      rw [r4]
      exact ⟨rfl, M7.end_⟩
end Go.Proofs.YtgclegdgngldoaaDoor

set_option linter.unusedSimpArgs false
set_option linter.unusedVariables false
namespace Go.Proofs.YtgclegdgngldoaaDoor.Fp
theorem rp_zero (a : Nat) : rp a 0 = 1 := rfl
theorem rp_succ (a n : Nat) : rp a (n + 1) = if 254 - n ≠ 2 ∧ 254 - n ≠ 4 then (rp a n * rp a n % P) * a % P else rp a n * rp a n % P := rfl
theorem rp_lt (a : Nat) : ∀ n, rp a n < P
  | 0 => by rw [rp_zero]; decide
  | n + 1 => by rw [rp_succ]; split <;> exact Nat.mod_lt _ P_pos
theorem rp_pow (a : Nat) : ∀ n, rp a n = a ^ eb n % P
  | 0 => by rw [rp_zero]; rfl
  | n + 1 => by
    have ih := rp_pow a n
    have h2 : rp a n * rp a n % P = a ^ (2 * eb n) % P := by rw [ih, ← Nat.mul_mod, ← Nat.pow_add]; congr 2; omega
    rw [rp_succ, h2]
    simp only [eb]
    split
    · rw [Nat.pow_succ, Nat.mod_mul_mod]
    · rfl
theorem eb_end : eb 255 = P - 2 := by decide +kernel
theorem rp_end (a : Nat) : rp a 255 = a ^ (P - 2) % P := by rw [rp_pow, eb_end]
end Go.Proofs.YtgclegdgngldoaaDoor.Fp
namespace Go.Proofs.YtgclegdgngldoaaDoor
open Go.RowKit Fp
attribute [local irreducible] P rp
theorem one_kb : (cs U8 (zs 32)).setIfInBounds 0 (.int .u8 1) = cs U8 (kb 1) := by kernel_rfl
set_option maxRecDepth 100000 in
set_option maxHeartbeats 4000000 in
theorem rinv_any (w : World) (a : List (BitVec 8)) (ha : a.length = 32) :
    Calls Tryd.prog 78 #[.agg (cs U8 a)] w fun e w' => e = .returned (.agg (cs U8 (kb (leN a ^ (P - 2) % P)))) ∧ Below w.heap.size w w' := by
  rw [← rp_end]
  have M0 := Mm.start no w
  have M1 := (((M0.alloc (cs U8 a) 23 (by decide)).alloc (cs U8 (zs 32)) 23 (by decide)).alloc (cs U8 (zs 32)) 23 (by decide))
  simp only [World.size_alloc] at M1
  have HA := hid ha; have HR0 := hid (rp_zero (leN a)); have HRS := hid (rp_succ (leN a))
  have HRL := hid (rp_lt (leN a))
  clear ha
  go_enter Tryd.func78, Tryd.ntmps78
  go_upto_region 2 with fail
  obtain ⟨w1, hw1⟩ : ∃ w1, w1 = (((w.alloc (.cells (cs U8 a) 23)).alloc (.cells (cs U8 (zs 32)) 23)).alloc (.cells (cs U8 (zs 32)) 23)) := ⟨_, rfl⟩
  rw [← hw1] at M1 ⊢
  clear hw1
  refine wp_region_seqF 1 [5] [] [] [] (.op 1 .done) (Mm no w _) (by kernel_rfl) (by kernel_rfl) (fun d _ _ _ _ h => by cases d <;> exact h) (by rfl) M1.size (fun _ _ h k => h.sf k) M1 (by kernel_rfl) ?_
  simp only [List.take_succ_cons, List.take_zero]
  refine SeqA.pure (.pointer (some ⟨w.heap.size + 1 + 1, 0, none⟩)) (fun w' => by go_simp) rfl rfl ?_
  refine SeqA.nil (fun w2 M2 hz => ?_)
  show wpT _ _ _ _ _ _
  refine wpT_stc M2 0 (.int .u8 1) (cs U8 (kb 1)) inf_u8 rfl rfl rfl rfl (by go_simp) (by go_simp) (by simp) (by simp [go_sem]) one_kb rfl (fun w3 M3 => ?_)
  dsimp only [List.set] at M3
  dsimp only [wpT]
  simp only [Act.put, List.setIfInBounds_toArray, List.set_cons_succ, List.set_cons_zero]
  clear M1 M0 M2
  go_wp2_with fail
  go_loopw [4] (fun t wr => ∃ j : Nat, j ≤ 255 ∧ t = .int .i64 ((j : Int) - 1) ∧ Mm no w [(w.heap.size + 1 + 1, cs U8 (kb (rp (leN a) (255 - j)))), (w.heap.size + 1, cs U8 (zs 32)), (w.heap.size, cs U8 a)] wr) (fun t _ => (intOf t + 1).toNat)
  case atStart => exact ⟨255, by omega, rfl, by rw [Nat.sub_self, HR0.out]; exact M3⟩
  case round =>
    clear M3
    obtain ⟨j, hj, rfl, M⟩ := hrel
    by_cases hj0 : 0 < j
    · obtain ⟨i, rfl⟩ : ∃ i, j = i + 1 := ⟨j - 1, by omega⟩
      have ei : (((i + 1 : Nat) : Int) - 1) = (i : Int) := by omega
      rw [ei]
      have q0 : (0 : Int) ≤ i := by omega
      have en : 255 - (i + 1) = 254 - i := by omega
      rw [en] at M
      obtain ⟨n, hn⟩ : ∃ n, n = 254 - i := ⟨_, rfl⟩
      rw [← hn] at M
      obtain ⟨v, hv⟩ : ∃ v, v = rp (leN a) n := ⟨_, rfl⟩
      rw [← hv] at M
      have hvl : v < M256 := by rw [hv]; exact Nat.lt_trans (HRL.out n) P_lt
      have HV := hid hv; have HN := hid hn; have HVL := hid hvl
      have r1 := M.row (b := w.heap.size + 1 + 1) (c := cs U8 (kb v)) (by simp)
      have hkl := kb_len v
      clear hv hn hvl ei en
      have hmul := fun w => rmul_any w (kb v) (kb v) (kb_len v) (kb_len v)
      rw [leN_kb HVL.out] at hmul
      have HMUL := hid hmul
      clear hmul
      obtain ⟨s, hs⟩ : ∃ s, s = v * v % P := ⟨_, rfl⟩
      have hcs : cn (v * v) = kb s := by rw [hs]; rfl
      have hsl : s < M256 := by rw [hs]; exact Nat.lt_trans (Nat.mod_lt _ P_pos) P_lt
      have HS := hid hs; have HCS := hid hcs; have HSL := hid hsl
      clear hs hcs hsl
      go_wp2_with fail
      with_reducible refine ((HMUL.out wr).mono ?_)
      rintro e w4 ⟨rfl, hb4⟩
      rw [HCS.out]
      have M4 := M.below hb4
      clear r1 hb4 hkl
      have r2 := M4.row (b := w.heap.size + 1 + 1) (c := cs U8 (kb v)) (by simp)
      have f2 := M4.free (b := w.heap.size + 1 + 1) (c := cs U8 (kb v)) (by simp)
      have hkl := kb_len v
      have hkl2 := kb_len s
      dsimp only
      by_cases h2 : i = 2
      · subst h2
        go_upto_region 7 with fail
        have M5 := M4.set 0 (cs U8 (kb s)) rfl
        dsimp only [List.set] at M5
        obtain ⟨w5, hw5⟩ : ∃ w5, w5 = w4.setRow (w.heap.size + 1 + 1) (cs U8 (kb s)) := ⟨_, rfl⟩
        rw [← hw5] at M5 ⊢
        clear hw5 r2 f2 hkl hkl2
        go_wp2_with fail
        go_roundw
        case rel => exact ⟨2, by omega, rfl, by
          have e : rp (leN a) (255 - 2) = s := by
            have := HRS.out n
            rw [HN.out] at this
            rw [show 255 - 2 = 254 - 2 + 1 from rfl, this, HS.out, HV.out, HN.out]; rfl
          rw [e]; exact M5⟩
        case measure => simp [intOf]
      · by_cases h4 : i = 4
        · subst h4
          go_upto_region 7 with fail
          have M5 := M4.set 0 (cs U8 (kb s)) rfl
          dsimp only [List.set] at M5
          obtain ⟨w5, hw5⟩ : ∃ w5, w5 = w4.setRow (w.heap.size + 1 + 1) (cs U8 (kb s)) := ⟨_, rfl⟩
          rw [← hw5] at M5 ⊢
          clear hw5 r2 f2 hkl hkl2
          go_wp2_with fail
          go_roundw
          case rel => exact ⟨4, by omega, rfl, by
            have e : rp (leN a) (255 - 4) = s := by
              have := HRS.out n
              rw [HN.out] at this
              rw [show 255 - 4 = 254 - 4 + 1 from rfl, this, HS.out, HV.out, HN.out]; rfl
            rw [e]; exact M5⟩
          case measure => simp [intOf]
        · have e2 : ((i : Int) != 2) = true := by simp; omega
          have e4 : ((i : Int) != 4) = true := by simp; omega
          have H2 := hid h2; have H4 := hid h4
          clear h2 h4
          have hmul := fun w => rmul_any w (kb s) a (kb_len s) HA.out
          rw [leN_kb HSL.out] at hmul
          have HMUL2 := hid hmul
          clear hmul
          go_upto_region 7 with fail
          have M5 := M4.set 0 (cs U8 (kb s)) rfl
          dsimp only [List.set] at M5
          obtain ⟨w5, hw5⟩ : ∃ w5, w5 = w4.setRow (w.heap.size + 1 + 1) (cs U8 (kb s)) := ⟨_, rfl⟩
          rw [← hw5] at M5 ⊢
          clear hw5 r2 f2
          have r3 := M5.row (b := w.heap.size + 1 + 1) (c := cs U8 (kb s)) (by simp)
          have r4 := M5.row (b := w.heap.size) (c := cs U8 a) (by simp)
          have hal := HA.out
          go_wp2_with fail
          with_reducible refine ((HMUL2.out w5).mono ?_)
          rintro e w6 ⟨rfl, hb6⟩
          obtain ⟨t, ht⟩ : ∃ t, t = s * leN a % P := ⟨_, rfl⟩
          have hct : cn (s * leN a) = kb t := by rw [ht]; rfl
          rw [hct]
          have HT := hid ht
          have M6 := M5.below hb6
          clear r3 r4 hb6 hct ht
          have r5 := M6.row (b := w.heap.size + 1 + 1) (c := cs U8 (kb s)) (by simp)
          have f5 := M6.free (b := w.heap.size + 1 + 1) (c := cs U8 (kb s)) (by simp)
          have hkl3 := kb_len t
          dsimp only
          go_wp2_with fail
          have M7 := M6.set 0 (cs U8 (kb t)) rfl
          dsimp only [List.set] at M7
          go_roundw
          case rel => exact ⟨i, by omega, by go_num, by
            have e : rp (leN a) (255 - i) = t := by
              have h := HRS.out n
              have hn := HN.out
              rw [show 255 - i = n + 1 by omega, h, if_pos ⟨by rw [hn]; have := H2.out; omega, by rw [hn]; have := H4.out; omega⟩, HT.out, HS.out, HV.out]
            rw [e]; exact M7⟩
          case measure => simp [intOf]
    · have : j = 0 := by omega
      subst this
      rw [show (((0 : Nat) : Int) - 1) = -1 from rfl]
      go_upto_region 9 with fail
      have r2 := M.row (b := w.heap.size + 1 + 1) (c := cs U8 (kb (rp (leN a) 255))) (by simp)
      have f3 := M.free (b := w.heap.size + 1) (c := cs U8 (zs 32)) (by simp)
      have r3 := M.row (b := w.heap.size + 1) (c := cs U8 (zs 32)) (by simp)
      have hkl := kb_len (rp (leN a) 255)
      go_wp2_with fail
      have M3 := M.set 1 (cs U8 (kb (rp (leN a) 255))) rfl
      dsimp only [List.set] at M3
      have r4 := M3.row (b := w.heap.size + 1) (c := cs U8 (kb (rp (leN a) 255))) (by simp)
      refine bodyPost_ret (res_row (b := w.heap.size + 1) rfl Tryd.underlying23 rfl inf_key _ _ rfl (by rw [r4]; simp)) rfl ?_
      rw [r4]
      exact ⟨rfl, M3.end_⟩
end Go.Proofs.YtgclegdgngldoaaDoor
set_option linter.unusedSimpArgs false
set_option linter.unusedVariables false
namespace Go.Proofs.YtgclegdgngldoaaDoor.Fp
theorem fk_pow (m : Nat) : ∀ n, fk (m ^ n) = fk m ^ n
  | 0 => by rfl
  | n + 1 => by rw [Nat.pow_succ, fk_mul, fk_pow m n, Lean.Grind.Semiring.pow_succ]
theorem fk_P : fk (4 * P) = 0 := Fin.ext (by show 4 * P % P = 0; exact Nat.mul_mod_left _ _)
theorem M256_4P : M256 ≤ 4 * P := by decide
theorem fk_sub {m n : Nat} (h : n < M256) : fk (m + 4 * P - n) = fk m - fk n := by
  have h1 := M256_4P
  have e : fk (m + 4 * P - n) + fk n = fk m := by rw [← fk_add, Nat.sub_add_cancel (by omega), fk_add, fk_P]; grind
  grind
end Go.Proofs.YtgclegdgngldoaaDoor.Fp
set_option linter.unusedSimpArgs false
set_option linter.unusedVariables false
namespace Go.Proofs.YtgclegdgngldoaaDoor
open Go.RowKit Fp
theorem iv_eq (x : F) : iv x = inv x := congrFun (Classical.choose_spec iv_ex) x
theorem radd_c (w : World) (a b : List (BitVec 8)) (ha : a.length = 32) (hb : b.length = 32) (x y : F) (hx : Fk a = x) (hy : Fk b = y) :
    Calls Tryd.prog 95 #[.agg (cs U8 a), .agg (cs U8 b)] w fun e w' => e = .returned (.agg (cs U8 (K (x + y)))) ∧ Below w.heap.size w w' :=
  (radd_any w a b ha hb).mono fun e w' ⟨h, h2⟩ => ⟨by rw [h, ← hx, ← hy]; unfold Fk; rw [← fk_add]; rfl, h2⟩
theorem rsub_c (w : World) (a b : List (BitVec 8)) (ha : a.length = 32) (hb : b.length = 32) (x y : F) (hx : Fk a = x) (hy : Fk b = y) :
    Calls Tryd.prog 96 #[.agg (cs U8 a), .agg (cs U8 b)] w fun e w' => e = .returned (.agg (cs U8 (K (x - y)))) ∧ Below w.heap.size w w' :=
  (rsub_any w a b ha hb).mono fun e w' ⟨h, h2⟩ => ⟨by rw [h, ← hx, ← hy]; unfold Fk; rw [← fk_sub (leN_lt32 hb)]; rfl, h2⟩
theorem rmul_c (w : World) (a b : List (BitVec 8)) (ha : a.length = 32) (hb : b.length = 32) (x y : F) (hx : Fk a = x) (hy : Fk b = y) :
    Calls Tryd.prog 77 #[.agg (cs U8 a), .agg (cs U8 b)] w fun e w' => e = .returned (.agg (cs U8 (K (x * y)))) ∧ Below w.heap.size w w' :=
  (rmul_any w a b ha hb).mono fun e w' ⟨h, h2⟩ => ⟨by rw [h, ← hx, ← hy]; unfold Fk; rw [← fk_mul]; rfl, h2⟩
theorem rinv_c (w : World) (a : List (BitVec 8)) (ha : a.length = 32) (x : F) (hx : Fk a = x) :
    Calls Tryd.prog 78 #[.agg (cs U8 a)] w fun e w' => e = .returned (.agg (cs U8 (K (iv x)))) ∧ Below w.heap.size w w' :=
  (rinv_any w a ha).mono fun e w' ⟨h, h2⟩ => ⟨by rw [h, ← hx, iv_eq]; unfold Fk inv; rw [← fk_pow]; rfl, h2⟩
end Go.Proofs.YtgclegdgngldoaaDoor

set_option linter.unusedSimpArgs false
set_option linter.unusedVariables false
namespace Go.Proofs.YtgclegdgngldoaaDoor
open Go.RowKit Fp
section
variable {t : TypeId}
theorem cl0_eq2 : ∀ x : BitVec 8, x / 8#8 * 8#8 = cl0 x := by decide +kernel
theorem cl31_eq2 : ∀ x : BitVec 8, x % 64#8 + 64#8 = cl31 x := by decide +kernel
theorem quo8 (x : BitVec 8) : binOp .quo t (U8 x) (.int .u8 8) = pure (U8 (x / 8#8)) := by
  show Sem.pure (Value.int .u8 (IntKind.u8.wrap ((x.toNat : Int).tdiv 8))) = Sem.pure (Value.int .u8 ((x / 8#8).toNat : Int))
  have e : (x.toNat : Int).tdiv 8 = ((x.toNat / 8 : Nat) : Int) := rfl
  have := x.isLt
  rw [e, IntKind.wrap_u8, BitVec.toNat_udiv, Int.emod_eq_of_lt (by omega) (by omega)]; rfl
theorem rem64 (x : BitVec 8) : binOp .rem t (U8 x) (.int .u8 64) = pure (U8 (x % 64#8)) := by
  show Sem.pure (Value.int .u8 ((x.toNat : Int).tmod 64)) = Sem.pure (Value.int .u8 ((x % 64#8).toNat : Int))
  rw [BitVec.toNat_umod]; rfl
end
attribute [local irreducible] cl0 cl31 hi0
set_option maxRecDepth 100000 in
set_option maxHeartbeats 1000000 in
theorem rclamp_any (w : World) (a : List (BitVec 8)) (ha : a.length = 32) :
    Calls Tryd.prog 57 #[.agg (cs U8 a)] w fun e w' => e = .returned (.agg (cs U8 (clampB a))) ∧ Below w.heap.size w w' := by
  have M0 := Mm.start no w
  go_enter Tryd.func57, Tryd.ntmps57
  have M2 := ((M0.alloc (cs U8 a) 23 (by decide)).alloc (cs U8 (zs 32)) 23 (by decide))
  try simp only [World.size_alloc] at M2
  go_upto_region 1 with fail
  obtain ⟨w1, hw1⟩ : ∃ w1, w1 = ((w.alloc (.cells (cs U8 a) 23)).alloc (.cells (cs U8 (zs 32)) 23)) := ⟨_, rfl⟩
  rw [← hw1] at M2 ⊢
  clear hw1
  refine wp_region_seqF 5 [3, 4, 5, 6, 7] [] [] [] (.op 5 .done) (Mm no w _) (by kernel_rfl) (by kernel_rfl) (fun d _ _ _ _ h => by cases d <;> exact h) (by rfl) M2.size (fun _ _ h k => h.sf k) M2 (by kernel_rfl) ?_
  simp only [List.take_succ_cons, List.take_zero]
  refine SeqA.pure (.pointer (some ⟨w.heap.size, 0, none⟩)) (fun w' => by go_simp) rfl rfl ?_
  refine SeqA.read (U8 (g8 a 0)) (fun w' M => by have c0 := cell_g8 (M.row (b := w.heap.size) (c := cs U8 a) (by simp)) (i := 0) (by rw [ha]; decide); go_simp) rfl rfl ?_
  refine SeqA.pure (U8 ((g8 a 0) / 8#8)) (fun w' => by have q := quo8 (t := 5) (g8 a 0); go_simp) rfl rfl ?_
  refine SeqA.pure (U8 (cl0 (g8 a 0))) (fun w' => by have q := cl0_eq2 (g8 a 0); go_simp) rfl rfl ?_
  refine SeqA.pure (.pointer (some ⟨w.heap.size, 0, none⟩)) (fun w' => by go_simp) rfl rfl ?_
  refine SeqA.nil (fun w3 M4 hz => ?_)
  show wpT _ _ _ _ _ _
  simp only [Act.put, List.setIfInBounds_toArray, List.set_cons_succ, List.set_cons_zero]
  refine wpT_stc M4 1 (U8 (cl0 (g8 a 0))) (cs U8 (a.set 0 (cl0 (g8 a 0)))) inf_u8 rfl rfl rfl rfl (by go_simp) (by go_simp) (by have := (by rw [ha]; decide : 0 < a.length); first | (simp; done) | (simpa using this) | (simp; omega)) (by simp [go_sem]) (cs_set _ _) rfl (fun w5 M6 => ?_)
  dsimp only [List.set] at M6
  dsimp only [wpT]
  go_upto_region 2 with fail
  refine wp_region_seqF 5 [8, 9, 10, 11, 12] [] [] [] (.op 5 .done) (Mm no w _) (by kernel_rfl) (by kernel_rfl) (fun d _ _ _ _ h => by cases d <;> exact h) (by rfl) M6.size (fun _ _ h k => h.sf k) M6 (by kernel_rfl) ?_
  simp only [List.take_succ_cons, List.take_zero]
  refine SeqA.pure (.pointer (some ⟨w.heap.size, 31, none⟩)) (fun w' => by go_simp) rfl rfl ?_
  refine SeqA.read (U8 (g8 ((a.set 0 (cl0 (g8 a 0)))) 31)) (fun w' M => by have c0 := cell_g8 (M.row (b := w.heap.size) (c := cs U8 (a.set 0 (cl0 (g8 a 0)))) (by simp)) (i := 31) (by rw [List.length_set, ha]; decide); go_simp) rfl rfl ?_
  refine SeqA.pure (U8 ((g8 (a.set 0 (cl0 (g8 a 0))) 31) % 64#8)) (fun w' => by have q := rem64 (t := 5) (g8 (a.set 0 (cl0 (g8 a 0))) 31); go_simp) rfl rfl ?_
  refine SeqA.pure (U8 (cl31 (g8 (a.set 0 (cl0 (g8 a 0))) 31))) (fun w' => by have q := cl31_eq2 (g8 (a.set 0 (cl0 (g8 a 0))) 31); go_simp) rfl rfl ?_
  refine SeqA.pure (.pointer (some ⟨w.heap.size, 31, none⟩)) (fun w' => by go_simp) rfl rfl ?_
  refine SeqA.nil (fun w7 M8 hz => ?_)
  show wpT _ _ _ _ _ _
  simp only [Act.put, List.setIfInBounds_toArray, List.set_cons_succ, List.set_cons_zero]
  refine wpT_stc M8 1 (U8 (cl31 (g8 (a.set 0 (cl0 (g8 a 0))) 31))) (cs U8 (((a.set 0 (cl0 (g8 a 0)))).set 31 (cl31 (g8 (a.set 0 (cl0 (g8 a 0))) 31)))) inf_u8 rfl rfl rfl rfl (by go_simp) (by go_simp) (by have := (by rw [List.length_set, ha]; decide : 31 < ((a.set 0 (cl0 (g8 a 0)))).length); first | (simp; done) | (simpa using this) | (simp; omega)) (by simp [go_sem]) (cs_set _ _) rfl (fun w9 M10 => ?_)
  dsimp only [List.set] at M10
  dsimp only [wpT]
  go_upto_region 3 with fail
  refine wp_region_seqF 1 [13] [] [] [] (.op 1 .done) (Mm no w _) (by kernel_rfl) (by kernel_rfl) (fun d _ _ _ _ h => by cases d <;> exact h) (by rfl) M10.size (fun _ _ h k => h.sf k) M10 (by kernel_rfl) ?_
  simp only [List.take_succ_cons, List.take_zero]
  refine SeqA.ld0 Tryd.underlying23 rfl inf_key (w.heap.size) (cs U8 (((a.set 0 (cl0 (g8 a 0)))).set 31 (cl31 (g8 (a.set 0 (cl0 (g8 a 0))) 31)))) rfl (by go_simp) (fun _ M => M.row (by simp)) (by simp [ha]) rfl ?_
  refine SeqA.nil (fun w11 M12 hz => ?_)
  show wpT _ _ _ _ _ _
  simp only [Act.put, List.setIfInBounds_toArray, List.set_cons_succ, List.set_cons_zero]
  refine wpT_st0 M12 0 (cs U8 (((a.set 0 (cl0 (g8 a 0)))).set 31 (cl31 (g8 (a.set 0 (cl0 (g8 a 0))) 31)))) inf_key rfl rfl rfl rfl (by go_simp) (by go_simp) (by simp [ha]) (by simp [ha]) (by simp [go_sem]) rfl (fun w13 M14 => ?_)
  dsimp only [List.set] at M14
  dsimp only [wpT]
  go_wp2_with fail
  have r15 := M14.row (b := w.heap.size + 1) (c := cs U8 (((a.set 0 (cl0 (g8 a 0)))).set 31 (cl31 (g8 (a.set 0 (cl0 (g8 a 0))) 31)))) (by simp)
  refine bodyPost_ret (res_row (b := w.heap.size + 1) rfl Tryd.underlying23 rfl inf_key _ _ rfl (by rw [r15]; simp [ha])) rfl ?_
  rw [r15]
  exact ⟨rfl, M14.end_⟩
end Go.Proofs.YtgclegdgngldoaaDoor
set_option linter.unusedSimpArgs false
set_option linter.unusedVariables false
namespace Go.Proofs.YtgclegdgngldoaaDoor
open Go.RowKit Fp
attribute [local irreducible] swL msk bv
section
variable (ρ : Operand → Value) (dst : Option Tmp) (ty : TypeId) (pos : String) (after : Array Edge) (guard : Option (Nat × Bool)) (w : World)
end
theorem bp_pair (l : List (Nat × Value)) : Tryd.prog.built 118 l = Instr.fill (([(0, 32), (32, 32)] : List (Nat × Nat)).toArray[·]?) (((Tryd.prog.info? 118).bind (·.zero)).getD undef).cells l := by kernel_rfl
theorem bz_pair : (((Tryd.prog.info? 118).bind (·.zero)).getD undef).cells.size = 64 := by kernel_rfl
theorem xb_pair (w : World) (ps : Array (Nat × Value)) (hc : Cont (([(0, 32), (32, 32)] : List (Nat × Nat)).toArray[·]?) 0 ps.toList) (hz : (catP ps.toList).size = 64) :
    exBuild Tryd.prog 118 ps w = .ok (.value (.agg (catP ps.toList))) w := by
  unfold exBuild; rw [run_build_cat w 118 ps _ _ bp_pair hc (by rw [bz_pair]; exact hz)]; rfl

theorem xb_pair2 (w : World) (x z : List (BitVec 8)) (hx : x.length = 32) (hz : z.length = 32) : exBuild Tryd.prog 118 #[(0, .agg (cs U8 x)), (1, .agg (cs U8 z))] w = .ok (.value (.agg (cs U8 (x ++ z)))) w := by
  rw [xb_pair w _ (by simp [Cont, Value.cells, hx, hz]) (by simp [catP, Value.cells, hx, hz])]
  simp [catP, Value.cells, cs_append]
set_option maxRecDepth 100000 in
set_option maxHeartbeats 2000000 in
theorem csum_any (w : World) (x v y t u : List (BitVec 8)) (hx : x.length = 32) (hv : v.length = 32) (hy : y.length = 32) (ht : t.length = 32) (hu : u.length = 32) :
    Calls Tryd.prog 75 #[.agg (cs U8 (x ++ v)), .agg (cs U8 (y ++ t)), .agg (cs U8 u)] w fun e w' => e = .returned (.agg (cs U8 (K (smX (Fk x) (Fk v) (Fk y) (Fk t)) ++ K (smZ (Fk u) (Fk x) (Fk v) (Fk y) (Fk t))))) ∧ Below w.heap.size w w' := by
  have M0 := Mm.start no w
  go_enter Tryd.func75, Tryd.ntmps75
  have M2 := ((((M0.alloc (cs U8 (x ++ v)) 118 (by decide)).alloc (cs U8 (y ++ t)) 118 (by decide)).alloc (cs U8 u) 23 (by decide)).alloc (cs U8 (zs 32 ++ zs 32)) 118 (by decide))
  try simp only [World.size_alloc] at M2
  go_upto_region 1 with fail
  obtain ⟨w1, hw1⟩ : ∃ w1, w1 = ((((w.alloc (.cells (cs U8 (x ++ v)) 118)).alloc (.cells (cs U8 (y ++ t)) 118)).alloc (.cells (cs U8 u) 23)).alloc (.cells (cs U8 (zs 32 ++ zs 32)) 118)) := ⟨_, rfl⟩
  rw [← hw1] at M2 ⊢
  clear hw1
  refine wp_region_seq 12 [15, 16, 17, 18, 19, 20, 21, 22, 23, 24, 7, 8] [] [] [] (.op 12 (.op 13 .done)) (Mm no w _) (by kernel_rfl) (by kernel_rfl) (by kernel_rfl) (fun d _ _ _ _ h => by cases d <;> exact h) (by rfl) M2.size (fun _ _ h k => h.sf k) M2 ?_
  simp only [List.take_succ_cons, List.take_zero]
  refine SeqA.pure (.pointer (some ⟨w.heap.size, 0, none⟩)) (fun w' => by go_simp) rfl rfl ?_
  refine SeqA.ldm Tryd.underlying23 rfl inf_key (w.heap.size) 0 (cs U8 (x ++ v)) (cs U8 x) rfl (by go_simp) (fun _ M => M.row (by simp)) (by simp [hx, hv, hy, ht, hu]) (by rw [cs_extract] <;> congr 1 <;> first | (simp [hx, hv, hy, ht, hu]; done) | simp [List.take_append, List.drop_append, List.take_of_length_le, hx, hv, hy, ht, hu]) rfl ?_
  refine SeqA.pure (.pointer (some ⟨w.heap.size, 32, none⟩)) (fun w' => by go_simp) rfl rfl ?_
  refine SeqA.ldm Tryd.underlying23 rfl inf_key (w.heap.size) 32 (cs U8 (x ++ v)) (cs U8 v) rfl (by go_simp) (fun _ M => M.row (by simp)) (by simp [hx, hv, hy, ht, hu]) (by rw [cs_extract] <;> congr 1 <;> first | (simp [hx, hv, hy, ht, hu]; done) | simp [List.take_append, List.drop_append, List.take_of_length_le, hx, hv, hy, ht, hu]) rfl ?_
  refine SeqA.call _ _ _ (fun w' => by go_simp) (fun w' hI _ => radd_c w' x v (by simp [hx, hv, hy, ht, hu]) (by simp [hx, hv, hy, ht, hu]) (Fk x) (Fk v) (rfl) (rfl)) M2.size rfl rfl ?_
  simp only [Act.put, List.setIfInBounds_toArray, List.set_cons_succ, List.set_cons_zero]
  refine SeqA.pure (.pointer (some ⟨w.heap.size, 0, none⟩)) (fun w' => by go_simp) rfl rfl ?_
  refine SeqA.ldm Tryd.underlying23 rfl inf_key (w.heap.size) 0 (cs U8 (x ++ v)) (cs U8 x) rfl (by go_simp) (fun _ M => M.row (by simp)) (by simp [hx, hv, hy, ht, hu]) (by rw [cs_extract] <;> congr 1 <;> first | (simp [hx, hv, hy, ht, hu]; done) | simp [List.take_append, List.drop_append, List.take_of_length_le, hx, hv, hy, ht, hu]) rfl ?_
  refine SeqA.pure (.pointer (some ⟨w.heap.size, 32, none⟩)) (fun w' => by go_simp) rfl rfl ?_
  refine SeqA.ldm Tryd.underlying23 rfl inf_key (w.heap.size) 32 (cs U8 (x ++ v)) (cs U8 v) rfl (by go_simp) (fun _ M => M.row (by simp)) (by simp [hx, hv, hy, ht, hu]) (by rw [cs_extract] <;> congr 1 <;> first | (simp [hx, hv, hy, ht, hu]; done) | simp [List.take_append, List.drop_append, List.take_of_length_le, hx, hv, hy, ht, hu]) rfl ?_
  refine SeqA.call _ _ _ (fun w' => by go_simp) (fun w' hI _ => rsub_c w' x v (by simp [hx, hv, hy, ht, hu]) (by simp [hx, hv, hy, ht, hu]) (Fk x) (Fk v) (rfl) (rfl)) M2.size rfl rfl ?_
  refine SeqA.var (z := .agg (cs U8 (zs 32))) (by kernel_rfl) rfl rfl (by decide) rfl ?_
  simp only [Act.put, List.setIfInBounds_toArray, List.set_cons_succ, List.set_cons_zero]
  refine SeqA.var (z := .agg (cs U8 (zs 32))) (by kernel_rfl) rfl rfl (by decide) rfl ?_
  refine SeqA.nil (fun w3 M4 hz => ?_)
  refine news_one (fun b5 hb1 hb2 hb3 => ?_)
  have M6 := M2.in_ (c := cs U8 (zs 32)) M4 hb1 hb2 (by decide) hb3 rfl
  refine news_one (fun b7 hb1 hb2 hb3 => ?_)
  have M8 := M2.in_ (c := cs U8 (zs 32)) M6 hb1 hb2 (by decide) hb3 rfl
  show wpT _ _ _ _ _ _
  simp only [Act.put, List.setIfInBounds_toArray, List.set_cons_succ, List.set_cons_zero]
  refine wpT_st0 M8 0 (cs U8 (K ((Fk x) + (Fk v)))) inf_key rfl rfl rfl rfl (by go_simp) (by go_simp) (by simp [hx, hv, hy, ht, hu]) (by simp [hx, hv, hy, ht, hu]) (by simp [go_sem]) rfl (fun w9 M10 => ?_)
  dsimp only [List.set] at M10
  refine wpT_st0 M10 1 (cs U8 (K ((Fk x) - (Fk v)))) inf_key rfl rfl rfl rfl (by go_simp) (by go_simp) (by simp [hx, hv, hy, ht, hu]) (by simp [hx, hv, hy, ht, hu]) (by simp [go_sem]) rfl (fun w11 M12 => ?_)
  dsimp only [List.set] at M12
  dsimp only [wpT]
  go_upto_region 2 with fail
  refine wp_region_seq 12 [25, 26, 27, 28, 29, 30, 31, 32, 33, 34, 9, 10] [] [] [] (.op 12 (.op 13 .done)) (Mm no w _) (by kernel_rfl) (by kernel_rfl) (by kernel_rfl) (fun d _ _ _ _ h => by cases d <;> exact h) (by rfl) M12.size (fun _ _ h k => h.sf k) M12 ?_
  simp only [List.take_succ_cons, List.take_zero]
  refine SeqA.pure (.pointer (some ⟨w.heap.size + 1, 0, none⟩)) (fun w' => by go_simp) rfl rfl ?_
  refine SeqA.ldm Tryd.underlying23 rfl inf_key (w.heap.size + 1) 0 (cs U8 (y ++ t)) (cs U8 y) rfl (by go_simp) (fun _ M => M.row (by simp)) (by simp [hx, hv, hy, ht, hu]) (by rw [cs_extract] <;> congr 1 <;> first | (simp [hx, hv, hy, ht, hu]; done) | simp [List.take_append, List.drop_append, List.take_of_length_le, hx, hv, hy, ht, hu]) rfl ?_
  refine SeqA.pure (.pointer (some ⟨w.heap.size + 1, 32, none⟩)) (fun w' => by go_simp) rfl rfl ?_
  refine SeqA.ldm Tryd.underlying23 rfl inf_key (w.heap.size + 1) 32 (cs U8 (y ++ t)) (cs U8 t) rfl (by go_simp) (fun _ M => M.row (by simp)) (by simp [hx, hv, hy, ht, hu]) (by rw [cs_extract] <;> congr 1 <;> first | (simp [hx, hv, hy, ht, hu]; done) | simp [List.take_append, List.drop_append, List.take_of_length_le, hx, hv, hy, ht, hu]) rfl ?_
  refine SeqA.call _ _ _ (fun w' => by go_simp) (fun w' hI _ => radd_c w' y t (by simp [hx, hv, hy, ht, hu]) (by simp [hx, hv, hy, ht, hu]) (Fk y) (Fk t) (rfl) (rfl)) M12.size rfl rfl ?_
  simp only [Act.put, List.setIfInBounds_toArray, List.set_cons_succ, List.set_cons_zero]
  refine SeqA.pure (.pointer (some ⟨w.heap.size + 1, 0, none⟩)) (fun w' => by go_simp) rfl rfl ?_
  refine SeqA.ldm Tryd.underlying23 rfl inf_key (w.heap.size + 1) 0 (cs U8 (y ++ t)) (cs U8 y) rfl (by go_simp) (fun _ M => M.row (by simp)) (by simp [hx, hv, hy, ht, hu]) (by rw [cs_extract] <;> congr 1 <;> first | (simp [hx, hv, hy, ht, hu]; done) | simp [List.take_append, List.drop_append, List.take_of_length_le, hx, hv, hy, ht, hu]) rfl ?_
  refine SeqA.pure (.pointer (some ⟨w.heap.size + 1, 32, none⟩)) (fun w' => by go_simp) rfl rfl ?_
  refine SeqA.ldm Tryd.underlying23 rfl inf_key (w.heap.size + 1) 32 (cs U8 (y ++ t)) (cs U8 t) rfl (by go_simp) (fun _ M => M.row (by simp)) (by simp [hx, hv, hy, ht, hu]) (by rw [cs_extract] <;> congr 1 <;> first | (simp [hx, hv, hy, ht, hu]; done) | simp [List.take_append, List.drop_append, List.take_of_length_le, hx, hv, hy, ht, hu]) rfl ?_
  refine SeqA.call _ _ _ (fun w' => by go_simp) (fun w' hI _ => rsub_c w' y t (by simp [hx, hv, hy, ht, hu]) (by simp [hx, hv, hy, ht, hu]) (Fk y) (Fk t) (rfl) (rfl)) M12.size rfl rfl ?_
  refine SeqA.var (z := .agg (cs U8 (zs 32))) (by kernel_rfl) rfl rfl (by decide) rfl ?_
  simp only [Act.put, List.setIfInBounds_toArray, List.set_cons_succ, List.set_cons_zero]
  refine SeqA.var (z := .agg (cs U8 (zs 32))) (by kernel_rfl) rfl rfl (by decide) rfl ?_
  refine SeqA.nil (fun w13 M14 hz => ?_)
  refine news_one (fun b15 hb1 hb2 hb3 => ?_)
  have M16 := M12.in_ (c := cs U8 (zs 32)) M14 hb1 hb2 (by decide) hb3 rfl
  refine news_one (fun b17 hb1 hb2 hb3 => ?_)
  have M18 := M12.in_ (c := cs U8 (zs 32)) M16 hb1 hb2 (by decide) hb3 rfl
  show wpT _ _ _ _ _ _
  simp only [Act.put, List.setIfInBounds_toArray, List.set_cons_succ, List.set_cons_zero]
  refine wpT_st0 M18 0 (cs U8 (K ((Fk y) + (Fk t)))) inf_key rfl rfl rfl rfl (by go_simp) (by go_simp) (by simp [hx, hv, hy, ht, hu]) (by simp [hx, hv, hy, ht, hu]) (by simp [go_sem]) rfl (fun w19 M20 => ?_)
  dsimp only [List.set] at M20
  refine wpT_st0 M20 1 (cs U8 (K ((Fk y) - (Fk t)))) inf_key rfl rfl rfl rfl (by go_simp) (by go_simp) (by simp [hx, hv, hy, ht, hu]) (by simp [hx, hv, hy, ht, hu]) (by simp [go_sem]) rfl (fun w21 M22 => ?_)
  dsimp only [List.set] at M22
  dsimp only [wpT]
  go_upto_region 3 with fail
  refine wp_region_seq 8 [35, 36, 37, 38, 39, 40, 11, 12] [] [] [] (.op 8 (.op 9 .done)) (Mm no w _) (by kernel_rfl) (by kernel_rfl) (by kernel_rfl) (fun d _ _ _ _ h => by cases d <;> exact h) (by rfl) M22.size (fun _ _ h k => h.sf k) M22 ?_
  simp only [List.take_succ_cons, List.take_zero]
  refine SeqA.ld0 Tryd.underlying23 rfl inf_key (b15) (cs U8 (K ((Fk y) - (Fk t)))) rfl (by go_simp) (fun _ M => M.row (by simp)) (by simp [hx, hv, hy, ht, hu]) rfl ?_
  refine SeqA.ld0 Tryd.underlying23 rfl inf_key (b7) (cs U8 (K ((Fk x) + (Fk v)))) rfl (by go_simp) (fun _ M => M.row (by simp)) (by simp [hx, hv, hy, ht, hu]) rfl ?_
  refine SeqA.call _ _ _ (fun w' => by go_simp) (fun w' hI _ => rmul_c w' (K ((Fk y) - (Fk t))) (K ((Fk x) + (Fk v))) (by simp [hx, hv, hy, ht, hu]) (by simp [hx, hv, hy, ht, hu]) ((Fk y) - (Fk t)) ((Fk x) + (Fk v)) (Fk_K _) (Fk_K _)) M22.size rfl rfl ?_
  refine SeqA.ld0 Tryd.underlying23 rfl inf_key (b17) (cs U8 (K ((Fk y) + (Fk t)))) rfl (by go_simp) (fun _ M => M.row (by simp)) (by simp [hx, hv, hy, ht, hu]) rfl ?_
  refine SeqA.ld0 Tryd.underlying23 rfl inf_key (b5) (cs U8 (K ((Fk x) - (Fk v)))) rfl (by go_simp) (fun _ M => M.row (by simp)) (by simp [hx, hv, hy, ht, hu]) rfl ?_
  simp only [Act.put, List.setIfInBounds_toArray, List.set_cons_succ, List.set_cons_zero]
  refine SeqA.call _ _ _ (fun w' => by go_simp) (fun w' hI _ => rmul_c w' (K ((Fk y) + (Fk t))) (K ((Fk x) - (Fk v))) (by simp [hx, hv, hy, ht, hu]) (by simp [hx, hv, hy, ht, hu]) ((Fk y) + (Fk t)) ((Fk x) - (Fk v)) (Fk_K _) (Fk_K _)) M22.size rfl rfl ?_
  refine SeqA.var (z := .agg (cs U8 (zs 32))) (by kernel_rfl) rfl rfl (by decide) rfl ?_
  refine SeqA.var (z := .agg (cs U8 (zs 32))) (by kernel_rfl) rfl rfl (by decide) rfl ?_
  refine SeqA.nil (fun w23 M24 hz => ?_)
  refine news_one (fun b25 hb1 hb2 hb3 => ?_)
  have M26 := M22.in_ (c := cs U8 (zs 32)) M24 hb1 hb2 (by decide) hb3 rfl
  refine news_one (fun b27 hb1 hb2 hb3 => ?_)
  have M28 := M22.in_ (c := cs U8 (zs 32)) M26 hb1 hb2 (by decide) hb3 rfl
  show wpT _ _ _ _ _ _
  simp only [Act.put, List.setIfInBounds_toArray, List.set_cons_succ, List.set_cons_zero]
  refine wpT_st0 M28 0 (cs U8 (K (((Fk y) - (Fk t)) * ((Fk x) + (Fk v))))) inf_key rfl rfl rfl rfl (by go_simp) (by go_simp) (by simp [hx, hv, hy, ht, hu]) (by simp [hx, hv, hy, ht, hu]) (by simp [go_sem]) rfl (fun w29 M30 => ?_)
  dsimp only [List.set] at M30
  refine wpT_st0 M30 1 (cs U8 (K (((Fk y) + (Fk t)) * ((Fk x) - (Fk v))))) inf_key rfl rfl rfl rfl (by go_simp) (by go_simp) (by simp [hx, hv, hy, ht, hu]) (by simp [hx, hv, hy, ht, hu]) (by simp [go_sem]) rfl (fun w31 M32 => ?_)
  dsimp only [List.set] at M32
  dsimp only [wpT]
  go_upto_region 4 with fail
  refine wp_region_seq 8 [41, 42, 43, 44, 45, 46, 13, 14] [] [] [] (.op 8 (.op 9 .done)) (Mm no w _) (by kernel_rfl) (by kernel_rfl) (by kernel_rfl) (fun d _ _ _ _ h => by cases d <;> exact h) (by rfl) M32.size (fun _ _ h k => h.sf k) M32 ?_
  simp only [List.take_succ_cons, List.take_zero]
  refine SeqA.ld0 Tryd.underlying23 rfl inf_key (b27) (cs U8 (K (((Fk y) - (Fk t)) * ((Fk x) + (Fk v))))) rfl (by go_simp) (fun _ M => M.row (by simp)) (by simp [hx, hv, hy, ht, hu]) rfl ?_
  refine SeqA.ld0 Tryd.underlying23 rfl inf_key (b25) (cs U8 (K (((Fk y) + (Fk t)) * ((Fk x) - (Fk v))))) rfl (by go_simp) (fun _ M => M.row (by simp)) (by simp [hx, hv, hy, ht, hu]) rfl ?_
  refine SeqA.call _ _ _ (fun w' => by go_simp) (fun w' hI _ => radd_c w' (K (((Fk y) - (Fk t)) * ((Fk x) + (Fk v)))) (K (((Fk y) + (Fk t)) * ((Fk x) - (Fk v)))) (by simp [hx, hv, hy, ht, hu]) (by simp [hx, hv, hy, ht, hu]) (((Fk y) - (Fk t)) * ((Fk x) + (Fk v))) (((Fk y) + (Fk t)) * ((Fk x) - (Fk v))) (Fk_K _) (Fk_K _)) M32.size rfl rfl ?_
  refine SeqA.ld0 Tryd.underlying23 rfl inf_key (b27) (cs U8 (K (((Fk y) - (Fk t)) * ((Fk x) + (Fk v))))) rfl (by go_simp) (fun _ M => M.row (by simp)) (by simp [hx, hv, hy, ht, hu]) rfl ?_
  refine SeqA.ld0 Tryd.underlying23 rfl inf_key (b25) (cs U8 (K (((Fk y) + (Fk t)) * ((Fk x) - (Fk v))))) rfl (by go_simp) (fun _ M => M.row (by simp)) (by simp [hx, hv, hy, ht, hu]) rfl ?_
  simp only [Act.put, List.setIfInBounds_toArray, List.set_cons_succ, List.set_cons_zero]
  refine SeqA.call _ _ _ (fun w' => by go_simp) (fun w' hI _ => rsub_c w' (K (((Fk y) - (Fk t)) * ((Fk x) + (Fk v)))) (K (((Fk y) + (Fk t)) * ((Fk x) - (Fk v)))) (by simp [hx, hv, hy, ht, hu]) (by simp [hx, hv, hy, ht, hu]) (((Fk y) - (Fk t)) * ((Fk x) + (Fk v))) (((Fk y) + (Fk t)) * ((Fk x) - (Fk v))) (Fk_K _) (Fk_K _)) M32.size rfl rfl ?_
  refine SeqA.var (z := .agg (cs U8 (zs 32))) (by kernel_rfl) rfl rfl (by decide) rfl ?_
  refine SeqA.var (z := .agg (cs U8 (zs 32))) (by kernel_rfl) rfl rfl (by decide) rfl ?_
  refine SeqA.nil (fun w33 M34 hz => ?_)
  refine news_one (fun b35 hb1 hb2 hb3 => ?_)
  have M36 := M32.in_ (c := cs U8 (zs 32)) M34 hb1 hb2 (by decide) hb3 rfl
  refine news_one (fun b37 hb1 hb2 hb3 => ?_)
  have M38 := M32.in_ (c := cs U8 (zs 32)) M36 hb1 hb2 (by decide) hb3 rfl
  show wpT _ _ _ _ _ _
  simp only [Act.put, List.setIfInBounds_toArray, List.set_cons_succ, List.set_cons_zero]
  refine wpT_st0 M38 0 (cs U8 (K ((((Fk y) - (Fk t)) * ((Fk x) + (Fk v))) + (((Fk y) + (Fk t)) * ((Fk x) - (Fk v)))))) inf_key rfl rfl rfl rfl (by go_simp) (by go_simp) (by simp [hx, hv, hy, ht, hu]) (by simp [hx, hv, hy, ht, hu]) (by simp [go_sem]) rfl (fun w39 M40 => ?_)
  dsimp only [List.set] at M40
  refine wpT_st0 M40 1 (cs U8 (K ((((Fk y) - (Fk t)) * ((Fk x) + (Fk v))) - (((Fk y) + (Fk t)) * ((Fk x) - (Fk v)))))) inf_key rfl rfl rfl rfl (by go_simp) (by go_simp) (by simp [hx, hv, hy, ht, hu]) (by simp [hx, hv, hy, ht, hu]) (by simp [go_sem]) rfl (fun w41 M42 => ?_)
  dsimp only [List.set] at M42
  dsimp only [wpT]
  go_upto_region 5 with fail
  refine wp_region_seq 9 [47, 48, 49, 50, 51, 52, 53, 54, 55] [] [] [] (.op 9 .done) (Mm no w _) (by kernel_rfl) (by kernel_rfl) (by kernel_rfl) (fun d _ _ _ _ h => by cases d <;> exact h) (by rfl) M42.size (fun _ _ h k => h.sf k) M42 ?_
  simp only [List.take_succ_cons, List.take_zero]
  refine SeqA.ld0 Tryd.underlying23 rfl inf_key (b37) (cs U8 (K ((((Fk y) - (Fk t)) * ((Fk x) + (Fk v))) + (((Fk y) + (Fk t)) * ((Fk x) - (Fk v)))))) rfl (by go_simp) (fun _ M => M.row (by simp)) (by simp [hx, hv, hy, ht, hu]) rfl ?_
  refine SeqA.ld0 Tryd.underlying23 rfl inf_key (b37) (cs U8 (K ((((Fk y) - (Fk t)) * ((Fk x) + (Fk v))) + (((Fk y) + (Fk t)) * ((Fk x) - (Fk v)))))) rfl (by go_simp) (fun _ M => M.row (by simp)) (by simp [hx, hv, hy, ht, hu]) rfl ?_
  refine SeqA.call _ _ _ (fun w' => by go_simp) (fun w' hI _ => rmul_c w' (K ((((Fk y) - (Fk t)) * ((Fk x) + (Fk v))) + (((Fk y) + (Fk t)) * ((Fk x) - (Fk v))))) (K ((((Fk y) - (Fk t)) * ((Fk x) + (Fk v))) + (((Fk y) + (Fk t)) * ((Fk x) - (Fk v))))) (by simp [hx, hv, hy, ht, hu]) (by simp [hx, hv, hy, ht, hu]) ((((Fk y) - (Fk t)) * ((Fk x) + (Fk v))) + (((Fk y) + (Fk t)) * ((Fk x) - (Fk v)))) ((((Fk y) - (Fk t)) * ((Fk x) + (Fk v))) + (((Fk y) + (Fk t)) * ((Fk x) - (Fk v)))) (Fk_K _) (Fk_K _)) M42.size rfl rfl ?_
  refine SeqA.ld0 Tryd.underlying23 rfl inf_key (w.heap.size + 1 + 1) (cs U8 u) rfl (by go_simp) (fun _ M => M.row (by simp)) (by simp [hx, hv, hy, ht, hu]) rfl ?_
  refine SeqA.ld0 Tryd.underlying23 rfl inf_key (b35) (cs U8 (K ((((Fk y) - (Fk t)) * ((Fk x) + (Fk v))) - (((Fk y) + (Fk t)) * ((Fk x) - (Fk v)))))) rfl (by go_simp) (fun _ M => M.row (by simp)) (by simp [hx, hv, hy, ht, hu]) rfl ?_
  simp only [Act.put, List.setIfInBounds_toArray, List.set_cons_succ, List.set_cons_zero]
  refine SeqA.ld0 Tryd.underlying23 rfl inf_key (b35) (cs U8 (K ((((Fk y) - (Fk t)) * ((Fk x) + (Fk v))) - (((Fk y) + (Fk t)) * ((Fk x) - (Fk v)))))) rfl (by go_simp) (fun _ M => M.row (by simp)) (by simp [hx, hv, hy, ht, hu]) rfl ?_
  refine SeqA.call _ _ _ (fun w' => by go_simp) (fun w' hI _ => rmul_c w' (K ((((Fk y) - (Fk t)) * ((Fk x) + (Fk v))) - (((Fk y) + (Fk t)) * ((Fk x) - (Fk v))))) (K ((((Fk y) - (Fk t)) * ((Fk x) + (Fk v))) - (((Fk y) + (Fk t)) * ((Fk x) - (Fk v))))) (by simp [hx, hv, hy, ht, hu]) (by simp [hx, hv, hy, ht, hu]) ((((Fk y) - (Fk t)) * ((Fk x) + (Fk v))) - (((Fk y) + (Fk t)) * ((Fk x) - (Fk v)))) ((((Fk y) - (Fk t)) * ((Fk x) + (Fk v))) - (((Fk y) + (Fk t)) * ((Fk x) - (Fk v)))) (Fk_K _) (Fk_K _)) M42.size rfl rfl ?_
  refine SeqA.call _ _ _ (fun w' => by go_simp) (fun w' hI _ => rmul_c w' u (K (((((Fk y) - (Fk t)) * ((Fk x) + (Fk v))) - (((Fk y) + (Fk t)) * ((Fk x) - (Fk v)))) * ((((Fk y) - (Fk t)) * ((Fk x) + (Fk v))) - (((Fk y) + (Fk t)) * ((Fk x) - (Fk v)))))) (by simp [hx, hv, hy, ht, hu]) (by simp [hx, hv, hy, ht, hu]) (Fk u) (((((Fk y) - (Fk t)) * ((Fk x) + (Fk v))) - (((Fk y) + (Fk t)) * ((Fk x) - (Fk v)))) * ((((Fk y) - (Fk t)) * ((Fk x) + (Fk v))) - (((Fk y) + (Fk t)) * ((Fk x) - (Fk v))))) (rfl) (Fk_K _)) M42.size rfl rfl ?_
  refine SeqA.pure (.agg (cs U8 (K (((((Fk y) - (Fk t)) * ((Fk x) + (Fk v))) + (((Fk y) + (Fk t)) * ((Fk x) - (Fk v)))) * ((((Fk y) - (Fk t)) * ((Fk x) + (Fk v))) + (((Fk y) + (Fk t)) * ((Fk x) - (Fk v))))) ++ K ((Fk u) * (((((Fk y) - (Fk t)) * ((Fk x) + (Fk v))) - (((Fk y) + (Fk t)) * ((Fk x) - (Fk v)))) * ((((Fk y) - (Fk t)) * ((Fk x) + (Fk v))) - (((Fk y) + (Fk t)) * ((Fk x) - (Fk v))))))))) (fun w' => by have q := xb_pair2 w' (K ((((((Fk y) - (Fk t)) * ((Fk x) + (Fk v))) + (((Fk y) + (Fk t)) * ((Fk x) - (Fk v)))) * ((((Fk y) - (Fk t)) * ((Fk x) + (Fk v))) + (((Fk y) + (Fk t)) * ((Fk x) - (Fk v))))))) (K (((Fk u) * (((((Fk y) - (Fk t)) * ((Fk x) + (Fk v))) - (((Fk y) + (Fk t)) * ((Fk x) - (Fk v)))) * ((((Fk y) - (Fk t)) * ((Fk x) + (Fk v))) - (((Fk y) + (Fk t)) * ((Fk x) - (Fk v)))))))) (by simp) (by simp); go_simp) rfl rfl ?_
  refine SeqA.nil (fun w43 M44 hz => ?_)
  show wpT _ _ _ _ _ _
  simp only [Act.put, List.setIfInBounds_toArray, List.set_cons_succ, List.set_cons_zero]
  refine wpT_st0 M44 8 (cs U8 (K (((((Fk y) - (Fk t)) * ((Fk x) + (Fk v))) + (((Fk y) + (Fk t)) * ((Fk x) - (Fk v)))) * ((((Fk y) - (Fk t)) * ((Fk x) + (Fk v))) + (((Fk y) + (Fk t)) * ((Fk x) - (Fk v))))) ++ K ((Fk u) * (((((Fk y) - (Fk t)) * ((Fk x) + (Fk v))) - (((Fk y) + (Fk t)) * ((Fk x) - (Fk v)))) * ((((Fk y) - (Fk t)) * ((Fk x) + (Fk v))) - (((Fk y) + (Fk t)) * ((Fk x) - (Fk v)))))))) inf_pair rfl rfl rfl rfl (by go_simp) (by go_simp) (by simp [hx, hv, hy, ht, hu]) (by simp [hx, hv, hy, ht, hu]) (by simp [go_sem]) rfl (fun w45 M46 => ?_)
  dsimp only [List.set] at M46
  dsimp only [wpT]
  go_wp2_with fail
  have r47 := M46.row (b := w.heap.size + 1 + 1 + 1) (c := cs U8 (K (((((Fk y) - (Fk t)) * ((Fk x) + (Fk v))) + (((Fk y) + (Fk t)) * ((Fk x) - (Fk v)))) * ((((Fk y) - (Fk t)) * ((Fk x) + (Fk v))) + (((Fk y) + (Fk t)) * ((Fk x) - (Fk v))))) ++ K ((Fk u) * (((((Fk y) - (Fk t)) * ((Fk x) + (Fk v))) - (((Fk y) + (Fk t)) * ((Fk x) - (Fk v)))) * ((((Fk y) - (Fk t)) * ((Fk x) + (Fk v))) - (((Fk y) + (Fk t)) * ((Fk x) - (Fk v)))))))) (by simp)
  refine bodyPost_ret (res_row (b := w.heap.size + 1 + 1 + 1) rfl Tryd.underlying118 rfl inf_pair _ _ rfl (by rw [r47]; simp [hx, hv, hy, ht, hu])) rfl ?_
  rw [r47]
  exact ⟨rfl, M46.end_⟩
set_option maxRecDepth 100000 in
set_option maxHeartbeats 2000000 in
theorem twice_u (w : World) (x v u : List (BitVec 8)) (hx : x.length = 32) (hv : v.length = 32) (hu : u.length = 32) :
    Calls Tryd.prog 76 #[.agg (cs U8 (x ++ v)), .agg (cs U8 u)] w fun e w' => e = .returned (.agg (cs U8 (K (twX (Fk x) (Fk v)) ++ K (twZu (Fk u) (Fk x) (Fk v))))) ∧ Below w.heap.size w w' := by
  have M0 := Mm.start no w
  go_enter Tryd.func76, Tryd.ntmps76
  have M2 := (((M0.alloc (cs U8 (x ++ v)) 118 (by decide)).alloc (cs U8 u) 23 (by decide)).alloc (cs U8 (zs 32 ++ zs 32)) 118 (by decide))
  try simp only [World.size_alloc] at M2
  go_upto_region 1 with fail
  obtain ⟨w1, hw1⟩ : ∃ w1, w1 = (((w.alloc (.cells (cs U8 (x ++ v)) 118)).alloc (.cells (cs U8 u) 23)).alloc (.cells (cs U8 (zs 32 ++ zs 32)) 118)) := ⟨_, rfl⟩
  rw [← hw1] at M2 ⊢
  clear hw1
  refine wp_region_seq 12 [10, 11, 12, 13, 14, 15, 16, 17, 18, 19, 5, 6] [] [] [] (.op 12 (.op 13 .done)) (Mm no w _) (by kernel_rfl) (by kernel_rfl) (by kernel_rfl) (fun d _ _ _ _ h => by cases d <;> exact h) (by rfl) M2.size (fun _ _ h k => h.sf k) M2 ?_
  simp only [List.take_succ_cons, List.take_zero]
  refine SeqA.pure (.pointer (some ⟨w.heap.size, 0, none⟩)) (fun w' => by go_simp) rfl rfl ?_
  refine SeqA.ldm Tryd.underlying23 rfl inf_key (w.heap.size) 0 (cs U8 (x ++ v)) (cs U8 x) rfl (by go_simp) (fun _ M => M.row (by simp)) (by simp [hx, hv, hu]) (by rw [cs_extract] <;> congr 1 <;> first | (simp [hx, hv, hu]; done) | simp [List.take_append, List.drop_append, List.take_of_length_le, hx, hv, hu]) rfl ?_
  refine SeqA.pure (.pointer (some ⟨w.heap.size, 32, none⟩)) (fun w' => by go_simp) rfl rfl ?_
  refine SeqA.ldm Tryd.underlying23 rfl inf_key (w.heap.size) 32 (cs U8 (x ++ v)) (cs U8 v) rfl (by go_simp) (fun _ M => M.row (by simp)) (by simp [hx, hv, hu]) (by rw [cs_extract] <;> congr 1 <;> first | (simp [hx, hv, hu]; done) | simp [List.take_append, List.drop_append, List.take_of_length_le, hx, hv, hu]) rfl ?_
  refine SeqA.call _ _ _ (fun w' => by go_simp) (fun w' hI _ => radd_c w' x v (by simp [hx, hv, hu]) (by simp [hx, hv, hu]) (Fk x) (Fk v) (rfl) (rfl)) M2.size rfl rfl ?_
  simp only [Act.put, List.setIfInBounds_toArray, List.set_cons_succ, List.set_cons_zero]
  refine SeqA.pure (.pointer (some ⟨w.heap.size, 0, none⟩)) (fun w' => by go_simp) rfl rfl ?_
  refine SeqA.ldm Tryd.underlying23 rfl inf_key (w.heap.size) 0 (cs U8 (x ++ v)) (cs U8 x) rfl (by go_simp) (fun _ M => M.row (by simp)) (by simp [hx, hv, hu]) (by rw [cs_extract] <;> congr 1 <;> first | (simp [hx, hv, hu]; done) | simp [List.take_append, List.drop_append, List.take_of_length_le, hx, hv, hu]) rfl ?_
  refine SeqA.pure (.pointer (some ⟨w.heap.size, 32, none⟩)) (fun w' => by go_simp) rfl rfl ?_
  refine SeqA.ldm Tryd.underlying23 rfl inf_key (w.heap.size) 32 (cs U8 (x ++ v)) (cs U8 v) rfl (by go_simp) (fun _ M => M.row (by simp)) (by simp [hx, hv, hu]) (by rw [cs_extract] <;> congr 1 <;> first | (simp [hx, hv, hu]; done) | simp [List.take_append, List.drop_append, List.take_of_length_le, hx, hv, hu]) rfl ?_
  refine SeqA.call _ _ _ (fun w' => by go_simp) (fun w' hI _ => rsub_c w' x v (by simp [hx, hv, hu]) (by simp [hx, hv, hu]) (Fk x) (Fk v) (rfl) (rfl)) M2.size rfl rfl ?_
  refine SeqA.var (z := .agg (cs U8 (zs 32))) (by kernel_rfl) rfl rfl (by decide) rfl ?_
  simp only [Act.put, List.setIfInBounds_toArray, List.set_cons_succ, List.set_cons_zero]
  refine SeqA.var (z := .agg (cs U8 (zs 32))) (by kernel_rfl) rfl rfl (by decide) rfl ?_
  refine SeqA.nil (fun w3 M4 hz => ?_)
  refine news_one (fun b5 hb1 hb2 hb3 => ?_)
  have M6 := M2.in_ (c := cs U8 (zs 32)) M4 hb1 hb2 (by decide) hb3 rfl
  refine news_one (fun b7 hb1 hb2 hb3 => ?_)
  have M8 := M2.in_ (c := cs U8 (zs 32)) M6 hb1 hb2 (by decide) hb3 rfl
  show wpT _ _ _ _ _ _
  simp only [Act.put, List.setIfInBounds_toArray, List.set_cons_succ, List.set_cons_zero]
  refine wpT_st0 M8 0 (cs U8 (K ((Fk x) + (Fk v)))) inf_key rfl rfl rfl rfl (by go_simp) (by go_simp) (by simp [hx, hv, hu]) (by simp [hx, hv, hu]) (by simp [go_sem]) rfl (fun w9 M10 => ?_)
  dsimp only [List.set] at M10
  refine wpT_st0 M10 1 (cs U8 (K ((Fk x) - (Fk v)))) inf_key rfl rfl rfl rfl (by go_simp) (by go_simp) (by simp [hx, hv, hu]) (by simp [hx, hv, hu]) (by simp [go_sem]) rfl (fun w11 M12 => ?_)
  dsimp only [List.set] at M12
  dsimp only [wpT]
  go_upto_region 2 with fail
  refine wp_region_seq 8 [20, 21, 22, 23, 24, 25, 7, 8] [] [] [] (.op 8 (.op 9 .done)) (Mm no w _) (by kernel_rfl) (by kernel_rfl) (by kernel_rfl) (fun d _ _ _ _ h => by cases d <;> exact h) (by rfl) M12.size (fun _ _ h k => h.sf k) M12 ?_
  simp only [List.take_succ_cons, List.take_zero]
  refine SeqA.ld0 Tryd.underlying23 rfl inf_key (b7) (cs U8 (K ((Fk x) + (Fk v)))) rfl (by go_simp) (fun _ M => M.row (by simp)) (by simp [hx, hv, hu]) rfl ?_
  refine SeqA.ld0 Tryd.underlying23 rfl inf_key (b7) (cs U8 (K ((Fk x) + (Fk v)))) rfl (by go_simp) (fun _ M => M.row (by simp)) (by simp [hx, hv, hu]) rfl ?_
  refine SeqA.call _ _ _ (fun w' => by go_simp) (fun w' hI _ => rmul_c w' (K ((Fk x) + (Fk v))) (K ((Fk x) + (Fk v))) (by simp [hx, hv, hu]) (by simp [hx, hv, hu]) ((Fk x) + (Fk v)) ((Fk x) + (Fk v)) (Fk_K _) (Fk_K _)) M12.size rfl rfl ?_
  refine SeqA.ld0 Tryd.underlying23 rfl inf_key (b5) (cs U8 (K ((Fk x) - (Fk v)))) rfl (by go_simp) (fun _ M => M.row (by simp)) (by simp [hx, hv, hu]) rfl ?_
  refine SeqA.ld0 Tryd.underlying23 rfl inf_key (b5) (cs U8 (K ((Fk x) - (Fk v)))) rfl (by go_simp) (fun _ M => M.row (by simp)) (by simp [hx, hv, hu]) rfl ?_
  simp only [Act.put, List.setIfInBounds_toArray, List.set_cons_succ, List.set_cons_zero]
  refine SeqA.call _ _ _ (fun w' => by go_simp) (fun w' hI _ => rmul_c w' (K ((Fk x) - (Fk v))) (K ((Fk x) - (Fk v))) (by simp [hx, hv, hu]) (by simp [hx, hv, hu]) ((Fk x) - (Fk v)) ((Fk x) - (Fk v)) (Fk_K _) (Fk_K _)) M12.size rfl rfl ?_
  refine SeqA.var (z := .agg (cs U8 (zs 32))) (by kernel_rfl) rfl rfl (by decide) rfl ?_
  refine SeqA.var (z := .agg (cs U8 (zs 32))) (by kernel_rfl) rfl rfl (by decide) rfl ?_
  refine SeqA.nil (fun w13 M14 hz => ?_)
  refine news_one (fun b15 hb1 hb2 hb3 => ?_)
  have M16 := M12.in_ (c := cs U8 (zs 32)) M14 hb1 hb2 (by decide) hb3 rfl
  refine news_one (fun b17 hb1 hb2 hb3 => ?_)
  have M18 := M12.in_ (c := cs U8 (zs 32)) M16 hb1 hb2 (by decide) hb3 rfl
  show wpT _ _ _ _ _ _
  simp only [Act.put, List.setIfInBounds_toArray, List.set_cons_succ, List.set_cons_zero]
  refine wpT_st0 M18 0 (cs U8 (K (((Fk x) + (Fk v)) * ((Fk x) + (Fk v))))) inf_key rfl rfl rfl rfl (by go_simp) (by go_simp) (by simp [hx, hv, hu]) (by simp [hx, hv, hu]) (by simp [go_sem]) rfl (fun w19 M20 => ?_)
  dsimp only [List.set] at M20
  refine wpT_st0 M20 1 (cs U8 (K (((Fk x) - (Fk v)) * ((Fk x) - (Fk v))))) inf_key rfl rfl rfl rfl (by go_simp) (by go_simp) (by simp [hx, hv, hu]) (by simp [hx, hv, hu]) (by simp [go_sem]) rfl (fun w21 M22 => ?_)
  dsimp only [List.set] at M22
  dsimp only [wpT]
  go_upto_region 3 with fail
  refine wp_region_seqF 4 [26, 27, 28, 9] [] [] [] (.op 4 .done) (Mm no w _) (by kernel_rfl) (by kernel_rfl) (fun d _ _ _ _ h => by cases d <;> exact h) (by rfl) M22.size (fun _ _ h k => h.sf k) M22 (by kernel_rfl) ?_
  simp only [List.take_succ_cons, List.take_zero]
  refine SeqA.ld0 Tryd.underlying23 rfl inf_key (b17) (cs U8 (K (((Fk x) + (Fk v)) * ((Fk x) + (Fk v))))) rfl (by go_simp) (fun _ M => M.row (by simp)) (by simp [hx, hv, hu]) rfl ?_
  refine SeqA.ld0 Tryd.underlying23 rfl inf_key (b15) (cs U8 (K (((Fk x) - (Fk v)) * ((Fk x) - (Fk v))))) rfl (by go_simp) (fun _ M => M.row (by simp)) (by simp [hx, hv, hu]) rfl ?_
  refine SeqA.call _ _ _ (fun w' => by go_simp) (fun w' hI _ => rsub_c w' (K (((Fk x) + (Fk v)) * ((Fk x) + (Fk v)))) (K (((Fk x) - (Fk v)) * ((Fk x) - (Fk v)))) (by simp [hx, hv, hu]) (by simp [hx, hv, hu]) (((Fk x) + (Fk v)) * ((Fk x) + (Fk v))) (((Fk x) - (Fk v)) * ((Fk x) - (Fk v))) (Fk_K _) (Fk_K _)) M22.size rfl rfl ?_
  refine SeqA.var (z := .agg (cs U8 (zs 32))) (by kernel_rfl) rfl rfl (by decide) rfl ?_
  refine SeqA.nil (fun w23 M24 hz => ?_)
  refine news_one (fun b25 hb1 hb2 hb3 => ?_)
  have M26 := M22.in_ (c := cs U8 (zs 32)) M24 hb1 hb2 (by decide) hb3 rfl
  show wpT _ _ _ _ _ _
  simp only [Act.put, List.setIfInBounds_toArray, List.set_cons_succ, List.set_cons_zero]
  refine wpT_st0 M26 0 (cs U8 (K ((((Fk x) + (Fk v)) * ((Fk x) + (Fk v))) - (((Fk x) - (Fk v)) * ((Fk x) - (Fk v)))))) inf_key rfl rfl rfl rfl (by go_simp) (by go_simp) (by simp [hx, hv, hu]) (by simp [hx, hv, hu]) (by simp [go_sem]) rfl (fun w27 M28 => ?_)
  dsimp only [List.set] at M28
  dsimp only [wpT]
  go_upto_region 4 with fail
  refine wp_region_seq 11 [29, 30, 31, 32, 33, 34, 35, 36, 37, 38, 39] [] [] [] (.op 11 .done) (Mm no w _) (by kernel_rfl) (by kernel_rfl) (by kernel_rfl) (fun d _ _ _ _ h => by cases d <;> exact h) (by rfl) M28.size (fun _ _ h k => h.sf k) M28 ?_
  simp only [List.take_succ_cons, List.take_zero]
  refine SeqA.ld0 Tryd.underlying23 rfl inf_key (b17) (cs U8 (K (((Fk x) + (Fk v)) * ((Fk x) + (Fk v))))) rfl (by go_simp) (fun _ M => M.row (by simp)) (by simp [hx, hv, hu]) rfl ?_
  refine SeqA.ld0 Tryd.underlying23 rfl inf_key (b15) (cs U8 (K (((Fk x) - (Fk v)) * ((Fk x) - (Fk v))))) rfl (by go_simp) (fun _ M => M.row (by simp)) (by simp [hx, hv, hu]) rfl ?_
  refine SeqA.call _ _ _ (fun w' => by go_simp) (fun w' hI _ => rmul_c w' (K (((Fk x) + (Fk v)) * ((Fk x) + (Fk v)))) (K (((Fk x) - (Fk v)) * ((Fk x) - (Fk v)))) (by simp [hx, hv, hu]) (by simp [hx, hv, hu]) (((Fk x) + (Fk v)) * ((Fk x) + (Fk v))) (((Fk x) - (Fk v)) * ((Fk x) - (Fk v))) (Fk_K _) (Fk_K _)) M28.size rfl rfl ?_
  refine SeqA.ld0 Tryd.underlying23 rfl inf_key (b25) (cs U8 (K ((((Fk x) + (Fk v)) * ((Fk x) + (Fk v))) - (((Fk x) - (Fk v)) * ((Fk x) - (Fk v)))))) rfl (by go_simp) (fun _ M => M.row (by simp)) (by simp [hx, hv, hu]) rfl ?_
  refine SeqA.ld0 Tryd.underlying23 rfl inf_key (b17) (cs U8 (K (((Fk x) + (Fk v)) * ((Fk x) + (Fk v))))) rfl (by go_simp) (fun _ M => M.row (by simp)) (by simp [hx, hv, hu]) rfl ?_
  simp only [Act.put, List.setIfInBounds_toArray, List.set_cons_succ, List.set_cons_zero]
  refine SeqA.ld0 Tryd.underlying23 rfl inf_key (w.heap.size + 1) (cs U8 u) rfl (by go_simp) (fun _ M => M.row (by simp)) (by simp [hx, hv, hu]) rfl ?_
  refine SeqA.ld0 Tryd.underlying23 rfl inf_key (b25) (cs U8 (K ((((Fk x) + (Fk v)) * ((Fk x) + (Fk v))) - (((Fk x) - (Fk v)) * ((Fk x) - (Fk v)))))) rfl (by go_simp) (fun _ M => M.row (by simp)) (by simp [hx, hv, hu]) rfl ?_
  refine SeqA.call _ _ _ (fun w' => by go_simp) (fun w' hI _ => rmul_c w' u (K ((((Fk x) + (Fk v)) * ((Fk x) + (Fk v))) - (((Fk x) - (Fk v)) * ((Fk x) - (Fk v))))) (by simp [hx, hv, hu]) (by simp [hx, hv, hu]) (Fk u) ((((Fk x) + (Fk v)) * ((Fk x) + (Fk v))) - (((Fk x) - (Fk v)) * ((Fk x) - (Fk v)))) (rfl) (Fk_K _)) M28.size rfl rfl ?_
  refine SeqA.call _ _ _ (fun w' => by go_simp) (fun w' hI _ => radd_c w' (K (((Fk x) + (Fk v)) * ((Fk x) + (Fk v)))) (K ((Fk u) * ((((Fk x) + (Fk v)) * ((Fk x) + (Fk v))) - (((Fk x) - (Fk v)) * ((Fk x) - (Fk v)))))) (by simp [hx, hv, hu]) (by simp [hx, hv, hu]) (((Fk x) + (Fk v)) * ((Fk x) + (Fk v))) ((Fk u) * ((((Fk x) + (Fk v)) * ((Fk x) + (Fk v))) - (((Fk x) - (Fk v)) * ((Fk x) - (Fk v))))) (Fk_K _) (Fk_K _)) M28.size rfl rfl ?_
  refine SeqA.call _ _ _ (fun w' => by go_simp) (fun w' hI _ => rmul_c w' (K ((((Fk x) + (Fk v)) * ((Fk x) + (Fk v))) - (((Fk x) - (Fk v)) * ((Fk x) - (Fk v))))) (K ((((Fk x) + (Fk v)) * ((Fk x) + (Fk v))) + ((Fk u) * ((((Fk x) + (Fk v)) * ((Fk x) + (Fk v))) - (((Fk x) - (Fk v)) * ((Fk x) - (Fk v))))))) (by simp [hx, hv, hu]) (by simp [hx, hv, hu]) ((((Fk x) + (Fk v)) * ((Fk x) + (Fk v))) - (((Fk x) - (Fk v)) * ((Fk x) - (Fk v)))) ((((Fk x) + (Fk v)) * ((Fk x) + (Fk v))) + ((Fk u) * ((((Fk x) + (Fk v)) * ((Fk x) + (Fk v))) - (((Fk x) - (Fk v)) * ((Fk x) - (Fk v)))))) (Fk_K _) (Fk_K _)) M28.size rfl rfl ?_
  refine SeqA.pure (.agg (cs U8 (K ((((Fk x) + (Fk v)) * ((Fk x) + (Fk v))) * (((Fk x) - (Fk v)) * ((Fk x) - (Fk v)))) ++ K (((((Fk x) + (Fk v)) * ((Fk x) + (Fk v))) - (((Fk x) - (Fk v)) * ((Fk x) - (Fk v)))) * ((((Fk x) + (Fk v)) * ((Fk x) + (Fk v))) + ((Fk u) * ((((Fk x) + (Fk v)) * ((Fk x) + (Fk v))) - (((Fk x) - (Fk v)) * ((Fk x) - (Fk v)))))))))) (fun w' => by have q := xb_pair2 w' (K (((((Fk x) + (Fk v)) * ((Fk x) + (Fk v))) * (((Fk x) - (Fk v)) * ((Fk x) - (Fk v)))))) (K ((((((Fk x) + (Fk v)) * ((Fk x) + (Fk v))) - (((Fk x) - (Fk v)) * ((Fk x) - (Fk v)))) * ((((Fk x) + (Fk v)) * ((Fk x) + (Fk v))) + ((Fk u) * ((((Fk x) + (Fk v)) * ((Fk x) + (Fk v))) - (((Fk x) - (Fk v)) * ((Fk x) - (Fk v))))))))) (by simp) (by simp); go_simp) rfl rfl ?_
  refine SeqA.nil (fun w29 M30 hz => ?_)
  show wpT _ _ _ _ _ _
  simp only [Act.put, List.setIfInBounds_toArray, List.set_cons_succ, List.set_cons_zero]
  refine wpT_st0 M30 5 (cs U8 (K ((((Fk x) + (Fk v)) * ((Fk x) + (Fk v))) * (((Fk x) - (Fk v)) * ((Fk x) - (Fk v)))) ++ K (((((Fk x) + (Fk v)) * ((Fk x) + (Fk v))) - (((Fk x) - (Fk v)) * ((Fk x) - (Fk v)))) * ((((Fk x) + (Fk v)) * ((Fk x) + (Fk v))) + ((Fk u) * ((((Fk x) + (Fk v)) * ((Fk x) + (Fk v))) - (((Fk x) - (Fk v)) * ((Fk x) - (Fk v))))))))) inf_pair rfl rfl rfl rfl (by go_simp) (by go_simp) (by simp [hx, hv, hu]) (by simp [hx, hv, hu]) (by simp [go_sem]) rfl (fun w31 M32 => ?_)
  dsimp only [List.set] at M32
  dsimp only [wpT]
  go_wp2_with fail
  have r33 := M32.row (b := w.heap.size + 1 + 1) (c := cs U8 (K ((((Fk x) + (Fk v)) * ((Fk x) + (Fk v))) * (((Fk x) - (Fk v)) * ((Fk x) - (Fk v)))) ++ K (((((Fk x) + (Fk v)) * ((Fk x) + (Fk v))) - (((Fk x) - (Fk v)) * ((Fk x) - (Fk v)))) * ((((Fk x) + (Fk v)) * ((Fk x) + (Fk v))) + ((Fk u) * ((((Fk x) + (Fk v)) * ((Fk x) + (Fk v))) - (((Fk x) - (Fk v)) * ((Fk x) - (Fk v))))))))) (by simp)
  refine bodyPost_ret (res_row (b := w.heap.size + 1 + 1) rfl Tryd.underlying118 rfl inf_pair _ _ rfl (by rw [r33]; simp [hx, hv, hu])) rfl ?_
  rw [r33]
  exact ⟨rfl, M32.end_⟩
theorem twice_any (w : World) (x v u : List (BitVec 8)) (hx : x.length = 32) (hv : v.length = 32) (hu : u.length = 32) (hu2 : Fk u = 121665) :
    Calls Tryd.prog 76 #[.agg (cs U8 (x ++ v)), .agg (cs U8 u)] w fun e w' => e = .returned (.agg (cs U8 (K (twX (Fk x) (Fk v)) ++ K (twZ (Fk x) (Fk v))))) ∧ Below w.heap.size w w' := by
  have h := twice_u w x v u hx hv hu
  rw [hu2] at h
  exact h
end Go.Proofs.YtgclegdgngldoaaDoor
set_option linter.unusedSimpArgs false
set_option linter.unusedVariables false
namespace Go.Proofs.YtgclegdgngldoaaDoor
open Go.RowKit Fp
theorem bit_rem (x : BitVec 8) (r : Nat) : (x >>> r) % 2#8 = bv (x.toNat / 2 ^ r % 2 == 1) := by
  rw [← bv_lt]
  apply BitVec.eq_of_toNat_eq
  rw [BitVec.toNat_umod, BitVec.toNat_ushiftRight, Nat.shiftRight_eq_div_pow, n2]
  rfl
end Go.Proofs.YtgclegdgngldoaaDoor
set_option linter.unusedSimpArgs false
set_option linter.unusedVariables false
namespace Go.Proofs.YtgclegdgngldoaaDoor
open Go.RowKit Fp
attribute [local irreducible] lad gx bv sw st
end Go.Proofs.YtgclegdgngldoaaDoor
set_option linter.unusedSimpArgs false
set_option linter.unusedVariables false
namespace Go.Proofs.YtgclegdgngldoaaDoor
open Go.RowKit Fp
end Go.Proofs.YtgclegdgngldoaaDoor
set_option linter.unusedSimpArgs false
set_option linter.unusedVariables false
namespace Go.Proofs.YtgclegdgngldoaaDoor
open Go.RowKit Fp
end Go.Proofs.YtgclegdgngldoaaDoor
namespace Go.Proofs.YtgclegdgngldoaaDoor.Fp
end Go.Proofs.YtgclegdgngldoaaDoor.Fp
set_option linter.unusedVariables false
namespace Go.Proofs.YtgclegdgngldoaaDoor
open Go.RowKit Fp
end Go.Proofs.YtgclegdgngldoaaDoor

set_option linter.unusedSimpArgs false
set_option linter.unusedVariables false
namespace Go.Proofs.YtgclegdgngldoaaDoor.Sh
end Go.Proofs.YtgclegdgngldoaaDoor.Sh
namespace Go.Proofs.YtgclegdgngldoaaDoor
open Go.RowKit

attribute [local irreducible] xorRow
end Go.Proofs.YtgclegdgngldoaaDoor
set_option linter.unusedSimpArgs false
set_option linter.unusedVariables false
namespace Go.Proofs.YtgclegdgngldoaaDoor
open Go.RowKit

end Go.Proofs.YtgclegdgngldoaaDoor
set_option linter.unusedSimpArgs false
set_option linter.unusedVariables false
namespace Go.Proofs.YtgclegdgngldoaaDoor
open Go.RowKit

theorem row_cell {w : World} {g : Nat} {L : List (BitVec 8)} (h : w.rowOf g = cs U8 L) (i : Nat) (hi : i < L.length) : w.cell? ⟨g, i, none⟩ = some (U8 (L.getD i 0)) := by
  rw [cell_rowOf, h, cs_get_lt hi, List.getD_eq_getElem?_getD, List.getElem?_eq_getElem hi]; rfl
theorem take_succ_getD {α : Type} (l : List α) (d : α) (i : Nat) (h : i < l.length) : l.take (i + 1) = l.take i ++ [l.getD i d] := by
  rw [List.take_succ_eq_append_getElem h, List.getD_eq_getElem?_getD, List.getElem?_eq_getElem h]; rfl
set_option maxRecDepth 100000 in
set_option maxHeartbeats 1000000 in
theorem rbytes_any (w : World) (l : List (BitVec 8)) (hl : l.length = 32) :
    Calls Tryd.prog 53 #[.agg (cs U8 l)] w fun e w' => ∃ u, e = .returned u ∧ OB w' w.heap.size u l ∧ Below w.heap.size w w' := by
  have HL := hid hl
  go_enter Tryd.func53, Tryd.ntmps53
  go_wp2_with fail
  have ha : Below w.heap.size w (w.alloc (.cells (cs U8 l) 23)) := (Below.refl _ _).alloc (Nat.le_refl _) _
  have hra : (w.alloc (.cells (cs U8 l) 23)).rowOf w.heap.size = cs U8 l := rowOf_alloc_at _ _ _ rfl
  have hsa : (w.alloc (.cells (cs U8 l) 23)).heap.size = w.heap.size + 1 := by simp
  obtain ⟨wa, hwa⟩ : ∃ wa, wa = w.alloc (.cells (cs U8 l) 23) := ⟨_, rfl⟩
  rw [← hwa] at ha hra hsa
  rw [← hwa]
  have HR := hid hra
  clear hwa hra hl
  go_loopw [3, 4] (fun u t wr => ∃ i : Nat, i ≤ 32 ∧ t = .int .i64 i ∧ OB wr (w.heap.size + 1) u (l.take i) ∧ Below (w.heap.size + 1) wa wr) (fun _ t _ => 32 - (intOf t).toNat)
  case atStart => exact ⟨0, by omega, rfl, OB.nil _ _, Below.refl _ _⟩
  case round =>
    obtain ⟨i, hi, rfl, hov, hbw⟩ := hrel
    have hz := hbw.size
    by_cases hlt : i < 32
    · have k1 := row_cell ((below_row hbw (by omega)).trans HR.out) i (by rw [HL.out]; exact hlt)
      have q0 : (0 : Int) ≤ i := by omega
      have q1 : (i : Int) < 32 := by omega
      have hlen : Hid ((l.take i).length + 1 ≤ 140737488355328) := hid (by simp; omega)
      have hts := hid (take_succ_getD l 0 i (by rw [HL.out]; exact hlt))
      go_wp2_with (refine wpList_apb rfl (.tmp 9) (.tmp 13) rfl (w.heap.size + 1) _ _ (l.take i) [l.getD i 0] rfl (OB.alloc hov _) rfl (BS.one _ _ _ rfl _) hlen.out (by simp; omega) ?_; rintro v3 w4 hown3 hg3 -; have HB4 := ob_below1 _ hbw hov (by omega) hg3)
      go_roundw
      case rel => exact ⟨i + 1, by omega, by go_num, by rw [hts.out]; exact hown3, HB4⟩
      case measure => simp [intOf]; omega
    · have : i = 32 := by omega
      subst this
      have e32 : l.take 32 = l := List.take_of_length_le (by rw [HL.out]; exact Nat.le_refl _)
      rw [e32] at hov
      have HV := hid hov
      clear hov e32
      go_wp2_with fail
      go_ret
      exact ⟨_, rfl, HV.out.mono (by omega), ha.trans (hbw.mono (by omega))⟩
set_option maxRecDepth 100000 in
set_option maxHeartbeats 1000000 in
theorem rjoin_any (w : World) (v1 v2 : Value) (a b : List (BitVec 8)) (h1 : BS w v1 a) (h2 : BS w v2 b) (hn : a.length + b.length ≤ 140737488355328) :
    Calls Tryd.prog 92 #[v1, v2] w fun e w' => ∃ u, e = .returned u ∧ OB w' w.heap.size u (a ++ b) ∧ Below w.heap.size w w' := by
  have H1 := hid h1; have H2 := hid h2; have HN := hid hn
  clear h1 h2 hn
  go_enter Tryd.func92, Tryd.ntmps92
  have he : OB (w.alloc (.cells #[] 5)) w.heap.size (.slice (some ⟨w.heap.size, 0, none⟩) 0 0) [] := ⟨rfl, .inr ⟨w.heap.size, 0, #[], rfl, Nat.le_refl _, heap_new' _, Nat.le_refl _, Nat.zero_le _, rfl, rfl⟩⟩
  have hb0 : Below w.heap.size w (w.alloc (.cells #[] 5)) := (Below.refl _ _).alloc (Nat.le_refl _) _
  go_wp2_with (first
    | (refine wpList_apb rfl (.tmp 6) (.tmp 7) rfl w.heap.size _ _ [] a rfl he rfl (SV.below H1.out hb0) (by have := HN.out; simp; omega) (by simp) ?_; rintro v3 w3 hown3 hg3 -; have hb3 : Below w.heap.size w w3 := ob_below hb0 he (by simp) hg3; have hz3 := hb3.size)
    | (refine wpList_apb rfl (.tmp 9) (.tmp 10) rfl w.heap.size _ _ ([] ++ a) b rfl hown3 rfl (SV.below H2.out hb3) (by have := HN.out; simp; omega) hz3 ?_; rintro v4 w4 hown4 hg4 -; have hb4 : Below w.heap.size w w4 := ob_below hb3 hown3 hz3 hg4))
  go_ret
  exact ⟨_, rfl, by simpa using hown4, hb4⟩
end Go.Proofs.YtgclegdgngldoaaDoor
set_option linter.unusedSimpArgs false
set_option linter.unusedVariables false
namespace Go.Proofs.YtgclegdgngldoaaDoor
open Go.RowKit

attribute [local irreducible] fil
end Go.Proofs.YtgclegdgngldoaaDoor
set_option linter.unusedSimpArgs false
set_option linter.unusedVariables false
namespace Go.Proofs.YtgclegdgngldoaaDoor
open Go.RowKit

theorem padB_get (k : List (BitVec 8)) (x : BitVec 8) (i : Nat) (hi : i < 64) : (Sh.padB k x).getD i 0 = k.getD i 0 ^^^ x := by
  have hg : ∀ (l : List (BitVec 8)) (j : Nat), l.getD j 0 = (l[j]?).getD 0 := fun l j => List.getD_eq_getElem?_getD
  rw [hg, hg]
  unfold Sh.padB Sh.zeros
  rw [List.getElem?_map, List.getElem?_append]
  by_cases h : i < k.length
  · rw [if_pos h, List.getElem?_eq_getElem h]; rfl
  · rw [if_neg h, List.getElem?_eq_none (l := k) (by omega), List.getElem?_replicate, if_pos (by omega)]
    simp
theorem BS.getD_cell {w : World} {v : Value} {l : List (BitVec 8)} (h : BS w v l) {a : Option Addr} {n c : Nat} (e : v = .slice a n c) (i : Nat) (hi : i < l.length) : ∃ b o, a = some ⟨b, o, none⟩ ∧ w.cell? ⟨b, o + i, none⟩ = some (U8 (l.getD i 0)) := by
  obtain ⟨b, o, cap, e2, -, hc⟩ := h.open (by intro e; rw [e] at hi; simp at hi)
  rw [e] at e2
  injection e2 with e3 _ _
  exact ⟨b, o, e3, hc i hi⟩
theorem ob_pair {w w' : World} {B : Nat} {u u' v : Value} {b : List (BitVec 8)} (o : Obj) (hov : OB w B v b) (hsep : ∀ g, u.ownBlock = some g → v.ownBlock ≠ some g) (hg : (w.alloc o).grownBy w' u.ownBlock)
    (hd : u'.ownBlock = u.ownBlock ∨ u'.ownBlock = some (w.alloc o).heap.size) : OB w' B v b ∧ (∀ g, u'.ownBlock = some g → v.ownBlock ≠ some g) := by
  refine ⟨OB.kept (hov.alloc o) hg ?_, fun g h1 h2 => ?_⟩
  · cases hv : v.ownBlock with
    | none => exact .inl rfl
    | some g => exact .inr (fun e => hsep g e.symm hv)
  · rcases hd with hd | hd
    · exact hsep g (hd ▸ h1) h2
    · have h3 := (hov.lt g h2).2
      rw [h1] at hd
      injection hd with hd
      simp at hd; omega
theorem rsumD {w : World} {v : Value} {l D : List (BitVec 8)} (hD : D = Sh.sum l) (hv : BS w v l) (hn : l.length ≤ 1073741000) :
    Calls Tryd.prog 91 #[v] w fun e w' => e = .returned (.agg (cs U8 D)) ∧ Below w.heap.size w w' := by
  rw [hD]; exact rsum_any w v l hv hn
set_option maxRecDepth 100000 in
set_option maxHeartbeats 2000000 in
/-- the loop and what stands behind it -/
theorem rmac_any (w : World) (v0 v1 : Value) (k m : List (BitVec 8)) (h0 : BS w v0 k) (h1 : BS w v1 m) (hkl : k.length ≤ 1073740000) (hml : m.length ≤ 1073740000) :
    Calls Tryd.prog 68 #[v0, v1] w fun e w' => e = .returned (.agg (cs U8 (Sh.mac k m))) ∧ Below w.heap.size w w' := by
  obtain ⟨n, hn⟩ : ∃ n, n = k.length := ⟨_, rfl⟩
  obtain ⟨av, cv, rfl, hcv⟩ := h0.shape' n hn.symm
  obtain ⟨K, hK⟩ : ∃ K, K = Sh.key0 k := ⟨_, rfl⟩
  have hKl : K.length ≤ 64 := by rw [hK]; exact Sh.key0_len k
  obtain ⟨D, hD⟩ : ∃ D, D = Sh.sum (Sh.padB K 54 ++ m) := ⟨_, rfl⟩
  have hDl : D.length = 32 := by rw [hD]; rfl
  obtain ⟨E, hE⟩ : ∃ E, E = Sh.sum (Sh.padB K 92 ++ D) := ⟨_, rfl⟩
  have hEl : E.length = 32 := by rw [hE]; rfl
  have hmac : Sh.mac k m = E := by rw [hE, hD, hK]; rfl
  have hp1 : (Sh.padB K 54).length = 64 := Sh.padB_len _ _ hKl
  have hp2 : (Sh.padB K 92).length = 64 := Sh.padB_len _ _ hKl
  rw [hmac]
  have HN := hid hn; have HD := hid hD; have HE := hid hE; have HK := hid hK; have HP1 := hid hp1; have HP2 := hid hp2; have HEL := hid hEl; have HDL := hid hDl
  have ha : Below w.heap.size w (w.alloc (.cells (cs U8 (zs 32)) 23)) := (Below.refl _ _).alloc (Nat.le_refl _) _
  have hra : (w.alloc (.cells (cs U8 (zs 32)) 23)).rowOf w.heap.size = cs U8 (zs 32) := rowOf_alloc_at _ _ _ rfl
  have hfa : (w.alloc (.cells (cs U8 (zs 32)) 23)).free w.heap.size = true := free_alloc_at _ _ _ rfl
  have hsa : (w.alloc (.cells (cs U8 (zs 32)) 23)).heap.size = w.heap.size + 1 := by simp
  obtain ⟨wa, hwa⟩ : ∃ wa, wa = w.alloc (.cells (cs U8 (zs 32)) 23) := ⟨_, rfl⟩
  have HV0 : Hid (BS wa (.slice av n cv) k) := hid (by rw [hwa]; exact SV.alloc h0 _)
  have HV1 : Hid (BS wa v1 m) := hid (by rw [hwa]; exact SV.alloc h1 _)
  rw [← hwa] at ha hra hfa hsa
  have HWA := hid hwa
  have HRA := hid hra; have HFA := hid hfa
  clear hD hE hK hp1 hp2 hmac hn hwa hra hfa hEl hDl h0 h1
  by_cases h64 : (64 : Int) < n
  · obtain ⟨S, hS⟩ : ∃ S, S = Sh.sum k := ⟨_, rfl⟩
    have hSl : S.length = 32 := by rw [hS]; rfl
    have hKS : K = S := by rw [HK.out, hS]; unfold Sh.key0; rw [if_pos (by rw [← HN.out]; omega)]
    have HS := hid hS; have HKS := hid hKS; have HSL := hid hSl
    clear hS hKS hSl
    go_enter Tryd.func68, Tryd.ntmps68
    go_wp2_with fail
    rw [← HWA.out]
    with_reducible refine (rsumD HS.out HV0.out (by omega)).mono ?_
    rintro e w1 ⟨rfl, hb1⟩
    dsimp only
    go_wp2_with fail
    with_reducible refine (rbytes_any w1 S HSL.out).mono ?_
    rintro e wb ⟨uk, rfl, hok, hbb⟩
    obtain ⟨ak, ck, rfl, hck⟩ := hok.bs.shape' 32 HSL.out
    have HKN : Hid (K.length = 32) := hid (by rw [HKS.out]; exact HSL.out)
    have HVK : Hid (BS wb (.slice ak 32 ck) K) := hid (by rw [HKS.out]; exact hok.bs)
    have HBB : Hid (Below (w.heap.size + 1) wa wb) := hid (by rw [← hsa]; exact hb1.trans (hbb.mono hb1.size))
    have hzb : w.heap.size + 1 ≤ wb.heap.size := by have h1 := hb1.size; have h2 := hbb.size; omega
    clear hok hb1 hbb
    dsimp only
    go_wp2_with fail
    go_loopw [5, 6, 7, 8] (fun u v t _ wr => ∃ i : Nat, i ≤ 64 ∧ t = .int .i64 i ∧ OB wr wb.heap.size u ((Sh.padB K 54).take i) ∧ OB wr wb.heap.size v ((Sh.padB K 92).take i) ∧ (∀ g, u.ownBlock = some g → v.ownBlock ≠ some g) ∧ Below wb.heap.size wb wr) (fun _ _ t _ _ => 64 - (intOf t).toNat)
    case atStart => exact ⟨0, by omega, rfl, OB.nil _ _, OB.nil _ _, (fun g h => by cases h), Below.refl _ _⟩
    case round =>
      obtain ⟨i, hi, rfl, hou, hov, hsep, hbw⟩ := hrel
      have hz := hbw.size
      by_cases hlt : i < 64
      · have q0 : (0 : Int) ≤ i := by omega
        have q1 : (i : Int) < 64 := by omega
        have t1 := hid (take_succ_getD (Sh.padB K 54) 0 i (by rw [HP1.out]; exact hlt))
        have t2 := hid (take_succ_getD (Sh.padB K 92) 0 i (by rw [HP2.out]; exact hlt))
        have l1 : Hid (((Sh.padB K 54).take i).length + 1 ≤ 140737488355328) := hid (by simp; omega)
        have l2 : Hid (((Sh.padB K 92).take i).length + 1 ≤ 140737488355328) := hid (by simp; omega)
        obtain ⟨y, hy⟩ : ∃ y, y = K.getD i 0 := ⟨_, rfl⟩
        have g1 : Hid ((Sh.padB K 54).getD i 0 = y ^^^ 54) := hid (by rw [hy]; exact padB_get K 54 i hlt)
        have g2 : Hid ((Sh.padB K 92).getD i 0 = y ^^^ 92) := hid (by rw [hy]; exact padB_get K 92 i hlt)
        have HSEP := hid hsep
        clear hsep
        by_cases hik : i < 32
        · have HBK : BS wr (.slice ak 32 ck) K := SV.below HVK.out hbw
          obtain ⟨kb, ko, ka, hcell⟩ := HBK.getD_cell rfl i (by rw [HKN.out]; exact hik)
          rw [← hy] at hcell
          subst ka
          have q2 : (i : Int) < 32 := by omega
          clear hy HBK
          go_wp2_with (first
            | (refine wpList_apbd rfl (.tmp 27) (.tmp 30) rfl wb.heap.size _ _ ((Sh.padB K 54).take i) [(Sh.padB K 54).getD i 0] rfl (OB.alloc hou _) rfl (BS.one _ _ _ (by rw [g1.out]; rfl) _) l1.out (by simp; omega) ?_; rintro v3 w3 hown3 hg3 hd3; have hb3 : Below wb.heap.size wb w3 := ob_below1 _ hbw hou hz hg3; obtain ⟨hov3, hsep3⟩ := ob_pair _ hov HSEP.out hg3 hd3; have hz3 := hb3.size)
            | (refine wpList_apbd rfl (.tmp 32) (.tmp 35) rfl wb.heap.size _ _ ((Sh.padB K 92).take i) [(Sh.padB K 92).getD i 0] rfl (OB.alloc hov3 _) rfl (BS.one _ _ _ (by rw [g2.out]; rfl) _) l2.out (by simp; omega) ?_; rintro v4 w4 hown4 hg4 hd4; have hb4 : Below wb.heap.size wb w4 := ob_below1 _ hb3 hov3 hz3 hg4; obtain ⟨hou4, hsep4⟩ := ob_pair _ hown3 (fun g h1 h2 => hsep3 g h2 h1) hg4 hd4))
          go_roundw
          case rel => exact ⟨i + 1, by omega, by go_num, by rw [t1.out]; exact hou4, by rw [t2.out]; exact hown4, fun g h1 h2 => hsep4 g h2 h1, hb4⟩
          case measure => simp [intOf]; omega
        · have hz0 : y = 0 := by rw [hy, List.getD_eq_getElem?_getD, List.getElem?_eq_none (by rw [HKN.out]; omega)]; rfl
          have HZ0 := hid hz0
          have q2 : ¬ (i : Int) < 32 := by omega
          clear hz0 hy
          go_wp2_with (first
            | (refine wpList_apbd rfl (.tmp 27) (.tmp 30) rfl wb.heap.size _ _ ((Sh.padB K 54).take i) [(Sh.padB K 54).getD i 0] rfl (OB.alloc hou _) rfl (BS.one _ _ _ (by rw [g1.out, HZ0.out]; rfl) _) l1.out (by simp; omega) ?_; rintro v3 w3 hown3 hg3 hd3; have hb3 : Below wb.heap.size wb w3 := ob_below1 _ hbw hou hz hg3; obtain ⟨hov3, hsep3⟩ := ob_pair _ hov HSEP.out hg3 hd3; have hz3 := hb3.size)
            | (refine wpList_apbd rfl (.tmp 32) (.tmp 35) rfl wb.heap.size _ _ ((Sh.padB K 92).take i) [(Sh.padB K 92).getD i 0] rfl (OB.alloc hov3 _) rfl (BS.one _ _ _ (by rw [g2.out, HZ0.out]; rfl) _) l2.out (by simp; omega) ?_; rintro v4 w4 hown4 hg4 hd4; have hb4 : Below wb.heap.size wb w4 := ob_below1 _ hb3 hov3 hz3 hg4; obtain ⟨hou4, hsep4⟩ := ob_pair _ hown3 (fun g h1 h2 => hsep3 g h2 h1) hg4 hd4))
          go_roundw
          case rel => exact ⟨i + 1, by omega, by go_num, by rw [t1.out]; exact hou4, by rw [t2.out]; exact hown4, fun g h1 h2 => hsep4 g h2 h1, hb4⟩
          case measure => simp [intOf]; omega
      · have hi64 : i = 64 := by omega
        subst hi64
        have e1 : (Sh.padB K 54).take 64 = Sh.padB K 54 := List.take_of_length_le (by rw [HP1.out]; exact Nat.le_refl _)
        have e2 : (Sh.padB K 92).take 64 = Sh.padB K 92 := List.take_of_length_le (by rw [HP2.out]; exact Nat.le_refl _)
        rw [e1] at hou; rw [e2] at hov
        have HOU := hid hou.bs; have HOV := hid hov.bs
        clear e1 e2 hou hov
        have HM1 : Hid (BS wr v1 m) := hid (BS.below (BS.below HV1.out (by rw [hsa]; exact HBB.out)) hbw)
        go_wp2_with fail
        with_reducible refine (rjoin_any wr _ _ (Sh.padB K 54) m HOU.out HM1.out (by rw [HP1.out]; omega)).mono ?_
        rintro e w2 ⟨u2, rfl, ho2, hb2⟩
        dsimp only
        go_wp2_with fail
        with_reducible refine (rsumD HD.out ho2.bs (by rw [List.length_append, HP1.out]; omega)).mono ?_
        rintro e w3 ⟨rfl, hb3⟩
        dsimp only
        go_wp2_with fail
        with_reducible refine (rbytes_any w3 D HDL.out).mono ?_
        rintro e w4 ⟨u4, rfl, ho4, hb4⟩
        have hb24 : Below wr.heap.size wr w4 := (hb2.trans (hb3.mono hb2.size)).trans (hb4.mono (Nat.le_trans hb2.size hb3.size))
        dsimp only
        go_wp2_with fail
        with_reducible refine (rjoin_any w4 _ _ (Sh.padB K 92) D (BS.below HOV.out hb24) ho4.bs (by rw [HP2.out, HDL.out]; omega)).mono ?_
        rintro e w5 ⟨u5, rfl, ho5, hb5⟩
        dsimp only
        go_wp2_with fail
        with_reducible refine (rsumD HE.out ho5.bs (by rw [List.length_append, HP2.out, HDL.out]; omega)).mono ?_
        rintro e w6 ⟨rfl, hb6⟩
        have hb26 : Below wr.heap.size wr w6 := (hb24.trans (hb5.mono hb24.size)).trans (hb6.mono (Nat.le_trans hb24.size hb5.size))
        have HB6 := hid (HBB.out.trans ((hbw.trans (hb26.mono hz)).mono hzb))
        have r6 : w6.rowOf w.heap.size = cs U8 (zs 32) := (below_row HB6.out (by omega)).trans HRA.out
        have f6 : w6.free w.heap.size = true := (below_free HB6.out (by omega)).trans HFA.out
        have hEl := HEL.out
        clear hb2 hb3 hb4 hb5 hb6 hb24 hb26 hbw
        dsimp only
        go_wp2_with fail
        refine bodyPost_ret (res_row (b := w.heap.size) rfl Tryd.underlying23 rfl inf_key _ _ rfl ?_) rfl ?_
        · rw [rowOf_setRow_same _ f6, cs_size]; exact hEl
        · rw [rowOf_setRow_same _ f6]
          exact ⟨rfl, below_setRow' (ha.trans (HB6.out.mono (by omega))) (Nat.le_refl _) _⟩
  · have hKS : K = k := by rw [HK.out]; unfold Sh.key0; rw [if_neg (by rw [← HN.out]; omega)]
    have HKS := hid hKS
    clear hKS
    go_enter Tryd.func68, Tryd.ntmps68
    go_wp2_with fail
    rw [← HWA.out]
    obtain ⟨wb, hwb⟩ : ∃ wb, wb = wa := ⟨_, rfl⟩
    have HKN : Hid (K.length = n) := hid (by rw [HKS.out]; exact HN.out.symm)
    have HVK : Hid (BS wb (.slice av n cv) K) := hid (by rw [HKS.out, hwb]; exact HV0.out)
    have HBB : Hid (Below (w.heap.size + 1) wa wb) := hid (by rw [hwb]; exact Below.refl _ _)
    have hzb : w.heap.size + 1 ≤ wb.heap.size := by rw [hwb]; omega
    rw [← hwb]
    clear hwb
    go_loopw [5, 6, 7, 8] (fun u v t _ wr => ∃ i : Nat, i ≤ 64 ∧ t = .int .i64 i ∧ OB wr wb.heap.size u ((Sh.padB K 54).take i) ∧ OB wr wb.heap.size v ((Sh.padB K 92).take i) ∧ (∀ g, u.ownBlock = some g → v.ownBlock ≠ some g) ∧ Below wb.heap.size wb wr) (fun _ _ t _ _ => 64 - (intOf t).toNat)
    case atStart => exact ⟨0, by omega, rfl, OB.nil _ _, OB.nil _ _, (fun g h => by cases h), Below.refl _ _⟩
    case round =>
      obtain ⟨i, hi, rfl, hou, hov, hsep, hbw⟩ := hrel
      have hz := hbw.size
      by_cases hlt : i < 64
      · have q0 : (0 : Int) ≤ i := by omega
        have q1 : (i : Int) < 64 := by omega
        have t1 := hid (take_succ_getD (Sh.padB K 54) 0 i (by rw [HP1.out]; exact hlt))
        have t2 := hid (take_succ_getD (Sh.padB K 92) 0 i (by rw [HP2.out]; exact hlt))
        have l1 : Hid (((Sh.padB K 54).take i).length + 1 ≤ 140737488355328) := hid (by simp; omega)
        have l2 : Hid (((Sh.padB K 92).take i).length + 1 ≤ 140737488355328) := hid (by simp; omega)
        obtain ⟨y, hy⟩ : ∃ y, y = K.getD i 0 := ⟨_, rfl⟩
        have g1 : Hid ((Sh.padB K 54).getD i 0 = y ^^^ 54) := hid (by rw [hy]; exact padB_get K 54 i hlt)
        have g2 : Hid ((Sh.padB K 92).getD i 0 = y ^^^ 92) := hid (by rw [hy]; exact padB_get K 92 i hlt)
        have HSEP := hid hsep
        clear hsep
        by_cases hik : i < n
        · have HBK : BS wr (.slice av n cv) K := SV.below HVK.out hbw
          obtain ⟨kb, ko, ka, hcell⟩ := HBK.getD_cell rfl i (by rw [HKN.out]; exact hik)
          rw [← hy] at hcell
          subst ka
          have q2 : (i : Int) < n := by omega
          clear hy HBK
          go_wp2_with (first
            | (refine wpList_apbd rfl (.tmp 27) (.tmp 30) rfl wb.heap.size _ _ ((Sh.padB K 54).take i) [(Sh.padB K 54).getD i 0] rfl (OB.alloc hou _) rfl (BS.one _ _ _ (by rw [g1.out]; rfl) _) l1.out (by simp; omega) ?_; rintro v3 w3 hown3 hg3 hd3; have hb3 : Below wb.heap.size wb w3 := ob_below1 _ hbw hou hz hg3; obtain ⟨hov3, hsep3⟩ := ob_pair _ hov HSEP.out hg3 hd3; have hz3 := hb3.size)
            | (refine wpList_apbd rfl (.tmp 32) (.tmp 35) rfl wb.heap.size _ _ ((Sh.padB K 92).take i) [(Sh.padB K 92).getD i 0] rfl (OB.alloc hov3 _) rfl (BS.one _ _ _ (by rw [g2.out]; rfl) _) l2.out (by simp; omega) ?_; rintro v4 w4 hown4 hg4 hd4; have hb4 : Below wb.heap.size wb w4 := ob_below1 _ hb3 hov3 hz3 hg4; obtain ⟨hou4, hsep4⟩ := ob_pair _ hown3 (fun g h1 h2 => hsep3 g h2 h1) hg4 hd4))
          go_roundw
          case rel => exact ⟨i + 1, by omega, by go_num, by rw [t1.out]; exact hou4, by rw [t2.out]; exact hown4, fun g h1 h2 => hsep4 g h2 h1, hb4⟩
          case measure => simp [intOf]; omega
        · have hz0 : y = 0 := by rw [hy, List.getD_eq_getElem?_getD, List.getElem?_eq_none (by rw [HKN.out]; omega)]; rfl
          have HZ0 := hid hz0
          have q2 : ¬ (i : Int) < n := by omega
          clear hz0 hy
          go_wp2_with (first
            | (refine wpList_apbd rfl (.tmp 27) (.tmp 30) rfl wb.heap.size _ _ ((Sh.padB K 54).take i) [(Sh.padB K 54).getD i 0] rfl (OB.alloc hou _) rfl (BS.one _ _ _ (by rw [g1.out, HZ0.out]; rfl) _) l1.out (by simp; omega) ?_; rintro v3 w3 hown3 hg3 hd3; have hb3 : Below wb.heap.size wb w3 := ob_below1 _ hbw hou hz hg3; obtain ⟨hov3, hsep3⟩ := ob_pair _ hov HSEP.out hg3 hd3; have hz3 := hb3.size)
            | (refine wpList_apbd rfl (.tmp 32) (.tmp 35) rfl wb.heap.size _ _ ((Sh.padB K 92).take i) [(Sh.padB K 92).getD i 0] rfl (OB.alloc hov3 _) rfl (BS.one _ _ _ (by rw [g2.out, HZ0.out]; rfl) _) l2.out (by simp; omega) ?_; rintro v4 w4 hown4 hg4 hd4; have hb4 : Below wb.heap.size wb w4 := ob_below1 _ hb3 hov3 hz3 hg4; obtain ⟨hou4, hsep4⟩ := ob_pair _ hown3 (fun g h1 h2 => hsep3 g h2 h1) hg4 hd4))
          go_roundw
          case rel => exact ⟨i + 1, by omega, by go_num, by rw [t1.out]; exact hou4, by rw [t2.out]; exact hown4, fun g h1 h2 => hsep4 g h2 h1, hb4⟩
          case measure => simp [intOf]; omega
      · have hi64 : i = 64 := by omega
        subst hi64
        have e1 : (Sh.padB K 54).take 64 = Sh.padB K 54 := List.take_of_length_le (by rw [HP1.out]; exact Nat.le_refl _)
        have e2 : (Sh.padB K 92).take 64 = Sh.padB K 92 := List.take_of_length_le (by rw [HP2.out]; exact Nat.le_refl _)
        rw [e1] at hou; rw [e2] at hov
        have HOU := hid hou.bs; have HOV := hid hov.bs
        clear e1 e2 hou hov
        have HM1 : Hid (BS wr v1 m) := hid (BS.below (BS.below HV1.out (by rw [hsa]; exact HBB.out)) hbw)
        go_wp2_with fail
        with_reducible refine (rjoin_any wr _ _ (Sh.padB K 54) m HOU.out HM1.out (by rw [HP1.out]; omega)).mono ?_
        rintro e w2 ⟨u2, rfl, ho2, hb2⟩
        dsimp only
        go_wp2_with fail
        with_reducible refine (rsumD HD.out ho2.bs (by rw [List.length_append, HP1.out]; omega)).mono ?_
        rintro e w3 ⟨rfl, hb3⟩
        dsimp only
        go_wp2_with fail
        with_reducible refine (rbytes_any w3 D HDL.out).mono ?_
        rintro e w4 ⟨u4, rfl, ho4, hb4⟩
        have hb24 : Below wr.heap.size wr w4 := (hb2.trans (hb3.mono hb2.size)).trans (hb4.mono (Nat.le_trans hb2.size hb3.size))
        dsimp only
        go_wp2_with fail
        with_reducible refine (rjoin_any w4 _ _ (Sh.padB K 92) D (BS.below HOV.out hb24) ho4.bs (by rw [HP2.out, HDL.out]; omega)).mono ?_
        rintro e w5 ⟨u5, rfl, ho5, hb5⟩
        dsimp only
        go_wp2_with fail
        with_reducible refine (rsumD HE.out ho5.bs (by rw [List.length_append, HP2.out, HDL.out]; omega)).mono ?_
        rintro e w6 ⟨rfl, hb6⟩
        have hb26 : Below wr.heap.size wr w6 := (hb24.trans (hb5.mono hb24.size)).trans (hb6.mono (Nat.le_trans hb24.size hb5.size))
        have HB6 := hid (HBB.out.trans ((hbw.trans (hb26.mono hz)).mono hzb))
        have r6 : w6.rowOf w.heap.size = cs U8 (zs 32) := (below_row HB6.out (by omega)).trans HRA.out
        have f6 : w6.free w.heap.size = true := (below_free HB6.out (by omega)).trans HFA.out
        have hEl := HEL.out
        clear hb2 hb3 hb4 hb5 hb6 hb24 hb26 hbw
        dsimp only
        go_wp2_with fail
        refine bodyPost_ret (res_row (b := w.heap.size) rfl Tryd.underlying23 rfl inf_key _ _ rfl ?_) rfl ?_
        · rw [rowOf_setRow_same _ f6, cs_size]; exact hEl
        · rw [rowOf_setRow_same _ f6]
          exact ⟨rfl, below_setRow' (ha.trans (HB6.out.mono (by omega))) (Nat.le_refl _) _⟩
end Go.Proofs.YtgclegdgngldoaaDoor
set_option linter.unusedSimpArgs false
set_option linter.unusedVariables false
namespace Go.Proofs.YtgclegdgngldoaaDoor
open Go.RowKit

theorem rmacD {w : World} {v0 v1 : Value} {k m D : List (BitVec 8)} (hD : D = Sh.mac k m) (h0 : BS w v0 k) (h1 : BS w v1 m) (hkl : k.length ≤ 1073740000) (hml : m.length ≤ 1073740000) :
    Calls Tryd.prog 68 #[v0, v1] w fun e w' => e = .returned (.agg (cs U8 D)) ∧ Below w.heap.size w w' := by
  rw [hD]; exact rmac_any w v0 v1 k m h0 h1 hkl hml
end Go.Proofs.YtgclegdgngldoaaDoor
set_option linter.unusedSimpArgs false
set_option linter.unusedVariables false
namespace Go.Proofs.YtgclegdgngldoaaDoor
open Go.RowKit

end Go.Proofs.YtgclegdgngldoaaDoor
set_option linter.unusedSimpArgs false
set_option linter.unusedVariables false
namespace Go.Proofs.YtgclegdgngldoaaDoor
open Go.RowKit

end Go.Proofs.YtgclegdgngldoaaDoor
set_option linter.unusedSimpArgs false
set_option linter.unusedVariables false
namespace Go.Proofs.YtgclegdgngldoaaDoor
open Go.RowKit

end Go.Proofs.YtgclegdgngldoaaDoor
set_option linter.unusedSimpArgs false
set_option linter.unusedVariables false
namespace Go.Proofs.YtgclegdgngldoaaDoor
open Go.RowKit

end Go.Proofs.YtgclegdgngldoaaDoor

set_option linter.unusedSimpArgs false
set_option linter.unusedVariables false
namespace Go.Proofs.YtgclegdgngldoaaDoor
open Go.RowKit Fp
section
variable {k : L8} {s : Ep.Sl} {v : Value} {t : Int} {w : World} {b : Nat}
theorem eps_c0 (h : w.rowOf b = EPS k s) : w.cell? ⟨b, 0, none⟩ = some (.int .i64 s.gen) := by rw [cell_rowOf, h]; simp [EPS]
theorem eps_p2 : (EPS k s).extract 2 (2 + 32) = cs U8 (Ep.own k s.gen) := by
  unfold EPS; apply Array.toList_inj.1; simp [cs, List.take_append, List.drop_append]
theorem eps_p34 : (EPS k s).extract 34 (34 + 32) = cs U8 (Ep.pub k s.gen) := by
  unfold EPS; apply Array.toList_inj.1; simp [cs, List.take_append, List.drop_append, List.drop_of_length_le, List.take_of_length_le]
end
section
variable (ρ : Operand → Value) (dst : Option Tmp) (ty : TypeId) (pos : String) (after : Array Edge) (guard : Option (Nat × Bool)) (w : World)
end
section
variable (ρ : Operand → Value) (dst : Option Tmp) (ty : TypeId) (pos : String) (after : Array Edge) (guard : Option (Nat × Bool)) (w : World)
end
section
variable (ρ : Operand → Value) (dst : Option Tmp) (ty : TypeId) (pos : String) (after : Array Edge) (guard : Option (Nat × Bool)) (w : World)
end
section
variable (ρ : Operand → Value) (dst : Option Tmp) (ty : TypeId) (pos : String) (after : Array Edge) (guard : Option (Nat × Bool)) (w : World)
end
section
variable (ρ : Operand → Value) (dst : Option Tmp) (ty : TypeId) (pos : String) (after : Array Edge) (guard : Option (Nat × Bool)) (w : World)
end
section
variable (ρ : Operand → Value) (dst : Option Tmp) (ty : TypeId) (pos : String) (after : Array Edge) (guard : Option (Nat × Bool)) (w : World)
end
theorem bp_rrt (l : List (Nat × Value)) : Tryd.prog.built 49 l = Instr.fill (([(0, 32), (32, 1), (33, 1)] : List (Nat × Nat)).toArray[·]?) (((Tryd.prog.info? 49).bind (·.zero)).getD undef).cells l := by kernel_rfl
theorem bz_rrt : (((Tryd.prog.info? 49).bind (·.zero)).getD undef).cells.size = 34 := by kernel_rfl
theorem xb_rrt (w : World) (ps : Array (Nat × Value)) (hc : Cont (([(0, 32), (32, 1), (33, 1)] : List (Nat × Nat)).toArray[·]?) 0 ps.toList) (hz : (catP ps.toList).size = 34) :
    exBuild Tryd.prog 49 ps w = .ok (.value (.agg (catP ps.toList))) w := by
  unfold exBuild; rw [run_build_cat w 49 ps _ _ bp_rrt hc (by rw [bz_rrt]; exact hz)]; rfl

theorem bp_rsl (l : List (Nat × Value)) : Tryd.prog.built 61 l = Instr.fill (([(0, 1), (1, 1)] : List (Nat × Nat)).toArray[·]?) (((Tryd.prog.info? 61).bind (·.zero)).getD undef).cells l := by kernel_rfl
theorem bz_rsl : (((Tryd.prog.info? 61).bind (·.zero)).getD undef).cells.size = 2 := by kernel_rfl
theorem xb_rsl (w : World) (ps : Array (Nat × Value)) (hc : Cont (([(0, 1), (1, 1)] : List (Nat × Nat)).toArray[·]?) 0 ps.toList) (hz : (catP ps.toList).size = 2) :
    exBuild Tryd.prog 61 ps w = .ok (.value (.agg (catP ps.toList))) w := by
  unfold exBuild; rw [run_build_cat w 61 ps _ _ bp_rsl hc (by rw [bz_rsl]; exact hz)]; rfl

section
variable (ρ : Operand → Value) (dst : Option Tmp) (ty : TypeId) (pos : String) (after : Array Edge) (guard : Option (Nat × Bool)) (w : World)
end

section
variable (ρ : Operand → Value) (dst : Option Tmp) (ty : TypeId) (pos : String) (after : Array Edge) (guard : Option (Nat × Bool)) (w : World)
end

theorem e2_len (s : Ep.Sl) : (e2 s).length = 2 := by simp [e2]
theorem elt_rsl : Elt Tryd.prog 61 47 2 16 (.agg (RSL ⟨0, 0⟩)) := ⟨Tryd.underlying47, by kernel_rfl, by simp [Value.cells], by decide, by decide, one_RSL, by decide⟩
theorem xb_rsl2 (w : World) (s : Ep.Sl) : exBuild Tryd.prog 61 #[(0, .int .i64 s.gen), (1, .int .i64 s.made)] w = .ok (.value (.agg (RSL s))) w := by
  rw [xb_rsl w _ (by simp [Cont, Value.cells]) (by simp [catP, Value.cells])]
  simp [catP, Value.cells, RSL]
theorem xb_rrt3 (w : World) (k : L8) (a : Option Addr) (n c : Nat) (t : Int) (hk : k.length = 32) : exBuild Tryd.prog 49 #[(0, .agg (cs U8 k)), (1, .slice a n c), (2, .int .i64 t)] w = .ok (.value (.agg (ROR k (.slice a n c) t))) w := by
  rw [xb_rrt w _ (by simp [Cont, Value.cells, hk]) (by simp [catP, Value.cells, hk])]
  simp [catP, Value.cells, ROR]
end Go.Proofs.YtgclegdgngldoaaDoor

set_option linter.unusedSimpArgs false
set_option linter.unusedVariables false
namespace Go.Proofs.YtgclegdgngldoaaDoor
open Go.RowKit Fp
section
variable {w w' : World} {B b : Nat} {k : L8} {L : List Ep.Sl} {t : Nat} {v : Value}
end
section
variable {S : Nat → Prop} {w0 w : World} {H : List (Nat × Array Value)} {B b g gx n c1 : Nat} {k : L8} {L : List Ep.Sl} {v : Value} {cur : Array Value}
end
attribute [local irreducible] ESL EPS ROR
set_option maxRecDepth 100000 in
set_option maxHeartbeats 4000000 in
theorem tick_old (w : World) (B b : Nat) (k : L8) (L : List Ep.Sl) (t : Nat) (v : Value) (R : RO w B b k L t v) (now : Int) (hno : ¬ ((t : Int) ≤ now ∧ 0 ≤ now ∧ now ≤ 1099511627776)) :
    Calls Tryd.prog 28 #[.pointer (some ⟨b, 0, none⟩), .int .i64 now] w fun e w' => e = .returned (.int .i64 0) ∧ Below w.heap.size w w' := by
  obtain ⟨g, c1, cur, R0, M0⟩ := R.mm
  obtain rfl := R0.v
  have hk := R.kl
  have h0 := R.l0
  obtain ⟨n, hLn⟩ : ∃ n, L.length = n := ⟨_, rfl⟩
  rw [hLn] at R0 M0 h0
  have HROW : Hid (∀ w', Below w.heap.size w w' → w'.rowOf b = ROR k (.slice (some ⟨g, 0, none⟩) n c1) t) := hid fun w' h => (below_row h (M0.lt (b := b) (c := ROR k (.slice (some ⟨g, 0, none⟩) n c1) t) (by simp))).trans (M0.row (by simp))
  have HLTB : Hid (∀ w', Below w.heap.size w w' → b < w'.heap.size) := hid fun w' h => Nat.lt_of_lt_of_le (M0.lt (b := b) (c := ROR k (.slice (some ⟨g, 0, none⟩) n c1) t) (by simp)) h.size
  have HLT := hid (decide_eq_false hno)
  clear hno M0 R R0
  have M0 := Mm.start no w
  go_enter Tryd.func28, Tryd.ntmps28
  have M2 := (M0.alloc (#[.int .i64 now]) 3 (by decide))
  try simp only [World.size_alloc] at M2
  go_upto_region 1 with fail
  obtain ⟨w1, hw1⟩ : ∃ w1, w1 = (w.alloc (.cells (#[.int .i64 now]) 3)) := ⟨_, rfl⟩
  rw [← hw1] at M2 ⊢
  clear hw1
  refine wp_region_lin (.op 0 (.op 1 (.op 2 (.op 3 (.op 4 (.op 5 (.op 6 (.op 7 (.op 8 .done))))))))) (by rfl) ?_
  refine wpT_valp 6 (v := .pointer (some ⟨b, 0, none⟩)) rfl rfl rfl (by go_simp) ?_
  refine wpT_callv 7 M2 (v := .bool true) rfl rfl rfl (by go_simp) (good_t (HROW.out _ M2.end_) (HLTB.out _ M2.end_) hk (by omega)) (fun w3 M4 => ?_)
  refine wpT_valp 8 (v := .bool false) rfl rfl rfl (by go_simp) ?_
  refine wpT_valp 9 (v := .bool false) rfl rfl rfl (by go_simp) ?_
  try simp only [Act.put, List.setIfInBounds_toArray, List.set_cons_succ, List.set_cons_zero]
  refine wpT_valp 10 (v := .pointer (some ⟨b, 0, none⟩)) rfl rfl (by simp [Region.wanted, yielded, Act.put]) (by go_simp) ?_
  refine wpT_valp 11 (v := .int .i64 now) rfl rfl (by simp [Region.wanted, yielded, Act.put]) (by have c0 := cell_one (M4.row (b := w.heap.size) (c := #[.int .i64 now]) (by simp)); go_simp) ?_
  refine wpT_callv 12 M4 (v := .bool false) rfl rfl (by simp [Region.wanted, yielded, Act.put]) (by go_simp) (later_b (HROW.out _ M4.end_) (HLTB.out _ M4.end_) hk HLT.out) (fun w5 M6 => ?_)
  refine wpT_valp 13 (v := .bool true) rfl rfl (by simp [Region.wanted, yielded, Act.put]) (by go_simp) ?_
  refine wpT_valp 14 (v := .bool true) rfl rfl rfl (by go_simp) ?_
  dsimp only [wpT]
  try simp only [Act.put, List.setIfInBounds_toArray, List.set_cons_succ, List.set_cons_zero]
  go_upto_region 2 with fail
  refine wp_region_lin (.op 0 .done) (by rfl) ?_
  refine wpT_valp 4 (v := .int .i64 0) rfl rfl rfl (by go_simp) ?_
  dsimp only [wpT]
  try simp only [Act.put, List.setIfInBounds_toArray, List.set_cons_succ, List.set_cons_zero]
  go_wp2_with fail
  go_ret
  exact ⟨rfl, M6.end_⟩
end Go.Proofs.YtgclegdgngldoaaDoor

