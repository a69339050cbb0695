/-
  A region that draws its order, as in Flow: the tail may wait for an operation through another one; own work.
-/
import Derived.Test.YtgclegdgngldoaaDoorFlow
set_option linter.unusedSimpArgs false
set_option linter.unusedVariables false
namespace Go.Proofs.YtgclegdgngldoaaDoor
open Go.RowKit

/-- e waits for i, through at most k others -/
def reach (md : Region.Mode) (ops : Array Oper) : Nat → Nat → Nat → Bool
  | 0, e, i => e == i
  | k + 1, e, i => e == i || match ops[e]? with
    | some o => (bo md o).any (fun e' => reach md ops k e' i)
    | none => false
/-- the static part: n head operations, which write the slots ds, each behind those that it waits for; the tail waits for all of them -/
def chkG (md : Region.Mode) (ops : Array Oper) (n : Nat) (ds : List Nat) : Bool :=
  decide (ds.length = n) && decide (n ≤ ops.size) && decide ds.Nodup &&
  (List.range n).all (fun i => match ops[i]? with
    | some o => (o.dst == some (ds.getD i 0)) && (bo md o).all (fun e => decide (e < i)) && (match o.guard with | none => true | some (g, _) => (bo md o).contains g)
    | none => false) &&
  (List.range ops.size).all (fun t => decide (t < n) || match ops[t]? with
    | some o => (List.range n).all (fun i => (bo md o).any (fun e => decide (e < n) && reach md ops n e i)) || (bo md o).any (fun e => decide (n ≤ e))
    | none => false)
section
variable {P : Program} {ops : Array Oper} {Q : Exit → Act → World → Prop} {md : Region.Mode} {a0 : Act} {ds : List Nat} {Ts : List Sp} {w0 : World} {n : Nat}
theorem reach_listed {listed : Array Bool} (hlt : ∀ i, i < n → ∀ o, ops[i]? = some o → ∀ e ∈ bo md o, e < n) (hdc : ∀ i, i < n → listed.getD i false = true → ∀ o, ops[i]? = some o → ∀ e ∈ bo md o, listed.getD e false = true) :
    ∀ (k e i : Nat), e < n → listed.getD e false = true → reach md ops k e i = true → listed.getD i false = true
  | 0, e, i, he, hl, h => by simp only [reach, beq_iff_eq] at h; rw [← h]; exact hl
  | k + 1, e, i, he, hl, h => by
    simp only [reach, Bool.or_eq_true, beq_iff_eq] at h
    rcases h with h | h
    · rw [← h]; exact hl
    · cases ho : ops[e]? with
      | none => rw [ho] at h; cases h
      | some o =>
        rw [ho] at h
        obtain ⟨e', he', hr⟩ := List.any_eq_true.1 h
        exact reach_listed hlt hdc k e' i (hlt e he o ho e' he') (hdc e he hl o ho e' he') hr
structure InvG (P : Program) (md : Region.Mode) (ops : Array Oper) (a0 : Act) (ds : List Nat) (Ts : List Sp) (w0 : World) (n : Nat) (listed : Array Bool) (a : Act) (w : World) : Prop where
  size : listed.size = ops.size
  tail : ∀ t, n ≤ t → t < ops.size → listed.getD t true = false
  dc : ∀ i, i < n → listed.getD i false = true → ∀ o, ops[i]? = some o → ∀ e ∈ bo md o, listed.getD e false = true
  ex : ∃ f, a = updL a0 f ds ∧ Below w0.heap.size w0 w ∧ (∀ i, i < n → listed.getD i false = true → (Ts.getD i Sp.any).p (f (ds.getD i 0)) w) ∧
    (∀ i j, i < n → j < n → i ≠ j → listed.getD i false = true → listed.getD j false = true → (Ts.getD i Sp.any).fr = true → (Ts.getD j Sp.any).fr = true → f (ds.getD i 0) ≠ f (ds.getD j 0))
theorem flow_anyG {g : Nat} (hc : chkG md ops n ds = true) (hsz : ds.all (fun d => decide (d < a0.tmps.size)) = true)
    (hs : stepsF P md a0 ds Ts w0 0 (ops.toList.take n))
    (hk : ∀ f w, Below w0.heap.size w0 w → allT Ts ds f w → (∀ i j, i < n → j < n → i ≠ j → (Ts.getD i Sp.any).fr = true → (Ts.getD j Sp.any).fr = true → f (ds.getD i 0) ≠ f (ds.getD j 0)) → wpAny P md ops Q g (headA n ops.size) (updL a0 f ds) w) :
    ∀ (m : Nat) (listed : Array Bool) (a : Act) (w : World), cntF n listed = m → InvG P md ops a0 ds Ts w0 n listed a w → wpAny P md ops Q (m + g) listed a w := by
  simp only [chkG, Bool.and_eq_true, decide_eq_true_eq, List.all_eq_true, List.mem_range] at hc
  obtain ⟨⟨⟨⟨hlen, hn⟩, hnd⟩, hhead⟩, htail⟩ := hc
  have hop : ∀ i, i < n → ∃ o, ops[i]? = some o ∧ o.dst = some (ds.getD i 0) ∧ (∀ e ∈ bo md o, e < i) ∧ (∀ gd b, o.guard = some (gd, b) → gd ∈ bo md o) := by
    intro i hi
    have h := hhead i hi
    cases ho : ops[i]? with
    | none => rw [ho] at h; cases h
    | some o =>
      rw [ho] at h
      simp only [Bool.and_eq_true, beq_iff_eq, List.all_eq_true, decide_eq_true_eq] at h
      refine ⟨o, rfl, h.1.1, h.1.2, fun gd b e => ?_⟩
      have h2 := h.2
      rw [e] at h2
      simpa using h2
  have hdi : ∀ i j, i < n → j < n → i ≠ j → ds.getD i 0 ≠ ds.getD j 0 := by
    intro i j hi hj hij e
    rw [List.getD_eq_getElem?_getD, List.getD_eq_getElem?_getD, List.getElem?_eq_getElem (by omega), List.getElem?_eq_getElem (by omega)] at e
    exact hij ((List.getElem_inj hnd).1 e)
  intro m
  induction m with
  | zero =>
    intro listed a w hm inv
    obtain ⟨f, rfl, hb, hT, hD⟩ := inv.ex
    have hall : ∀ i, i < n → listed.getD i true = true := by
      intro i hi
      cases h : listed.getD i true with
      | true => rfl
      | false =>
        have : i ∈ (List.range n).filter (fun i => !listed.getD i true) := by
          rw [List.mem_filter, List.mem_range]; exact ⟨hi, by rw [h]; rfl⟩
        unfold cntF at hm
        rw [List.length_eq_zero_iff] at hm
        rw [hm] at this; cases this
    have hall' : ∀ i, i < n → listed.getD i false = true := by
      intro i hi
      have h := hall i hi
      have hi' : i < listed.size := by rw [inv.size]; omega
      simpa [hi'] using h
    have hl : listed = headA n ops.size := by
      apply Array.ext
      · rw [inv.size]; simp [headA]
      · intro i h1 h2
        have hr : (headA n ops.size)[i] = decide (i < n) := by simp [headA]
        rw [hr]
        by_cases hi : i < n
        · have := hall i hi; simpa [h1, hi] using this
        · have := inv.tail i (by omega) (by rw [← inv.size]; exact h1); simpa [h1, hi] using this
    rw [hl, Nat.zero_add]
    refine hk f w hb (allT_of Ts ds f w (fun i hi => hT i (by omega) (hall' i (by omega)))) (fun i j hi hj hij h1 h2 => hD i j hi hj hij (hall' i hi) (hall' j hj) h1 h2)
  | succ m ih =>
    intro listed a w hm inv
    obtain ⟨f, rfl, hb, hT, hD⟩ := inv.ex
    rw [show m + 1 + g = (m + g) + 1 by omega]
    have hgd : ∀ i, i < n → listed.getD i true = true → listed.getD i false = true := by
      intro i hi h
      have hi' : i < listed.size := by rw [inv.size]; omega
      simpa [hi'] using h
    -- the least that is not listed is ready
    have hleast : ∃ i, i < n ∧ listed.getD i true = false := by
      apply Classical.byContradiction
      intro h
      have : cntF n listed = 0 := by
        unfold cntF
        rw [List.length_eq_zero_iff, List.filter_eq_nil_iff]
        intro i hi
        have hi := List.mem_range.1 hi
        cases h2 : listed.getD i true with
        | true => simp
        | false => exact absurd ⟨i, hi, h2⟩ h
      omega
    have hready : ∃ i, i ∈ Region.ready md ops listed := by
      obtain ⟨i, hi, hu⟩ := hleast
      induction i using Nat.strongRecOn with
      | _ i ihi =>
        obtain ⟨o, ho, _, hlt, _⟩ := hop i hi
        by_cases hr : ∀ e ∈ bo md o, listed.getD e false = true
        · refine ⟨i, mem_ready.2 ⟨hu, o, ho, fun e he hbd => hr e.on ?_⟩⟩
          unfold bo
          rw [List.mem_map]
          exact ⟨e, by rw [List.mem_filter]; exact ⟨by simpa using he, hbd⟩, rfl⟩
        · obtain ⟨e, he⟩ := Classical.not_forall.1 hr
          obtain ⟨he, hne⟩ := Classical.not_imp.1 he
          have hei := hlt e he
          refine ihi e hei (by omega) ?_
          cases h2 : listed.getD e true with
          | false => rfl
          | true => exact absurd (hgd e (by omega) h2) hne
    refine ⟨fun h0 => (by obtain ⟨i, hi⟩ := hready; rw [h0] at hi; cases hi), fun i hi => ?_⟩
    obtain ⟨hu, o, ho, hall⟩ := mem_ready.1 hi
    have hbo : ∀ e ∈ bo md o, listed.getD e false = true := by
      intro e he
      unfold bo at he
      rw [List.mem_map] at he
      obtain ⟨ed, hed, rfl⟩ := he
      rw [List.mem_filter] at hed
      exact hall ed (by simpa using hed.1) hed.2
    have hin : i < n := by
      apply Classical.byContradiction
      intro hge
      have hlt : i < ops.size := (Array.getElem?_eq_some_iff.1 ho).1
      have h := htail i hlt
      rw [ho] at h
      simp only [Bool.or_eq_true, decide_eq_true_eq, List.all_eq_true, List.mem_range, List.any_eq_true] at h
      rcases h with h | h | h
      · exact hge h
      · obtain ⟨j, hj, hju⟩ := hleast
        have hre := h j hj
        simp only [Bool.and_eq_true, decide_eq_true_eq] at hre
        obtain ⟨e, he, hen, hr⟩ := hre
        have := reach_listed (fun i hi o ho e he => by obtain ⟨o', ho', _, h2, _⟩ := hop i hi; obtain rfl : o' = o := Option.some.inj (ho'.symm.trans ho); exact Nat.lt_trans (h2 e he) hi) inv.dc _ e j hen (hbo e he) hr
        have hj' : j < listed.size := by rw [inv.size]; omega
        simp [hj'] at this hju
        rw [this] at hju; cases hju
      · obtain ⟨e, he, hne⟩ := h
        have h2 := hbo e he
        have he' : e < listed.size := by
          apply Classical.byContradiction
          intro hx
          simp [Array.getElem?_eq_none (show listed.size ≤ e by omega)] at h2
        have h3 := inv.tail e hne (by rw [← inv.size]; exact he')
        simp [he'] at h2 h3
        rw [h2] at h3; cases h3
    obtain ⟨o', ho', hdst, hlt, hg⟩ := hop i hin
    obtain rfl : o' = o := Option.some.inj (ho'.symm.trans ho)
    have hstep := stepsF_at (ops.toList.take n) 0 i o' hs (by rw [List.getElem?_take_of_lt hin]; simpa using ho)
    rw [Nat.zero_add] at hstep
    obtain ⟨hgrd, hgive⟩ := hstep
    have hds : ds.getD i 0 ∈ ds := by rw [List.getD_eq_getElem?_getD, List.getElem?_eq_getElem (by omega)]; exact List.getElem_mem _
    have hw : Region.wanted o' (yielded ops (updL a0 f ds).tmps) = true := by
      unfold Region.wanted
      cases hgu : o'.guard with
      | none => rfl
      | some gb =>
        obtain ⟨gd, b⟩ := gb
        have hin2 := hg gd b hgu
        have hgl := hlt gd hin2
        have hv := hT gd (by omega) (hbo gd hin2)
        rw [hgu] at hgrd
        have hv2 := hgrd _ _ hv
        obtain ⟨og, hog, hdg, _⟩ := hop gd (by omega)
        have hdm : ds.getD gd 0 ∈ ds := by rw [List.getD_eq_getElem?_getD, List.getElem?_eq_getElem (by omega)]; exact List.getElem_mem _
        have hdz : ds.getD gd 0 < a0.tmps.size := by simpa using List.all_eq_true.1 hsz _ hdm
        simp only [yielded, hog, Option.bind_some, hdg]
        rw [updL_get, if_pos ⟨hdm, hdz⟩, hv2]
        simp
    have hgv := hgive f w hb (depT_of _ (fun e he => hT e (by have := hlt e he; omega) (hbo e he)))
    rw [← updL_eval hsz] at hgv
    have hlenL : i < listed.size := by rw [inv.size]; exact (Array.getElem?_eq_some_iff.1 ho).1
    unfold wpOp
    rw [ho]
    simp only [hw, if_true]
    refine .inl (Gives.wp hgv (fun v w' ⟨hbw, hJ, hTv, hfr⟩ => ?_))
    refine ih _ _ _ ?_ ⟨by simp [inv.size], fun t h1 h2 => ?_, fun j hj hl o2 ho2 e he => ?_, ?_⟩
    · have hlt2 : cntF n (listed.setIfInBounds i true) < cntF n listed := by
        refine filter_lt _ _ _ i (List.mem_range.2 hin) (by rw [hu]; rfl) (by simp [hlenL]) (fun y hy => ?_)
        by_cases hyi : i = y
        · subst hyi; simp [hlenL] at hy
        · rw [getD_set_ne true hyi] at hy; exact hy
      have hge2 : cntF n listed ≤ cntF n (listed.setIfInBounds i true) + 1 := by
        unfold cntF
        have key : ∀ (l : List Nat), l.Nodup → (l.filter (fun j => !listed.getD j true)).length ≤ (l.filter (fun j => !(listed.setIfInBounds i true).getD j true)).length + 1 := by
          intro l hl
          induction l with
          | nil => simp
          | cons x r ihr =>
            have hl' := List.nodup_cons.1 hl
            by_cases hx : x = i
            · subst hx
              have heq : r.filter (fun j => !listed.getD j true) = r.filter (fun j => !(listed.setIfInBounds x true).getD j true) := by
                apply List.filter_congr
                intro y hy
                rw [getD_set_ne true (fun e => hl'.1 (by rw [e]; exact hy))]
              have e1 : (fun j => !listed.getD j true) x = true := by simp only [hu]; rfl
              have e2 : (!(listed.setIfInBounds x true).getD x true) = false := by simp [hlenL]
              rw [List.filter_cons, List.filter_cons, e2, heq]
              simp only [hu]
              simp
            · have := ihr hl'.2
              rw [List.filter_cons, List.filter_cons, getD_set_ne true (Ne.symm hx)]
              by_cases hb : (!listed.getD x true) = true
              · rw [if_pos hb, if_pos hb, List.length_cons, List.length_cons]; omega
              · rw [if_neg hb, if_neg hb]; omega
        exact key _ List.nodup_range
      omega
    · rw [getD_set_ne true (by omega)]; exact inv.tail t h1 h2
    · by_cases hei : i = e
      · subst hei; simp [hlenL]
      · rw [getD_set_ne false hei]
        by_cases hji : i = j
        · subst hji
          obtain rfl : o' = o2 := Option.some.inj (ho.symm.trans ho2)
          exact hbo e he
        · rw [getD_set_ne false hji] at hl
          exact inv.dc j hj hl o2 ho2 e he
    · rw [hdst, updL_put v hds]
      refine ⟨_, rfl, hJ, fun j hj hl => ?_, fun j k hj hk2 hjk hl1 hl2 hf1 hf2 => ?_⟩
      · by_cases hji : j = i
        · subst hji; simpa using hTv
        · rw [getD_set_ne false (Ne.symm hji)] at hl
          have hne := hdi j i hj hin hji
          simp only [hne, if_false]
          exact (Ts.getD j Sp.any).st _ _ _ (hT j hj hl) hbw
      · by_cases hji : j = i
        · subst hji
          have hne := hdi k j hk2 hin (Ne.symm hjk)
          simp only [if_true, hne, if_false]
          rw [getD_set_ne false (by omega)] at hl2
          obtain ⟨gk, e1, e2⟩ := (Ts.getD k Sp.any).hf hf2 _ _ (hT k hk2 hl2)
          rw [hfr hf1, e1]
          intro e; injection e with e; injection e with e; injection e with e; omega
        · by_cases hki : k = i
          · subst hki
            have hne := hdi j k hj hin hji
            simp only [if_true, hne, if_false]
            rw [getD_set_ne false (by omega)] at hl1
            obtain ⟨gk, e1, e2⟩ := (Ts.getD j Sp.any).hf hf1 _ _ (hT j hj hl1)
            rw [hfr hf2, e1]
            intro e; injection e with e; injection e with e; injection e with e; omega
          · rw [getD_set_ne false (Ne.symm hji)] at hl1
            rw [getD_set_ne false (Ne.symm hki)] at hl2
            have h1 := hdi j i hj hin hji
            have h2 := hdi k i hk2 hin hki
            simp only [h1, h2, if_false]
            exact hD j k hj hk2 hjk hl1 hl2 hf1 hf2
end
theorem wp_region_flowG {P : Program} {Q : Exit → Act → World → Prop} {id : Nat} {a : Act} {w : World} {l : List Oper} (n : Nat) (ds : List Nat) (Ts : List Sp) (ps : List Nat) (t : Tr) (hm : P.follows .mixedOrders = true)
    (hc : chkG .any l.toArray n ds = true) (hy : (Region.noSelect l.toArray && chkY .any l.toArray ps (headA n l.length) && decide (n + ps.length ≤ l.length)) = true)
    (ht : mkT .any l.toArray (l.length - n - ps.length) (setY ps (headA n l.length)) = t)
    (hQ : ∀ d v c a w, Q (.panic c) (a.put d v) w → Q (.panic c) a w)
    (hsz : ds.all (fun d => decide (d < a.tmps.size)) = true)
    (hs : stepsF P .any a ds Ts w 0 (l.take n))
    (hk : ∀ f w', Below w.heap.size w w' → allT Ts ds f w' → (∀ i j, i < n → j < n → i ≠ j → (Ts.getD i Sp.any).fr = true → (Ts.getD j Sp.any).fr = true → f (ds.getD i 0) ≠ f (ds.getD j 0)) → wpY P l.toArray ps (fun a' => wpT P l.toArray Q t a' w') (updL a f ds)) :
    (Code.region id l.toArray true).wp P Q a w := by
  refine wp_region_any hm ?_
  have hn : n ≤ l.length := by
    simp only [chkG, Bool.and_eq_true, decide_eq_true_eq] at hc
    simpa using hc.1.1.1.2
  simp only [Bool.and_eq_true, decide_eq_true_eq] at hy
  have hcnt : cntF n (Array.replicate l.toArray.size false) = n := by
    unfold cntF
    have : (List.range n).filter (fun i => !(Array.replicate l.toArray.size false).getD i true) = List.range n := by
      rw [List.filter_eq_self]
      intro i hi
      have := List.mem_range.1 hi
      have hi2 : i < l.length := by omega
      simp [hi2]
    rw [this, List.length_range]
  have h := flow_anyG (P := P) (ops := l.toArray) (Q := Q) (md := .any) (a0 := a) (ds := ds) (Ts := Ts) (w0 := w) (n := n) (g := l.length - n) hc hsz hs
    (fun f w' hb hT hD => by
      have e : l.toArray.size = l.length := by simp
      rw [e]
      have h2 := wpAny_Y (P := P) (ops := l.toArray) (Q := Q) (md := .any) (w := w') hy.1.1 hQ ps (l.length - n - ps.length) (headA n l.length) (updL a f ds) hy.1.2
        (wpY_mono (fun a' h' => wpAny_tree _ _ _ _ (by rw [ht]; exact h')) ps _ (hk f w' hb hT hD))
      rwa [show l.length - n - ps.length + ps.length = l.length - n by omega] at h2) n (Array.replicate l.toArray.size false) a w.drew hcnt
    ⟨by simp, fun t h1 h2 => getD_in (by simpa using h2) (getD_replicate_false _ _), fun i _ h => (by rw [getD_replicate_false] at h; cases h), ⟨_, updL_self a ds, below_drewN (Below.refl _ _) 1, fun i _ h => (by rw [getD_replicate_false] at h; cases h), fun i j _ _ _ h => (by rw [getD_replicate_false] at h; cases h)⟩⟩
  rw [show n + (l.length - n) = l.toArray.size by simp; omega] at h
  exact h
end Go.Proofs.YtgclegdgngldoaaDoor
