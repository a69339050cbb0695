/-
  Slices of elements of several cells, of one's own: append, cut, cleared; own work.
-/
import Derived.Test.YtojkcbhmhfjioaaLin
import Derived.Test.YtojkcbhmhfjioaaApp
import Derived.Test.YtojkcbhmhfjioaaTx
set_option linter.unusedSimpArgs false
set_option linter.unusedVariables false
namespace Go.Proofs.Ytojkcbhmhfjioaa
open Go.RowKit
/-- what comes behind an operation, as the end of a region of its own -/
def nx (Q : Exit → Act → World → Prop) (K : Act → World → Prop) : Exit → Act → World → Prop
  | .normal, a, w => K a w
  | .exit k, a, w => Q (.exit k) a w
  | .goto k, a, w => Q (.goto k) a w
  | .ret, a, w => Q .ret a w
  | .panic c, a, w => Q (.panic c) a w
  | .outgrown, a, w => Q .outgrown a w
theorem wpX_of {P : Program} {ops : Array Oper} {Q : Exit → Act → World → Prop} {J : World → Prop} {t : TX} {i : Nat} {a : Act} {w : World} (hJ : J w) (h : wpT P ops (nx Q (wpX P ops Q J t)) (.op i .done) a w) : wpX P ops Q J (.op i t) a w := ⟨hJ, h⟩
theorem wpX_to {P : Program} {ops : Array Oper} {Q : Exit → Act → World → Prop} {J : World → Prop} {t : TX} {a : Act} {w : World} (h : wpX P ops Q J t a w) : wpT P ops (nx Q (wpX P ops Q J t)) .done a w := h
/-! the same with a mark m: an operation that waits for all that is taken first; behind it J is no more asked -/
section
variable {P : Program} {ops : Array Oper} {Q : Exit → Act → World → Prop} {md : Region.Mode} {J : World → Prop} {m : Nat}
def wpAnyM (P : Program) (md : Region.Mode) (ops : Array Oper) (Q : Exit → Act → World → Prop) (J : World → Prop) (m : Nat) : Nat → Array Bool → Act → World → Prop
  | 0, listed, a, w => (listed.getD m false = true ∨ J w) ∧ Region.ready md ops listed = [] ∧ Q .normal a w
  | fuel + 1, listed, a, w =>
    (listed.getD m false = true ∨ J w) ∧ (Region.ready md ops listed = [] → Q .normal a w) ∧
    ∀ i ∈ Region.ready md ops listed, wpOp P ops Q i (wpAnyM P md ops Q J m fuel (listed.setIfInBounds i true)) a w
theorem wpAnyM.drop : ∀ (f : Nat) (listed : Array Bool) (a : Act) (w : World), wpAnyM P md ops Q J m f listed a w → wpAny P md ops Q f listed a w
  | 0, _, _, _, h => h.2
  | f + 1, _, _, _, h => ⟨h.2.1, fun i hi => wpOp_mono (fun a w h => wpAnyM.drop f _ a w h) (h.2.2 i hi)⟩
theorem getD_set_ne' {L : Array Bool} {i j : Nat} (d : Bool) (h : i ≠ j) : (L.setIfInBounds i true).getD j d = L.getD j d := by
  simp only [Array.getD_eq_getD_getElem?, Array.getElem?_setIfInBounds_ne h]
theorem wpAnyM_first {i : Nat} {oi : Oper} {v : Value} (hi : ops[i]? = some oi) (hsel : ∀ (j : Nat) (o : Oper) cs b, ops[j]? = some o → o.op ≠ .select cs b)
    (hQ : ∀ c a w, Q (.panic c) (a.put oi.dst v) w → Q (.panic c) a w) (hmi : m ≠ i) (hmw : ∀ om, ops[m]? = some om → ∃ e ∈ om.after, Region.binds md e = true ∧ e.on = i) :
    ∀ (fuel : Nat) (listed : Array Bool) (a : Act) (w : World), listed.getD m false = false →
      (∀ j oj, ops[j]? = some oj → j ≠ i → listed.getD j true = false → (∀ e ∈ oj.after, Region.binds md e = true → e.on ≠ i) → oi.apart ops oj = true) →
      i ∈ Region.ready md ops listed → YieldsJ P ops J oi v a →
      wpAnyM P md ops Q J m fuel (listed.setIfInBounds i true) (a.put oi.dst v) w → wpAnyM P md ops Q J m (fuel + 1) listed a w := by
  intro fuel
  induction fuel with
  | zero =>
    intro listed a w hml _ hr hy H
    have hJ : J w := by
      rcases H.1 with h | h
      · rw [getD_set_ne' false (Ne.symm hmi), hml] at h; cases h
      · exact h
    refine ⟨.inr hJ, fun h => (by rw [h] at hr; cases hr), fun j hj => ?_⟩
    by_cases hji : j = i
    · subst hji; exact hy.wpOp hi hJ H
    · have := ready_mono hj hji
      rw [H.2.1] at this
      cases this
  | succ fuel ih =>
    intro listed a w hml hfree hr hy H
    have hJ : J w := by
      rcases H.1 with h | h
      · rw [getD_set_ne' false (Ne.symm hmi), hml] at h; cases h
      · exact h
    refine ⟨.inr hJ, fun h => (by rw [h] at hr; cases hr), fun j hj => ?_⟩
    by_cases hji : j = i
    · subst hji; exact hy.wpOp hi hJ H
    · have h1 := H.2.2 j (ready_mono hj hji)
      obtain ⟨hjun, oj, hoj, hall⟩ := mem_ready.1 hj
      have hnot : ∀ e ∈ oj.after, Region.binds md e = true → e.on ≠ i := fun e he hb heq => by
        have h1 := hall e he hb
        have h0 := (mem_ready.1 hr).1
        rw [heq] at h1
        rcases Nat.lt_or_ge i listed.size with h' | h'
        · simp [h'] at h0 h1; rw [h0] at h1; cases h1
        · simp [Array.getElem?_eq_none h'] at h1
      have hjm : j ≠ m := by
        intro e
        subst e
        obtain ⟨e, he, hb, heq⟩ := hmw oj hoj
        exact hnot e he hb heq
      have h2 := wpOp_putJ hoj (hfree j oj hoj hji hjun hnot) (fun cs b => hsel i oi cs b hi) (fun cs b => hsel j oj cs b hoj) hQ hy h1
      have hfree' : ∀ k ok, ops[k]? = some ok → k ≠ i → (listed.setIfInBounds j true).getD k true = false →
          (∀ e ∈ ok.after, Region.binds md e = true → e.on ≠ i) → oi.apart ops ok = true := fun k ok hk hki hun hno => by
        refine hfree k ok hk hki ?_ hno
        by_cases hjk : j = k
        · subst hjk; exact hjun
        · rw [getD_set_ne true hjk] at hun; exact hun
      refine wpOp_mono (fun a' w' h3 => ih (listed.setIfInBounds j true) a' w' (by rw [getD_set_ne' false hjm]; exact hml) hfree' (ready_mono hr (Ne.symm hji)) h3.1 ?_) h2
      rw [Array.setIfInBounds_comm _ _ hji]
      exact h3.2
def chkM1 (md : Region.Mode) (ops : Array Oper) (m : Nat) (ps : List Nat) (L : Array Bool) : Bool :=
  (L.getD m false == false) && ps.all (fun i => decide (m ≠ i) && match ops[m]? with | some o => o.after.any (fun e => Region.binds md e && e.on == i) | none => true)
theorem wpAny_YM (hs : Region.noSelect ops = true) (hQ : ∀ d v c a w, Q (.panic c) (a.put d v) w → Q (.panic c) a w) {w : World} : ∀ (ps : List Nat) (f : Nat) (listed : Array Bool) (a : Act), chkY md ops ps listed = true → chkM1 md ops m ps listed = true →
    wpYJ P ops J ps (fun a' => wpAnyM P md ops Q J m f (setY ps listed) a' w) a → wpAnyM P md ops Q J m (f + ps.length) listed a w
  | [], f, listed, a, _, _, h => h
  | i :: r, f, listed, a, hc, hm, h => by
    simp only [chkY, Bool.and_eq_true] at hc
    simp only [chkM1, List.all_cons, Bool.and_eq_true, beq_iff_eq, decide_eq_true_eq] at hm
    obtain ⟨hm1, ⟨hm2, hm3⟩, hm4⟩ := hm
    unfold wpYJ at h
    cases ho : ops[i]? with
    | none => rw [ho] at h; exact h.elim
    | some o =>
      rw [ho] at h
      obtain ⟨v, hy, h2⟩ := h
      have := wpAny_YM hs hQ r f _ _ hc.2 (by
        simp only [chkM1, Bool.and_eq_true, beq_iff_eq]
        exact ⟨by rw [getD_set_ne' false (Ne.symm hm2)]; exact hm1, hm4⟩) h2
      rw [List.length_cons, ← Nat.add_assoc]
      refine wpAnyM_first ho (Region.noSelect_spec hs) (fun c a w => hQ _ _ c a w) hm2 (fun om hom => ?_) _ _ _ _ hm1 (Region.free_spec ho hc.1.1) (by simpa using hc.1.2) hy this
      rw [hom] at hm3
      obtain ⟨e, he, hb⟩ := Array.any_eq_true'.1 hm3
      simp only [Bool.and_eq_true, beq_iff_eq] at hb
      exact ⟨e, he, hb.1, hb.2⟩
def trB : Tr → Tr → Bool
  | .done, .done => true
  | .bad, .bad => true
  | .op i s, .op j t => (i == j) && trB s t
  | .both a b, .both c d => trB a c && trB b d
  | _, _ => false
theorem trB_eq : ∀ s t : Tr, trB s t = true → s = t
  | .done, .done, _ => rfl
  | .bad, .bad, _ => rfl
  | .op i s, .op j t, h => by
    simp only [trB, Bool.and_eq_true, beq_iff_eq] at h
    rw [h.1, trB_eq s t h.2]
  | .both a b, .both c d, h => by
    simp only [trB, Bool.and_eq_true] at h
    rw [trB_eq a c h.1, trB_eq b d h.2]
  | .done, .bad, h => by simp [trB] at h
  | .done, .op _ _, h => by simp [trB] at h
  | .done, .both _ _, h => by simp [trB] at h
  | .bad, .done, h => by simp [trB] at h
  | .bad, .op _ _, h => by simp [trB] at h
  | .bad, .both _ _, h => by simp [trB] at h
  | .op _ _, .done, h => by simp [trB] at h
  | .op _ _, .bad, h => by simp [trB] at h
  | .op _ _, .both _ _, h => by simp [trB] at h
  | .both _ _, .done, h => by simp [trB] at h
  | .both _ _, .bad, h => by simp [trB] at h
  | .both _ _, .op _ _, h => by simp [trB] at h
inductive TZ
  | yld (ps : List Nat) (t : TZ)
  | op (i : Nat) (t : TZ)
  | rest (t : Tr)
def wpZ (P : Program) (ops : Array Oper) (Q : Exit → Act → World → Prop) (J : World → Prop) : TZ → Act → World → Prop
  | .yld ps t, a, w => wpYJ P ops J ps (fun a' => wpZ P ops Q J t a' w) a
  | .op i t, a, w => J w ∧ wpOp P ops Q i (wpZ P ops Q J t) a w
  | .rest t, a, w => J w ∧ wpT P ops Q t a w
def okZ (md : Region.Mode) (ops : Array Oper) (m : Nat) : TZ → Nat → Array Bool → Bool
  | .yld ps t, f, L => chkY md ops ps L && chkM1 md ops m ps L && decide (ps.length ≤ f) && okZ md ops m t (f - ps.length) (setY ps L)
  | .op _ _, 0, _ => false
  | .op i t, f + 1, L => decide (Region.ready md ops L = [i]) && okZ md ops m t f (L.setIfInBounds i true)
  | .rest _, 0, _ => false
  | .rest (.op i t), f + 1, L => decide (i = m) && decide (m < L.size) && decide (Region.ready md ops L = [i]) && trB (mkT md ops f (L.setIfInBounds i true)) t
  | .rest _, _ + 1, _ => false
theorem wpAnyM_tree : ∀ (f : Nat) (listed : Array Bool) (a : Act) (w : World), listed.getD m false = true → wpT P ops Q (mkT md ops f listed) a w → wpAnyM P md ops Q J m f listed a w
  | 0, listed, a, w, hm, h => by
    unfold mkT at h
    unfold wpAnyM
    by_cases e : Region.ready md ops listed = []
    · rw [if_pos e] at h; exact ⟨.inl hm, e, h⟩
    · rw [if_neg e] at h; exact h.elim
  | f + 1, listed, a, w, hm, h => by
    unfold mkT at h
    unfold wpAnyM
    refine ⟨.inl hm, fun e => by rw [e] at h; exact h, fun i hi => ?_⟩
    have h2 := wpT_all a w _ h (.op i (mkT md ops f (listed.setIfInBounds i true))) (List.mem_map.2 ⟨i, hi, rfl⟩)
    refine wpOp_mono (fun a' w' h' => wpAnyM_tree f _ a' w' ?_ h') h2
    by_cases e : i = m
    · subst e
      rcases Nat.lt_or_ge i listed.size with h' | h'
      · simp [h']
      · simp [Array.getElem?_eq_none h'] at hm
    · rw [getD_set_ne' false e]; exact hm
theorem wpZ_any (hs : Region.noSelect ops = true) (hQ : ∀ d v c a w, Q (.panic c) (a.put d v) w → Q (.panic c) a w) : ∀ (t : TZ) (f : Nat) (L : Array Bool) (a : Act) (w : World), okZ md ops m t f L = true → wpZ P ops Q J t a w → wpAnyM P md ops Q J m f L a w
  | .yld ps t, f, L, a, w, hc, h => by
    simp only [okZ, Bool.and_eq_true, decide_eq_true_eq] at hc
    have h2 := wpAny_YM (md := md) (w := w) hs hQ ps (f - ps.length) L a hc.1.1.1 hc.1.1.2 (wpYJ_mono (fun a' h' => wpZ_any hs hQ t _ _ a' w hc.2 h') ps a h)
    rwa [Nat.sub_add_cancel hc.1.2] at h2
  | .op i t, 0, L, a, w, hc, h => by simp [okZ] at hc
  | .op i t, f + 1, L, a, w, hc, h => by
    simp only [okZ, Bool.and_eq_true, decide_eq_true_eq] at hc
    refine ⟨.inr h.1, fun e => (by rw [hc.1] at e; cases e), fun k hk => ?_⟩
    rw [hc.1, List.mem_singleton] at hk
    subst hk
    exact wpOp_mono (fun a' w' h' => wpZ_any hs hQ t f _ a' w' hc.2 h') h.2
  | .rest t, 0, L, a, w, hc, h => by simp [okZ] at hc
  | .rest .done, f + 1, L, a, w, hc, h => by simp [okZ] at hc
  | .rest .bad, f + 1, L, a, w, hc, h => by simp [okZ] at hc
  | .rest (.both l r), f + 1, L, a, w, hc, h => by simp [okZ] at hc
  | .rest (.op i t), f + 1, L, a, w, hc, h => by
    simp only [okZ, Bool.and_eq_true, decide_eq_true_eq] at hc
    obtain ⟨⟨⟨h1, h2⟩, h3⟩, h4⟩ := hc
    subst h1
    refine ⟨.inr h.1, fun e => (by rw [h3] at e; cases e), fun k hk => ?_⟩
    rw [h3, List.mem_singleton] at hk
    subst hk
    have h5 : wpOp P ops Q k (wpT P ops Q t) a w := h.2
    rw [← trB_eq _ _ h4] at h5
    exact wpOp_mono (fun a' w' h' => wpAnyM_tree f _ a' w' (by simp [h2]) h') h5
theorem wp_region_Z {id : Nat} {a : Act} {w : World} {l : List Oper} (J : World → Prop) (m : Nat) (t : TZ) (hm : P.follows .mixedOrders = true) (hs : Region.noSelect l.toArray = true)
    (hc : okZ .any l.toArray m t l.length (Array.replicate l.length false) = true) (hQ : ∀ d v c a w, Q (.panic c) (a.put d v) w → Q (.panic c) a w)
    (h : wpZ P l.toArray Q J t a w.drew) : (Code.region id l.toArray true).wp P Q a w := by
  refine wp_region_any hm ?_
  have h2 := wpZ_any (md := .any) hs hQ t l.length (Array.replicate l.length false) a w.drew hc h
  exact h2.drop
theorem wpZ_yld {ps : List Nat} {t : TZ} {a : Act} {w : World} (h : wpYJ P ops J ps (fun a' => wpZ P ops Q J t a' w) a) : wpZ P ops Q J (.yld ps t) a w := h
theorem wpZ_of {t : TZ} {i : Nat} {a : Act} {w : World} (hJ : J w) (h : wpT P ops (nx Q (wpZ P ops Q J t)) (.op i .done) a w) : wpZ P ops Q J (.op i t) a w := ⟨hJ, h⟩
theorem wpZ_to {t : TZ} {a : Act} {w : World} (h : wpZ P ops Q J t a w) : wpT P ops (nx Q (wpZ P ops Q J t)) .done a w := h
theorem wpZ_rest {t : Tr} {a : Act} {w : World} (hJ : J w) (h : wpT P ops Q t a w) : wpZ P ops Q J (.rest t) a w := ⟨hJ, h⟩
end
/-- an operation whose guard says no -/
theorem wpT_unx {P : Program} {ops : Array Oper} {Q : Exit → Act → World → Prop} {i : Nat} {t : Tr} {a : Act} {o : Oper} {w : World} (dst : Nat) (hdst : o.dst = some dst) (ho : ops[i]? = some o) (hw : Region.wanted o (yielded ops a.tmps) = false) (h : wpT P ops Q t (a.put (some dst) undef) w) : wpT P ops Q (.op i t) a w := by
  show wpOp P ops Q i (wpT P ops Q t) a w
  unfold wpOp
  rw [ho]
  simp only [hw, Bool.false_eq_true, if_false]
  rw [hdst]; exact h
/-- a type of elements of k cells -/
structure Elt (P : Program) (T TS : TypeId) (k bs : Nat) (z : Value) : Prop where
  u : P.underlying TS = some (.slice T)
  i : (P.info? T).map (fun i => (i.zero, i.size, i.bytes)) = some (some z, k, bs)
  zs : z.cells.size = k
  k0 : 0 < k
  bs1 : bs ≤ 1000000
  z1 : ∀ u ∈ z.cells.toList, u.oneCell' = true
  nb : T ≠ 5
/-- the block that a slice may write to -/
def obk : Value → Option Nat
  | .slice (some a) _ (_ + 1) => some a.block
  | _ => none
/-- a slice of n elements of one's own, with the cells xs -/
def Ow (w : World) (base : Nat) (k : Nat) (v : Value) (n : Nat) (xs : List Value) : Prop :=
  xs.length = n * k ∧ ((∃ a, v = .slice a 0 0 ∧ n = 0) ∨
   ∃ g cap cur T, v = .slice (some ⟨g, 0, none⟩) n (cap + 1) ∧ base ≤ g ∧ T ≠ 5 ∧ w.heap[g]? = some (.cells cur T (0, 0)) ∧ n ≤ cap + 1 ∧ cap + 1 ≤ maxLen ∧ cur.size = (cap + 1) * k ∧ cur.toList.take (n * k) = xs ∧ ∀ u ∈ cur.toList, u.oneCell' = true)
section
variable {P : Program} {T TS : TypeId} {k bs : Nat} {z : Value} {w w' : World} {base : Nat} {v : Value} {n : Nat} {xs : List Value}
theorem Ow.nil (w : World) (base : Nat) (k : Nat) (a : Option Addr) : Ow w base k (.slice a 0 0) 0 [] := ⟨by simp, .inl ⟨a, rfl, rfl⟩⟩
theorem Ow.shape (h : Ow w base k v n xs) : ∃ a cap, v = .slice a n cap ∧ n ≤ cap ∧ cap ≤ maxLen := by
  rcases h.2 with ⟨a, rfl, rfl⟩ | ⟨g', cap, cur, T, rfl, h1, hT, h2, h3, h4, h5, h6⟩
  · exact ⟨_, _, rfl, Nat.le_refl _, Nat.zero_le _⟩
  · exact ⟨_, _, rfl, h3, h4⟩
theorem Ow.at_ (h : Ow w base k v n xs) : ∀ g, obk v = some g → base ≤ g ∧ g < w.heap.size := by
  intro g hg
  rcases h.2 with ⟨a, rfl, rfl⟩ | ⟨g', cap, cur, T, rfl, h1, hT, h2, h3, h4, h5, h6⟩
  · cases a <;> simp [obk] at hg
  · simp only [obk, Option.some.injEq] at hg
    subst hg
    exact ⟨h1, (Array.getElem?_eq_some_iff.1 h2).1⟩
theorem Ow.mono (h : Ow w base k v n xs) {B : Nat} (hB : ∀ g, obk v = some g → B ≤ g) : Ow w B k v n xs := by
  refine ⟨h.1, ?_⟩
  rcases h.2 with ⟨a, rfl, rfl⟩ | ⟨g', cap, cur, T, rfl, h1, hT, h2, h3, h4, h5, h6⟩
  · exact .inl ⟨a, rfl, rfl⟩
  · exact .inr ⟨g', cap, cur, T, rfl, hB g' rfl, hT, h2, h3, h4, h5, h6⟩
theorem Ow.blk (h : Ow w base k v n xs) (hg : ∀ g, obk v = some g → w'.heap[g]? = w.heap[g]?) : Ow w' base k v n xs := by
  refine ⟨h.1, ?_⟩
  rcases h.2 with ⟨a, rfl, rfl⟩ | ⟨g', cap, cur, T, rfl, h1, hT, h2, h3, h4, h5, h6⟩
  · exact .inl ⟨a, rfl, rfl⟩
  · exact .inr ⟨g', cap, cur, T, rfl, h1, hT, (hg g' rfl).trans h2, h3, h4, h5, h6⟩
theorem Ow.below (h : Ow w base k v n xs) (hb : Below w.heap.size w w') : Ow w' base k v n xs := h.blk fun g hg => hb.block g (h.at_ g hg).2
theorem Ow.fr {S : Nat → Prop} (h : Ow w base k v n xs) (hf : Fr S w w') (hS : ∀ g, obk v = some g → ¬ S g) : Ow w' base k v n xs := h.blk fun g hg => hf.block g (h.at_ g hg).2 (hS g hg)
theorem Ow.sv (h : Ow w base k v n xs) : SV w v n xs := by
  have h0 := h.1
  rcases h.2 with ⟨a, rfl, rfl⟩ | ⟨g', cap, cur, T, rfl, h1, hT, h2, h3, h4, h5, h6, h7⟩
  · refine ⟨a, 0, rfl, Nat.le_refl _, Nat.zero_le _, fun hx => absurd ?_ hx⟩
    exact List.eq_nil_of_length_eq_zero (by simpa using h.1)
  · refine ⟨_, _, rfl, h3, h4, fun _ => ⟨g', 0, rfl, fun i hi => ?_⟩⟩
    rw [Nat.zero_add, ← h6]
    rw [h0] at hi
    simp [World.cell?, h2, List.getElem?_take_of_lt hi]
theorem append_room_any (t ty e : TypeId) (i : TypeInfo) (ht : P.underlying t = some (.slice e)) (hi : P.info? e = some i)
    (g sLen sCap : Nat) (cur : Array Value) (T : TypeId) (hg : w.heap[g]? = some (.cells cur T (0, 0)))
    (a : Addr) (m c : Nat) (news : List Value) (hl : news.length = m * i.size) (hnews : ∀ j u, news[j]? = some u → w.cell? (a.add j) = some u) (h1 : ∀ u ∈ news, u.oneCell' = true)
    (hroom : sLen + m ≤ sCap) (hfit : sLen * i.size + news.length ≤ cur.size) :
    (Builtin.append_ #[t, t] ty #[.slice (some ⟨g, 0, none⟩) sLen sCap, .slice (some a) m c]).run P w =
      .ok (.slice (some ⟨g, 0, none⟩) (sLen + m) sCap) (w.setRow g (cur.toList.take (sLen * i.size) ++ news ++ cur.toList.drop (sLen * i.size + news.length)).toArray) := by
  have hf := run_firstCells_some (P := P) w i.size m a m c news hl hnews
  have hst := run_storeCells_at P g (sLen * i.size) T news 0 cur w hg (by simpa using hfit) h1
  simp only [Nat.add_zero] at hst
  simp [Builtin.append_, run_underlying ht, sizeOf, typeInfo, hi, Builtin.lenOf, hroom, hf, Addr.add_lit, hst]
theorem zero_one {z : Array Value} (h : ∀ u ∈ z.toList, u.oneCell' = true) (h0 : 0 < z.size) (m : Nat) : ∀ u ∈ (Builtin.zeroCells z m).toList, u.oneCell' = true := by
  intro u hu
  obtain ⟨t, ht, rfl⟩ := List.getElem_of_mem hu
  have h6 : t % z.size < z.size := Nat.mod_lt _ h0
  have : (Builtin.zeroCells z m).toList[t] = z[t % z.size] := by simp [Builtin.zeroCells, getElem!_pos z (t % z.size) h6]
  rw [this]
  exact h _ (by simp)
/-- append to one's own -/
theorem ow_append (E : Elt P T TS k bs z) (ty : TypeId) (h : Ow w base k v n xs) {u : Value} {m : Nat} {ys : List Value} (hu : SV w u m ys) (hl : ys.length = m * k) (h1 : ∀ u ∈ ys, u.oneCell' = true) (hlen : n + m ≤ 1000000) (hbase : base ≤ w.heap.size) :
    ∃ v' w', (Builtin.append_ #[TS, TS] ty #[v, u]).run P w = .ok v' w' ∧ Ow w' base k v' (n + m) (xs ++ ys) ∧ w.grownBy w' (obk v) ∧ (∀ g, obk v' = some g → obk v = some g ∨ g = w.heap.size) := by
  obtain ⟨i, hi0, hz0, hz1, hz2⟩ := info_parts E.i
  have hk0 := E.k0
  have hbs := E.bs1
  have hby : (n + m) * bs ≤ 140737488355328 := by
    have : (n + m) * bs ≤ 1000000 * 1000000 := Nat.mul_le_mul hlen hbs
    omega
  have h63 : n + m ≤ maxLen := by unfold maxLen; omega
  have h64 : n + m ≤ 9223372036854775807 := by omega
  by_cases hm : m = 0
  · subst hm
    have hy : ys = [] := List.eq_nil_of_length_eq_zero (by simpa using hl)
    subst hy
    obtain ⟨ad, c, rfl, -, -, -⟩ := hu
    refine ⟨v, w, ?_, by simpa using h, gb_refl _ _, fun g hg => .inl hg⟩
    rcases h.2 with ⟨a, rfl, rfl⟩ | ⟨g', cap, cur, T, rfl, k1, kT, k2, k3, k4, k5, k6⟩
    · cases ad <;> cases a <;> simp [Builtin.append_, run_underlying E.u, sizeOf, typeInfo, hi0, Builtin.lenOf, Builtin.firstCells, loadCells, loadCellsFrom, storeCells]
    · have : n ≤ cap + 1 := k3
      cases ad <;> simp [Builtin.append_, run_underlying E.u, sizeOf, typeInfo, hi0, Builtin.lenOf, Builtin.firstCells, loadCells, loadCellsFrom, storeCells, this]
  · obtain ⟨ad, c, rfl, hmc, hcm, hc⟩ := hu
    have hyne : ys ≠ [] := by
      intro e
      subst e
      rcases Nat.mul_eq_zero.1 (show m * k = 0 from hl.symm) with h | h
      · exact hm h
      · omega
    obtain ⟨b, o, rfl, hcell⟩ := hc hyne
    have hnews : ∀ j y, ys[j]? = some y → w.cell? ((⟨b, o, none⟩ : Addr).add j) = some y := by
      intro j y hj
      have hlt : j < ys.length := (List.getElem?_eq_some_iff.1 hj).1
      rw [Addr.add_mid, hcell j hlt, hj]
    have hlen2 : (xs ++ ys).length = (n + m) * k := by rw [List.length_append, h.1, hl, Nat.add_mul]
    have grown : (∀ u ∈ xs, u.oneCell' = true) → ∀ (old : Nat) (row : Option Nat), Ow (w.drew.alloc (.cells (xs.toArray ++ ys.toArray ++ Builtin.zeroCells z.cells (grownCap w (n + m) old T - (n + m))) T)) base k
        (.slice (some ⟨w.heap.size, 0, none⟩) (n + m) (grownCap w (n + m) old T)) (n + m) (xs ++ ys) ∧
        w.grownBy (w.drew.alloc (.cells (xs.toArray ++ ys.toArray ++ Builtin.zeroCells z.cells (grownCap w (n + m) old T - (n + m))) T)) row := by
      intro hx1 old row
      have hge := grownCap_ge w (n + m) old T
      have hcm : grownCap w (n + m) old T ≤ maxLen := grownCap_le_maxLen w (n + m) old T h63
      generalize grownCap w (n + m) old T = G at hge hcm
      obtain ⟨G, rfl⟩ : ∃ G', G = G' + 1 := ⟨G - 1, by omega⟩
      refine ⟨⟨hlen2, .inr ⟨w.heap.size, G, _, T, rfl, hbase, E.nb, heap_alloc_new w.drew _, hge, hcm, ?_, ?_, ?_⟩⟩, ⟨rfl, rfl, rfl, by simp, fun k hk _ => heap_alloc_old w.drew _ hk⟩⟩
      · simp only [Array.size_append, List.size_toArray, size_zeroCells, E.zs, h.1, hl, ← Nat.add_mul]
        congr 1
        omega
      · simp only [Array.toList_append, List.append_assoc]
        rw [← List.append_assoc, ← hlen2]
        exact List.take_left
      · intro u hu
        simp only [Array.toList_append, List.mem_append] at hu
        rcases hu with (hu | hu) | hu
        · exact hx1 u hu
        · exact h1 u hu
        · exact zero_one E.z1 (by rw [E.zs]; exact hk0) _ u hu
    rcases h.2 with ⟨a, rfl, rfl⟩ | ⟨g', cap, cur, T', rfl, k1, kT, k2, k3, k4, k5, k6, k7⟩
    · have hx : xs = [] := List.eq_nil_of_length_eq_zero (by simpa using h.1)
      subst hx
      have hgr := grown (fun _ h => by cases h) 0 (obk (.slice a 0 0))
      subst hz1; subst hz2
      refine ⟨_, _, ?_, hgr.1, hgr.2, fun g hg => ?_⟩
      · cases a with
        | none =>
          rw [run_append_nil (P := P) w TS ty T i z E.u hi0 hz0 ⟨b, o, none⟩ m c ys hl hnews (by omega) (by omega) (by simp only [Nat.zero_add] at hby; omega)]
          simp
        | some a =>
          rw [run_append_grow (P := P) w TS ty T i z E.u hi0 hz0 a 0 0 [] (by simp) (fun j v hj => by simp at hj) ⟨b, o, none⟩ m c ys hl hnews (by omega) (by omega) (growslice_fits (by omega) hby)]
      · generalize grownCap w (0 + m) 0 T = G at hg
        cases G with
        | zero => simp [obk] at hg
        | succ G => simp [obk] at hg; exact .inr hg.symm
    · subst hz1; subst hz2
      by_cases hroom : n + m ≤ cap + 1
      · have hfit : n * i.size + ys.length ≤ cur.size := by rw [hl, k5, ← Nat.add_mul]; exact Nat.mul_le_mul_right _ hroom
        refine ⟨_, _, append_room_any TS ty T i E.u hi0 g' n (cap + 1) cur T' k2 ⟨b, o, none⟩ m c ys hl hnews h1 hroom hfit, ⟨hlen2, .inr ⟨g', cap, _, T', rfl, k1, kT, setRow_heap w g' cur _ T' _ k2, hroom, k4, ?_, ?_, ?_⟩⟩, ⟨rfl, rfl, rfl, by simp, fun k _ hk => setRow_other w g' k _ (fun e => hk (by simp [obk, e]))⟩, fun g hg => .inl hg⟩
        · simp only [List.size_toArray, List.length_append, List.length_take, List.length_drop, Array.length_toList]
          omega
        · rw [k6, ← hlen2]
          exact List.take_left
        · intro u hu
          simp only [List.mem_append] at hu
          rcases hu with (hu | hu) | hu
          · exact k7 u (List.mem_of_mem_take hu)
          · exact h1 u hu
          · exact k7 u (List.mem_of_mem_drop hu)
      · have holds : ∀ j u, xs[j]? = some u → w.cell? ((⟨g', 0, none⟩ : Addr).add j) = some u := by
          intro j u hj
          have hlt := (List.getElem?_eq_some_iff.1 hj).1
          rw [h.1] at hlt
          rw [Addr.add_mid, Nat.zero_add]
          rw [← k6, List.getElem?_take_of_lt hlt] at hj
          simpa [World.cell?, k2] using hj
        have hgr := grown (fun u hu => k7 u (List.mem_of_mem_take (by rw [k6]; exact hu))) (cap + 1) (obk (.slice (some ⟨g', 0, none⟩) n (cap + 1)))
        refine ⟨_, _, run_append_grow (P := P) w TS ty T i z E.u hi0 hz0 ⟨g', 0, none⟩ n (cap + 1) xs h.1 holds ⟨b, o, none⟩ m c ys hl hnews (by omega) (by omega) (growslice_fits (by omega) hby), hgr.1, hgr.2, fun g hg => ?_⟩
        generalize grownCap w (n + m) (cap + 1) T = G at hg
        cases G with
        | zero => simp [obk] at hg
        | succ G => simp [obk] at hg; exact .inr hg.symm
/-- a part of one's own is cut out: what stands behind moves ahead -/
theorem ow_cut (E : Elt P T TS k bs z) (ty : TypeId) {g cap j m c : Nat} {cur : Array Value} {T' : TypeId} (hg : w.heap[g]? = some (.cells cur T' (0, 0))) (hs : cur.size = (cap + 1) * k) (h1 : ∀ u ∈ cur.toList, u.oneCell' = true) (i : Nat) (hj : j + m ≤ cap + 1) (hi : i ≤ j) (a : Addr) (ha : m = 0 ∨ a = ⟨g, j * k, none⟩) :
    (Builtin.append_ #[TS, TS] ty #[.slice (some ⟨g, 0, none⟩) i (cap + 1), .slice (some a) m c]).run P w =
      .ok (.slice (some ⟨g, 0, none⟩) (i + m) (cap + 1)) (w.setRow g (cur.toList.take (i * k) ++ ((cur.toList.drop (j * k)).take (m * k)) ++ cur.toList.drop (i * k + m * k)).toArray) := by
  obtain ⟨inf, hi0, hz0, hz1, hz2⟩ := info_parts E.i
  have e1 : (j + m) * k ≤ (cap + 1) * k := Nat.mul_le_mul_right _ hj
  have e2 : i * k ≤ j * k := Nat.mul_le_mul_right _ hi
  rw [Nat.add_mul] at e1
  have hl : ((cur.toList.drop (j * k)).take (m * k)).length = m * k := by simp; omega
  subst hz1
  have hnews : ∀ t y, ((cur.toList.drop (j * inf.size)).take (m * inf.size))[t]? = some y → w.cell? (a.add t) = some y := by
    intro t y ht
    have hlt : t < m * inf.size := by have := (List.getElem?_eq_some_iff.1 ht).1; rwa [hl] at this
    rcases ha with rfl | rfl
    · simp at hlt
    · rw [Addr.add_mid]
      rw [List.getElem?_take_of_lt hlt, List.getElem?_drop] at ht
      simpa [World.cell?, hg] using ht
  rw [append_room_any TS ty T inf E.u hi0 g i (cap + 1) cur T' hg a m c _ hl hnews (fun u hu => h1 u (List.mem_of_mem_drop (List.mem_of_mem_take hu))) (by omega) (by rw [hl]; omega), hl]
/-- elements of one's own are turned to zero -/
theorem ow_clear (E : Elt P T TS k bs z) (ty : TypeId) {g o m c : Nat} {cur : Array Value} {T' : TypeId} (hg : w.heap[g]? = some (.cells cur T' (0, 0))) (hfit : o + m * k ≤ cur.size) (hm : 0 < m) :
    (Builtin.clear_ #[TS] ty #[.slice (some ⟨g, o, none⟩) m c]).run P w = .ok (.tuple #[]) (w.setRow g (cur.toList.take o ++ (Builtin.zeroCells z.cells m).toList ++ cur.toList.drop (o + m * k)).toArray) := by
  obtain ⟨inf, hi0, hz0, hz1, hz2⟩ := info_parts E.i
  have hl : (Builtin.zeroCells z.cells m).toList.length = m * k := by simp [size_zeroCells, E.zs]
  have hst := run_storeCells_at P g o T' (Builtin.zeroCells z.cells m).toList 0 cur w hg (by rw [hl]; simpa using hfit) (zero_one E.z1 (by rw [E.zs]; exact E.k0) m)
  simp only [Nat.add_zero, hl] at hst
  obtain ⟨m, rfl⟩ : ∃ m', m = m' + 1 := ⟨m - 1, by omega⟩
  simp [Builtin.clear_, run_underlying E.u, zeroValue, typeInfo, hi0, hz0, hst]
/-- copy into a row -/
theorem ow_copy (E : Elt P T TS k bs z) (ty : TypeId) {g o dl dc sl sc : Nat} {cur : Array Value} {T' : TypeId} {a : Addr} (hg : w.heap[g]? = some (.cells cur T' (0, 0))) (ys : List Value) (hl : ys.length = Nat.min sl dl * k) (hsrc : ∀ j u, ys[j]? = some u → w.cell? (a.add j) = some u) (hfit : o + ys.length ≤ cur.size) (h1 : ∀ u ∈ ys, u.oneCell' = true) :
    (Builtin.copy_ #[TS, TS] ty #[.slice (some ⟨g, o, none⟩) dl dc, .slice (some a) sl sc]).run P w = .ok (goInt (Nat.min sl dl)) (w.setRow g (cur.toList.take o ++ ys ++ cur.toList.drop (o + ys.length)).toArray) := by
  obtain ⟨inf, hi0, hz0, hz1, hz2⟩ := info_parts E.i
  subst hz1
  have hf := run_firstCells_some (P := P) w inf.size (Nat.min sl dl) a sl sc ys hl hsrc
  have hst := run_storeCells_at P g o T' ys 0 cur w hg (by simpa using hfit) h1
  simp only [Nat.add_zero] at hst
  simp [Builtin.copy_, run_underlying E.u, Builtin.lenOf, sizeOf, typeInfo, hi0, hf, hst]
/-- one's own rows: a slice's row is lent -/
theorem Mm.lend {g : Nat} {cur : Array Value} (hT : T ≠ 5) (h : w.heap[g]? = some (.cells cur T (0, 0))) : Mm (fun x => x = g) w [(g, cur)] w :=
  ⟨Fr.refl _ _, fun p hp => by simp only [List.mem_cons, List.not_mem_nil, or_false] at hp; subst hp; exact ⟨.inl rfl, T, hT, h⟩, by simp⟩
theorem Mm.ow {S : Nat → Prop} {w0 : World} {H : List (Nat × Array Value)} {g cap : Nat} {cur : Array Value} (M : Mm S w0 H w) (hm : (g, cur) ∈ H) (hb : base ≤ g) (hn : n ≤ cap + 1) (hc : cap + 1 ≤ maxLen) (hs : cur.size = (cap + 1) * k) (ht : cur.toList.take (n * k) = xs) (h1 : ∀ u ∈ cur.toList, u.oneCell' = true) :
    Ow w base k (.slice (some ⟨g, 0, none⟩) n (cap + 1)) n xs := by
  obtain ⟨_, T', hT', hh⟩ := M.own _ hm
  refine ⟨?_, .inr ⟨g, cap, cur, T', rfl, hb, hT', hh, hn, hc, hs, ht, h1⟩⟩
  rw [← ht]
  have : n * k ≤ (cap + 1) * k := Nat.mul_le_mul_right _ hn
  simp; omega
/-- the rows H are known while a slice of one's own that is none of them grows -/
theorem Mm.gb {S : Nat → Prop} {w0 : World} {H : List (Nat × Array Value)} {r : Option Nat} (M : Mm S w0 H w) (hg : w.grownBy w' r) (hr : ∀ g, r = some g → (S g ∨ w0.heap.size ≤ g) ∧ ∀ p ∈ H, p.1 ≠ g) : Mm S w0 H w' := by
  refine ⟨⟨hg.os.trans M.fr.os, hg.tape.trans M.fr.tape, hg.output.trans M.fr.output, Nat.le_trans M.fr.size hg.size, fun k hk hS => ?_⟩, fun p hp => ?_, M.nd⟩
  · rw [hg.block k (Nat.lt_of_lt_of_le hk M.fr.size) (fun e => ?_)]
    · exact M.fr.block k hk hS
    · rcases (hr k e.symm).1 with h | h
      · exact hS h
      · omega
  · obtain ⟨h1, T, hT, hb⟩ := M.own p hp
    refine ⟨h1, T, hT, ?_⟩
    rw [hg.block p.1 (Array.getElem?_eq_some_iff.1 hb).1 (fun e => (hr p.1 e.symm).2 p hp rfl)]
    exact hb
/-- .. and while blocks that are none of them turn -/
theorem Mm.frw {S F : Nat → Prop} {w0 : World} {H : List (Nat × Array Value)} (M : Mm S w0 H w) (hf : Fr F w w') (hF : ∀ g, F g → (S g ∨ w0.heap.size ≤ g) ∧ ∀ p ∈ H, p.1 ≠ g) : Mm S w0 H w' := by
  refine ⟨⟨hf.os.trans M.fr.os, hf.tape.trans M.fr.tape, hf.output.trans M.fr.output, Nat.le_trans M.fr.size hf.size, fun k hk hS => ?_⟩, fun p hp => ?_, M.nd⟩
  · rw [hf.block k (Nat.lt_of_lt_of_le hk M.fr.size) (fun e => ?_)]
    · exact M.fr.block k hk hS
    · rcases (hF k e).1 with h | h
      · exact hS h
      · omega
  · obtain ⟨h1, T, hT, hb⟩ := M.own p hp
    refine ⟨h1, T, hT, ?_⟩
    rw [hf.block p.1 (Array.getElem?_eq_some_iff.1 hb).1 (fun e => (hF p.1 e).2 p hp rfl)]
    exact hb
end
section
variable {P : Program} {T TS : TypeId} {k bs : Nat} {z : Value} {ops : Array Oper} {Q : Exit → Act → World → Prop} {i : Nat} {t : Tr} {a : Act} {o : Oper} {S : Nat → Prop} {w0 w : World} {H : List (Nat × Array Value)} {base : Nat}
/-- a step: append to one's own -/
theorem wpT_gapp (dst : Nat) (s x : Operand) (M : Mm S w0 H w) (E : Elt P T TS k bs z) (v u : Value) (n m : Nat) (xs ys : List Value) (hdst : o.dst = some dst) (ho : ops[i]? = some o)
    (hop : o.op = .call { callee := .builtin .append, args := #[s, x], argTypes := #[TS, TS] }) (hw : Region.wanted o (yielded ops a.tmps) = true) (hs : a.eval s = v) (hown : Ow w base k v n xs) (hx : a.eval x = u) (hu : SV w u m ys) (hl : ys.length = m * k) (h1 : ∀ u ∈ ys, u.oneCell' = true)
    (hlen : n + m ≤ 1000000) (hbase : base ≤ w.heap.size) (hsep : ∀ g, obk v = some g → (S g ∨ w0.heap.size ≤ g) ∧ ∀ p ∈ H, p.1 ≠ g)
    (h : ∀ v' w', Ow w' base k v' (n + m) (xs ++ ys) → Mm S w0 H w' → w.grownBy w' (obk v) → (∀ g, obk v' = some g → obk v = some g ∨ g = w.heap.size) → wpT P ops Q t (a.put (some dst) v') w') : wpT P ops Q (.op i t) a w := by
  obtain ⟨v', w', hr, h2, h3, h4⟩ := ow_append E o.type hown hu hl h1 hlen hbase
  refine wpT_val (w' := w') (v := v') ho hw ?_ (by rw [hdst]; exact h v' w' h2 (M.gb h3 hsep) h3 h4)
  simp only [execOp, hop, resolve, invoke, builtin, Sem.run_bind, Sem.run_pure, Result.andThen_ok, List.map_toArray, List.map_cons, List.map_nil, hs, hx, hr]
/-- a step: a load whose outcome is known -/
theorem wpT_ldy {T : TypeId} {p : Operand} (dst : Nat) (A v : Value) (hdst : o.dst = some dst) (ho : ops[i]? = some o) (hop : o.op = .load T p) (hp : a.eval p = A) (hq : exLoad P T A w = .ok (.value v) w) (hw : Region.wanted o (yielded ops a.tmps) = true)
    (h : wpT P ops Q t (a.put (some dst) v) w) : wpT P ops Q (.op i t) a w :=
  wpT_val (w' := w) (v := v) ho hw (by
    obtain ⟨dst, op, ty, pos, after, guard⟩ := o
    subst hop
    rw [x_load, hp, hq]) (by rw [hdst]; exact h)
theorem SeqA.ldy {B N : Nat} {qs fs : List Nat} {K' : Act → World → Prop} {r : List Oper} {acc : List (Nat × Array Value × TypeId)} {I : World → Prop} {T : TypeId} {p : Operand} (A v : Value) (ho : o.op = .load T p) (hp : a.eval p = A) (hI : ∀ w, I w → exLoad P T A w = .ok (.value v) w) (hw : Region.wanted o (yielded ops a.tmps) = true)
    (h : SeqA P ops B N qs fs K' (i + 1) r (a.put o.dst v) acc I) (hf : fs.contains i = false := by rfl) : SeqA P ops B N qs fs K' i (o :: r) a acc I :=
  .read v (fun w hiw => by
    obtain ⟨dst, op, ty, pos, after, guard⟩ := o
    subst ho
    rw [x_load, hp, hI w hiw]) (by unfold isNewOp; rw [ho]) hw h hf
theorem wpYJd_ldy {J : World → Prop} {l : List Oper} {r : List Nat} {K : Act → Prop} {T : TypeId} {p : Operand} (dst : Nat) (A v : Value) (hdst : o.dst = some dst) (ho : lget l i = some o) (hop : o.op = .load T p) (hp : a.eval p = A) (hI : ∀ w, J w → exLoad P T A w = .ok (.value v) w) (hw : Region.wanted o (yielded l.toArray a.tmps) = true)
    (h : wpYJ P l.toArray J r K (a.put (some dst) v)) : wpYJ P l.toArray J (i :: r) K a :=
  wpYJd_op dst v hdst ho hw (fun w hiw => by
    obtain ⟨dst, op, ty, pos, after, guard⟩ := o
    subst hop
    rw [x_load, hp, hI w hiw]) h
/-- a step: a call, whatever it answers -/
theorem wpT_cally (dst : Nat) {f : FuncId} {args : Array Value} {R : Ending → World → Prop} (hdst : o.dst = some dst) (ho : ops[i]? = some o) (hw : Region.wanted o (yielded ops a.tmps) = true) (hrun : (execOp a.eval o).run P w = .ok (.enter f args) w) (hc : Calls P f args w R)
    (h : ∀ e w', R e w' → ∃ v, e = .returned v ∧ wpT P ops Q t (a.put (some dst) v) w') : wpT P ops Q (.op i t) a w :=
  wpT_call ho hw hrun hc (fun e w' hR => by rw [hdst]; exact h e w' hR)
/-- a step: a row is changed by a builtin that answers nothing -/
theorem wpT_gset {b : Nat} {C C' : Array Value} {v : Value} (M : Mm S w0 H w) (j : Nat) (hk : H[j]? = some (b, C)) (ho : ops[i]? = some o) (hd : o.dst = none) (hw : Region.wanted o (yielded ops a.tmps) = true) (hrun : (execOp a.eval o).run P w = .ok (.value v) (w.setRow b C'))
    (h : ∀ w', Mm S w0 (H.set j (b, C')) w' → wpT P ops Q t a w') : wpT P ops Q (.op i t) a w :=
  wpT_val ho hw hrun (by rw [hd]; exact h _ (M.set j C' hk))
theorem wpT_gsetd {b : Nat} {C C' : Array Value} {v : Value} (dst : Nat) (M : Mm S w0 H w) (j : Nat) (hk : H[j]? = some (b, C)) (hdst : o.dst = some dst) (ho : ops[i]? = some o) (hw : Region.wanted o (yielded ops a.tmps) = true) (hrun : (execOp a.eval o).run P w = .ok (.value v) (w.setRow b C'))
    (h : ∀ w', Mm S w0 (H.set j (b, C')) w' → wpT P ops Q t (a.put (some dst) v) w') : wpT P ops Q (.op i t) a w :=
  wpT_val ho hw hrun (by rw [hdst]; exact h _ (M.set j C' hk))
end
section
variable {P : Program} {T TS : TypeId} {k bs : Nat} {z : Value} {ops : Array Oper} {Q : Exit → Act → World → Prop} {i : Nat} {t : Tr} {a : Act} {o : Oper} {S : Nat → Prop} {w0 w : World} {H : List (Nat × Array Value)} {base : Nat}
/-- a step: elements of a row are cleared -/
theorem wpT_gclear {x : Operand} {g off m c : Nat} {C : Array Value} (M : Mm S w0 H w) (E : Elt P T TS k bs z) (j : Nat) (hk : H[j]? = some (g, C)) (ho : ops[i]? = some o) (hop : o.op = .call { callee := .builtin .clear, args := #[x], argTypes := #[TS] }) (hd : o.dst = none) (hw : Region.wanted o (yielded ops a.tmps) = true)
    (hx : a.eval x = .slice (some ⟨g, off, none⟩) m c) (hfit : off + m * k ≤ C.size) (hm : 0 < m)
    (h : ∀ w', Mm S w0 (H.set j (g, (C.toList.take off ++ (Builtin.zeroCells z.cells m).toList ++ C.toList.drop (off + m * k)).toArray)) w' → wpT P ops Q t a w') : wpT P ops Q (.op i t) a w := by
  obtain ⟨_, T', hT', hg⟩ := M.own _ (List.mem_of_getElem? hk)
  have hr := ow_clear (w := w) E o.type (c := c) hg hfit hm
  refine wpT_gset M j hk ho hd hw (v := .tuple #[]) ?_ h
  simp only [execOp, hop, resolve, invoke, builtin, Sem.run_bind, Sem.run_pure, Result.andThen_ok, List.map_toArray, List.map_cons, List.map_nil, hx, hr]
/-- a step: copy into a row -/
theorem wpT_gcopy {x y : Operand} {g off dl dc sl sc : Nat} {C : Array Value} {ad : Addr} (dst : Nat) (M : Mm S w0 H w) (E : Elt P T TS k bs z) (j : Nat) (hk : H[j]? = some (g, C)) (hdst : o.dst = some dst) (ho : ops[i]? = some o) (hop : o.op = .call { callee := .builtin .copy, args := #[x, y], argTypes := #[TS, TS] }) (hw : Region.wanted o (yielded ops a.tmps) = true)
    (hx : a.eval x = .slice (some ⟨g, off, none⟩) dl dc) (hy : a.eval y = .slice (some ad) sl sc) (ys : List Value) (m : Nat) (hm : Nat.min sl dl = m) (hl : ys.length = m * k) (hsrc : ∀ j u, ys[j]? = some u → w.cell? (ad.add j) = some u) (hfit : off + ys.length ≤ C.size) (h1 : ∀ u ∈ ys, u.oneCell' = true)
    (h : ∀ w', Mm S w0 (H.set j (g, (C.toList.take off ++ ys ++ C.toList.drop (off + ys.length)).toArray)) w' → wpT P ops Q t (a.put (some dst) (goInt m)) w') : wpT P ops Q (.op i t) a w := by
  obtain ⟨_, T', hT', hg⟩ := M.own _ (List.mem_of_getElem? hk)
  subst hm
  have hr := ow_copy (w := w) E o.type (dc := dc) (sc := sc) hg ys hl hsrc hfit h1
  refine wpT_gsetd dst M j hk hdst ho hw (v := goInt (Nat.min sl dl)) ?_ h
  simp only [execOp, hop, resolve, invoke, builtin, Sem.run_bind, Sem.run_pure, Result.andThen_ok, List.map_toArray, List.map_cons, List.map_nil, hx, hy, hr]
end
section
variable {P : Program} {T TS : TypeId} {k bs : Nat} {z : Value} {ops : Array Oper} {Q : Exit → Act → World → Prop} {i : Nat} {t : Tr} {a : Act} {o : Oper} {S : Nat → Prop} {w0 w : World} {H : List (Nat × Array Value)} {base : Nat}
/-- a step: 'append(s[:0], make([]T, m)...)' where there is no room -/
theorem wpT_gappz (dst : Nat) {s x : Operand} {tn : TypeId} {kn : IntKind} {a0 : Option Addr} {c m : Nat} (M : Mm S w0 H w) (E : Elt P T TS k bs z) (htn : P.underlying tn = some (.int kn)) (hdst : o.dst = some dst) (ho : ops[i]? = some o) (hop : o.op = .call { callee := .builtin .append, args := #[s, x], argTypes := #[TS, tn] }) (hw : Region.wanted o (yielded ops a.tmps) = true)
    (hs : a.eval s = .slice a0 0 c) (hx : a.eval x = .int .i64 m) (hc : c < m) (hm : m ≤ 1000000)
    (h : ∀ b G cz w', Mm S w0 ((b, cz) :: H) w' → w.heap.size ≤ b → cz.size = (G + 1) * k → m ≤ G + 1 → G + 1 ≤ maxLen → (∀ u ∈ cz.toList, u.oneCell' = true) → wpT P ops Q t (a.put (some dst) (.slice (some ⟨b, 0, none⟩) m (G + 1))) w') : wpT P ops Q (.op i t) a w := by
  obtain ⟨inf, hi0, hz0, hz1, hz2⟩ := info_parts E.i
  have hk0 := E.k0
  have hbs := E.bs1
  have hby : m * bs ≤ 140737488355328 := by
    have : m * bs ≤ 1000000 * 1000000 := Nat.mul_le_mul hm hbs
    omega
  have hge := grownCap_ge w m c T
  have hcm : grownCap w m c T ≤ maxLen := grownCap_le_maxLen w m c T (by unfold maxLen; omega)
  have hrun : (Builtin.append_ #[TS, tn] o.type #[.slice a0 0 c, .int .i64 m]).run P w = .ok (.slice (some ⟨w.heap.size, 0, none⟩) m (grownCap w m c T)) (w.drew.alloc (.cells (Builtin.zeroCells z.cells m ++ Builtin.zeroCells z.cells (grownCap w m c T - m)) T)) := by
    subst hz1; subst hz2
    have hwr : IntKind.i64.wrap (m : Int) = m := by rw [IntKind.wrap_i64]; omega
    have h63' : ¬ (9223372036854775807 < (m : Int)) := by omega
    have h48 := growslice_fits (bytes := inf.bytes) hc hby
    have h48' : ¬ (281474976710656 < Builtin.nextslicecap m c * inf.bytes) := by omega
    have h48i : ¬ (281474976710656 < (m : Int) * (inf.bytes : Int)) := by
      rw [← Int.natCast_mul]
      omega
    have hneg : ¬ ((m : Int) < 0) := by omega
    have hns : ¬ (m * inf.size = 0) := Nat.mul_ne_zero (by omega) (by omega)
    have hn : ¬ (m ≤ c) := by omega
    cases a0 <;> simp [Builtin.append_, run_underlying E.u, run_underlying htn, sizeOf, typeInfo, zeroValue, hi0, hz0, asInt, asIntOf, hwr, hn, hneg, hns, h63', h48', h48i, Question.forced, run_firstCells_none, Builtin.firstCells, loadCells, loadCellsFrom, newRow, grownCap]
  generalize hG : grownCap w m c T = G at hrun hge hcm
  obtain ⟨G, rfl⟩ : ∃ G', G = G' + 1 := ⟨G - 1, by omega⟩
  have Md := M.drewN 1
  have Ma : Mm S w0 ((w.heap.size, Builtin.zeroCells z.cells m ++ Builtin.zeroCells z.cells (G + 1 - m)) :: H) (w.drew.alloc (.cells (Builtin.zeroCells z.cells m ++ Builtin.zeroCells z.cells (G + 1 - m)) T)) := Md.alloc _ T E.nb
  have hfin := h _ G _ _ Ma (Nat.le_refl _) (by
    simp only [Array.size_append, size_zeroCells, E.zs, ← Nat.add_mul]
    congr 1
    omega) hge hcm (fun u hu => by
    simp only [Array.toList_append, List.mem_append] at hu
    rcases hu with hu | hu
    · exact zero_one E.z1 (by rw [E.zs]; exact hk0) _ u hu
    · exact zero_one E.z1 (by rw [E.zs]; exact hk0) _ u hu)
  refine wpT_val ho hw (v := .slice (some ⟨w.heap.size, 0, none⟩) m (G + 1)) ?_ (by rw [hdst]; exact hfin)
  simp only [execOp, hop, resolve, invoke, builtin, Sem.run_bind, Sem.run_pure, Result.andThen_ok, List.map_toArray, List.map_cons, List.map_nil, hs, hx, hrun]
theorem sv_src {ad : Addr} {n c : Nat} {ys : List Value} (h : SV w (.slice (some ad) n c) n ys) : ∀ j u, ys[j]? = some u → w.cell? (ad.add j) = some u := by
  intro j u hj
  have hlt : j < ys.length := (List.getElem?_eq_some_iff.1 hj).1
  obtain ⟨a', cap', e, h1, h2, h3⟩ := h
  injection e with e1 e2 e3
  obtain ⟨b, o, e, hc⟩ := h3 (by intro e; rw [e] at hlt; simp at hlt)
  rw [← e1] at e
  injection e with e
  subst e
  rw [Addr.add_mid, hc j hlt, hj]
theorem row_src {g off : Nat} {C : Array Value} {ys : List Value} (h : w.rowOf g = C) (hy : ∀ j, j < ys.length → C[off + j]? = ys[j]?) : ∀ j u, ys[j]? = some u → w.cell? ((⟨g, off, none⟩ : Addr).add j) = some u := by
  intro j u hj
  have hlt : j < ys.length := (List.getElem?_eq_some_iff.1 hj).1
  rw [Addr.add_mid, cell_rowOf, h, hy j hlt, hj]
end
/-- a step: a slice of one element is built -/
theorem wpT_one {P : Program} {T TS : TypeId} {k bs : Nat} {z : Value} {ops : Array Oper} {Q : Exit → Act → World → Prop} {i : Nat} {t : Tr} {a : Act} {o : Oper} {S : Nat → Prop} {w0 w : World} {H : List (Nat × Array Value)} (dst : Nat) (x : Operand) (M : Mm S w0 H w) (E : Elt P T TS k bs z) (hk : k ≤ 10000) (C : Array Value) (hC : C.size = k) (hdst : o.dst = some dst) (ho : ops[i]? = some o) (hop : o.op = .buildSlice TS 1 #[(0, x)])
    (hx : a.eval x = .agg C) (hw : Region.wanted o (yielded ops a.tmps) = true)
    (h : ∀ b w', Mm S w0 ((b, C) :: H) w' → wpT P ops Q t (a.put (some dst) (.slice (some ⟨b, 0, none⟩) 1 1)) w') : wpT P ops Q (.op i t) a w := by
  obtain ⟨inf, hi0, hz0, hz1, hz2⟩ := info_parts E.i
  have hk0 := E.k0
  have e : (Array.map (fun (x : Nat × Operand) => (x.1, a.eval x.2)) #[(0, x)]).toList = [(0, .agg C)] := by simp [hx]
  refine wpT_bsl dst M C inf z E.u hi0 hz0 (by rw [hz1]; omega) (by rw [hz1]; omega) E.nb hdst ho hop ?_ hw (fun b w' M' _ _ => h b w' M')
  rw [hz1, e]
  have := fill_cat (fun i => some (i * k, k)) [(0, Value.agg C)] #[] ((Array.range (1 * k)).map (z.cells[· % z.cells.size]!)) (by simp [Cont, Value.cells, hC]) (by simp [catP, Value.cells, hC])
  rw [Array.empty_append, Array.empty_append] at this
  rw [this]; simp [catP, Value.cells]
/-- lists of elements, as cells -/
def fl {α : Type} (enc : α → List Value) (L : List α) : List Value := L.flatMap enc
section
variable {α : Type} {enc : α → List Value} {k : Nat} (hk : ∀ x, (enc x).length = k) {L : List α}
@[simp] theorem fl_nil : fl enc [] = [] := rfl
theorem fl_cons (x : α) : fl enc (x :: L) = enc x ++ fl enc L := rfl
theorem fl_append (M : List α) : fl enc (L ++ M) = fl enc L ++ fl enc M := by simp [fl]
theorem fl_one (x : α) : fl enc [x] = enc x := by simp [fl]
include hk
theorem fl_len : (fl enc L).length = L.length * k := by
  induction L with
  | nil => simp
  | cons x L ih => rw [fl_cons, List.length_append, hk, ih, List.length_cons, Nat.add_mul]; omega
theorem fl_take (i : Nat) : (fl enc L).take (i * k) = fl enc (L.take i) := by
  induction L generalizing i with
  | nil => simp
  | cons x L ih =>
    cases i with
    | zero => simp
    | succ i =>
      rw [fl_cons, List.take_succ_cons, fl_cons, List.take_append, hk, List.take_of_length_le (by rw [hk, Nat.add_mul]; omega), show (i + 1) * k - k = i * k by rw [Nat.add_mul]; omega, ih]
theorem fl_drop (i : Nat) : (fl enc L).drop (i * k) = fl enc (L.drop i) := by
  induction L generalizing i with
  | nil => simp
  | cons x L ih =>
    cases i with
    | zero => simp
    | succ i =>
      rw [fl_cons, List.drop_succ_cons, List.drop_append, hk, List.drop_of_length_le (by rw [hk, Nat.add_mul]; omega), show (i + 1) * k - k = i * k by rw [Nat.add_mul]; omega, ih, List.nil_append]
theorem fl_get {i j : Nat} {x : α} (hx : L[i]? = some x) (hj : j < k) : (fl enc L)[i * k + j]? = (enc x)[j]? := by
  have hi := (List.getElem?_eq_some_iff.1 hx)
  obtain ⟨hi, hx⟩ := hi
  have e : L = L.take i ++ x :: L.drop (i + 1) := by rw [← hx, ← List.drop_eq_getElem_cons hi, List.take_append_drop]
  have h2 : (fl enc (L.take i)).length = i * k := by rw [fl_len hk, List.length_take, Nat.min_eq_left (by omega)]
  rw [e, fl_append, fl_cons, List.getElem?_append_right (by omega), h2, show i * k + j - i * k = j by omega, List.getElem?_append_left (by rw [hk]; exact hj)]
omit hk in
theorem fl_one' (h1 : ∀ x, ∀ u ∈ enc x, u.oneCell' = true) : ∀ u ∈ fl enc L, u.oneCell' = true := by
  intro u hu
  obtain ⟨x, _, h⟩ := List.mem_flatMap.1 hu
  exact h1 x u h
end
/-- a part of an element of a slice that is read -/
theorem sv_part {P : Program} {α : Type} {enc : α → List Value} {k : Nat} (hk : ∀ x, (enc x).length = k) {T : TypeId} {m : Nat} {d : TypeDesc} (hu : P.underlying T = some d) (hd : d.isRow = true) (hi : (P.info? T).map (·.size) = some m) (m0 : 0 < m) {w : World} {L : List α} {n b o cap : Nat}
    (h : SV w (.slice (some ⟨b, o, none⟩) n cap) n (fl enc L)) {i j : Nat} {x : α} (hx : L[i]? = some x) (hj : j + m ≤ k) (C : Array Value) (hC : ((enc x).drop j).take m = C.toList) : exLoad P T (.pointer (some ⟨b, o + i * k + j, none⟩)) w = .ok (.value (.agg C)) w := by
  have hi2 : i < L.length := (List.getElem?_eq_some_iff.1 hx).1
  have hle : (i + 1) * k ≤ L.length * k := Nat.mul_le_mul_right _ hi2
  rw [Nat.add_mul] at hle
  have hll := fl_len hk (L := L)
  obtain ⟨a', cap', e, h1, h2, h3⟩ := h
  injection e with e1 e2 e3
  subst e1
  obtain ⟨b', o', e, hc⟩ := h3 (by intro e; have h9 := Nat.mul_pos (show 0 < L.length by omega) (show 0 < k by omega); rw [e, List.length_nil] at hll; omega)
  injection e with e; injection e with e1 e2; subst e1; subst e2
  have hc2 : ∀ t, t < k → (w.rowOf b)[o + i * k + t]? = (enc x)[t]? := fun t ht => by
    rw [← cell_rowOf, Nat.add_assoc, hc (i * k + t) (by rw [hll]; omega), fl_get hk hx ht]
  have hlast : o + i * k + j + m ≤ (w.rowOf b).size := by
    have h5 := hc2 (j + m - 1) (by omega)
    rw [List.getElem?_eq_getElem (by rw [hk]; omega)] at h5
    have := (Array.getElem?_eq_some_iff.1 h5).1
    omega
  rw [x_loadm w hu hd hi b (o + i * k + j) hlast]
  congr 3
  have hCl : C.size = m := by rw [← Array.length_toList, ← hC]; simp [hk]; omega
  apply Array.ext
  · simp [hCl]; omega
  · intro t t1 t2
    have t3 : t < m := by rw [hCl] at t2; exact t2
    have h5 := hc2 (j + t) (by omega)
    rw [List.getElem?_eq_getElem (by rw [hk]; omega)] at h5
    have h6 : C.toList[t]? = some ((enc x)[j + t]'(by rw [hk]; omega)) := by
      rw [← hC, List.getElem?_take_of_lt t3, List.getElem?_drop, List.getElem?_eq_getElem (by rw [hk]; omega)]
    rw [Array.getElem?_toList] at h6
    rw [Array.getElem_extract, (Array.getElem?_eq_some_iff.1 h6).2]
    have h7 := (Array.getElem?_eq_some_iff.1 h5).2
    simp only [← Nat.add_assoc] at h7
    exact h7
/-- an element of a slice that is read -/
theorem sv_load {P : Program} {α : Type} {enc : α → List Value} {k : Nat} (hk : ∀ x, (enc x).length = k) {T : TypeId} {d : TypeDesc} (hu : P.underlying T = some d) (hd : d.isRow = true) (hi : (P.info? T).map (·.size) = some k) (k0 : 0 < k) {w : World} {L : List α} {n b o cap : Nat}
    (h : SV w (.slice (some ⟨b, o, none⟩) n cap) n (fl enc L)) {i : Nat} {x : α} (hx : L[i]? = some x) (C : Array Value) (hC : enc x = C.toList) : exLoad P T (.pointer (some ⟨b, o + i * k, none⟩)) w = .ok (.value (.agg C)) w :=
  sv_part (P := P) hk hu hd hi k0 h (j := 0) hx (by omega) C (by rw [List.drop_zero, List.take_of_length_le (by rw [hk]; exact Nat.le_refl _), hC])
theorem sv_cell {α : Type} {enc : α → List Value} {k : Nat} (hk : ∀ x, (enc x).length = k) {w : World} {L : List α} {n b o cap : Nat}
    (h : SV w (.slice (some ⟨b, o, none⟩) n cap) n (fl enc L)) {i j : Nat} {x : α} (hx : L[i]? = some x) (hj : j < k) : w.cell? ⟨b, o + i * k + j, none⟩ = (enc x)[j]? := by
  have hi2 : i < L.length := (List.getElem?_eq_some_iff.1 hx).1
  have hle : (i + 1) * k ≤ L.length * k := Nat.mul_le_mul_right _ hi2
  rw [Nat.add_mul] at hle
  have hll := fl_len hk (L := L)
  obtain ⟨a', cap', e, h1, h2, h3⟩ := h
  injection e with e1 e2 e3
  subst e1
  obtain ⟨b', o', e, hc⟩ := h3 (by intro e; have h9 := Nat.mul_pos (show 0 < L.length by omega) (show 0 < k by omega); rw [e, List.length_nil] at hll; omega)
  injection e with e; injection e with e1 e2; subst e1; subst e2
  rw [Nat.add_assoc, hc (i * k + j) (by rw [hll]; omega), fl_get hk hx hj]
theorem sv_some {α : Type} {enc : α → List Value} {k : Nat} (hk : ∀ x, (enc x).length = k) (k0 : 0 < k) {w : World} {L : List α} {v : Value} {n : Nat} (h : SV w v n (fl enc L)) (h0 : 0 < L.length) : ∃ b o cap, v = .slice (some ⟨b, o, none⟩) n cap := by
  obtain ⟨a', cap', e, h1, h2, h3⟩ := h
  have hll := fl_len hk (L := L)
  have : 0 < L.length * k := Nat.mul_pos h0 k0
  obtain ⟨b', o', e', hc⟩ := h3 (by intro e; rw [e, List.length_nil] at hll; omega)
  exact ⟨b', o', cap', by rw [e, e']⟩
/-- a row out of whose elements those are kept that p lets by: i are kept, j are looked at -/
structure KI {α : Type} (enc : α → List Value) (k : Nat) (p : α → Bool) (L : List α) (n c1 : Nat) (cu : Array Value) (i j : Nat) : Prop where
  sz : cu.size = c1 * k
  hd : cu.toList.take (i * k) = fl enc ((L.take j).filter p)
  tl : (cu.toList.drop (j * k)).take ((n - j) * k) = fl enc (L.drop j)
  one : ∀ u ∈ cu.toList, u.oneCell' = true
  il : i = ((L.take j).filter p).length
  ij : i < j
section
variable {α : Type} {enc : α → List Value} {k : Nat} {p : α → Bool} {L : List α} {n c1 : Nat} {cu : Array Value} {i j : Nat} {x : α}
theorem ki_take (hx : L[j]? = some x) : L.take (j + 1) = L.take j ++ [x] := by
  obtain ⟨hj, e⟩ := List.getElem?_eq_some_iff.1 hx
  rw [List.take_succ_eq_append_getElem hj, e]
theorem ki_drop (hx : L[j]? = some x) : L.drop j = x :: L.drop (j + 1) := by
  obtain ⟨hj, e⟩ := List.getElem?_eq_some_iff.1 hx
  rw [List.drop_eq_getElem_cons hj, e]
theorem KI.next (hk : ∀ x, (enc x).length = k) (h : KI enc k p L n c1 cu i j) (hn : L.length = n) (hx : L[j]? = some x) : (cu.toList.drop ((j + 1) * k)).take ((n - (j + 1)) * k) = fl enc (L.drop (j + 1)) := by
  have hj : j < n := by have := (List.getElem?_eq_some_iff.1 hx).1; omega
  have e := congrArg (List.drop k) h.tl
  have r : (enc x ++ fl enc (L.drop (j + 1))).drop k = fl enc (L.drop (j + 1)) := by rw [List.drop_append_of_le_length (by rw [hk]; exact Nat.le_refl _), List.drop_of_length_le (by rw [hk]; exact Nat.le_refl _), List.nil_append]
  rw [ki_drop hx, fl_cons, r, List.drop_take, List.drop_drop] at e
  rw [← e]
  congr 1
  · rw [show n - j = (n - (j + 1)) + 1 by omega, Nat.add_mul]; omega
  · rw [Nat.add_mul]; congr 1; omega
theorem KI.elt (hk : ∀ x, (enc x).length = k) (h : KI enc k p L n c1 cu i j) (hn : L.length = n) (hx : L[j]? = some x) : cu.extract (j * k) (j * k + k) = (enc x).toArray := by
  have hj : j < n := by have := (List.getElem?_eq_some_iff.1 hx).1; omega
  have e := congrArg (List.take k) h.tl
  have r : (enc x ++ fl enc (L.drop (j + 1))).take k = enc x := by rw [List.take_append_of_le_length (by rw [hk]; exact Nat.le_refl _), List.take_of_length_le (by rw [hk]; exact Nat.le_refl _)]
  rw [ki_drop hx, fl_cons, r, List.take_take, Nat.min_eq_left (by rw [show n - j = (n - (j + 1)) + 1 by omega, Nat.add_mul]; omega)] at e
  apply Array.toList_inj.1
  rw [Array.toList_extract, List.extract_eq_take_drop, show j * k + k - j * k = k by omega, e]
theorem KI.skip (hk : ∀ x, (enc x).length = k) (h : KI enc k p L n c1 cu i j) (hn : L.length = n) (hx : L[j]? = some x) (hp : p x = false) : KI enc k p L n c1 cu i (j + 1) := by
  have e : (L.take (j + 1)).filter p = (L.take j).filter p := by rw [ki_take hx, List.filter_append]; simp [hp]
  exact ⟨h.sz, by rw [e]; exact h.hd, h.next hk hn hx, h.one, by rw [e]; exact h.il, by have := h.ij; omega⟩
theorem KI.keep (hk : ∀ x, (enc x).length = k) (h : KI enc k p L n c1 cu i j) (hn : L.length = n) (hc : n ≤ c1) (hx : L[j]? = some x) (hp : p x = true) (X : Array Value) (hX : X.toList = enc x) (h1 : ∀ u ∈ enc x, u.oneCell' = true) :
    KI enc k p L n c1 (cu.extract 0 (i * k) ++ X ++ cu.extract (i * k + X.size) cu.size) (i + 1) (j + 1) := by
  have hij := h.ij
  have hj : j < n := by have := (List.getElem?_eq_some_iff.1 hx).1; omega
  have hXs : X.size = k := by rw [← Array.length_toList, hX, hk]
  have e : (L.take (j + 1)).filter p = (L.take j).filter p ++ [x] := by rw [ki_take hx, List.filter_append]; simp [hp]
  have b1 : (i + 1) * k ≤ j * k := Nat.mul_le_mul_right _ hij
  have b2 : (j + 1) * k ≤ c1 * k := Nat.mul_le_mul_right _ (by omega)
  rw [Nat.add_mul] at b1 b2
  have hsz := h.sz
  have hlen : cu.toList.length = c1 * k := by simpa using hsz
  have c : (cu.extract 0 (i * k) ++ X ++ cu.extract (i * k + X.size) cu.size).toList = cu.toList.take (i * k) ++ (enc x ++ cu.toList.drop (i * k + k)) := by
    rw [hXs]
    simp only [Array.toList_append, Array.toList_extract, List.extract_eq_take_drop, List.drop_zero, Nat.sub_zero, hX, List.append_assoc]
    have r : (cu.toList.drop (i * k + k)).take (cu.size - (i * k + k)) = cu.toList.drop (i * k + k) := List.take_of_length_le (by simp)
    rw [r]
  have l1 : (cu.toList.take (i * k)).length = i * k := by rw [List.length_take, hlen]; omega
  refine ⟨?_, ?_, ?_, ?_, ?_, by omega⟩
  · rw [← Array.length_toList, c]; simp only [List.length_append, l1, hk, List.length_drop, hlen]; omega
  · rw [c, e, fl_append, fl_one, ← h.hd, ← List.append_assoc, List.take_append_of_le_length (by rw [List.length_append, l1, hk, Nat.add_mul]; omega), List.take_of_length_le (by rw [List.length_append, l1, hk, Nat.add_mul]; omega)]
  · rw [c, ← List.append_assoc, List.drop_append, List.drop_of_length_le (by rw [List.length_append, l1, hk, Nat.add_mul]; omega), List.nil_append, List.drop_drop, List.length_append, l1, hk, ← h.next hk hn hx]
    congr 2
    rw [Nat.add_mul]; omega
  · rw [c]
    intro u hu
    rcases List.mem_append.1 hu with hu | hu
    · exact h.one u (List.mem_of_mem_take hu)
    · rcases List.mem_append.1 hu with hu | hu
      · exact h1 u hu
      · exact h.one u (List.mem_of_mem_drop hu)
  · rw [e, List.length_append, ← h.il]; rfl
theorem KI.start (hk : ∀ x, (enc x).length = k) (hn : L.length = n) (hs : cu.size = c1 * k) (ht : cu.toList.take (n * k) = fl enc L) (h1 : ∀ u ∈ cu.toList, u.oneCell' = true) (hall : ∀ j, j < i → ∀ x, L[j]? = some x → p x = true) (hx : L[i]? = some x) (hp : p x = false) : KI enc k p L n c1 cu i (i + 1) := by
  have hi : i < n := by have := (List.getElem?_eq_some_iff.1 hx).1; omega
  have ef : (L.take i).filter p = L.take i := by
    rw [List.filter_eq_self]
    intro y hy
    obtain ⟨t, ht, e⟩ := List.getElem_of_mem hy
    rw [List.length_take] at ht
    refine hall t (by omega) y ?_
    rw [← e, List.getElem_take, List.getElem?_eq_getElem]
  have b1 : (i + 1) * k ≤ n * k := Nat.mul_le_mul_right _ hi
  have e : (L.take (i + 1)).filter p = L.take i := by rw [ki_take hx, List.filter_append, ef]; simp [hp]
  refine ⟨hs, ?_, ?_, h1, by rw [e, List.length_take]; omega, by omega⟩
  · rw [e, ← fl_take hk, ← ht, List.take_take, Nat.min_eq_left (by rw [Nat.add_mul] at b1; omega)]
  · rw [← fl_drop hk, ← ht, List.drop_take]
    congr 1
    rw [Nat.sub_mul]
/-- behind the last one the rest is cleared -/
theorem KI.done (h : KI enc k p L n c1 cu i n) (hn : L.length = n) (hc : n ≤ c1) (zs : List Value) (hz : zs.length = (n - i) * k) (h1 : ∀ u ∈ zs, u.oneCell' = true) :
    (cu.toList.take (i * k) ++ zs ++ cu.toList.drop (i * k + (n - i) * k)).toArray.size = c1 * k ∧ (cu.toList.take (i * k) ++ zs ++ cu.toList.drop (i * k + (n - i) * k)).take (i * k) = fl enc (L.filter p) ∧
    (∀ u ∈ cu.toList.take (i * k) ++ zs ++ cu.toList.drop (i * k + (n - i) * k), u.oneCell' = true) ∧ i = (L.filter p).length := by
  have hsz := h.sz
  have hij := h.ij
  have hlen : cu.toList.length = c1 * k := by simpa using hsz
  have b1 : n * k ≤ c1 * k := Nat.mul_le_mul_right _ hc
  have b2 : i * k + (n - i) * k = n * k := by rw [← Nat.add_mul]; congr 1; omega
  have l1 : (cu.toList.take (i * k)).length = i * k := by rw [List.length_take, hlen]; omega
  have eL : L.take n = L := List.take_of_length_le (by omega)
  have e := h.hd
  have ei := h.il
  rw [eL] at e ei
  refine ⟨?_, ?_, ?_, ei⟩
  · simp only [List.size_toArray, List.length_append, l1, hz, List.length_drop, hlen]; omega
  · rw [List.append_assoc, List.take_append_of_le_length (by omega), List.take_of_length_le (by omega), e]
  · intro u hu
    rcases List.mem_append.1 hu with hu | hu
    · rcases List.mem_append.1 hu with hu | hu
      · exact h.one u (List.mem_of_mem_take hu)
      · exact h1 u hu
    · exact h.one u (List.mem_of_mem_drop hu)
end
section
variable {P : Program} {T TS : TypeId} {k bs : Nat} {z : Value} {ops : Array Oper} {Q : Exit → Act → World → Prop} {i : Nat} {t : Tr} {a : Act} {o : Oper} {S : Nat → Prop} {w0 w w' : World} {H : List (Nat × Array Value)} {base : Nat}
/-- a row of one's own more -/
theorem Mm.more {g : Nat} {cur : Array Value} {T : TypeId} (M : Mm S w0 H w) (hT : T ≠ 5) (h : w.heap[g]? = some (.cells cur T (0, 0))) (hS : S g ∨ w0.heap.size ≤ g) (hH : ∀ p ∈ H, p.1 ≠ g) : Mm S w0 ((g, cur) :: H) w := by
  refine ⟨M.fr, fun p hp => ?_, ?_⟩
  · rcases List.mem_cons.1 hp with e | e
    · subst e; exact ⟨hS, T, hT, h⟩
    · exact M.own p e
  · rw [List.map_cons, List.nodup_cons]
    refine ⟨fun hm => ?_, M.nd⟩
    obtain ⟨p, hp, e⟩ := List.mem_map.1 hm
    exact hH p hp e
/-- what is known of the row of a slice of one's own that is not empty -/
structure Rw (B k : Nat) (v : Value) (n : Nat) (xs : List Value) (g c1 : Nat) (cur : Array Value) : Prop where
  v : v = .slice (some ⟨g, 0, none⟩) n c1
  c0 : 0 < c1
  b : B ≤ g
  sz : cur.size = c1 * k
  nc : n ≤ c1
  mx : c1 ≤ maxLen
  tk : cur.toList.take (n * k) = xs
  one : ∀ u ∈ cur.toList, u.oneCell' = true
theorem Rw.ob {k : Nat} {v : Value} {n : Nat} {xs : List Value} {g c1 : Nat} {cur : Array Value} (R : Rw base k v n xs g c1 cur) : obk v = some g := by
  obtain ⟨c, rfl⟩ : ∃ c, c1 = c + 1 := ⟨c1 - 1, by have := R.c0; omega⟩
  rw [R.v]; rfl
theorem Rw.ow {k : Nat} {v : Value} {n : Nat} {xs : List Value} {g c1 : Nat} {cur : Array Value} (R : Rw base k v n xs g c1 cur) (M : Mm S w0 H w) (hm : (g, cur) ∈ H) : Ow w base k v n xs := by
  obtain ⟨c, rfl⟩ : ∃ c, c1 = c + 1 := ⟨c1 - 1, by have := R.c0; omega⟩
  rw [R.v]; exact M.ow hm R.b R.nc R.mx R.sz R.tk R.one
theorem Mm.reown {k : Nat} {v : Value} {n : Nat} {xs : List Value} (M : Mm S w0 H w) (O : Ow w base k v n xs) (h0 : 0 < n) (hS : ∀ g, obk v = some g → (S g ∨ w0.heap.size ≤ g) ∧ ∀ p ∈ H, p.1 ≠ g) :
    ∃ g c1 cur, Rw base k v n xs g c1 cur ∧ Mm S w0 ((g, cur) :: H) w := by
  rcases O.2 with ⟨a, rfl, rfl⟩ | ⟨g, cap, cur, T, rfl, h1, hT, h2, h3, h4, h5, h6, h7⟩
  · omega
  · obtain ⟨s1, s2⟩ := hS g rfl
    exact ⟨g, cap + 1, cur, ⟨rfl, by omega, h1, h5, h3, h4, h6, h7⟩, M.more hT h2 s1 s2⟩
theorem Mm.off {A B : List (Nat × Array Value)} {g : Nat} {c : Array Value} (M : Mm S w0 (A ++ (g, c) :: B) w) : ∀ p ∈ A ++ B, p.1 ≠ g := by
  have h := M.nd
  rw [List.map_append, List.map_cons, List.nodup_append] at h
  obtain ⟨h1, h2, h3⟩ := h
  rw [List.nodup_cons] at h2
  intro p hp e
  rcases List.mem_append.1 hp with hp | hp
  · exact h3 p.1 (List.mem_map_of_mem hp) g (List.mem_cons_self ..) e
  · exact h2.1 (List.mem_map.2 ⟨p, hp, e⟩)
/-- a step: a call that takes a slice of one's own and answers one -/
theorem wpT_owc {k : Nat} {n' : Nat} {xs' : List Value} {g : Nat} {cur : Array Value} {H' : List (Nat × Array Value)} {f : FuncId} {args : Array Value} (dst : Nat) (M : Mm S w0 H w) (A B : List (Nat × Array Value)) (hH : H = A ++ (g, cur) :: B) (hH' : A ++ B = H') (hdst : o.dst = some dst) (ho : ops[i]? = some o) (hw : Region.wanted o (yielded ops a.tmps) = true) (hrun : (execOp a.eval o).run P w = .ok (.enter f args) w)
    (hc : Calls P f args w fun e w' => ∃ v', e = .returned v' ∧ Ow w' base k v' n' xs' ∧ Fr (fun x => some g = some x) w w' ∧ (∀ x, obk v' = some x → some g = some x ∨ w.heap.size ≤ x)) (h0 : 0 < n')
    (h : ∀ g' c1' cur' w', Rw base k (.slice (some ⟨g', 0, none⟩) n' c1') n' xs' g' c1' cur' → Mm S w0 ((g', cur') :: H') w' → wpT P ops Q t (a.put (some dst) (.slice (some ⟨g', 0, none⟩) n' c1')) w') : wpT P ops Q (.op i t) a w := by
  subst hH; subst hH'
  have hg := M.off
  have hsub : List.Sublist (A ++ B) (A ++ (g, cur) :: B) := List.Sublist.append_left (List.sublist_cons_self ..) A
  refine wpT_call ho hw hrun hc (fun e w' => ?_)
  rintro ⟨v', he, hO, hf, hb⟩
  refine ⟨v', he, ?_⟩
  rw [hdst]
  have hgS := (M.own (g, cur) (by simp)).1
  have M1 : Mm S w0 (A ++ B) w' := (M.sub hsub).frw hf (fun x hx => by injection hx with hx; subst hx; exact ⟨hgS, hg⟩)
  obtain ⟨g', c1', cur', R, M2⟩ := M1.reown hO h0 (fun x hx => by
    rcases hb x hx with e | e
    · injection e with e; subst e; exact ⟨hgS, hg⟩
    · refine ⟨.inr (Nat.le_trans M.size e), fun p hp => ?_⟩
      have := (M.sub hsub).lt (b := p.1) (c := p.2) hp
      omega)
  obtain ⟨rfl⟩ := R.v
  exact h g' c1' cur' w' R M2
theorem grow_elt {α : Type} {enc : α → List Value} {k n : Nat} {L : List α} {cur : Array Value} {i : Nat} {x : α} (hk : ∀ x, (enc x).length = k) (hn : L.length = n) (ht : cur.toList.take (n * k) = fl enc L) (hx : L[i]? = some x) (j m : Nat) (hj : j + m ≤ k) : cur.extract (i * k + j) (i * k + j + m) = (((enc x).drop j).take m).toArray := by
  have hi : i < n := by have := (List.getElem?_eq_some_iff.1 hx).1; omega
  have hle : (i + 1) * k ≤ n * k := Nat.mul_le_mul_right _ hi
  rw [Nat.add_mul] at hle
  apply Array.toList_inj.1
  rw [Array.toList_extract, List.extract_eq_take_drop, show i * k + j + m - (i * k + j) = m by omega]
  have e1 : (cur.toList.drop (i * k + j)).take m = ((cur.toList.take (n * k)).drop (i * k + j)).take m := by
    rw [List.drop_take, List.take_take, Nat.min_eq_left (by omega)]
  rw [e1, ht, ← List.drop_drop, fl_drop hk, ki_drop hx, fl_cons, List.drop_append_of_le_length (by rw [hk]; omega), List.take_append_of_le_length (by rw [List.length_drop, hk]; omega)]
theorem grow_cell {α : Type} {enc : α → List Value} {k n : Nat} {L : List α} {cur : Array Value} {i : Nat} {x : α} (hk : ∀ x, (enc x).length = k) (hn : L.length = n) (ht : cur.toList.take (n * k) = fl enc L) (hx : L[i]? = some x) (j : Nat) (hj : j < k) : cur[i * k + j]? = (enc x)[j]? := by
  have hi : i < n := by have := (List.getElem?_eq_some_iff.1 hx).1; omega
  have hle : (i + 1) * k ≤ n * k := Nat.mul_le_mul_right _ hi
  rw [Nat.add_mul] at hle
  rw [← fl_get hk hx hj, ← ht, List.getElem?_take_of_lt (by omega), Array.getElem?_toList]
end
end Go.Proofs.Ytojkcbhmhfjioaa
