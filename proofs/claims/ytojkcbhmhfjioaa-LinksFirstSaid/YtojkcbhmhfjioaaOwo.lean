/-
  A slice of one's own that need not begin at its row's begin; own work.
-/
import Derived.Test.YtojkcbhmhfjioaaObj
set_option linter.unusedSimpArgs false
set_option linter.unusedVariables false
namespace Go.Proofs.Ytojkcbhmhfjioaa
open Go.RowKit
/-- n elements of k cells, xs, at an offset of a row of one's own -/
def Oo (w : World) (base : Nat) (k : Nat) (v : Value) (n : Nat) (xs : List Value) : Prop :=
  xs.length = n * k ∧ ((∃ a, v = .slice a 0 0 ∧ n = 0) ∨
   ∃ g o cap cur T, v = .slice (some ⟨g, o, none⟩) n (cap + 1) ∧ base ≤ g ∧ T ≠ 5 ∧ w.heap[g]? = some (.cells cur T (0, 0)) ∧ n ≤ cap + 1 ∧ cap + 1 ≤ maxLen ∧ cur.size = o + (cap + 1) * k ∧ (cur.toList.drop o).take (n * k) = xs ∧ ∀ u ∈ cur.toList, u.oneCell' = true)
section
variable {P : Program} {T TS : TypeId} {k bs : Nat} {z : Value} {w w' : World} {base : Nat} {v : Value} {n : Nat} {xs : List Value}
theorem Ow.oo (h : Ow w base k v n xs) : Oo w base k v n xs := by
  refine ⟨h.1, ?_⟩
  rcases h.2 with ⟨a, rfl, rfl⟩ | ⟨g, cap, cur, T, rfl, h1, hT, h2, h3, h4, h5, h6, h7⟩
  · exact .inl ⟨a, rfl, rfl⟩
  · exact .inr ⟨g, 0, cap, cur, T, rfl, h1, hT, h2, h3, h4, by rw [Nat.zero_add]; exact h5, by rw [List.drop_zero]; exact h6, h7⟩
theorem Oo.nil (w : World) (base : Nat) (k : Nat) (a : Option Addr) : Oo w base k (.slice a 0 0) 0 [] := ⟨by simp, .inl ⟨a, rfl, rfl⟩⟩
theorem Oo.shape (h : Oo w base k v n xs) : ∃ a cap, v = .slice a n cap ∧ n ≤ cap ∧ cap ≤ maxLen := by
  rcases h.2 with ⟨a, rfl, rfl⟩ | ⟨g', o, cap, cur, T, rfl, h1, hT, h2, h3, h4, h5, h6⟩
  · exact ⟨_, _, rfl, Nat.le_refl _, Nat.zero_le _⟩
  · exact ⟨_, _, rfl, h3, h4⟩
theorem Oo.at_ (h : Oo w base k v n xs) : ∀ g, obk v = some g → base ≤ g ∧ g < w.heap.size := by
  intro g hg
  rcases h.2 with ⟨a, rfl, rfl⟩ | ⟨g', o, cap, cur, T, rfl, h1, hT, h2, h3, h4, h5, h6⟩
  · cases a <;> simp [obk] at hg
  · simp only [obk, Option.some.injEq] at hg
    subst hg
    exact ⟨h1, (Array.getElem?_eq_some_iff.1 h2).1⟩
theorem Oo.blk (h : Oo w base k v n xs) (hg : ∀ g, obk v = some g → w'.heap[g]? = w.heap[g]?) : Oo w' base k v n xs := by
  refine ⟨h.1, ?_⟩
  rcases h.2 with ⟨a, rfl, rfl⟩ | ⟨g', o, cap, cur, T, rfl, h1, hT, h2, h3, h4, h5, h6⟩
  · exact .inl ⟨a, rfl, rfl⟩
  · exact .inr ⟨g', o, cap, cur, T, rfl, h1, hT, (hg g' rfl).trans h2, h3, h4, h5, h6⟩
theorem Oo.fr {S : Nat → Prop} (h : Oo w base k v n xs) (hf : Fr S w w') (hS : ∀ g, obk v = some g → ¬ S g) : Oo w' base k v n xs := h.blk fun g hg => hf.block g (h.at_ g hg).2 (hS g hg)
theorem Oo.stb (base k : Nat) (v : Value) (n : Nat) (xs : List Value) : Stb (fun g => obk v = some g) (fun w => Oo w base k v n xs) :=
  ⟨fun h hf hd => h.fr hf hd, fun h hg => (h.at_ _ hg).2⟩
theorem Oo.sv (h : Oo w base k v n xs) : SV w v n xs := by
  have h0 := h.1
  rcases h.2 with ⟨a, rfl, rfl⟩ | ⟨g', o, cap, cur, T, rfl, h1, hT, h2, h3, h4, h5, h6, h7⟩
  · refine ⟨a, 0, rfl, Nat.le_refl _, Nat.zero_le _, fun hx => absurd ?_ hx⟩
    exact List.eq_nil_of_length_eq_zero (by simpa using h.1)
  · refine ⟨_, _, rfl, h3, h4, fun _ => ⟨g', o, rfl, fun i hi => ?_⟩⟩
    rw [← h6]
    rw [h0] at hi
    rw [List.getElem?_take_of_lt hi, List.getElem?_drop]
    simp [World.cell?, h2]
theorem append_room_off (t ty e : TypeId) (i : TypeInfo) (ht : P.underlying t = some (.slice e)) (hi : P.info? e = some i)
    (g o sLen sCap : Nat) (cur : Array Value) (T : TypeId) (hg : w.heap[g]? = some (.cells cur T (0, 0)))
    (a : Addr) (m c : Nat) (news : List Value) (hl : news.length = m * i.size) (hnews : ∀ j u, news[j]? = some u → w.cell? (a.add j) = some u) (h1 : ∀ u ∈ news, u.oneCell' = true)
    (hroom : sLen + m ≤ sCap) (hfit : o + sLen * i.size + news.length ≤ cur.size) :
    (Builtin.append_ #[t, t] ty #[.slice (some ⟨g, o, none⟩) sLen sCap, .slice (some a) m c]).run P w =
      .ok (.slice (some ⟨g, o, none⟩) (sLen + m) sCap) (w.setRow g (cur.toList.take (o + sLen * i.size) ++ news ++ cur.toList.drop (o + sLen * i.size + news.length)).toArray) := by
  have hf := run_firstCells_some (P := P) w i.size m a m c news hl hnews
  have hst := run_storeCells_at P g (o + sLen * i.size) T news 0 cur w hg (by simpa using hfit) h1
  simp only [Nat.add_zero] at hst
  have e : (if sLen * i.size = 0 then (⟨g, o, none⟩ : Addr) else ⟨g, o + sLen * i.size, none⟩) = ⟨g, o + sLen * i.size, none⟩ := by
    split
    · rename_i h; rw [h, Nat.add_zero]
    · rfl
  simp [Builtin.append_, run_underlying ht, sizeOf, typeInfo, hi, Builtin.lenOf, hroom, hf, Addr.add, e, hst]
/-- append of one element -/
theorem oo_append (E : Elt P T TS k bs z) (ty : TypeId) (h : Oo w base k v n xs) {u : Value} {ys : List Value} (hu : SV w u 1 ys) (hl : ys.length = 1 * k) (h1 : ∀ u ∈ ys, u.oneCell' = true) (hlen : n + 1 ≤ 1000000) (hbase : base ≤ w.heap.size) :
    ∃ v' w', (Builtin.append_ #[TS, TS] ty #[v, u]).run P w = .ok v' w' ∧ Oo w' base k v' (n + 1) (xs ++ ys) ∧ w.grownBy w' (obk v) ∧ (∀ g, obk v' = some g → obk v = some g ∨ g = w.heap.size) := by
  rcases h.2 with ⟨a, hv, hn0⟩ | ⟨g', o', cap, cur, T', hv, k1, kT, k2, k3, k4, k5, k6, k7⟩
  · have hO : Ow w base k v n xs := ⟨h.1, .inl ⟨a, hv, hn0⟩⟩
    obtain ⟨v', w', a1, a2, a3, a4⟩ := ow_append E ty hO hu hl h1 hlen hbase
    exact ⟨v', w', a1, a2.oo, a3, a4⟩
  · subst hv
    obtain ⟨i, hi0, hz0, hz1, hz2⟩ := info_parts E.i
    have hk0 := E.k0
    have hbs := E.bs1
    have hby : (n + 1) * bs ≤ 140737488355328 := by
      have : (n + 1) * bs ≤ 1000000 * 1000000 := Nat.mul_le_mul hlen hbs
      omega
    have h63 : n + 1 ≤ maxLen := by unfold maxLen; omega
    obtain ⟨ad, c, rfl, hmc, hcm, hc⟩ := hu
    have hyne : ys ≠ [] := by
      intro e
      subst e
      simp at hl; omega
    obtain ⟨b, o, rfl, hcell⟩ := hc hyne
    have hnews : ∀ j y, ys[j]? = some y → w.cell? ((⟨b, o, none⟩ : Addr).add j) = some y := by
      intro j y hj
      have hlt : j < ys.length := (List.getElem?_eq_some_iff.1 hj).1
      rw [Addr.add_mid, hcell j hlt, hj]
    have hlen2 : (xs ++ ys).length = (n + 1) * k := by rw [List.length_append, h.1, hl, Nat.add_mul]
    subst hz1; subst hz2
    by_cases hroom : n + 1 ≤ cap + 1
    · have hle : (n + 1) * i.size ≤ (cap + 1) * i.size := Nat.mul_le_mul_right _ hroom
      have hfit : o' + n * i.size + ys.length ≤ cur.size := by rw [hl, k5]; rw [Nat.add_mul] at hle; omega
      refine ⟨_, _, append_room_off TS ty T i E.u hi0 g' o' n (cap + 1) cur T' k2 ⟨b, o, none⟩ 1 c ys hl hnews h1 hroom hfit, ⟨hlen2, .inr ⟨g', o', cap, _, T', rfl, k1, kT, setRow_heap w g' cur _ T' _ k2, hroom, k4, ?_, ?_, ?_⟩⟩, ⟨rfl, rfl, rfl, by simp, fun k _ hk => setRow_other w g' k _ (fun e => hk (by simp [obk, e]))⟩, fun g hg => .inl hg⟩
      · simp only [List.size_toArray, List.length_append, List.length_take, List.length_drop, Array.length_toList]
        omega
      · have ht : cur.toList.take (o' + n * i.size) = cur.toList.take o' ++ xs := by
          rw [List.take_add, k6]
        have hlo : (cur.toList.take o').length = o' := by rw [List.length_take, Array.length_toList]; omega
        simp only
        rw [ht, List.append_assoc, List.append_assoc, List.drop_append_of_le_length (by omega), List.drop_of_length_le (by omega), List.nil_append, ← List.append_assoc, ← hlen2]
        exact List.take_left
      · intro u hu
        simp only [List.mem_append] at hu
        rcases hu with (hu | hu) | hu
        · exact k7 u (List.mem_of_mem_take hu)
        · exact h1 u hu
        · exact k7 u (List.mem_of_mem_drop hu)
    · have holds : ∀ j u, xs[j]? = some u → w.cell? ((⟨g', o', none⟩ : Addr).add j) = some u := by
        intro j u hj
        have hlt := (List.getElem?_eq_some_iff.1 hj).1
        rw [h.1] at hlt
        rw [Addr.add_mid]
        rw [← k6, List.getElem?_take_of_lt hlt, List.getElem?_drop] at hj
        simpa [World.cell?, k2] using hj
      have hge := grownCap_ge w (n + 1) (cap + 1) T
      have hcm2 : grownCap w (n + 1) (cap + 1) T ≤ maxLen := grownCap_le_maxLen w (n + 1) (cap + 1) T h63
      refine ⟨_, _, run_append_grow (P := P) w TS ty T i z E.u hi0 hz0 ⟨g', o', none⟩ n (cap + 1) xs h.1 holds ⟨b, o, none⟩ 1 c ys hl hnews (by omega) (by omega) (growslice_fits (by omega) hby), ?_, ⟨rfl, rfl, rfl, by simp, fun k hk _ => heap_alloc_old w.drew _ hk⟩, ?_⟩
      · generalize grownCap w (n + 1) (cap + 1) T = G at hge hcm2
        obtain ⟨G, rfl⟩ : ∃ G', G = G' + 1 := ⟨G - 1, by omega⟩
        refine Ow.oo ⟨hlen2, .inr ⟨w.heap.size, G, _, T, rfl, hbase, E.nb, heap_alloc_new w.drew _, hge, hcm2, ?_, ?_, ?_⟩⟩
        · simp only [Array.size_append, List.size_toArray, size_zeroCells, E.zs, h.1, hl, ← Nat.add_mul]
          congr 1
          omega
        · simp only [Array.toList_append, List.append_assoc]
          rw [← List.append_assoc, ← hlen2]
          exact List.take_left
        · intro u hu
          simp only [Array.toList_append, List.mem_append] at hu
          rcases hu with (hu | hu) | hu
          · exact k7 u (List.mem_of_mem_drop (List.mem_of_mem_take (by rw [k6]; exact hu)))
          · exact h1 u hu
          · exact zero_one E.z1 (by rw [E.zs]; exact hk0) _ u hu
      · intro g hg
        generalize grownCap w (n + 1) (cap + 1) T = G at hg
        cases G with
        | zero => simp [obk] at hg
        | succ G => simp [obk] at hg; exact .inr hg.symm
end
end Go.Proofs.Ytojkcbhmhfjioaa
