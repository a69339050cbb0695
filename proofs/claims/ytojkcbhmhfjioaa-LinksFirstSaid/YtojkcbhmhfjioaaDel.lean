/-
  append(s[:i], s[j:]...) and clear, in a row of one's own: an element is taken out; own work.
-/
import Derived.Test.YtojkcbhmhfjioaaGs
set_option linter.unusedSimpArgs false
set_option linter.unusedVariables false
namespace Go.Proofs.Ytojkcbhmhfjioaa
open Go.RowKit
/-- a step: append(s[:i], s[j:]...) of a row of one's own -/
theorem wpT_gcut {P : Program} {T TS : TypeId} {k bs : Nat} {z : Value} {ops : Array Oper} {Q : Exit → Act → World → Prop} {ix : Nat} {t : Tr} {a : Act} {o : Oper} {S : Nat → Prop} {w0 w : World} {H : List (Nat × Array Value)} {s x : Operand} {g c1 j m c i0 : Nat} {C : Array Value} {ad : Addr} (dst : Nat) (M : Mm S w0 H w) (E : Elt P T TS k bs z) (r : Nat) (hk : H[r]? = some (g, C)) (hdst : o.dst = some dst) (ho : ops[ix]? = some o) (hop : o.op = .call { callee := .builtin .append, args := #[s, x], argTypes := #[TS, TS] }) (hw : Region.wanted o (yielded ops a.tmps) = true)
    (hs : a.eval s = .slice (some ⟨g, 0, none⟩) i0 c1) (hx : a.eval x = .slice (some ad) m c) (hc : 0 < c1) (hsz : C.size = c1 * k) (h1 : ∀ u ∈ C.toList, u.oneCell' = true) (hj : j + m ≤ c1) (hi : i0 ≤ j) (ha : m = 0 ∨ ad = ⟨g, j * k, none⟩)
    (h : ∀ w', Mm S w0 (H.set r (g, (C.toList.take (i0 * k) ++ ((C.toList.drop (j * k)).take (m * k)) ++ C.toList.drop (i0 * k + m * k)).toArray)) w' → wpT P ops Q t (a.put (some dst) (.slice (some ⟨g, 0, none⟩) (i0 + m) c1)) w') : wpT P ops Q (.op ix t) a w := by
  obtain ⟨cap, rfl⟩ : ∃ cap, c1 = cap + 1 := ⟨c1 - 1, by omega⟩
  obtain ⟨_, T', hT', hg⟩ := M.own _ (List.mem_of_getElem? hk)
  have hr := ow_cut (w := w) E o.type (c := c) hg hsz h1 i0 hj hi ad ha
  refine wpT_gsetd dst M r hk hdst ho hw (v := .slice (some ⟨g, 0, none⟩) (i0 + m) (cap + 1)) ?_ h
  simp only [execOp, hop, resolve, invoke, builtin, Sem.run_bind, Sem.run_pure, Result.andThen_ok, List.map_toArray, List.map_cons, List.map_nil, hs, hx, hr]
theorem eraseIdx_td {α : Type} : ∀ (L : List α) (i : Nat), L.eraseIdx i = L.take i ++ L.drop (i + 1)
  | [], i => by simp
  | x :: L, 0 => by simp
  | x :: L, i + 1 => by simp [eraseIdx_td L i]
theorem cut_fin {α : Type} {enc : α → List Value} {k : Nat} (hk : ∀ x, (enc x).length = k) {L : List α} {n c1 i i1 m : Nat} {cur cu2 cu3 : Array Value} (hn : L.length = n) (hi : i < n) (hi1 : i1 = i + 1) (hm : m = n - i1) (hnc : n ≤ c1) (hs : cur.size = c1 * k) (ht : cur.toList.take (n * k) = fl enc L) (h1 : ∀ u ∈ cur.toList, u.oneCell' = true)
    (zs : List Value) (hz : zs.length = 1 * k) (hz1 : ∀ u ∈ zs, u.oneCell' = true)
    (e2 : cu2 = (cur.toList.take (i * k) ++ ((cur.toList.drop (i1 * k)).take (m * k)) ++ cur.toList.drop (i * k + m * k)).toArray)
    (e3 : cu3 = (cu2.toList.take ((i + m) * k) ++ zs ++ cu2.toList.drop ((i + m) * k + 1 * k)).toArray) :
    cu3.size = c1 * k ∧ cu3.toList.take ((i + m) * k) = fl enc (L.eraseIdx i) ∧ (∀ u ∈ cu3.toList, u.oneCell' = true) := by
  have hlen : cur.toList.length = c1 * k := by simpa using hs
  have b1 : n * k ≤ c1 * k := Nat.mul_le_mul_right _ hnc
  have b2 : i1 * k + m * k = n * k := by rw [← Nat.add_mul]; congr 1; omega
  have b3 : i1 * k = i * k + k := by rw [hi1, Nat.add_mul, Nat.one_mul]
  have b4 : (i + m) * k = i * k + m * k := Nat.add_mul _ _ _
  have l1 : (cur.toList.take (i * k)).length = i * k := by rw [List.length_take, hlen]; omega
  have l2 : ((cur.toList.drop (i1 * k)).take (m * k)).length = m * k := by rw [List.length_take, List.length_drop, hlen]; omega
  have l3 : cu2.toList.length = c1 * k := by rw [e2]; simp only [List.length_append, l1, l2, List.length_drop, hlen]; omega
  have l4 : (cu2.toList.take ((i + m) * k)).length = (i + m) * k := by rw [List.length_take, l3]; omega
  have t2 : cu2.toList.take ((i + m) * k) = cur.toList.take (i * k) ++ ((cur.toList.drop (i1 * k)).take (m * k)) := by
    rw [e2]
    simp only
    rw [List.take_append_of_le_length (by rw [List.length_append, l1, l2]; omega), List.take_of_length_le (by rw [List.length_append, l1, l2]; omega)]
  have o2 : ∀ u ∈ cu2.toList, u.oneCell' = true := by
    intro u hu
    rw [e2] at hu
    rcases List.mem_append.1 hu with hu | hu
    · rcases List.mem_append.1 hu with hu | hu
      · exact h1 u (List.mem_of_mem_take hu)
      · exact h1 u (List.mem_of_mem_drop (List.mem_of_mem_take hu))
    · exact h1 u (List.mem_of_mem_drop hu)
  refine ⟨?_, ?_, ?_⟩
  · rw [e3]; simp only [List.size_toArray, List.length_append, l4, hz, List.length_drop, l3]; omega
  · rw [e3]
    simp only
    rw [List.append_assoc, List.take_append_of_le_length (by omega), List.take_of_length_le (by omega), t2, eraseIdx_td, fl_append, ← hi1]
    congr 1
    · rw [← fl_take hk i, ← ht, List.take_take, Nat.min_eq_left (by omega)]
    · rw [← fl_drop hk i1, ← ht, List.drop_take, show n * k - i1 * k = m * k by omega]
  · intro u hu
    rw [e3] at hu
    rcases List.mem_append.1 hu with hu | hu
    · rcases List.mem_append.1 hu with hu | hu
      · exact o2 u (List.mem_of_mem_take hu)
      · exact hz1 u hu
    · exact o2 u (List.mem_of_mem_drop hu)
end Go.Proofs.Ytojkcbhmhfjioaa
