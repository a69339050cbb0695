/-
  Law 18: SkippedOwn; own work.
-/
import Derived.Test.YtojkcbhmhfjioaaSk10
set_option linter.unusedSimpArgs false
set_option linter.unusedVariables false
namespace Go.Proofs.Ytojkcbhmhfjioaa
open Go.RowKit
/-- two stores -/
structure YA (w : World) (B b : Nat) (L : List Sk.En) (v : Value) (b2 : Nat) (L2 : List Sk.En) (v2 : Value) : Prop where
  so : SO w B b 1000 L v
  co : SO w B b2 1000 L2 v2
  dj : ∀ g, SF b v g → ¬ SF b2 v2 g
/-- a slice of keys that is none of G -/
structure WF (G : Nat → Prop) (w : World) (B : Nat) (u : Value) (m : Nat) (L : List Sk.En) : Prop where
  ow : Ow w B 65 u m (fl eE L)
  dj : ∀ g, G g → obk u ≠ some g
theorem SO.Bw {w : World} {B b : Nat} {room : Int} {L : List Sk.En} {v : Value} (R : SO w B b room L v) : B ≤ w.heap.size := by have := R.lt b (.inl rfl); omega
section
variable {w w' : World} {B b b2 : Nat} {L L' L2 : List Sk.En} {v v2 r t : Value} {m : Nat}
theorem YA.stb (B b : Nat) (L : List Sk.En) (v : Value) (b2 : Nat) (L2 : List Sk.En) (v2 : Value) : Stb (fun g => SF b v g ∨ SF b2 v2 g) (fun w => YA w B b L v b2 L2 v2) :=
  ⟨fun h hf hd => ⟨h.so.fr hf (fun g hg => hd g (.inl hg)), h.co.fr hf (fun g hg => hd g (.inr hg)), h.dj⟩, fun h hg => hg.elim (fun hg => (h.so.lt _ hg).2) (fun hg => (h.co.lt _ hg).2)⟩
theorem WF.stb (G : Nat → Prop) (B : Nat) (u : Value) (m : Nat) (L : List Sk.En) : Stb (fun g => obk u = some g) (fun w => WF G w B u m L) :=
  ⟨fun h hf hd => ⟨h.ow.fr hf hd, h.dj⟩, fun h hg => (h.ow.at_ _ hg).2⟩
theorem YA.Bw (X : YA w B b L v b2 L2 v2) : B ≤ w.heap.size := X.so.Bw
theorem sclo_y (w : World) (R : SO w B b 1000 L v) (hrm : (0 : Int) < 1000) (h9 : L.length ≤ 100000) :
    Calls Try.prog 17 #[.pointer (some ⟨b, 0, none⟩)] w fun e w' => ∃ c : Nat × Value, e = .returned (.pointer (some ⟨c.1, 0, none⟩)) ∧ YA w' B b L v c.1 L c.2 ∧ Fr (SF b v) w w' ∧ ∀ g, (SF b v g ∨ SF c.1 c.2 g) → SF b v g ∨ w.heap.size ≤ g := by
  refine (sclo_e w R hrm h9 R.Bw).mono ?_
  rintro e w' ⟨u, he, hR, hb, hg⟩
  refine ⟨u, he, ⟨R.below hb, hR, fun g h1 h2 => ?_⟩, Fr.of_below hb, fun g h => h.imp id (hg g)⟩
  have := hg g h2; have := (R.lt g h1).2; omega
theorem sall_e2 (w : World) (R : SO w B b 1000 L v) (hrm : (0 : Int) < 1000) (h9 : L.length ≤ 100000) {n : Nat} (hn : L.length = n) :
    Calls Try.prog 14 #[.pointer (some ⟨b, 0, none⟩)] w fun e w' => ∃ u : Value, e = .returned u ∧ Ow w' B 65 u n (fl eE L) ∧ Below w.heap.size w w' ∧ ∀ g, obk u = some g → w.heap.size ≤ g := by
  refine (sall_e w R hrm h9 hn).mono ?_
  rintro e w' ⟨u, he, hO, hb⟩
  exact ⟨u, he, hO.mono (fun g hg => Nat.le_trans R.Bw (hO.at_ g hg).1), hb, fun g hg => (hO.at_ g hg).1⟩
theorem sall_w (w : World) (R : SO w B b 1000 L v) (T : Ow w B 65 t m (fl eE L')) (hrm : (0 : Int) < 1000) (h9 : L.length ≤ 100000) {n : Nat} (hn : L.length = n) :
    Calls Try.prog 14 #[.pointer (some ⟨b, 0, none⟩)] w fun e w' => ∃ u : Value, e = .returned u ∧ WF (fun g => SF b v g ∨ obk t = some g) w' B u n L ∧ Below w.heap.size w w' ∧ ∀ g, obk u = some g → w.heap.size ≤ g := by
  refine (sall_e2 w R hrm h9 hn).mono ?_
  rintro e w' ⟨u, he, hO, hb, hg⟩
  refine ⟨u, he, ⟨hO, fun g h1 h2 => ?_⟩, hb, hg⟩
  have h3 := hg g h2
  rcases h1 with h1 | h1
  · have := (R.lt g h1).2; omega
  · have := (T.at_ g h1).2; omega
theorem ours_w (w : World) {u : Value} {n : Nat} {B0 : Nat} (hO : Ow w B0 65 u n (fl eE L')) (hn : L'.length = n) (h9 : n ≤ 100000) (X : YA w B b L v b2 L2 v2) :
    Calls Try.prog 21 #[u] w fun e w' => ∃ u : Value, e = .returned u ∧ WF (SF b2 v2) w' B u n L' ∧ Below w.heap.size w w' ∧ ∀ g, obk u = some g → w.heap.size ≤ g := by
  refine (ours_x w hO hn h9 X.Bw).mono ?_
  rintro e w' ⟨u, he, hO, hb, hg⟩
  refine ⟨u, he, ⟨hO, fun g h1 h2 => ?_⟩, hb, hg⟩
  have h3 := hg g h2
  have := (X.co.lt g h1).2; omega
theorem y_of {e : Ending} {q : Int} (X : YA w B b L v b2 L2 v2 ∧ WF (SF b2 v2) w B t m L) (h : ∃ u : Value, e = .returned (.int .i64 q) ∧ SO w' B b2 1000 L' u ∧ Fr (SF b2 v2) w w' ∧ ∀ g, SF b2 u g → SF b2 v2 g ∨ w.heap.size ≤ g) :
    ∃ u : Value, e = .returned (.int .i64 q) ∧ (YA w' B b L v b2 L' u ∧ WF (SF b2 u) w' B t m L) ∧ Fr (fun g => (SF b v g ∨ SF b2 v2 g) ∨ obk t = some g) w w' ∧ ∀ g, ((SF b v g ∨ SF b2 u g) ∨ obk t = some g) → ((SF b v g ∨ SF b2 v2 g) ∨ obk t = some g) ∨ w.heap.size ≤ g := by
  obtain ⟨u, he, hR, hf, hg⟩ := h
  refine ⟨u, he, ⟨⟨X.1.so.fr hf (fun g h1 h2 => X.1.dj g h1 h2), hR, fun g h1 h2 => ?_⟩, ⟨X.2.ow.fr hf (fun g h1 h2 => X.2.dj g h2 h1), fun g h1 h2 => ?_⟩⟩, hf.mono (fun _ _ h => .inl (.inr h)), fun g h => ?_⟩
  · rcases hg g h2 with e | e
    · exact X.1.dj g h1 e
    · have := (X.1.so.lt g h1).2; omega
  · rcases hg g h1 with e | e
    · exact X.2.dj g e h2
    · have := (X.2.ow.at_ g h2).2; omega
  · rcases h with (h | h) | h
    · exact .inl (.inl (.inl h))
    · exact (hg g h).imp (fun h => .inl (.inr h)) id
    · exact .inl (.inr h)
theorem sdrop_y (w : World) (X : YA w B b L v b2 L2 v2 ∧ WF (SF b2 v2) w B t m L) (h9 : L2.length ≤ 100000) (p : Ky) (n : Int) {q : Int} (hres : Sk.drop L2 p n = (L', q)) :
    Calls Try.prog 12 #[.pointer (some ⟨b2, 0, none⟩), .agg (cs U8 p.l), .int .i64 n] w fun e w' => ∃ u : Value, e = .returned (.int .i64 q) ∧ (YA w' B b L v b2 L' u ∧ WF (SF b2 u) w' B t m L) ∧ Fr (fun g => (SF b v g ∨ SF b2 v2 g) ∨ obk t = some g) w w' ∧ ∀ g, ((SF b v g ∨ SF b2 u g) ∨ obk t = some g) → ((SF b v g ∨ SF b2 v2 g) ∨ obk t = some g) ∨ w.heap.size ≤ g :=
  (sdrop_e w X.1.co (by decide) p n h9 hres).mono fun e w' h => y_of X h
theorem sput_y (w : World) (X : YA w B b L v b2 L2 v2 ∧ WF (SF b2 v2) w B t m L) (h9 : L2.length ≤ 100000) (p : Ky) (f : Int) {u : Value} {ks : List Ky} {n : Nat} (hK : SV w u n (fl eK ks)) (hn : ks.length = n) {q : Int} (hres : Sk.put (1000 : Int).toNat L2 p f ks = (L', q)) :
    Calls Try.prog 13 #[.pointer (some ⟨b2, 0, none⟩), .agg (cs U8 p.l), .int .i64 f, u] w fun e w' => ∃ u : Value, e = .returned (.int .i64 q) ∧ (YA w' B b L v b2 L' u ∧ WF (SF b2 u) w' B t m L) ∧ Fr (fun g => (SF b v g ∨ SF b2 v2 g) ∨ obk t = some g) w w' ∧ ∀ g, ((SF b v g ∨ SF b2 u g) ∨ obk t = some g) → ((SF b v g ∨ SF b2 v2 g) ∨ obk t = some g) ∨ w.heap.size ≤ g := by
  subst hn
  exact (sput_e w X.1.co (by decide) p f hK h9 hres).mono fun e w' h => y_of X h
end
theorem ac_c {w : World} {A : List Sk.Ac} {n g o c i : Nat} {q : Int} {p : Ky} {e : Int} {v : Value} {ks : List Ky} (h : SV w (.slice (some ⟨g, o, none⟩) n c) n (fl eC A)) (hx : A[i]? = some ⟨q, p, e, v, ks⟩) :
    exLoad Try.prog 28 (.pointer (some ⟨g, o + i * 35 + 1, none⟩)) w = .ok (.value (.agg (cs U8 p.l))) w ∧ w.cell? ⟨g, o + i * 35 + 33, none⟩ = some (.int .i64 e) ∧ w.cell? ⟨g, o + i * 35 + 34, none⟩ = some v := by
  have h33 : (ACS q p e v)[33]? = some (.int .i64 e) := by unfold ACS; rw [Array.getElem?_append_right (by simp)]; simp
  have h34 : (ACS q p e v)[34]? = some v := by unfold ACS; rw [Array.getElem?_append_right (by simp)]; simp
  rw [← Array.getElem?_toList] at h33 h34
  refine ⟨sv_part eC_len Try.underlying28 rfl inf_key (by decide) h (i := i) (j := 1) hx (by decide) (cs U8 p.l) ?_, ?_, ?_⟩
  · simp [eC, ACS, cs, List.drop_append, List.take_append, List.drop_of_length_le, List.take_of_length_le]
  · rw [sv_cell eC_len h hx (j := 33) (by decide)]; exact h33
  · rw [sv_cell eC_len h hx (j := 34) (by decide)]; exact h34
theorem sv_pub0 {w : World} {L : List Sk.En} {n g c : Nat} {x : Sk.En} (h : SV w (.slice (some ⟨g, 0, none⟩) n c) n (fl eE L)) (hx : L[0]? = some x) : exLoad Try.prog 28 (.pointer (some ⟨g, 0, none⟩)) w = .ok (.value (.agg (cs U8 x.pub.l))) w := by
  have := sv_pub h hx; simpa using this
theorem sv_n0 {w : World} {L : List Sk.En} {n g c : Nat} {x : Sk.En} (h : SV w (.slice (some ⟨g, 0, none⟩) n c) n (fl eE L)) (hx : L[0]? = some x) : w.cell? ⟨g, 64, none⟩ = some (.int .i64 x.n) := by
  have := sv_n h hx; simpa using this
theorem xb_sto0 (w : World) : exBuild Try.prog 58 #[] w = .ok (.value (.agg (STR 0 (.slice none 0 0)))) w := by
  unfold exBuild; rw [run_build w _ _ (STR 0 (.slice none 0 0)) (by kernel_rfl)]; rfl
theorem wpT_sptr2 {S : Nat → Prop} {w0 w : World} {H : List (Nat × Array Value)} {ops : Array Oper} {Q : Exit → Act → World → Prop} {i : Nat} {t : Tr} {a : Act} {o : Oper} (dst : Nat) (x : Operand) (M : Mm S w0 H w) (b : Nat) (hdst : o.dst = some dst) (ho : ops[i]? = some o) (hop : o.op = .buildSlice 59 2 #[(0, .const (.pointer none)), (1, x)])
    (hx : a.eval x = .pointer (some ⟨b, 0, none⟩)) (hw : Region.wanted o (yielded ops a.tmps) = true)
    (h : ∀ g w', Mm S w0 ((g, #[.pointer none, .pointer (some ⟨b, 0, none⟩)]) :: H) w' → wpT Try.prog ops Q t (a.put (some dst) (.slice (some ⟨g, 0, none⟩) 2 2)) w') : wpT Try.prog ops Q (.op i t) a w := by
  have hi : (Try.prog.info? 24).map (fun i => (i.zero, i.size, i.bytes)) = some (some (.pointer none), 1, 8) := by kernel_rfl
  obtain ⟨inf, hi0, hz0, hz1, hz2⟩ := info_parts hi
  have e : (Array.map (fun (x : Nat × Operand) => (x.1, a.eval x.2)) #[(0, .const (.pointer none)), (1, x)]).toList = [(0, .pointer none), (1, .pointer (some ⟨b, 0, none⟩))] := by simp [hx]; rfl
  refine wpT_bsl dst M _ inf _ Try.underlying59 hi0 hz0 (by rw [hz1]; decide) (by rw [hz1]; decide) (by decide) hdst ho hop ?_ hw (fun b w' M' _ _ => h b w' M')
  rw [hz1, e]
  have := fill_cat (fun i => some (i * 1, 1)) [(0, Value.pointer none), (1, Value.pointer (some ⟨b, 0, none⟩))] #[] ((Array.range (2 * 1)).map ((Value.pointer none).cells[· % (Value.pointer none).cells.size]!)) (by simp [Cont, Value.cells]) (by simp [catP, Value.cells])
  rw [Array.empty_append, Array.empty_append] at this
  rw [this]; simp [catP, Value.cells]
theorem spcell0 {w : World} {g : Nat} {x y : Value} (h : w.rowOf g = #[x, y]) : w.cell? ⟨g, 0, none⟩ = some x := by rw [cell_rowOf, h]; rfl
theorem spcell1 {w : World} {g : Nat} {x y : Value} (h : w.rowOf g = #[x, y]) : w.cell? ⟨g, 1, none⟩ = some y := by rw [cell_rowOf, h]; rfl
end Go.Proofs.Ytojkcbhmhfjioaa
