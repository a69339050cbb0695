/-
  Law 26: LinksFirst; own work.
-/
import Derived.Test.YtojkcbhmhfjioaaLk8
import Derived.Test.YtojkcbhmhfjioaaOwo
set_option linter.unusedSimpArgs false
set_option linter.unusedVariables false
namespace Go.Proofs.Ytojkcbhmhfjioaa
open Go.RowKit Lk
def pI (x : Pa) : Value := .int .i64 x.1
def LFG (b : Nat) (u : List It × Value) (r : Value) : Nat → Prop := fun g => LF b u.2 u.1 g ∨ obk r = some g
/-- links, and numbers of our own that are none of theirs -/
structure LFX (w : World) (B b : Nat) (M : List Pa) (u : List It × Value) (r : Value) (m : Nat) (P : List Value) : Prop where
  lx : LX w B b 200 M u
  ow : Oo w B 1 r m P
  dj : ∀ g, obk r = some g → ¬ LF b u.2 u.1 g
theorem gb_fr {w w' : World} {r : Option Nat} (hg : w.grownBy w' r) : Fr (fun g => r = some g) w w' := ⟨hg.os, hg.tape, hg.output, hg.size, fun k hk hS => hg.block k hk (fun e => hS e.symm)⟩
section
variable {w w' : World} {B b : Nat} {M M2 : List Pa} {u : List It × Value} {r : Value} {m : Nat} {Pl : List Value} {q : Int}
theorem LFX.stb (B b : Nat) (M : List Pa) (u : List It × Value) (r : Value) (m : Nat) (Pl : List Value) : Stb (LFG b u r) (fun w => LFX w B b M u r m Pl) :=
  ⟨fun h hf hd => ⟨⟨h.lx.1.fr hf (fun g hg => hd g (.inl hg)), h.lx.2⟩, h.ow.fr hf (fun g hg => hd g (.inr hg)), h.dj⟩, fun h hg => hg.elim (fun hg => (h.lx.1.lt _ hg).2) (fun hg => (h.ow.at_ _ hg).2)⟩
theorem LFX.b_ (X : LFX w B b M u r m Pl) : ∀ g, LFG b u r g → B ≤ g := fun g hg => hg.elim (fun h => (X.lx.1.lt g h).1) (fun h => (X.ow.at_ g h).1)
theorem LFX.to (X : LFX w B b M u r m Pl) {u' : List It × Value} (hX : LX w' B b 200 M2 u') (hf : Fr (LF b u.2 u.1) w w') (hg : ∀ g, LF b u'.2 u'.1 g → LF b u.2 u.1 g ∨ w.heap.size ≤ g) :
    LFX w' B b M2 u' r m Pl ∧ Fr (LFG b u r) w w' ∧ ∀ g, LFG b u' r g → LFG b u r g ∨ w.heap.size ≤ g := by
  refine ⟨⟨hX, X.ow.fr hf X.dj, fun g h1 h2 => ?_⟩, hf.mono (fun _ _ h => .inl h), fun g h => h.elim (fun h => (hg g h).imp .inl id) (fun h => .inl (.inr h))⟩
  rcases hg g h2 with h3 | h3
  · exact X.dj g h1 h3
  · have := (X.ow.at_ g h1).2; omega
theorem LFX.lift {f : FuncId} {args : Array Value} {P : Program} (X : LFX w B b M u r m Pl) (h : Calls P f args w fun e w' => ∃ u' : List It × Value, e = .returned (.int .i64 q) ∧ LX w' B b 200 M2 u' ∧ Fr (LF b u.2 u.1) w w' ∧ ∀ g, LF b u'.2 u'.1 g → LF b u.2 u.1 g ∨ w.heap.size ≤ g) :
    Calls P f args w fun e w' => ∃ u' : List It × Value, e = .returned (.int .i64 q) ∧ LFX w' B b M2 u' r m Pl ∧ Fr (LFG b u r) w w' ∧ ∀ g, LFG b u' r g → LFG b u r g ∨ w.heap.size ≤ g :=
  h.mono fun e w' ⟨u', he, hX, hf, hg⟩ => ⟨u', he, X.to hX hf hg⟩
theorem LFX.lift2 {f : FuncId} {args : Array Value} {P : Program} {V : (List It × Value) × (Option Addr × Nat) → Value} {l : B8} {yv : (List It × Value) × (Option Addr × Nat) → Value} (X : LFX w B b M u r m Pl)
    (h : Calls P f args w fun e w' => ∃ a : (List It × Value) × (Option Addr × Nat), e = .returned (V a) ∧ (LX w' B b 200 M2 a.1 ∧ BW w' (yv a) l) ∧ Fr (LF b u.2 u.1) w w' ∧ ∀ g, LG b a.1 (yv a) g → LF b u.2 u.1 g ∨ w.heap.size ≤ g) :
    Calls P f args w fun e w' => ∃ a : (List It × Value) × (Option Addr × Nat), e = .returned (V a) ∧ LFX w' B b M2 a.1 r m Pl ∧ Fr (LFG b u r) w w' ∧ ∀ g, LFG b a.1 r g → LFG b u r g ∨ w.heap.size ≤ g :=
  h.mono fun e w' ⟨a, he, hX, hf, hg⟩ => ⟨a, he, X.to hX.1 hf (fun g h => hg g (.inl h))⟩
theorem LFX.app {m1 : Nat} {x : Int} {l : B8} {ua : Value} (X : LFX w B b (M ++ [(x, l)]) u r m (M.map pI)) (hm1 : m + 1 = m1) (OA : Oo w' B 1 ua (m + 1) (M.map pI ++ [.int .i64 x])) (GA : w.grownBy w' (obk r)) (BA : ∀ g, obk ua = some g → obk r = some g ∨ g = w.heap.size) :
    LFX w' B b (M ++ [(x, l)]) u ua m1 ((M ++ [(x, l)]).map pI) := by
  subst hm1
  have hf := gb_fr GA
  refine ⟨⟨X.lx.1.fr hf (fun g h1 h2 => X.dj g h2 h1), X.lx.2⟩, by rw [List.map_append]; exact OA, fun g h1 h2 => ?_⟩
  rcases BA g h1 with e | e
  · exact X.dj g e h2
  · have := (X.lx.1.lt g h2).2; omega
theorem LFX.cut {r2 : Value} {m2 : Nat} {P2 : List Value} (X : LFX w B b M u r m Pl) (h : ∀ v : World, Oo v B 1 r m Pl → Oo v B 1 r2 m2 P2 ∧ ∀ g, obk r2 = some g → obk r = some g) : LFX w B b M u r2 m2 P2 :=
  ⟨X.lx, (h w X.ow).1, fun g hg => X.dj g ((h w X.ow).2 g hg)⟩
end
theorem oo_some {w : World} {B : Nat} {v : Value} {n : Nat} {xs : List Value} (h : Oo w B 1 v n xs) (h0 : 0 < n) : ∃ g o c, v = .slice (some ⟨g, o, none⟩) n c := by
  rcases h.2 with ⟨a, h1, h2⟩ | ⟨g, o, cap, cur, T, h1, _⟩
  · omega
  · exact ⟨g, o, cap + 1, h1⟩
theorem oo_cell0 {w : World} {B g o m c : Nat} {y : Pa} {Ml : List Pa} (h : Oo w B 1 (.slice (some ⟨g, o, none⟩) m c) m ((y :: Ml).map pI)) : w.cell? ⟨g, o, none⟩ = some (.int .i64 y.1) := by
  obtain ⟨_, _, e, _, _, h3⟩ := h.sv
  injection e with e1 _ _
  obtain ⟨g', o', e2, h4⟩ := h3 (by simp)
  rw [e2] at e1
  injection e1 with e1
  injection e1 with e1 e3 _
  subst e1; subst e3
  have := h4 0 (by simp)
  rwa [Nat.add_zero] at this
theorem oo_cut {w : World} {B g o m c m2 c2 : Nat} {AD : Addr} {y : Pa} {Ml : List Pa} (h : Oo w B 1 (.slice (some ⟨g, o, none⟩) m c) m ((y :: Ml).map pI)) (hm2 : m - 1 = m2) (hc2 : c - 1 = c2) (hA : (if c = 1 then some (⟨g, o, none⟩ : Addr) else some ⟨g, o + 1, none⟩) = some AD) :
    Oo w B 1 (.slice (some AD) m2 c2) m2 (Ml.map pI) ∧ ∀ x, obk (.slice (some AD) m2 c2) = some x → obk (.slice (some ⟨g, o, none⟩) m c) = some x := by
  have hl := h.1
  rw [List.map_cons, List.length_cons, Nat.mul_one] at hl
  rcases h.2 with ⟨a, h1, h2⟩ | ⟨g', o', cap, cur, T, h1, h2, hT, h3, h4, h5, h6, h7, h8⟩
  · injection h1 with _ e _; omega
  · injection h1 with e1 _ e3
    injection e1 with e1
    injection e1 with e1 e4 _
    subst e1; subst e4; subst e3
    rw [Nat.mul_one] at h6 h7
    have hm2' : m2 = Ml.length := by rw [List.length_map] at hl; omega
    by_cases hc : cap + 1 = 1
    · rw [if_pos hc] at hA
      injection hA with hA
      subst hA
      obtain rfl : cap = 0 := by omega
      have : m2 = 0 := by omega
      subst this
      have hMl : Ml = [] := List.eq_nil_of_length_eq_zero hm2'.symm
      subst hMl
      subst hc2
      exact ⟨Oo.nil _ _ _ _, fun x hx => by simp [obk] at hx⟩
    · rw [if_neg hc] at hA
      injection hA with hA
      subst hA
      obtain ⟨c3, rfl⟩ : ∃ c3, cap = c3 + 1 := ⟨cap - 1, by omega⟩
      obtain rfl : c2 = c3 + 1 := by omega
      refine ⟨⟨by rw [List.length_map, Nat.mul_one]; exact hm2'.symm, .inr ⟨g, o + 1, c3, cur, T, rfl, h2, hT, h3, by omega, by omega, by omega, ?_, h8⟩⟩, fun x hx => by simpa [obk] using hx⟩
      rw [Nat.mul_one, ← hm2, ← List.drop_drop]
      have := congrArg (List.drop 1) h7
      rw [List.drop_take] at this
      simpa using this
theorem elt_int : Elt Try.prog 3 98 1 8 (.int .i64 0) := ⟨Try.underlying98, by kernel_rfl, by simp [Value.cells], by decide, by decide, (fun u hu => by simp [Value.cells] at hu; subst hu; rfl), by decide⟩
section
variable {P : Program} {T TS : TypeId} {k bs : Nat} {z : Value} {ops : Array Oper} {Q : Exit → Act → World → Prop} {i : Nat} {t : Tr} {a : Act} {o : Oper} {S : Nat → Prop} {w0 w : World} {H : List (Nat × Array Value)} {base : Nat}
theorem wpT_oneI (dst : Nat) (x : Operand) (M : Mm S w0 H w) (r : Int) (hdst : o.dst = some dst) (ho : ops[i]? = some o) (hop : o.op = .buildSlice 98 1 #[(0, x)])
    (hx : a.eval x = .int .i64 r) (hw : Region.wanted o (yielded ops a.tmps) = true)
    (h : ∀ b w', Mm S w0 ((b, #[.int .i64 r]) :: H) w' → wpT Try.prog ops Q t (a.put (some dst) (.slice (some ⟨b, 0, none⟩) 1 1)) w') : wpT Try.prog ops Q (.op i t) a w := by
  obtain ⟨inf, hi0, hz0, hz1, hz2⟩ := info_parts elt_int.i
  have e : (Array.map (fun (x : Nat × Operand) => (x.1, a.eval x.2)) #[(0, x)]).toList = [(0, .int .i64 r)] := by simp [hx]
  refine wpT_bsl dst M #[.int .i64 r] inf (.int .i64 0) elt_int.u hi0 hz0 (by rw [hz1]; omega) (by rw [hz1]; omega) elt_int.nb hdst ho hop ?_ hw (fun b w' M' _ _ => h b w' M')
  rw [hz1, e]
  have := fill_cat (fun i => some (i * 1, 1)) [(0, Value.int .i64 r)] #[] ((Array.range (1 * 1)).map ((Value.int .i64 0).cells[· % (Value.int .i64 0).cells.size]!)) (by simp [Cont, Value.cells]) (by simp [catP, Value.cells])
  rw [Array.empty_append, Array.empty_append] at this
  rw [this]; simp [catP, Value.cells]
theorem wpT_oapp (dst : Nat) (s x : Operand) (M : Mm S w0 H w) (E : Elt P T TS k bs z) (v u : Value) (n : Nat) (xs ys : List Value) (hdst : o.dst = some dst) (ho : ops[i]? = some o)
    (hop : o.op = .call { callee := .builtin .append, args := #[s, x], argTypes := #[TS, TS] }) (hw : Region.wanted o (yielded ops a.tmps) = true) (hs : a.eval s = v) (hown : Oo w base k v n xs) (hx : a.eval x = u) (hu : SV w u 1 ys) (hl : ys.length = 1 * k) (h1 : ∀ u ∈ ys, u.oneCell' = true)
    (hlen : n + 1 ≤ 1000000) (hbase : base ≤ w.heap.size) (hsep : ∀ g, obk v = some g → (S g ∨ w0.heap.size ≤ g) ∧ ∀ p ∈ H, p.1 ≠ g)
    (h : ∀ v' w', Oo w' base k v' (n + 1) (xs ++ ys) → Mm S w0 H w' → w.grownBy w' (obk v) → (∀ g, obk v' = some g → obk v = some g ∨ g = w.heap.size) → wpT P ops Q t (a.put (some dst) v') w') : wpT P ops Q (.op i t) a w := by
  obtain ⟨v', w', hr, h2, h3, h4⟩ := oo_append E o.type hown hu hl h1 hlen hbase
  refine wpT_val (w' := w') (v := v') ho hw ?_ (by rw [hdst]; exact h v' w' h2 (M.gb h3 hsep) h3 h4)
  simp only [execOp, hop, resolve, invoke, builtin, Sem.run_bind, Sem.run_pure, Result.andThen_ok, List.map_toArray, List.map_cons, List.map_nil, hs, hx, hr]
end
end Go.Proofs.Ytojkcbhmhfjioaa
