/-
  A region that draws its order: each operation's outcome is told by what it reads, whatever the order; own work.
  A region that draws its order, with assignments in its tail; numbers of 64 bits; own work.
  A region that draws its order, as in Flow: the tail may wait for an operation through another one; own work.
-/
import Derived.Test.YtgclegdgngldoaaDoorStep
import Derived.Laws.Externs
import Derived.Shelf.Spec.BitsCarry
import Derived.Lib.Mul64
import Derived.Laws.Bits64b
import Derived.Shelf.Bits.Mul64
import Derived.LoopN
set_option linter.unusedSimpArgs false
set_option linter.unusedVariables false
namespace Go.Proofs.YtgclegdgngldoaaDoor
open Go.RowKit

/-- new memory, and marks on rows of bytes -/
def Soft (w w' : World) : Prop := w.heap.size ≤ w'.heap.size ∧ ∀ k, k < w.heap.size → w'.heap[k]? = w.heap[k]? ∨ ∃ c fz fz', w.heap[k]? = some (.cells c 5 fz) ∧ w'.heap[k]? = some (.cells c 5 fz')
theorem Soft.of {w w' : World} (h : Below w.heap.size w w') : Soft w w' := ⟨h.size, fun k hk => .inl (h.block k hk)⟩
theorem Soft.row {w w' : World} (h : Soft w w') {k : Nat} (hk : k < w.heap.size) : w'.rowOf k = w.rowOf k := by
  rcases h.2 k hk with e | ⟨c, fz, fz', e1, e2⟩
  · simp [World.rowOf, e]
  · rw [rowOf_eq e1, rowOf_eq e2]
theorem SV.soft {w w' : World} {v : Value} {n : Nat} {xs : List Value} (h : SV w v n xs) (hs : Soft w w') : SV w' v n xs := by
  obtain ⟨a, cap, rfl, h1, h2, h3⟩ := h
  refine ⟨a, cap, rfl, h1, h2, fun hx => ?_⟩
  obtain ⟨b, o, rfl, h4⟩ := h3 hx
  refine ⟨b, o, rfl, fun i hi => ?_⟩
  have h5 := h4 i hi
  rw [List.getElem?_eq_getElem hi, cell_rowOf] at h5
  have hb := row_lt (Array.getElem?_eq_some_iff.1 h5).1
  rw [cell_rowOf, hs.row hb, h5, List.getElem?_eq_getElem hi]
/-- what is said of an outcome, and stays as long as only new memory is made -/
structure Sp where
  p : Value → World → Prop
  st : ∀ v w w', p v w → Soft w w' → p v w'
  fr : Bool
  hf : fr = true → ∀ v w, p v w → ∃ g, v = .pointer (some ⟨g, 0, none⟩) ∧ g < w.heap.size
def Sp.any : Sp := ⟨fun _ _ => True, fun _ _ _ _ _ => trivial, false, fun h => by cases h⟩
def Sp.eq (c : Value) : Sp := ⟨fun v _ => v = c, fun _ _ _ h _ => h, false, fun h => by cases h⟩
def Sp.bs (l : List (BitVec 8)) : Sp := ⟨fun v w => BS w v l, fun _ _ _ h hb => SV.soft h hb, false, fun h => by cases h⟩
def Sp.of (p : Value → World → Prop) (st : ∀ v w w', p v w → Soft w w' → p v w') : Sp := ⟨p, st, false, fun h => by cases h⟩
/-- a variable that is made, with its row -/
def Sp.var (B : Nat) (c : Array Value) (T : TypeId) (hT : T ≠ 5) : Sp := ⟨fun v w => ∃ g, v = .pointer (some ⟨g, 0, none⟩) ∧ B ≤ g ∧ w.heap[g]? = some (.cells c T (0, 0)),
  fun v w w' ⟨g, h1, h2, h3⟩ hb => ⟨g, h1, h2, by
    rcases hb.2 g (Array.getElem?_eq_some_iff.1 h3).1 with e | ⟨c', fz, fz', e1, e2⟩
    · exact e.trans h3
    · rw [h3] at e1; injection e1 with e1; injection e1 with _ e1 _; exact absurd e1 hT⟩, true, fun _ v w ⟨g, h1, _, h3⟩ => ⟨g, h1, (Array.getElem?_eq_some_iff.1 h3).1⟩⟩
/-- a literal's row of bytes -/
def Sp.lit (B : Nat) (l : List (BitVec 8)) : Sp := .of (fun v w => ∃ g fz, v = .slice (some ⟨g, 0, none⟩) l.length l.length ∧ B ≤ g ∧ w.heap[g]? = some (.cells (cs U8 l) 5 fz))
  fun v w w' ⟨g, fz, h1, h2, h3⟩ hb => by
    rcases hb.2 g (Array.getElem?_eq_some_iff.1 h3).1 with e | ⟨c', fz1, fz2, e1, e2⟩
    · exact ⟨g, fz, h1, h2, e.trans h3⟩
    · rw [h3] at e1; injection e1 with e1; injection e1 with e1 _ _
      exact ⟨g, fz2, h1, h2, by rw [e2, ← e1]⟩
def updL (a0 : Act) (f : Nat → Value) : List Nat → Act
  | [] => a0
  | d :: ds => (updL a0 f ds).put (some d) (f d)
section
variable {a0 : Act} {f : Nat → Value}
theorem act_ext {a b : Act} (h1 : ∀ k : Nat, a.tmps[k]? = b.tmps[k]?) (h2 : a.defers = b.defers) : a = b := by
  obtain ⟨t, d⟩ := a; obtain ⟨t', d'⟩ := b
  have : t = t' := Array.ext_getElem? (fun k => h1 k)
  subst this; simp at h2; subst h2; rfl
end
/-- what an operand reads -/
def evalU (a0 : Act) (f : Nat → Value) (ds : List Nat) : Operand → Value
  | .tmp k => bif ds.contains k then f k else a0.tmps.getD k undef
  | x => a0.eval x
/-- an operation's outcome -/
def Gives (P : Program) (ρ : Operand → Value) (o : Oper) (w : World) (R : Value → World → Prop) : Prop :=
  match (execOp ρ o).run P w with
  | .ok (.value v) w' => R v w'
  | .ok (.enter g args) w' => Calls P g args w' fun e w'' => ∃ v, e = .returned v ∧ R v w''
  | _ => False
theorem Gives.wp {P : Program} {o : Oper} {a : Act} {w : World} {R : Value → World → Prop} {K : Act → World → Prop} {Q : Exit → Act → World → Prop} (h : Gives P a.eval o w R) (hK : ∀ v w', R v w' → K (a.put o.dst v) w') : o.wp P a w K Q := by
  unfold Oper.wp
  unfold Gives at h
  revert h
  generalize (execOp a.eval o).run P w = r
  intro h
  cases r with
  | ok n w' =>
    cases n with
    | value v => exact hK _ _ h
    | enter g args => exact Calls.mono h (fun e w'' ⟨v, he, hr⟩ => by subst he; exact hK _ _ hr)
    | _ => exact h.elim
  | halt x w' => exact h.elim
def bo (md : Region.Mode) (o : Oper) : List Nat := (o.after.toList.filter (Region.binds md)).map (·.on)
def depT (Ts : List Sp) (ds : List Nat) (f : Nat → Value) (w : World) : List Nat → Prop
  | [] => True
  | e :: r => (Ts.getD e Sp.any).p (f (ds.getD e 0)) w ∧ depT Ts ds f w r
def grdT (Ts : List Sp) : Option (Nat × Bool) → Prop
  | none => True
  | some (g, b) => ∀ v w, (Ts.getD g Sp.any).p v w → v = .bool b
/-- an operation's step -/
def stepF (P : Program) (md : Region.Mode) (a0 : Act) (ds : List Nat) (Ts : List Sp) (w0 : World) (i : Nat) (o : Oper) : Prop :=
  grdT Ts o.guard ∧ ∀ f w, Below w0.heap.size w0 w → depT Ts ds f w (bo md o) →
    Gives P (evalU a0 f ds) o w fun v w' => Soft w w' ∧ Below w0.heap.size w0 w' ∧ (Ts.getD i Sp.any).p v w' ∧ ((Ts.getD i Sp.any).fr = true → v = .pointer (some ⟨w.heap.size, 0, none⟩))
def stepsF (P : Program) (md : Region.Mode) (a0 : Act) (ds : List Nat) (Ts : List Sp) (w0 : World) : Nat → List Oper → Prop
  | _, [] => True
  | i, o :: r => stepF P md a0 ds Ts w0 i o ∧ stepsF P md a0 ds Ts w0 (i + 1) r
def allT : List Sp → List Nat → (Nat → Value) → World → Prop
  | T :: Ts, d :: ds, f, w => T.p (f d) w ∧ allT Ts ds f w
  | _, _, _, _ => True
/-- the static part: n head operations, which write the slots ds, each behind those that it waits for; the tail waits for all of them -/
def chkF (md : Region.Mode) (ops : Array Oper) (n : Nat) (ds : List Nat) : Bool :=
  decide (ds.length = n) && decide (n ≤ ops.size) && decide ds.Nodup &&
  (List.range n).all (fun i => match ops[i]? with
    | some o => (o.dst == some (ds.getD i 0)) && (bo md o).all (fun e => decide (e < i)) && (match o.guard with | none => true | some (g, _) => (bo md o).contains g)
    | none => false) &&
  (List.range ops.size).all (fun t => decide (t < n) || match ops[t]? with
    | some o => (List.range n).all (fun i => (bo md o).contains i) || (bo md o).any (fun e => decide (n ≤ e))
    | none => false)
def headA (n m : Nat) : Array Bool := ((List.range m).map (fun i => decide (i < n))).toArray
section
variable {P : Program} {ops : Array Oper} {Q : Exit → Act → World → Prop} {md : Region.Mode} {a0 : Act} {ds : List Nat} {Ts : List Sp} {w0 : World} {n : Nat}
def cntF (n : Nat) (listed : Array Bool) : Nat := ((List.range n).filter (fun i => !listed.getD i true)).length
structure InvF (P : Program) (ops : Array Oper) (a0 : Act) (ds : List Nat) (Ts : List Sp) (w0 : World) (n : Nat) (listed : Array Bool) (a : Act) (w : World) : Prop where
  size : listed.size = ops.size
  tail : ∀ t, n ≤ t → t < ops.size → listed.getD t true = false
  ex : ∃ f, a = updL a0 f ds ∧ Below w0.heap.size w0 w ∧ (∀ i, i < n → listed.getD i false = true → (Ts.getD i Sp.any).p (f (ds.getD i 0)) w) ∧
    (∀ i j, i < n → j < n → i ≠ j → listed.getD i false = true → listed.getD j false = true → (Ts.getD i Sp.any).fr = true → (Ts.getD j Sp.any).fr = true → f (ds.getD i 0) ≠ f (ds.getD j 0))
theorem filter_lt {α : Type} (p q : α → Bool) (l : List α) (x : α) (hx : x ∈ l) (hp : p x = true) (hq : q x = false) (h : ∀ y, q y = true → p y = true) : (l.filter q).length < (l.filter p).length := by
  induction l with
  | nil => cases hx
  | cons y r ih =>
    have hle : (r.filter q).length ≤ (r.filter p).length := by
      clear ih hx
      induction r with
      | nil => simp
      | cons z r ih2 =>
        by_cases hz : q z = true
        · rw [List.filter_cons_of_pos hz, List.filter_cons_of_pos (h z hz)]; simpa using ih2
        · rw [List.filter_cons_of_neg hz]
          by_cases hz2 : p z = true
          · rw [List.filter_cons_of_pos hz2]; simp; omega
          · rw [List.filter_cons_of_neg hz2]; exact ih2
    rcases List.mem_cons.1 hx with e | e
    · subst e
      rw [List.filter_cons_of_pos hp, List.filter_cons_of_neg (by simp [hq])]
      simp; omega
    · have := ih e
      by_cases hy : q y = true
      · rw [List.filter_cons_of_pos hy, List.filter_cons_of_pos (h y hy)]; simpa using this
      · rw [List.filter_cons_of_neg hy]
        by_cases hy2 : p y = true
        · rw [List.filter_cons_of_pos hy2]; simp; omega
        · rw [List.filter_cons_of_neg hy2]; exact this
end
theorem Gives.pure {P : Program} {ρ : Operand → Value} {o : Oper} {w : World} {R : Value → World → Prop} (c : Value) (hrun : (execOp ρ o).run P w = .ok (.value c) w) (h : R c w) : Gives P ρ o w R := by
  unfold Gives; rw [hrun]; exact h
theorem Gives.new {P : Program} {ρ : Operand → Value} {o : Oper} {w w' : World} {R : Value → World → Prop} (c : Value) (hrun : (execOp ρ o).run P w = .ok (.value c) w') (h : R c w') : Gives P ρ o w R := by
  unfold Gives; rw [hrun]; exact h
theorem Gives.call {P : Program} {ρ : Operand → Value} {o : Oper} {w w1 : World} {R : Value → World → Prop} (g : FuncId) (args : Array Value) (hrun : (execOp ρ o).run P w = .ok (.enter g args) w1) (h : Calls P g args w1 fun e w'' => ∃ v, e = .returned v ∧ R v w'') : Gives P ρ o w R := by
  unfold Gives; rw [hrun]; exact h
end Go.Proofs.YtgclegdgngldoaaDoor
set_option linter.unusedSimpArgs false
set_option linter.unusedVariables false
namespace Go.Proofs.YtgclegdgngldoaaDoor
open Go.RowKit

/-! numbers of 64 bits, as natural numbers -/
abbrev N64 (n : Nat) : Value := .int .u64 (n : Int)
@[go_sem] theorem ones_n64 (l : List Nat) : ones (cs N64 l) = true := by simp [ones, cs, List.all_eq_true]; intro _ _; rfl
theorem add64 (x y c : Nat) (hc : c ≤ 1) (w : World) : (callFunc 98 #[.int .u64 x, .int .u64 y, .int .u64 c]).run Tryd.prog w =
    .ok (.value (.tuple #[N64 ((x + y + c) % 18446744073709551616), N64 ((x + y + c) / 18446744073709551616)])) w := by
  rw [run_callFunc_extern Tryd.func98 (by kernel_rfl) (by kernel_rfl) (by kernel_rfl) (e := add64Entry) (by kernel_rfl), run_add64 x y c (by omega) (by omega) (by omega) (by omega)]
  simp only [Result.andThen]
  congr 5 <;> omega
theorem sub64 (x y b : Nat) (hb : b ≤ 1) (w : World) : (callFunc 99 #[.int .u64 x, .int .u64 y, .int .u64 b]).run Tryd.prog w =
    .ok (.value (.tuple #[N64 ((x + 18446744073709551616 - y - b) % 18446744073709551616), N64 (if x < y + b then 1 else 0)])) w := by
  rw [run_callFunc_extern Tryd.func99 (by kernel_rfl) (by kernel_rfl) (by kernel_rfl) (e := sub64Entry) (by kernel_rfl), run_sub64 x y b hb]
  rfl
set_option maxHeartbeats 1000000 in
theorem mul64 (x y : Nat) (hx : x < 18446744073709551616) (hy : y < 18446744073709551616) (w : World) :
    Calls Tryd.prog 100 #[.int .u64 x, .int .u64 y] w fun e w' => e = .returned (.tuple #[N64 (x * y / 18446744073709551616), N64 (x * y % 18446744073709551616)]) ∧ w = w' := by
  obtain ⟨bd, bt, bw, hhi⟩ := Lib.mul64_hi x y hx hy
  have ba := Lib.half_mul_le (a := x / 4294967296) (b := y / 4294967296) (by omega) (by omega)
  have bb := Lib.half_mul_le (a := x / 4294967296) (b := y % 4294967296) (by omega) (by omega)
  have bc := Lib.half_mul_le (a := x % 4294967296) (b := y / 4294967296) (by omega) (by omega)
  have ba' : x / 4294967296 * (y / 4294967296) < 18446744073709551616 := by omega
  have bb' : x / 4294967296 * (y % 4294967296) < 18446744073709551616 := by omega
  have bc' : x % 4294967296 * (y / 4294967296) < 18446744073709551616 := by omega
  have bh1 : x / 4294967296 * (y / 4294967296) + (x / 4294967296 * (y % 4294967296) + x % 4294967296 * (y % 4294967296) / 4294967296) / 4294967296 < 18446744073709551616 := by omega
  have bh : x / 4294967296 * (y / 4294967296) + (x / 4294967296 * (y % 4294967296) + x % 4294967296 * (y % 4294967296) / 4294967296) / 4294967296 + ((x / 4294967296 * (y % 4294967296) + x % 4294967296 * (y % 4294967296) / 4294967296) % 4294967296 + x % 4294967296 * (y / 4294967296)) / 4294967296 < 18446744073709551616 := by omega
  go_enter Tryd.func100, Tryd.ntmps100
  go_wp2
  simp only [Mul64.maskN x hx, Mul64.maskN y hy, Mul64.divN, Mul64.mulN, Mul64.addN, Mul64.wrapN _ bd, Mul64.wrapN _ bb', Mul64.wrapN _ bt, Mul64.maskN _ bt, Mul64.wrapN _ bc', Mul64.wrapN _ bw, Mul64.wrapN _ ba', Mul64.wrapN _ bh1, Mul64.wrapN _ bh, Mul64.wrapM (x * y)]
  rw [hhi]
  go_ret2
  exact ⟨rfl, rfl⟩
end Go.Proofs.YtgclegdgngldoaaDoor
set_option linter.unusedSimpArgs false
set_option linter.unusedVariables false
namespace Go.Proofs.YtgclegdgngldoaaDoor
open Go.RowKit

/-- e waits for i, through at most k others -/
def reach (md : Region.Mode) (ops : Array Oper) : Nat → Nat → Nat → Bool
  | 0, e, i => e == i
  | k + 1, e, i => e == i || match ops[e]? with
    | some o => (bo md o).any (fun e' => reach md ops k e' i)
    | none => false
/-- the static part: n head operations, which write the slots ds, each behind those that it waits for; the tail waits for all of them -/
def chkG (md : Region.Mode) (ops : Array Oper) (n : Nat) (ds : List Nat) : Bool :=
  decide (ds.length = n) && decide (n ≤ ops.size) && decide ds.Nodup &&
  (List.range n).all (fun i => match ops[i]? with
    | some o => (o.dst == some (ds.getD i 0)) && (bo md o).all (fun e => decide (e < i)) && (match o.guard with | none => true | some (g, _) => (bo md o).contains g)
    | none => false) &&
  (List.range ops.size).all (fun t => decide (t < n) || match ops[t]? with
    | some o => (List.range n).all (fun i => (bo md o).any (fun e => decide (e < n) && reach md ops n e i)) || (bo md o).any (fun e => decide (n ≤ e))
    | none => false)
section
variable {P : Program} {ops : Array Oper} {Q : Exit → Act → World → Prop} {md : Region.Mode} {a0 : Act} {ds : List Nat} {Ts : List Sp} {w0 : World} {n : Nat}
theorem reach_listed {listed : Array Bool} (hlt : ∀ i, i < n → ∀ o, ops[i]? = some o → ∀ e ∈ bo md o, e < n) (hdc : ∀ i, i < n → listed.getD i false = true → ∀ o, ops[i]? = some o → ∀ e ∈ bo md o, listed.getD e false = true) :
    ∀ (k e i : Nat), e < n → listed.getD e false = true → reach md ops k e i = true → listed.getD i false = true
  | 0, e, i, he, hl, h => by simp only [reach, beq_iff_eq] at h; rw [← h]; exact hl
  | k + 1, e, i, he, hl, h => by
    simp only [reach, Bool.or_eq_true, beq_iff_eq] at h
    rcases h with h | h
    · rw [← h]; exact hl
    · cases ho : ops[e]? with
      | none => rw [ho] at h; cases h
      | some o =>
        rw [ho] at h
        obtain ⟨e', he', hr⟩ := List.any_eq_true.1 h
        exact reach_listed hlt hdc k e' i (hlt e he o ho e' he') (hdc e he hl o ho e' he') hr
structure InvG (P : Program) (md : Region.Mode) (ops : Array Oper) (a0 : Act) (ds : List Nat) (Ts : List Sp) (w0 : World) (n : Nat) (listed : Array Bool) (a : Act) (w : World) : Prop where
  size : listed.size = ops.size
  tail : ∀ t, n ≤ t → t < ops.size → listed.getD t true = false
  dc : ∀ i, i < n → listed.getD i false = true → ∀ o, ops[i]? = some o → ∀ e ∈ bo md o, listed.getD e false = true
  ex : ∃ f, a = updL a0 f ds ∧ Below w0.heap.size w0 w ∧ (∀ i, i < n → listed.getD i false = true → (Ts.getD i Sp.any).p (f (ds.getD i 0)) w) ∧
    (∀ i j, i < n → j < n → i ≠ j → listed.getD i false = true → listed.getD j false = true → (Ts.getD i Sp.any).fr = true → (Ts.getD j Sp.any).fr = true → f (ds.getD i 0) ≠ f (ds.getD j 0))
end
end Go.Proofs.YtgclegdgngldoaaDoor
