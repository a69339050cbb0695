/-
  A region that draws its order, with assignments in its tail; numbers of 64 bits; own work.
-/
import Derived.Test.YtgclegdgngldoaaDoorFlow
import Derived.Laws.Externs
import Derived.Shelf.Spec.BitsCarry
import Derived.Lib.Mul64
import Derived.Laws.Bits64b
import Derived.Shelf.Bits.Mul64
import Derived.LoopN
set_option linter.unusedSimpArgs false
set_option linter.unusedVariables false
namespace Go.Proofs.YtgclegdgngldoaaDoor
open Go.RowKit

theorem wp_region_flow2 {P : Program} {Q : Exit → Act → World → Prop} {id : Nat} {a : Act} {w : World} {l : List Oper} (n : Nat) (ds : List Nat) (Ts : List Sp) (ps : List Nat) (t : Tr) (hm : P.follows .mixedOrders = true)
    (hc : chkF .any l.toArray n ds = true) (hy : (Region.noSelect l.toArray && chkY .any l.toArray ps (headA n l.length) && decide (n + ps.length ≤ l.length)) = true)
    (ht : mkT .any l.toArray (l.length - n - ps.length) (setY ps (headA n l.length)) = t)
    (hQ : ∀ d v c a w, Q (.panic c) (a.put d v) w → Q (.panic c) a w)
    (hsz : ds.all (fun d => decide (d < a.tmps.size)) = true)
    (hs : stepsF P .any a ds Ts w 0 (l.take n))
    (hk : ∀ f w', Below w.heap.size w w' → allT Ts ds f w' → (∀ i j, i < n → j < n → i ≠ j → (Ts.getD i Sp.any).fr = true → (Ts.getD j Sp.any).fr = true → f (ds.getD i 0) ≠ f (ds.getD j 0)) → wpY P l.toArray ps (fun a' => wpT P l.toArray Q t a' w') (updL a f ds)) :
    (Code.region id l.toArray true).wp P Q a w := by
  refine wp_region_any hm ?_
  have hn : n ≤ l.length := by
    simp only [chkF, Bool.and_eq_true, decide_eq_true_eq] at hc
    simpa using hc.1.1.1.2
  simp only [Bool.and_eq_true, decide_eq_true_eq] at hy
  have hcnt : cntF n (Array.replicate l.toArray.size false) = n := by
    unfold cntF
    have : (List.range n).filter (fun i => !(Array.replicate l.toArray.size false).getD i true) = List.range n := by
      rw [List.filter_eq_self]
      intro i hi
      have := List.mem_range.1 hi
      have hi2 : i < l.length := by omega
      simp [hi2]
    rw [this, List.length_range]
  have h := flow_any (P := P) (ops := l.toArray) (Q := Q) (md := .any) (a0 := a) (ds := ds) (Ts := Ts) (w0 := w) (n := n) (g := l.length - n) hc hsz hs
    (fun f w' hb hT hD => by
      have e : l.toArray.size = l.length := by simp
      rw [e]
      have h2 := wpAny_Y (P := P) (ops := l.toArray) (Q := Q) (md := .any) (w := w') hy.1.1 hQ ps (l.length - n - ps.length) (headA n l.length) (updL a f ds) hy.1.2
        (wpY_mono (fun a' h' => wpAny_tree _ _ _ _ (by rw [ht]; exact h')) ps _ (hk f w' hb hT hD))
      rwa [show l.length - n - ps.length + ps.length = l.length - n by omega] at h2) n (Array.replicate l.toArray.size false) a w.drew hcnt
    ⟨by simp, fun t h1 h2 => getD_in (by simpa using h2) (getD_replicate_false _ _), ⟨_, updL_self a ds, below_drewN (Below.refl _ _) 1, fun i _ h => (by rw [getD_replicate_false] at h; cases h), fun i j _ _ _ h => (by rw [getD_replicate_false] at h; cases h)⟩⟩
  rw [show n + (l.length - n) = l.toArray.size by simp; omega] at h
  exact h
/-! numbers of 64 bits, as natural numbers -/
abbrev N64 (n : Nat) : Value := .int .u64 (n : Int)
@[go_sem] theorem ones_n64 (l : List Nat) : ones (cs N64 l) = true := by simp [ones, cs, List.all_eq_true]; intro _ _; rfl
theorem cs_setn {l : List Nat} (i : Nat) (x : Nat) : (cs N64 l).setIfInBounds i (N64 x) = cs N64 (l.set i x) := by simp [cs, List.map_set]
theorem add64 (x y c : Nat) (hc : c ≤ 1) (w : World) : (callFunc 98 #[.int .u64 x, .int .u64 y, .int .u64 c]).run Tryd.prog w =
    .ok (.value (.tuple #[N64 ((x + y + c) % 18446744073709551616), N64 ((x + y + c) / 18446744073709551616)])) w := by
  rw [run_callFunc_extern Tryd.func98 (by kernel_rfl) (by kernel_rfl) (by kernel_rfl) (e := add64Entry) (by kernel_rfl), run_add64 x y c (by omega) (by omega) (by omega) (by omega)]
  simp only [Result.andThen]
  congr 5 <;> omega
theorem sub64 (x y b : Nat) (hb : b ≤ 1) (w : World) : (callFunc 99 #[.int .u64 x, .int .u64 y, .int .u64 b]).run Tryd.prog w =
    .ok (.value (.tuple #[N64 ((x + 18446744073709551616 - y - b) % 18446744073709551616), N64 (if x < y + b then 1 else 0)])) w := by
  rw [run_callFunc_extern Tryd.func99 (by kernel_rfl) (by kernel_rfl) (by kernel_rfl) (e := sub64Entry) (by kernel_rfl), run_sub64 x y b hb]
  rfl
set_option maxHeartbeats 1000000 in
theorem mul64 (x y : Nat) (hx : x < 18446744073709551616) (hy : y < 18446744073709551616) (w : World) :
    Calls Tryd.prog 100 #[.int .u64 x, .int .u64 y] w fun e w' => e = .returned (.tuple #[N64 (x * y / 18446744073709551616), N64 (x * y % 18446744073709551616)]) ∧ w = w' := by
  obtain ⟨bd, bt, bw, hhi⟩ := Lib.mul64_hi x y hx hy
  have ba := Lib.half_mul_le (a := x / 4294967296) (b := y / 4294967296) (by omega) (by omega)
  have bb := Lib.half_mul_le (a := x / 4294967296) (b := y % 4294967296) (by omega) (by omega)
  have bc := Lib.half_mul_le (a := x % 4294967296) (b := y / 4294967296) (by omega) (by omega)
  have ba' : x / 4294967296 * (y / 4294967296) < 18446744073709551616 := by omega
  have bb' : x / 4294967296 * (y % 4294967296) < 18446744073709551616 := by omega
  have bc' : x % 4294967296 * (y / 4294967296) < 18446744073709551616 := by omega
  have bh1 : x / 4294967296 * (y / 4294967296) + (x / 4294967296 * (y % 4294967296) + x % 4294967296 * (y % 4294967296) / 4294967296) / 4294967296 < 18446744073709551616 := by omega
  have bh : x / 4294967296 * (y / 4294967296) + (x / 4294967296 * (y % 4294967296) + x % 4294967296 * (y % 4294967296) / 4294967296) / 4294967296 + ((x / 4294967296 * (y % 4294967296) + x % 4294967296 * (y % 4294967296) / 4294967296) % 4294967296 + x % 4294967296 * (y / 4294967296)) / 4294967296 < 18446744073709551616 := by omega
  go_enter Tryd.func100, Tryd.ntmps100
  go_wp2
  simp only [Mul64.maskN x hx, Mul64.maskN y hy, Mul64.divN, Mul64.mulN, Mul64.addN, Mul64.wrapN _ bd, Mul64.wrapN _ bb', Mul64.wrapN _ bt, Mul64.maskN _ bt, Mul64.wrapN _ bc', Mul64.wrapN _ bw, Mul64.wrapN _ ba', Mul64.wrapN _ bh1, Mul64.wrapN _ bh, Mul64.wrapM (x * y)]
  rw [hhi]
  go_ret2
  exact ⟨rfl, rfl⟩
end Go.Proofs.YtgclegdgngldoaaDoor
