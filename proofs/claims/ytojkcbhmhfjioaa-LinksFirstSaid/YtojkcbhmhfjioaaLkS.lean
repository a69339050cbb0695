/-
  Packets that are under way: the plain law; own work.
-/
import Derived.Test.YtojkcbhmhfjioaaObj
set_option linter.unusedSimpArgs false
set_option linter.unusedVariables false
namespace Go.Proofs.Ytojkcbhmhfjioaa
open Go.RowKit
namespace Lk
abbrev B8 := List (BitVec 8)
/-- a packet as the document knows it: to whom, and its bytes -/
abbrev Pa := Int × B8
def behind (room : Nat) (M : List Pa) (x : Pa) : List Pa × Int := if room ≤ M.length then (M, 8) else (M ++ [x], 0)
def put (room : Nat) (M : List Pa) (x : Pa) : List Pa × Int := if x.1 < 0 ∨ 16 ≤ x.1 ∨ x.2.length ≠ 736 then (M, 2) else behind room M x
def isAt (M : List Pa) (i : Int) : Prop := 0 ≤ i ∧ i < M.length
def take (M : List Pa) (i : Int) : List Pa × Pa × Int := if 0 ≤ i ∧ i < (M.length : Int) then (M.eraseIdx i.toNat, M.getD i.toNat (0, []), 0) else (M, (0, []), 9)
def twice (room : Nat) (M : List Pa) (i : Int) : List Pa × Int := if 0 ≤ i ∧ i < (M.length : Int) then behind room M (M.getD i.toNat (0, [])) else (M, 9)
def turnB (l : B8) (at_ : Nat) (by_ : BitVec 8) : B8 := l.set at_ ((l.getD at_ 0) ^^^ by_)
def turn (M : List Pa) (i at_ : Int) (by_ : BitVec 8) : List Pa × Int :=
  if 0 ≤ i ∧ i < (M.length : Int) then (if at_ < 0 ∨ 736 ≤ at_ then (M, 2) else (M.set i.toNat ((M.getD i.toNat (0, [])).1, turnB (M.getD i.toNat (0, [])).2 at_.toNat by_), 0)) else (M, 9)
/-- all packets have one size, and go to one of 16 -/
def Ok (M : List Pa) : Prop := ∀ x ∈ M, x.2.length = 736 ∧ 0 ≤ x.1 ∧ x.1 < 16
theorem Ok.behind {room : Nat} {M : List Pa} {x : Pa} (h : Ok M) (hx : x.2.length = 736 ∧ 0 ≤ x.1 ∧ x.1 < 16) : Ok (behind room M x).1 := by
  unfold Lk.behind
  split
  · exact h
  · intro y hy
    rcases List.mem_append.1 hy with hy | hy
    · exact h y hy
    · rw [List.mem_singleton] at hy; rw [hy]; exact hx
theorem Ok.put {room : Nat} {M : List Pa} {x : Pa} (h : Ok M) : Ok (put room M x).1 := by
  unfold Lk.put
  split
  · exact h
  · rename_i hx
    exact h.behind ⟨by omega, by omega, by omega⟩
theorem Ok.take {M : List Pa} {i : Int} (h : Ok M) : Ok (take M i).1 := by
  unfold Lk.take
  split
  · exact fun x hx => h x (List.mem_of_mem_eraseIdx hx)
  · exact h
theorem getD_mem {M : List Pa} {i : Nat} (hi : i < M.length) (d : Pa) : M.getD i d ∈ M := by
  rw [List.getD_eq_getElem?_getD, List.getElem?_eq_getElem hi]; exact List.getElem_mem hi
theorem Ok.twice {room : Nat} {M : List Pa} {i : Int} (h : Ok M) : Ok (twice room M i).1 := by
  unfold Lk.twice
  split
  · exact h.behind (h _ (getD_mem (by omega) _))
  · exact h
theorem turnB_len (l : B8) (at_ : Nat) (by_ : BitVec 8) : (turnB l at_ by_).length = l.length := by simp [turnB]
theorem Ok.turn {M : List Pa} {i at_ : Int} {by_ : BitVec 8} (h : Ok M) : Ok (turn M i at_ by_).1 := by
  unfold Lk.turn
  split
  · split
    · exact h
    · intro x hx
      rcases List.mem_or_eq_of_mem_set hx with hx | hx
      · exact h x hx
      · have := h _ (getD_mem (M := M) (i := i.toNat) (by omega) (0, []))
        rw [hx]; exact ⟨by rw [turnB_len]; exact this.1, this.2.1, this.2.2⟩
  · exact h
theorem behind_len {room : Nat} {M : List Pa} {x : Pa} (h : M.length ≤ room) : (behind room M x).1.length ≤ room := by
  unfold Lk.behind
  split
  · exact h
  · simp; omega
theorem put_len {room : Nat} {M : List Pa} {x : Pa} (h : M.length ≤ room) : (put room M x).1.length ≤ room := by
  unfold Lk.put
  split
  · exact h
  · exact behind_len h
theorem take_len {room : Nat} {M : List Pa} {i : Int} (h : M.length ≤ room) : (take M i).1.length ≤ room := by
  unfold Lk.take
  split
  · exact Nat.le_trans (List.length_eraseIdx_le _ _) h
  · exact h
theorem twice_len {room : Nat} {M : List Pa} {i : Int} (h : M.length ≤ room) : (twice room M i).1.length ≤ room := by
  unfold Lk.twice
  split
  · exact behind_len h
  · exact h
theorem turn_len {room : Nat} {M : List Pa} {i at_ : Int} {by_ : BitVec 8} (h : M.length ≤ room) : (turn M i at_ by_).1.length ≤ room := by
  unfold Lk.turn
  split
  · split
    · exact h
    · simpa using h
  · exact h
end Lk
end Go.Proofs.Ytojkcbhmhfjioaa
