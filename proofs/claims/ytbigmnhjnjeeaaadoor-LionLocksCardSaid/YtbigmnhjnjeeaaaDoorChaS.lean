/-
  ChaCha20, as plain functions; own work.
-/
import Derived.Test.YtbigmnhjnjeeaaaDoorSha1
set_option linter.unusedSimpArgs false
set_option linter.unusedVariables false
namespace Go.Proofs.YtbigmnhjnjeeaaaDoor
namespace Ch
abbrev W := BitVec 32
def rl (x : W) (n : Nat) : W := (x <<< n) ||| (x >>> (32 - n))
/-- four words, mixed -/
def qa (a b c d : W) : W := a + b
def q4 (a b c d : W) : W × W × W × W :=
  let a1 := a + b
  let d1 := rl (d ^^^ a1) 16
  let c1 := c + d1
  let b1 := rl (b ^^^ c1) 12
  let a2 := a1 + b1
  let d2 := rl (d1 ^^^ a2) 8
  let c2 := c1 + d2
  let b2 := rl (b1 ^^^ c2) 7
  (a2, b2, c2, d2)
def qr (s : List W) (i j k l : Nat) : List W :=
  let r := q4 (s.getD i 0) (s.getD j 0) (s.getD k 0) (s.getD l 0)
  (((s.set i r.1).set j r.2.1).set k r.2.2.1).set l r.2.2.2
def dbl (s : List W) : List W := qr (qr (qr (qr (qr (qr (qr (qr s 0 4 8 12) 1 5 9 13) 2 6 10 14) 3 7 11 15) 0 5 10 15) 1 6 11 12) 2 7 8 13) 3 4 9 14
def dbln (s : List W) : Nat → List W
  | 0 => s
  | n + 1 => dbl (dbln s n)
/-- four bytes as a word, the lowest one first -/
def wd (l : List (BitVec 8)) (i : Nat) : W := (l.getD i 0).setWidth 32 ||| ((l.getD (i + 1) 0).setWidth 32 <<< 8) ||| ((l.getD (i + 2) 0).setWidth 32 <<< 16) ||| ((l.getD (i + 3) 0).setWidth 32 <<< 24)
def fst (k n : List (BitVec 8)) (c : W) : List W :=
  [0x61707865#32, 0x3320646e#32, 0x79622d32#32, 0x6b206574#32] ++ (List.range 8).map (fun i => wd k (4 * i)) ++ [c] ++ (List.range 3).map (fun i => wd n (4 * i))
/-- a word's bytes, the lowest one first -/
def wb (x : W) : List (BitVec 8) := [x.setWidth 8, (x >>> 8).setWidth 8, (x >>> 16).setWidth 8, (x >>> 24).setWidth 8]
def blk (k n : List (BitVec 8)) (c : W) : List (BitVec 8) :=
  let f := fst k n c
  let s := dbln f 10
  (List.range 16).flatMap fun i => wb (s.getD i 0 + f.getD i 0)
/-- m blocks of the stream -/
def blks (k n : List (BitVec 8)) (c : W) (m : Nat) : List (BitVec 8) := (List.range m).flatMap fun j => blk k n (c + BitVec.ofNat 32 j)
def str (k n : List (BitVec 8)) (c : W) (long : Nat) : List (BitVec 8) := (blks k n c ((long + 63) / 64)).take long
def xr (k n : List (BitVec 8)) (c : W) (b : List (BitVec 8)) : List (BitVec 8) := List.zipWith (· ^^^ ·) (str k n c b.length) b
end Ch
theorem qr_len (s : List (BitVec 32)) (i j k l : Nat) : (Ch.qr s i j k l).length = s.length := by simp [Ch.qr]
theorem dbl_len (s : List (BitVec 32)) : (Ch.dbl s).length = s.length := by simp [Ch.dbl, qr_len]
theorem dbln_len (s : List (BitVec 32)) : ∀ n, (Ch.dbln s n).length = s.length
  | 0 => rfl
  | n + 1 => by simp [Ch.dbln, dbl_len, dbln_len s n]
theorem fst_len (k n : List (BitVec 8)) (c : BitVec 32) : (Ch.fst k n c).length = 16 := by simp [Ch.fst]
theorem flat_len {α β : Type} (f : α → List β) (m : Nat) (hf : ∀ x, (f x).length = m) : ∀ l : List α, (l.flatMap f).length = l.length * m
  | [] => by simp
  | x :: r => by rw [List.flatMap_cons, List.length_append, hf, flat_len f m hf r, List.length_cons, Nat.add_mul]; omega
theorem blk_len (k n : List (BitVec 8)) (c : BitVec 32) : (Ch.blk k n c).length = 64 := by
  unfold Ch.blk
  rw [flat_len _ 4 (fun _ => rfl)]; simp
theorem blks_len (k n : List (BitVec 8)) (c : BitVec 32) (m : Nat) : (Ch.blks k n c m).length = 64 * m := by
  unfold Ch.blks
  rw [flat_len _ 64 (fun _ => blk_len ..)]; simp; omega
theorem blks_succ (k n : List (BitVec 8)) (c : BitVec 32) (m : Nat) : Ch.blks k n c (m + 1) = Ch.blks k n c m ++ Ch.blk k n (c + BitVec.ofNat 32 m) := by
  unfold Ch.blks
  rw [List.range_succ, List.flatMap_append]; simp
theorem str_len (k n : List (BitVec 8)) (c : BitVec 32) (long : Nat) : (Ch.str k n c long).length = long := by
  unfold Ch.str
  rw [List.length_take, blks_len]; omega
theorem xr_len (k n : List (BitVec 8)) (c : BitVec 32) (b : List (BitVec 8)) : (Ch.xr k n c b).length = b.length := by
  unfold Ch.xr
  rw [List.length_zipWith, str_len]; simp
/-- what is turned twice is as it was -/
theorem xr_xr (k n : List (BitVec 8)) (c : BitVec 32) (b : List (BitVec 8)) : Ch.xr k n c (Ch.xr k n c b) = b := by
  have h := xr_len k n c b
  apply List.ext_getElem (by rw [xr_len, h])
  intro i h1 h2
  unfold Ch.xr at *
  simp only [List.getElem_zipWith, List.length_zipWith, str_len, Nat.min_self]
  rw [← BitVec.xor_assoc, BitVec.xor_self, BitVec.zero_xor]
end Go.Proofs.YtbigmnhjnjeeaaaDoor
