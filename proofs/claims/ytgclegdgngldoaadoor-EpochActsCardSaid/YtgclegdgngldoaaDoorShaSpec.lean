/-
  SHA-256 in plain Lean, over lists of bit vectors; own work.
-/
set_option linter.unusedVariables false
namespace Go.Proofs.YtgclegdgngldoaaDoor.Sh
abbrev B := BitVec 8
abbrev W := BitVec 32
def rr (x : W) (k : Nat) : W := x >>> k ||| x <<< (32 - k)
def word (a b c d : B) : W := a.setWidth 32 <<< 24 ||| b.setWidth 32 <<< 16 ||| c.setWidth 32 <<< 8 ||| d.setWidth 32
def wordAt (l : List B) (t : Nat) : W := word (l.getD (4 * t) 0) (l.getD (4 * t + 1) 0) (l.getD (4 * t + 2) 0) (l.getD (4 * t + 3) 0)
def s0 (x : W) : W := rr x 7 ^^^ rr x 18 ^^^ x >>> 3
def s1 (x : W) : W := rr x 17 ^^^ rr x 19 ^^^ x >>> 10
def nextW (s : List W) (t : Nat) : W := s1 (s.getD (t - 2) 0) + s.getD (t - 7) 0 + s0 (s.getD (t - 15) 0) + s.getD (t - 16) 0
def sched (l : List B) : Nat → List W
  | 0 => []
  | t + 1 => sched l t ++ [if t < 16 then wordAt l t else nextW (sched l t) t]
theorem sched_len (l : List B) : ∀ t, (sched l t).length = t
  | 0 => rfl
  | t + 1 => by simp [sched, sched_len l t]

def K : List W := [0x428a2f98, 0x71374491, 0xb5c0fbcf, 0xe9b5dba5, 0x3956c25b, 0x59f111f1, 0x923f82a4, 0xab1c5ed5, 0xd807aa98, 0x12835b01, 0x243185be, 0x550c7dc3, 0x72be5d74, 0x80deb1fe, 0x9bdc06a7, 0xc19bf174, 0xe49b69c1, 0xefbe4786, 0x0fc19dc6, 0x240ca1cc, 0x2de92c6f, 0x4a7484aa, 0x5cb0a9dc, 0x76f988da, 0x983e5152, 0xa831c66d, 0xb00327c8, 0xbf597fc7, 0xc6e00bf3, 0xd5a79147, 0x06ca6351, 0x14292967, 0x27b70a85, 0x2e1b2138, 0x4d2c6dfc, 0x53380d13, 0x650a7354, 0x766a0abb, 0x81c2c92e, 0x92722c85, 0xa2bfe8a1, 0xa81a664b, 0xc24b8b70, 0xc76c51a3, 0xd192e819, 0xd6990624, 0xf40e3585, 0x106aa070, 0x19a4c116, 0x1e376c08, 0x2748774c, 0x34b0bcb5, 0x391c0cb3, 0x4ed8aa4a, 0x5b9cca4f, 0x682e6ff3, 0x748f82ee, 0x78a5636f, 0x84c87814, 0x8cc70208, 0x90befffa, 0xa4506ceb, 0xbef9a3f7, 0xc67178f2]
structure S8 where
  a : W
  b : W
  c : W
  d : W
  e : W
  f : W
  g : W
  h : W
def S8.list (s : S8) : List W := [s.a, s.b, s.c, s.d, s.e, s.f, s.g, s.h]
def init : S8 := ⟨0x6a09e667, 0xbb67ae85, 0x3c6ef372, 0xa54ff53a, 0x510e527f, 0x9b05688c, 0x1f83d9ab, 0x5be0cd19⟩
def t1 (s : S8) (k w : W) : W := s.h + (rr s.e 6 ^^^ rr s.e 11 ^^^ rr s.e 25) + (s.g ^^^ s.e &&& (s.f ^^^ s.g)) + k + w
def t2 (s : S8) : W := (rr s.a 2 ^^^ rr s.a 13 ^^^ rr s.a 22) + (s.a &&& s.b ||| s.c &&& (s.a ||| s.b))
def S8.step (s : S8) (k w : W) : S8 := ⟨t1 s k w + t2 s, s.a, s.b, s.c, s.d + t1 s k w, s.e, s.f, s.g⟩
def rounds (s : S8) (ws : List W) : Nat → S8
  | 0 => s
  | t + 1 => (rounds s ws t).step (K.getD t 0) (ws.getD t 0)
def S8.plus (s r : S8) : S8 := ⟨s.a + r.a, s.b + r.b, s.c + r.c, s.d + r.d, s.e + r.e, s.f + r.f, s.g + r.g, s.h + r.h⟩
def compress (s : S8) (l : List B) : S8 := s.plus (rounds s (sched l 64) 64)
/-- all whole blocks are taken; the rest is what is left -/
def absorb (s : S8) (l : List B) : S8 × List B :=
  if h : 64 ≤ l.length then absorb (compress s (l.take 64)) (l.drop 64) else (s, l)
termination_by l.length
decreasing_by simp; omega
theorem absorb_lt {s : S8} {l : List B} (h : l.length < 64) : absorb s l = (s, l) := by rw [absorb, dif_neg (by omega)]
theorem absorb_ge {s : S8} {l : List B} (h : 64 ≤ l.length) : absorb s l = absorb (compress s (l.take 64)) (l.drop 64) := by rw [absorb, dif_pos h]
theorem absorb_append (s : S8) (l m : List B) : absorb s (l ++ m) = absorb (absorb s l).1 ((absorb s l).2 ++ m) := by
  by_cases h : 64 ≤ l.length
  · rw [absorb_ge (s := s) (l := l) h, absorb_ge (l := l ++ m) (by simp; omega), List.take_append_of_le_length h, List.drop_append_of_le_length h]
    exact absorb_append _ (l.drop 64) m
  · rw [absorb_lt (s := s) (l := l) (by omega)]
termination_by l.length
decreasing_by simp; omega
theorem absorb_rest (s : S8) (l : List B) : (absorb s l).2.length < 64 ∧ (absorb s l).2.length = l.length % 64 := by
  by_cases h : 64 ≤ l.length
  · rw [absorb_ge h]
    have := absorb_rest (compress s (l.take 64)) (l.drop 64)
    refine ⟨this.1, ?_⟩
    rw [this.2, List.length_drop, ← Nat.mod_eq_sub_mod h]
  · rw [absorb_lt (by omega)]
    exact ⟨by simpa using h, by simp; omega⟩
termination_by l.length
decreasing_by simp; omega
/-- the eight bytes that tell how many bits there were -/
def be8 (n : Nat) : List B := [BitVec.ofNat 8 (n * 8 / 2 ^ 56), BitVec.ofNat 8 (n * 8 / 2 ^ 48), BitVec.ofNat 8 (n * 8 / 2 ^ 40), BitVec.ofNat 8 (n * 8 / 2 ^ 32), BitVec.ofNat 8 (n * 8 / 2 ^ 24), BitVec.ofNat 8 (n * 8 / 2 ^ 16), BitVec.ofNat 8 (n * 8 / 2 ^ 8), BitVec.ofNat 8 (n * 8)]
def zeros (n : Nat) : List B := List.replicate n 0
/-- how many noughts come behind so many bytes and the one that ends them -/
def npad (L : Nat) : Nat := (119 - L % 64) % 64
def finish (rest : List B) (n : Nat) : List B := rest ++ [128] ++ zeros (npad rest.length) ++ be8 n
def wbytes (x : W) : List B := [(x >>> 24).setWidth 8, (x >>> 16).setWidth 8, (x >>> 8).setWidth 8, x.setWidth 8]
def S8.bytes (s : S8) : List B := s.list.flatMap wbytes
def digest (s : S8) (rest : List B) (n : Nat) : List B := (absorb s (finish rest n)).1.bytes
def sum (l : List B) : List B := digest init l l.length
theorem finish_len (rest : List B) (n : Nat) : (finish rest n).length = rest.length + 9 + npad rest.length := by simp [finish, zeros, be8]; omega
theorem finish_mod (rest : List B) (n : Nat) : (finish rest n).length % 64 = 0 := by rw [finish_len]; unfold npad; omega
theorem bytes_len (s : S8) : s.bytes.length = 32 := rfl
/-- the digest of what was taken so far -/
theorem digest_absorb (l : List B) (n : Nat) : digest (absorb init l).1 (absorb init l).2 n = (absorb init (finish l n)).1.bytes := by
  have h := absorb_rest init l
  unfold digest
  have e : finish l n = l ++ ([128] ++ zeros (npad l.length) ++ be8 n) := by simp [finish]
  have e2 : finish (absorb init l).2 n = (absorb init l).2 ++ ([128] ++ zeros (npad l.length) ++ be8 n) := by
    have : npad (absorb init l).2.length = npad l.length := by unfold npad; rw [h.2]; omega
    simp [finish, this]
  rw [e, e2, absorb_append init l]
end Go.Proofs.YtgclegdgngldoaaDoor.Sh
