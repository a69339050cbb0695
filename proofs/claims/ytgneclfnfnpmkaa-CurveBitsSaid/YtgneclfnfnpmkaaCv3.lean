/-
  Bits of a secret, and the swap of two parts of the ladder; own work.
-/
import Derived.Test.YtgneclfnfnpmkaaCv2
set_option linter.unusedSimpArgs false
set_option linter.unusedVariables false
namespace Go.Proofs.Ytgneclfnfnpmkaa
open Go.RowKit Fp
theorem leN_byte : ∀ (l : List (BitVec 8)) (j : Nat), j < l.length → (l.getD j 0).toNat = leN l / 256 ^ j % 256
  | [], _, h => by simp at h
  | x :: r, 0, _ => by have := x.isLt; rw [leN_cons]; simp; omega
  | x :: r, j + 1, h => by
    have h1 := leN_byte r j (by simpa using h)
    have := x.isLt
    rw [leN_cons, List.getD_cons_succ, h1, Nat.pow_succ, Nat.mul_comm (256 ^ j) 256, ← Nat.div_div_eq_div_mul, show (x.toNat + 256 * leN r) / 256 = leN r by omega]
theorem bit_of (m r : Nat) (h : r < 8) : m % 256 / 2 ^ r % 2 = m / 2 ^ r % 2 := by
  have : r = 0 ∨ r = 1 ∨ r = 2 ∨ r = 3 ∨ r = 4 ∨ r = 5 ∨ r = 6 ∨ r = 7 := by omega
  rcases this with rfl | rfl | rfl | rfl | rfl | rfl | rfl | rfl <;> simp only [Nat.reducePow] <;> omega
theorem leN_bit (l : List (BitVec 8)) (i : Nat) (h : i / 8 < l.length) : leN l / 2 ^ i % 2 = (l.getD (i / 8) 0).toNat / 2 ^ (i % 8) % 2 := by
  rw [leN_byte l _ h, bit_of _ _ (Nat.mod_lt _ (by decide)), Nat.div_div_eq_div_mul]
  congr 2
  rw [show (256 : Nat) = 2 ^ 8 from rfl, ← Nat.pow_mul, ← Nat.pow_add]
  congr 1; omega
theorem bv_lt (n : Nat) : BitVec.ofNat 8 (n % 2) = bv (n % 2 == 1) := by
  have : n % 2 = 0 ∨ n % 2 = 1 := by omega
  rcases this with h | h <;> rw [h] <;> rfl
theorem n2 (n : Nat) : (BitVec.ofNat 8 (n % 2)).toNat = n % 2 := by rw [BitVec.toNat_ofNat]; omega
theorem bit_and (x : BitVec 8) (r : Nat) : (x >>> r) &&& 1#8 = bv (x.toNat / 2 ^ r % 2 == 1) := by
  rw [← bv_lt]
  apply BitVec.eq_of_toNat_eq
  rw [BitVec.toNat_and, BitVec.toNat_ushiftRight, Nat.shiftRight_eq_div_pow, n2]
  show _ &&& 1 = _
  rw [Nat.and_one_is_mod]
theorem bit_rem (x : BitVec 8) (r : Nat) : (x >>> r) % 2#8 = bv (x.toNat / 2 ^ r % 2 == 1) := by
  rw [← bv_lt]
  apply BitVec.eq_of_toNat_eq
  rw [BitVec.toNat_umod, BitVec.toNat_ushiftRight, Nat.shiftRight_eq_div_pow, n2]
  rfl
theorem bv_xor (c d : Bool) : bv c ^^^ bv d = bv (c != d) := by cases c <;> cases d <;> rfl
theorem cs_N64 (L : List Nat) (h : ∀ x ∈ L, x < 18446744073709551616) : cs N64 L = cs U64 (L.map (BitVec.ofNat 64)) := by
  unfold cs; congr 1
  rw [List.map_map]
  refine List.map_congr_left fun x hx => ?_
  show Value.int .u64 (x : Int) = Value.int .u64 ((BitVec.ofNat 64 x).toNat : Int)
  rw [BitVec.toNat_ofNat, Nat.mod_eq_of_lt (h x hx)]
theorem xx1 (a d : BitVec 64) : a ^^^ (a ^^^ d) = d := by rw [← BitVec.xor_assoc, BitVec.xor_self, BitVec.zero_xor]
theorem xx2 (a d : BitVec 64) : d ^^^ (a ^^^ d) = a := by rw [BitVec.xor_comm a d, xx1]
theorem msk_t (a : BitVec 64) : msk true &&& a = a := by rw [show msk true = BitVec.allOnes 64 by decide +kernel, BitVec.allOnes_and]
theorem msk_f (a : BitVec 64) : msk false &&& a = 0#64 := by rw [show msk false = 0#64 by decide +kernel, BitVec.zero_and]
theorem x0 (a : BitVec 64) : a ^^^ 0#64 = a := BitVec.xor_zero
def sw (c : Bool) (x y : Nat) : Nat := if c then y else x
theorem limbs_lt (n : Nat) : ∀ x ∈ limbs n, x < 18446744073709551616 := by
  intro x hx
  simp only [limbs, List.mem_cons, List.not_mem_nil, or_false] at hx
  rcases hx with rfl | rfl | rfl | rfl <;> exact Nat.mod_lt _ (by decide)
theorem l5_lt (u x z X Z : Nat) : ∀ y ∈ limbs u ++ limbs x ++ limbs z ++ limbs X ++ limbs Z, y < 18446744073709551616 := by
  intro y hy
  simp only [List.mem_append] at hy
  rcases hy with (((h | h) | h) | h) | h <;> exact limbs_lt _ _ h
set_option maxHeartbeats 1000000 in
theorem swL_x (c : Bool) (u0 u1 u2 u3 x0' x1 x2 x3 z0 z1 z2 z3 X0 X1 X2 X3 Z0 Z1 Z2 Z3 : BitVec 64) :
    swL c 4 12 [u0, u1, u2, u3, x0', x1, x2, x3, z0, z1, z2, z3, X0, X1, X2, X3, Z0, Z1, Z2, Z3] 4 =
      if c then [u0, u1, u2, u3, X0, X1, X2, X3, z0, z1, z2, z3, x0', x1, x2, x3, Z0, Z1, Z2, Z3] else [u0, u1, u2, u3, x0', x1, x2, x3, z0, z1, z2, z3, X0, X1, X2, X3, Z0, Z1, Z2, Z3] := by
  cases c <;> simp [swL, g64, msk_t, msk_f, xx1, xx2, x0]
set_option maxHeartbeats 1000000 in
theorem swL_z (c : Bool) (u0 u1 u2 u3 x0' x1 x2 x3 z0 z1 z2 z3 X0 X1 X2 X3 Z0 Z1 Z2 Z3 : BitVec 64) :
    swL c 8 16 [u0, u1, u2, u3, x0', x1, x2, x3, z0, z1, z2, z3, X0, X1, X2, X3, Z0, Z1, Z2, Z3] 4 =
      if c then [u0, u1, u2, u3, x0', x1, x2, x3, Z0, Z1, Z2, Z3, X0, X1, X2, X3, z0, z1, z2, z3] else [u0, u1, u2, u3, x0', x1, x2, x3, z0, z1, z2, z3, X0, X1, X2, X3, Z0, Z1, Z2, Z3] := by
  cases c <;> simp [swL, g64, msk_t, msk_f, xx1, xx2, x0]
theorem swapx_c (w : World) (b : Nat) (c : Bool) (u x z X Z : Nat) (M : Mm (fun g => g = b) w [(b, cs N64 (limbs u ++ limbs x ++ limbs z ++ limbs X ++ limbs Z))] w) :
    Calls Try.prog 62 #[U8 (bv c), .pointer (some ⟨b, 4, none⟩), .pointer (some ⟨b, 12, none⟩)] w fun e w' => e = .returned (.tuple #[]) ∧ Mm (fun g => g = b) w [(b, cs N64 (limbs u ++ limbs (sw c x X) ++ limbs z ++ limbs (sw c X x) ++ limbs Z))] w' := by
  rw [cs_N64 _ (l5_lt u x z X Z)] at M
  refine (swap_any w b c 4 12 _ (by simp) (by simp) M).mono fun e w' ⟨h, M2⟩ => ⟨h, ?_⟩
  rw [cs_N64 _ (l5_lt u (sw c x X) z (sw c X x) Z)]
  have e : swL c 4 12 ((limbs u ++ limbs x ++ limbs z ++ limbs X ++ limbs Z).map (BitVec.ofNat 64)) 4 = (limbs u ++ limbs (sw c x X) ++ limbs z ++ limbs (sw c X x) ++ limbs Z).map (BitVec.ofNat 64) := by
    refine (swL_x c ..).trans ?_
    cases c <;> rfl
  rw [← e]; exact M2
theorem swapz_c (w : World) (b : Nat) (c : Bool) (u x z X Z : Nat) (M : Mm (fun g => g = b) w [(b, cs N64 (limbs u ++ limbs x ++ limbs z ++ limbs X ++ limbs Z))] w) :
    Calls Try.prog 62 #[U8 (bv c), .pointer (some ⟨b, 8, none⟩), .pointer (some ⟨b, 16, none⟩)] w fun e w' => e = .returned (.tuple #[]) ∧ Mm (fun g => g = b) w [(b, cs N64 (limbs u ++ limbs x ++ limbs (sw c z Z) ++ limbs X ++ limbs (sw c Z z)))] w' := by
  rw [cs_N64 _ (l5_lt u x z X Z)] at M
  refine (swap_any w b c 8 16 _ (by simp) (by simp) M).mono fun e w' ⟨h, M2⟩ => ⟨h, ?_⟩
  rw [cs_N64 _ (l5_lt u x (sw c z Z) X (sw c Z z))]
  have e : swL c 8 16 ((limbs u ++ limbs x ++ limbs z ++ limbs X ++ limbs Z).map (BitVec.ofNat 64)) 4 = (limbs u ++ limbs x ++ limbs (sw c z Z) ++ limbs X ++ limbs (sw c Z z)).map (BitVec.ofNat 64) := by
    refine (swL_z c ..).trans ?_
    cases c <;> rfl
  rw [← e]; exact M2
/-- a box that is made behind others -/
theorem wpT_box {P : Program} {ops : Array Oper} {Q : Exit → Act → World → Prop} {i : Nat} {t : Tr} {a : Act} {o : Oper} {S : Nat → Prop} {w0 w : World} {H : List (Nat × Array Value)} {c : Array Value} {T : TypeId} (M : Mm S w0 H w) (hT : T ≠ 5) (ho : ops[i]? = some o) (hw : Region.wanted o (yielded ops a.tmps) = true)
    (hrun : (execOp a.eval o).run P w = .ok (.value (.pointer (some ⟨w.heap.size, 0, none⟩))) (w.alloc (.cells c T)))
    (h : ∀ b w', Mm S w0 ((b, c) :: H) w' → wpT P ops Q t (a.put o.dst (.pointer (some ⟨b, 0, none⟩))) w') : wpT P ops Q (.op i t) a w :=
  wpT_val ho hw hrun (h _ _ (M.alloc c T hT))
/-- the state of the ladder, as it lies, changed or not -/
def st (c : Bool) (x z X Z : F) : St := bif c then ⟨X, Z, x, z⟩ else ⟨x, z, X, Z⟩
theorem step_law (u : F) (d : Bool) (x z X Z : F) (s : St) (h : s = st d x z X Z) :
    lstep u d s = st d (twX x z) (twZ x z) (smX x z X Z) (smZ u x z X Z) := by
  subst h; cases d <;> rfl
theorem st_swap (c d : Bool) (x z X Z : Nat) : st d (fv (sw (c != d) x X)) (fv (sw (c != d) z Z)) (fv (sw (c != d) X x)) (fv (sw (c != d) Z z)) = st c (fv x) (fv z) (fv X) (fv Z) := by
  cases c <;> cases d <;> rfl
theorem fv_121665 : fv 121665 = 121665 := by decide +kernel
theorem fv_twX (x z : Nat) : fv (mulV (mulV (addV x z) (addV x z)) (mulV (subV x z) (subV x z))) = twX (fv x) (fv z) := by simp only [fv_mul, fv_add, fv_sub]; rfl
theorem fv_twZ (x z : Nat) : fv (mulV (subV (mulV (addV x z) (addV x z)) (mulV (subV x z) (subV x z))) (addV (mulV (addV x z) (addV x z)) (mulV (subV (mulV (addV x z) (addV x z)) (mulV (subV x z) (subV x z))) 121665))) = twZ (fv x) (fv z) := by
  simp only [fv_mul, fv_add, fv_sub, fv_121665]; unfold twZ; grind
theorem fv_smX (x z X Z : Nat) : fv (mulV (addV (mulV (subV X Z) (addV x z)) (mulV (addV X Z) (subV x z))) (addV (mulV (subV X Z) (addV x z)) (mulV (addV X Z) (subV x z)))) = smX (fv x) (fv z) (fv X) (fv Z) := by simp only [fv_mul, fv_add, fv_sub]; rfl
theorem fv_smZ (u x z X Z : Nat) : fv (mulV u (mulV (subV (mulV (subV X Z) (addV x z)) (mulV (addV X Z) (subV x z))) (subV (mulV (subV X Z) (addV x z)) (mulV (addV X Z) (subV x z))))) = smZ (fv u) (fv x) (fv z) (fv X) (fv Z) := by simp only [fv_mul, fv_add, fv_sub]; rfl
end Go.Proofs.Ytgneclfnfnpmkaa
