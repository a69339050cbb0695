/-
  Typed words for whole numbers: a value of kind u8, u32, u64 under a name that the walk does not open, with one rule an operation; own work.
-/
import Derived.Test.YtojkcbhmhfjioaaProg
import Derived.WalkKit
import Derived.WalkSpells
import Derived.WalkLawsBesides
import Derived.BigQuiet
import Derived.Deep.QuietTactic
set_option linter.unusedSimpArgs false
set_option linter.unusedVariables false
namespace Go.Proofs.Ytojkcbhmhfjioaa
open Go.RowKit

def U8 (x : BitVec 8) : Value := .int .u8 x.toNat
def U32 (x : BitVec 32) : Value := .int .u32 x.toNat
def U64 (x : BitVec 64) : Value := .int .u64 x.toNat

theorem wrap_u64' (n : Int) : IntKind.u64.wrap n = n % 18446744073709551616 := by simp [IntKind.wrap, IntKind.bits, IntKind.signed]
theorem w8 (n : Int) : IntKind.u8.wrap n = ((BitVec.ofInt 8 n).toNat : Int) := by
  rw [IntKind.wrap_u8, BitVec.toNat_ofInt]; omega
theorem w32 (n : Int) : IntKind.u32.wrap n = ((BitVec.ofInt 32 n).toNat : Int) := by
  rw [IntKind.wrap_u32, BitVec.toNat_ofInt]; omega
theorem w64 (n : Int) : IntKind.u64.wrap n = ((BitVec.ofInt 64 n).toNat : Int) := by
  rw [wrap_u64', BitVec.toNat_ofInt]; omega
theorem u8_wrap (n : Int) : Value.int .u8 (IntKind.u8.wrap n) = U8 (BitVec.ofInt 8 n) := by rw [w8]; rfl
theorem u32_wrap (n : Int) : Value.int .u32 (IntKind.u32.wrap n) = U32 (BitVec.ofInt 32 n) := by rw [w32]; rfl
theorem u64_wrap (n : Int) : Value.int .u64 (IntKind.u64.wrap n) = U64 (BitVec.ofInt 64 n) := by rw [w64]; rfl
theorem ofInt_toNat {k : Nat} (x : BitVec k) : BitVec.ofInt k (x.toNat : Int) = x := by simp

theorem shl_8 {t : TypeId} (x : BitVec 8) (yk : IntKind) (n : Int) (h : 0 ≤ n) : binOp .shl t (U8 x) (.int yk n) = pure (U8 (x <<< n.toNat)) := by
  show Op.shift .shl .u8 (x.toNat : Int) yk n = _
  unfold Op.shift
  rw [if_neg (by omega)]
  show Sem.pure (Value.int .u8 (IntKind.u8.wrap ((x.toNat : Int) * 2 ^ (min n.toNat 8)))) = Sem.pure _
  rw [u8_wrap]; congr 2
  apply BitVec.eq_of_toNat_eq
  rw [BitVec.toNat_ofInt, BitVec.toNat_shiftLeft, Nat.shiftLeft_eq]
  have e : ((x.toNat : Int) * 2 ^ (min n.toNat 8)) = ((x.toNat * 2 ^ (min n.toNat 8) : Nat) : Int) := by simp
  rw [e, ← Int.natCast_emod, Int.toNat_natCast]
  by_cases hk : n.toNat ≤ 8
  · rw [Nat.min_eq_left hk]
  · rw [Nat.min_eq_right (by omega), Nat.mul_mod_left]
    have : n.toNat = 8 + (n.toNat - 8) := by omega
    rw [this, Nat.pow_add, ← Nat.mul_assoc, Nat.mul_right_comm, Nat.mul_mod_left]
theorem shr_8 {t : TypeId} (x : BitVec 8) (yk : IntKind) (n : Int) (h : 0 ≤ n) : binOp .shr t (U8 x) (.int yk n) = pure (U8 (x >>> n.toNat)) := by
  show Op.shift .shr .u8 (x.toNat : Int) yk n = _
  unfold Op.shift
  rw [if_neg (by omega)]
  show Sem.pure (Value.int .u8 ((x.toNat : Int).fdiv (2 ^ (min n.toNat 8)))) = Sem.pure (Value.int .u8 _)
  congr 2
  rw [BitVec.toNat_ushiftRight, Nat.shiftRight_eq_div_pow]
  have e : (2 : Int) ^ (min n.toNat 8) = ((2 ^ (min n.toNat 8) : Nat) : Int) := by simp
  rw [Int.fdiv_eq_ediv_of_nonneg _ (by rw [e]; exact Int.natCast_nonneg _), e, ← Int.natCast_ediv]
  congr 1
  by_cases hk : n.toNat ≤ 8
  · rw [Nat.min_eq_left hk]
  · rw [Nat.min_eq_right (by omega), Nat.div_eq_of_lt x.isLt, Nat.div_eq_of_lt]
    exact Nat.lt_of_lt_of_le x.isLt (Nat.pow_le_pow_right (by decide) (by omega))
theorem shl_32 {t : TypeId} (x : BitVec 32) (yk : IntKind) (n : Int) (h : 0 ≤ n) : binOp .shl t (U32 x) (.int yk n) = pure (U32 (x <<< n.toNat)) := by
  show Op.shift .shl .u32 (x.toNat : Int) yk n = _
  unfold Op.shift
  rw [if_neg (by omega)]
  show Sem.pure (Value.int .u32 (IntKind.u32.wrap ((x.toNat : Int) * 2 ^ (min n.toNat 32)))) = Sem.pure _
  rw [u32_wrap]; congr 2
  apply BitVec.eq_of_toNat_eq
  rw [BitVec.toNat_ofInt, BitVec.toNat_shiftLeft, Nat.shiftLeft_eq]
  have e : ((x.toNat : Int) * 2 ^ (min n.toNat 32)) = ((x.toNat * 2 ^ (min n.toNat 32) : Nat) : Int) := by simp
  rw [e, ← Int.natCast_emod, Int.toNat_natCast]
  by_cases hk : n.toNat ≤ 32
  · rw [Nat.min_eq_left hk]
  · rw [Nat.min_eq_right (by omega), Nat.mul_mod_left]
    have : n.toNat = 32 + (n.toNat - 32) := by omega
    rw [this, Nat.pow_add, ← Nat.mul_assoc, Nat.mul_right_comm, Nat.mul_mod_left]
theorem shr_32 {t : TypeId} (x : BitVec 32) (yk : IntKind) (n : Int) (h : 0 ≤ n) : binOp .shr t (U32 x) (.int yk n) = pure (U32 (x >>> n.toNat)) := by
  show Op.shift .shr .u32 (x.toNat : Int) yk n = _
  unfold Op.shift
  rw [if_neg (by omega)]
  show Sem.pure (Value.int .u32 ((x.toNat : Int).fdiv (2 ^ (min n.toNat 32)))) = Sem.pure (Value.int .u32 _)
  congr 2
  rw [BitVec.toNat_ushiftRight, Nat.shiftRight_eq_div_pow]
  have e : (2 : Int) ^ (min n.toNat 32) = ((2 ^ (min n.toNat 32) : Nat) : Int) := by simp
  rw [Int.fdiv_eq_ediv_of_nonneg _ (by rw [e]; exact Int.natCast_nonneg _), e, ← Int.natCast_ediv]
  congr 1
  by_cases hk : n.toNat ≤ 32
  · rw [Nat.min_eq_left hk]
  · rw [Nat.min_eq_right (by omega), Nat.div_eq_of_lt x.isLt, Nat.div_eq_of_lt]
    exact Nat.lt_of_lt_of_le x.isLt (Nat.pow_le_pow_right (by decide) (by omega))
theorem shl_64 {t : TypeId} (x : BitVec 64) (yk : IntKind) (n : Int) (h : 0 ≤ n) : binOp .shl t (U64 x) (.int yk n) = pure (U64 (x <<< n.toNat)) := by
  show Op.shift .shl .u64 (x.toNat : Int) yk n = _
  unfold Op.shift
  rw [if_neg (by omega)]
  show Sem.pure (Value.int .u64 (IntKind.u64.wrap ((x.toNat : Int) * 2 ^ (min n.toNat 64)))) = Sem.pure _
  rw [u64_wrap]; congr 2
  apply BitVec.eq_of_toNat_eq
  rw [BitVec.toNat_ofInt, BitVec.toNat_shiftLeft, Nat.shiftLeft_eq]
  have e : ((x.toNat : Int) * 2 ^ (min n.toNat 64)) = ((x.toNat * 2 ^ (min n.toNat 64) : Nat) : Int) := by simp
  rw [e, ← Int.natCast_emod, Int.toNat_natCast]
  by_cases hk : n.toNat ≤ 64
  · rw [Nat.min_eq_left hk]
  · rw [Nat.min_eq_right (by omega), Nat.mul_mod_left]
    have : n.toNat = 64 + (n.toNat - 64) := by omega
    rw [this, Nat.pow_add, ← Nat.mul_assoc, Nat.mul_right_comm, Nat.mul_mod_left]
theorem shr_64 {t : TypeId} (x : BitVec 64) (yk : IntKind) (n : Int) (h : 0 ≤ n) : binOp .shr t (U64 x) (.int yk n) = pure (U64 (x >>> n.toNat)) := by
  show Op.shift .shr .u64 (x.toNat : Int) yk n = _
  unfold Op.shift
  rw [if_neg (by omega)]
  show Sem.pure (Value.int .u64 ((x.toNat : Int).fdiv (2 ^ (min n.toNat 64)))) = Sem.pure (Value.int .u64 _)
  congr 2
  rw [BitVec.toNat_ushiftRight, Nat.shiftRight_eq_div_pow]
  have e : (2 : Int) ^ (min n.toNat 64) = ((2 ^ (min n.toNat 64) : Nat) : Int) := by simp
  rw [Int.fdiv_eq_ediv_of_nonneg _ (by rw [e]; exact Int.natCast_nonneg _), e, ← Int.natCast_ediv]
  congr 1
  by_cases hk : n.toNat ≤ 64
  · rw [Nat.min_eq_left hk]
  · rw [Nat.min_eq_right (by omega), Nat.div_eq_of_lt x.isLt, Nat.div_eq_of_lt]
    exact Nat.lt_of_lt_of_le x.isLt (Nat.pow_le_pow_right (by decide) (by omega))
section
variable (t : TypeId) (n : Int)
theorem ofInt_sub' {k : Nat} (a b : Int) : BitVec.ofInt k (a - b) = BitVec.ofInt k a - BitVec.ofInt k b := by
  rw [Int.sub_eq_add_neg, BitVec.ofInt_add, BitVec.ofInt_neg, BitVec.sub_eq_add_neg]
@[go_sem ↓] theorem b_add_8 (x : BitVec 8) (y : BitVec 8) : binOp .add t (U8 x) (U8 y) = pure (U8 (x + y)) := by
  show Sem.pure (Value.int .u8 (IntKind.u8.wrap (_ + _))) = Sem.pure _
  rw [u8_wrap, BitVec.ofInt_add]; simp [U8]
@[go_sem ↓] theorem b_addc_8 (x : BitVec 8) : binOp .add t (U8 x) (.int .u8 n) = pure (U8 (x + BitVec.ofInt 8 n)) := by
  show Sem.pure (Value.int .u8 (IntKind.u8.wrap (_ + _))) = Sem.pure _
  rw [u8_wrap, BitVec.ofInt_add]; simp [U8]
@[go_sem ↓] theorem b_cadd_8 (y : BitVec 8) : binOp .add t (.int .u8 n) (U8 y) = pure (U8 (BitVec.ofInt 8 n + y)) := by
  show Sem.pure (Value.int .u8 (IntKind.u8.wrap (_ + _))) = Sem.pure _
  rw [u8_wrap, BitVec.ofInt_add]; simp [U8]
@[go_sem ↓] theorem b_sub_8 (x : BitVec 8) (y : BitVec 8) : binOp .sub t (U8 x) (U8 y) = pure (U8 (x - y)) := by
  show Sem.pure (Value.int .u8 (IntKind.u8.wrap (_ - _))) = Sem.pure _
  rw [u8_wrap, ofInt_sub']; simp [U8]
@[go_sem ↓] theorem b_subc_8 (x : BitVec 8) : binOp .sub t (U8 x) (.int .u8 n) = pure (U8 (x - BitVec.ofInt 8 n)) := by
  show Sem.pure (Value.int .u8 (IntKind.u8.wrap (_ - _))) = Sem.pure _
  rw [u8_wrap, ofInt_sub']; simp [U8]
@[go_sem ↓] theorem b_csub_8 (y : BitVec 8) : binOp .sub t (.int .u8 n) (U8 y) = pure (U8 (BitVec.ofInt 8 n - y)) := by
  show Sem.pure (Value.int .u8 (IntKind.u8.wrap (_ - _))) = Sem.pure _
  rw [u8_wrap, ofInt_sub']; simp [U8]
@[go_sem ↓] theorem b_mul_8 (x : BitVec 8) (y : BitVec 8) : binOp .mul t (U8 x) (U8 y) = pure (U8 (x * y)) := by
  show Sem.pure (Value.int .u8 (IntKind.u8.wrap (_ * _))) = Sem.pure _
  rw [u8_wrap, BitVec.ofInt_mul]; simp [U8]
@[go_sem ↓] theorem b_mulc_8 (x : BitVec 8) : binOp .mul t (U8 x) (.int .u8 n) = pure (U8 (x * BitVec.ofInt 8 n)) := by
  show Sem.pure (Value.int .u8 (IntKind.u8.wrap (_ * _))) = Sem.pure _
  rw [u8_wrap, BitVec.ofInt_mul]; simp [U8]
@[go_sem ↓] theorem b_cmul_8 (y : BitVec 8) : binOp .mul t (.int .u8 n) (U8 y) = pure (U8 (BitVec.ofInt 8 n * y)) := by
  show Sem.pure (Value.int .u8 (IntKind.u8.wrap (_ * _))) = Sem.pure _
  rw [u8_wrap, BitVec.ofInt_mul]; simp [U8]
@[go_sem ↓] theorem b_and_8 (x : BitVec 8) (y : BitVec 8) : binOp .and t (U8 x) (U8 y) = pure (U8 (x &&& y)) := by
  show Sem.pure (Value.int .u8 (IntKind.u8.wrap ((BitVec.ofInt 8 _ &&& BitVec.ofInt 8 _).toNat : Int))) = Sem.pure _
  rw [u8_wrap, ofInt_toNat]; simp [U8, ofInt_toNat]
@[go_sem ↓] theorem b_andc_8 (x : BitVec 8) : binOp .and t (U8 x) (.int .u8 n) = pure (U8 (x &&& BitVec.ofInt 8 n)) := by
  show Sem.pure (Value.int .u8 (IntKind.u8.wrap ((BitVec.ofInt 8 _ &&& BitVec.ofInt 8 _).toNat : Int))) = Sem.pure _
  rw [u8_wrap, ofInt_toNat]; simp [U8, ofInt_toNat]
@[go_sem ↓] theorem b_cand_8 (y : BitVec 8) : binOp .and t (.int .u8 n) (U8 y) = pure (U8 (BitVec.ofInt 8 n &&& y)) := by
  show Sem.pure (Value.int .u8 (IntKind.u8.wrap ((BitVec.ofInt 8 _ &&& BitVec.ofInt 8 _).toNat : Int))) = Sem.pure _
  rw [u8_wrap, ofInt_toNat]; simp [U8, ofInt_toNat]
@[go_sem ↓] theorem b_or_8 (x : BitVec 8) (y : BitVec 8) : binOp .or t (U8 x) (U8 y) = pure (U8 (x ||| y)) := by
  show Sem.pure (Value.int .u8 (IntKind.u8.wrap ((BitVec.ofInt 8 _ ||| BitVec.ofInt 8 _).toNat : Int))) = Sem.pure _
  rw [u8_wrap, ofInt_toNat]; simp [U8, ofInt_toNat]
@[go_sem ↓] theorem b_orc_8 (x : BitVec 8) : binOp .or t (U8 x) (.int .u8 n) = pure (U8 (x ||| BitVec.ofInt 8 n)) := by
  show Sem.pure (Value.int .u8 (IntKind.u8.wrap ((BitVec.ofInt 8 _ ||| BitVec.ofInt 8 _).toNat : Int))) = Sem.pure _
  rw [u8_wrap, ofInt_toNat]; simp [U8, ofInt_toNat]
@[go_sem ↓] theorem b_cor_8 (y : BitVec 8) : binOp .or t (.int .u8 n) (U8 y) = pure (U8 (BitVec.ofInt 8 n ||| y)) := by
  show Sem.pure (Value.int .u8 (IntKind.u8.wrap ((BitVec.ofInt 8 _ ||| BitVec.ofInt 8 _).toNat : Int))) = Sem.pure _
  rw [u8_wrap, ofInt_toNat]; simp [U8, ofInt_toNat]
@[go_sem ↓] theorem b_xor_8 (x : BitVec 8) (y : BitVec 8) : binOp .xor t (U8 x) (U8 y) = pure (U8 (x ^^^ y)) := by
  show Sem.pure (Value.int .u8 (IntKind.u8.wrap ((BitVec.ofInt 8 _ ^^^ BitVec.ofInt 8 _).toNat : Int))) = Sem.pure _
  rw [u8_wrap, ofInt_toNat]; simp [U8, ofInt_toNat]
@[go_sem ↓] theorem b_xorc_8 (x : BitVec 8) : binOp .xor t (U8 x) (.int .u8 n) = pure (U8 (x ^^^ BitVec.ofInt 8 n)) := by
  show Sem.pure (Value.int .u8 (IntKind.u8.wrap ((BitVec.ofInt 8 _ ^^^ BitVec.ofInt 8 _).toNat : Int))) = Sem.pure _
  rw [u8_wrap, ofInt_toNat]; simp [U8, ofInt_toNat]
@[go_sem ↓] theorem b_cxor_8 (y : BitVec 8) : binOp .xor t (.int .u8 n) (U8 y) = pure (U8 (BitVec.ofInt 8 n ^^^ y)) := by
  show Sem.pure (Value.int .u8 (IntKind.u8.wrap ((BitVec.ofInt 8 _ ^^^ BitVec.ofInt 8 _).toNat : Int))) = Sem.pure _
  rw [u8_wrap, ofInt_toNat]; simp [U8, ofInt_toNat]
@[go_sem ↓] theorem b_lss_8 (x y : BitVec 8) : binOp .lss t (U8 x) (U8 y) = pure (.bool (decide (x < y))) := by
  show Sem.pure (Value.bool _) = Sem.pure (Value.bool _)
  congr 2
  first | (rw [Bool.eq_iff_iff]; simp [BitVec.lt_def, BitVec.le_def, ← BitVec.toNat_inj]; done) | (rw [Bool.eq_iff_iff]; simp [BitVec.lt_def, BitVec.le_def, ← BitVec.toNat_inj]; omega)
@[go_sem ↓] theorem b_leq_8 (x y : BitVec 8) : binOp .leq t (U8 x) (U8 y) = pure (.bool (decide (x ≤ y))) := by
  show Sem.pure (Value.bool _) = Sem.pure (Value.bool _)
  congr 2
  first | (rw [Bool.eq_iff_iff]; simp [BitVec.lt_def, BitVec.le_def, ← BitVec.toNat_inj]; done) | (rw [Bool.eq_iff_iff]; simp [BitVec.lt_def, BitVec.le_def, ← BitVec.toNat_inj]; omega)
@[go_sem ↓] theorem b_gtr_8 (x y : BitVec 8) : binOp .gtr t (U8 x) (U8 y) = pure (.bool (decide (y < x))) := by
  show Sem.pure (Value.bool _) = Sem.pure (Value.bool _)
  congr 2
  first | (rw [Bool.eq_iff_iff]; simp [BitVec.lt_def, BitVec.le_def, ← BitVec.toNat_inj]; done) | (rw [Bool.eq_iff_iff]; simp [BitVec.lt_def, BitVec.le_def, ← BitVec.toNat_inj]; omega)
@[go_sem ↓] theorem b_geq_8 (x y : BitVec 8) : binOp .geq t (U8 x) (U8 y) = pure (.bool (decide (y ≤ x))) := by
  show Sem.pure (Value.bool _) = Sem.pure (Value.bool _)
  congr 2
  first | (rw [Bool.eq_iff_iff]; simp [BitVec.lt_def, BitVec.le_def, ← BitVec.toNat_inj]; done) | (rw [Bool.eq_iff_iff]; simp [BitVec.lt_def, BitVec.le_def, ← BitVec.toNat_inj]; omega)
@[go_sem ↓] theorem b_eql_8 (x y : BitVec 8) : binOp .eql t (U8 x) (U8 y) = pure (.bool (x == y)) := by
  show Sem.pure (Value.bool _) = Sem.pure (Value.bool _)
  congr 2
  first | (rw [Bool.eq_iff_iff]; simp [BitVec.lt_def, BitVec.le_def, ← BitVec.toNat_inj]; done) | (rw [Bool.eq_iff_iff]; simp [BitVec.lt_def, BitVec.le_def, ← BitVec.toNat_inj]; omega)
@[go_sem ↓] theorem b_neq_8 (x y : BitVec 8) : binOp .neq t (U8 x) (U8 y) = pure (.bool (x != y)) := by
  show Sem.pure (Value.bool _) = Sem.pure (Value.bool _)
  congr 2
  first | (rw [Bool.eq_iff_iff]; simp [BitVec.lt_def, BitVec.le_def, ← BitVec.toNat_inj]; done) | (rw [Bool.eq_iff_iff]; simp [BitVec.lt_def, BitVec.le_def, ← BitVec.toNat_inj]; omega)
@[go_sem ↓] theorem uxor_8 (x : BitVec 8) : Op.unary .xor (U8 x) = pure (U8 (~~~x)) := by
  show Sem.pure (Value.int .u8 (IntKind.u8.wrap ((BitVec.ofInt 8 _ ^^^ BitVec.ofInt 8 _).toNat : Int))) = Sem.pure _
  rw [u8_wrap, ofInt_toNat]
  congr 2
  have : BitVec.ofInt 8 (IntKind.u8.max) = BitVec.allOnes 8 := by decide
  simp only [IntKind.signed, Bool.false_eq_true, if_false, this, ofInt_toNat]
  rw [BitVec.xor_comm, BitVec.xor_allOnes]
@[go_sem ↓] theorem b_add_32 (x : BitVec 32) (y : BitVec 32) : binOp .add t (U32 x) (U32 y) = pure (U32 (x + y)) := by
  show Sem.pure (Value.int .u32 (IntKind.u32.wrap (_ + _))) = Sem.pure _
  rw [u32_wrap, BitVec.ofInt_add]; simp [U32]
@[go_sem ↓] theorem b_addc_32 (x : BitVec 32) : binOp .add t (U32 x) (.int .u32 n) = pure (U32 (x + BitVec.ofInt 32 n)) := by
  show Sem.pure (Value.int .u32 (IntKind.u32.wrap (_ + _))) = Sem.pure _
  rw [u32_wrap, BitVec.ofInt_add]; simp [U32]
@[go_sem ↓] theorem b_cadd_32 (y : BitVec 32) : binOp .add t (.int .u32 n) (U32 y) = pure (U32 (BitVec.ofInt 32 n + y)) := by
  show Sem.pure (Value.int .u32 (IntKind.u32.wrap (_ + _))) = Sem.pure _
  rw [u32_wrap, BitVec.ofInt_add]; simp [U32]
@[go_sem ↓] theorem b_sub_32 (x : BitVec 32) (y : BitVec 32) : binOp .sub t (U32 x) (U32 y) = pure (U32 (x - y)) := by
  show Sem.pure (Value.int .u32 (IntKind.u32.wrap (_ - _))) = Sem.pure _
  rw [u32_wrap, ofInt_sub']; simp [U32]
@[go_sem ↓] theorem b_subc_32 (x : BitVec 32) : binOp .sub t (U32 x) (.int .u32 n) = pure (U32 (x - BitVec.ofInt 32 n)) := by
  show Sem.pure (Value.int .u32 (IntKind.u32.wrap (_ - _))) = Sem.pure _
  rw [u32_wrap, ofInt_sub']; simp [U32]
@[go_sem ↓] theorem b_csub_32 (y : BitVec 32) : binOp .sub t (.int .u32 n) (U32 y) = pure (U32 (BitVec.ofInt 32 n - y)) := by
  show Sem.pure (Value.int .u32 (IntKind.u32.wrap (_ - _))) = Sem.pure _
  rw [u32_wrap, ofInt_sub']; simp [U32]
@[go_sem ↓] theorem b_mul_32 (x : BitVec 32) (y : BitVec 32) : binOp .mul t (U32 x) (U32 y) = pure (U32 (x * y)) := by
  show Sem.pure (Value.int .u32 (IntKind.u32.wrap (_ * _))) = Sem.pure _
  rw [u32_wrap, BitVec.ofInt_mul]; simp [U32]
@[go_sem ↓] theorem b_mulc_32 (x : BitVec 32) : binOp .mul t (U32 x) (.int .u32 n) = pure (U32 (x * BitVec.ofInt 32 n)) := by
  show Sem.pure (Value.int .u32 (IntKind.u32.wrap (_ * _))) = Sem.pure _
  rw [u32_wrap, BitVec.ofInt_mul]; simp [U32]
@[go_sem ↓] theorem b_cmul_32 (y : BitVec 32) : binOp .mul t (.int .u32 n) (U32 y) = pure (U32 (BitVec.ofInt 32 n * y)) := by
  show Sem.pure (Value.int .u32 (IntKind.u32.wrap (_ * _))) = Sem.pure _
  rw [u32_wrap, BitVec.ofInt_mul]; simp [U32]
@[go_sem ↓] theorem b_and_32 (x : BitVec 32) (y : BitVec 32) : binOp .and t (U32 x) (U32 y) = pure (U32 (x &&& y)) := by
  show Sem.pure (Value.int .u32 (IntKind.u32.wrap ((BitVec.ofInt 32 _ &&& BitVec.ofInt 32 _).toNat : Int))) = Sem.pure _
  rw [u32_wrap, ofInt_toNat]; simp [U32, ofInt_toNat]
@[go_sem ↓] theorem b_andc_32 (x : BitVec 32) : binOp .and t (U32 x) (.int .u32 n) = pure (U32 (x &&& BitVec.ofInt 32 n)) := by
  show Sem.pure (Value.int .u32 (IntKind.u32.wrap ((BitVec.ofInt 32 _ &&& BitVec.ofInt 32 _).toNat : Int))) = Sem.pure _
  rw [u32_wrap, ofInt_toNat]; simp [U32, ofInt_toNat]
@[go_sem ↓] theorem b_cand_32 (y : BitVec 32) : binOp .and t (.int .u32 n) (U32 y) = pure (U32 (BitVec.ofInt 32 n &&& y)) := by
  show Sem.pure (Value.int .u32 (IntKind.u32.wrap ((BitVec.ofInt 32 _ &&& BitVec.ofInt 32 _).toNat : Int))) = Sem.pure _
  rw [u32_wrap, ofInt_toNat]; simp [U32, ofInt_toNat]
@[go_sem ↓] theorem b_or_32 (x : BitVec 32) (y : BitVec 32) : binOp .or t (U32 x) (U32 y) = pure (U32 (x ||| y)) := by
  show Sem.pure (Value.int .u32 (IntKind.u32.wrap ((BitVec.ofInt 32 _ ||| BitVec.ofInt 32 _).toNat : Int))) = Sem.pure _
  rw [u32_wrap, ofInt_toNat]; simp [U32, ofInt_toNat]
@[go_sem ↓] theorem b_orc_32 (x : BitVec 32) : binOp .or t (U32 x) (.int .u32 n) = pure (U32 (x ||| BitVec.ofInt 32 n)) := by
  show Sem.pure (Value.int .u32 (IntKind.u32.wrap ((BitVec.ofInt 32 _ ||| BitVec.ofInt 32 _).toNat : Int))) = Sem.pure _
  rw [u32_wrap, ofInt_toNat]; simp [U32, ofInt_toNat]
@[go_sem ↓] theorem b_cor_32 (y : BitVec 32) : binOp .or t (.int .u32 n) (U32 y) = pure (U32 (BitVec.ofInt 32 n ||| y)) := by
  show Sem.pure (Value.int .u32 (IntKind.u32.wrap ((BitVec.ofInt 32 _ ||| BitVec.ofInt 32 _).toNat : Int))) = Sem.pure _
  rw [u32_wrap, ofInt_toNat]; simp [U32, ofInt_toNat]
@[go_sem ↓] theorem b_xor_32 (x : BitVec 32) (y : BitVec 32) : binOp .xor t (U32 x) (U32 y) = pure (U32 (x ^^^ y)) := by
  show Sem.pure (Value.int .u32 (IntKind.u32.wrap ((BitVec.ofInt 32 _ ^^^ BitVec.ofInt 32 _).toNat : Int))) = Sem.pure _
  rw [u32_wrap, ofInt_toNat]; simp [U32, ofInt_toNat]
@[go_sem ↓] theorem b_xorc_32 (x : BitVec 32) : binOp .xor t (U32 x) (.int .u32 n) = pure (U32 (x ^^^ BitVec.ofInt 32 n)) := by
  show Sem.pure (Value.int .u32 (IntKind.u32.wrap ((BitVec.ofInt 32 _ ^^^ BitVec.ofInt 32 _).toNat : Int))) = Sem.pure _
  rw [u32_wrap, ofInt_toNat]; simp [U32, ofInt_toNat]
@[go_sem ↓] theorem b_cxor_32 (y : BitVec 32) : binOp .xor t (.int .u32 n) (U32 y) = pure (U32 (BitVec.ofInt 32 n ^^^ y)) := by
  show Sem.pure (Value.int .u32 (IntKind.u32.wrap ((BitVec.ofInt 32 _ ^^^ BitVec.ofInt 32 _).toNat : Int))) = Sem.pure _
  rw [u32_wrap, ofInt_toNat]; simp [U32, ofInt_toNat]
@[go_sem ↓] theorem b_lss_32 (x y : BitVec 32) : binOp .lss t (U32 x) (U32 y) = pure (.bool (decide (x < y))) := by
  show Sem.pure (Value.bool _) = Sem.pure (Value.bool _)
  congr 2
  first | (rw [Bool.eq_iff_iff]; simp [BitVec.lt_def, BitVec.le_def, ← BitVec.toNat_inj]; done) | (rw [Bool.eq_iff_iff]; simp [BitVec.lt_def, BitVec.le_def, ← BitVec.toNat_inj]; omega)
@[go_sem ↓] theorem b_leq_32 (x y : BitVec 32) : binOp .leq t (U32 x) (U32 y) = pure (.bool (decide (x ≤ y))) := by
  show Sem.pure (Value.bool _) = Sem.pure (Value.bool _)
  congr 2
  first | (rw [Bool.eq_iff_iff]; simp [BitVec.lt_def, BitVec.le_def, ← BitVec.toNat_inj]; done) | (rw [Bool.eq_iff_iff]; simp [BitVec.lt_def, BitVec.le_def, ← BitVec.toNat_inj]; omega)
@[go_sem ↓] theorem b_gtr_32 (x y : BitVec 32) : binOp .gtr t (U32 x) (U32 y) = pure (.bool (decide (y < x))) := by
  show Sem.pure (Value.bool _) = Sem.pure (Value.bool _)
  congr 2
  first | (rw [Bool.eq_iff_iff]; simp [BitVec.lt_def, BitVec.le_def, ← BitVec.toNat_inj]; done) | (rw [Bool.eq_iff_iff]; simp [BitVec.lt_def, BitVec.le_def, ← BitVec.toNat_inj]; omega)
@[go_sem ↓] theorem b_geq_32 (x y : BitVec 32) : binOp .geq t (U32 x) (U32 y) = pure (.bool (decide (y ≤ x))) := by
  show Sem.pure (Value.bool _) = Sem.pure (Value.bool _)
  congr 2
  first | (rw [Bool.eq_iff_iff]; simp [BitVec.lt_def, BitVec.le_def, ← BitVec.toNat_inj]; done) | (rw [Bool.eq_iff_iff]; simp [BitVec.lt_def, BitVec.le_def, ← BitVec.toNat_inj]; omega)
@[go_sem ↓] theorem b_eql_32 (x y : BitVec 32) : binOp .eql t (U32 x) (U32 y) = pure (.bool (x == y)) := by
  show Sem.pure (Value.bool _) = Sem.pure (Value.bool _)
  congr 2
  first | (rw [Bool.eq_iff_iff]; simp [BitVec.lt_def, BitVec.le_def, ← BitVec.toNat_inj]; done) | (rw [Bool.eq_iff_iff]; simp [BitVec.lt_def, BitVec.le_def, ← BitVec.toNat_inj]; omega)
@[go_sem ↓] theorem b_neq_32 (x y : BitVec 32) : binOp .neq t (U32 x) (U32 y) = pure (.bool (x != y)) := by
  show Sem.pure (Value.bool _) = Sem.pure (Value.bool _)
  congr 2
  first | (rw [Bool.eq_iff_iff]; simp [BitVec.lt_def, BitVec.le_def, ← BitVec.toNat_inj]; done) | (rw [Bool.eq_iff_iff]; simp [BitVec.lt_def, BitVec.le_def, ← BitVec.toNat_inj]; omega)
@[go_sem ↓] theorem uxor_32 (x : BitVec 32) : Op.unary .xor (U32 x) = pure (U32 (~~~x)) := by
  show Sem.pure (Value.int .u32 (IntKind.u32.wrap ((BitVec.ofInt 32 _ ^^^ BitVec.ofInt 32 _).toNat : Int))) = Sem.pure _
  rw [u32_wrap, ofInt_toNat]
  congr 2
  have : BitVec.ofInt 32 (IntKind.u32.max) = BitVec.allOnes 32 := by decide
  simp only [IntKind.signed, Bool.false_eq_true, if_false, this, ofInt_toNat]
  rw [BitVec.xor_comm, BitVec.xor_allOnes]
@[go_sem ↓] theorem b_add_64 (x : BitVec 64) (y : BitVec 64) : binOp .add t (U64 x) (U64 y) = pure (U64 (x + y)) := by
  show Sem.pure (Value.int .u64 (IntKind.u64.wrap (_ + _))) = Sem.pure _
  rw [u64_wrap, BitVec.ofInt_add]; simp [U64]
@[go_sem ↓] theorem b_addc_64 (x : BitVec 64) : binOp .add t (U64 x) (.int .u64 n) = pure (U64 (x + BitVec.ofInt 64 n)) := by
  show Sem.pure (Value.int .u64 (IntKind.u64.wrap (_ + _))) = Sem.pure _
  rw [u64_wrap, BitVec.ofInt_add]; simp [U64]
@[go_sem ↓] theorem b_cadd_64 (y : BitVec 64) : binOp .add t (.int .u64 n) (U64 y) = pure (U64 (BitVec.ofInt 64 n + y)) := by
  show Sem.pure (Value.int .u64 (IntKind.u64.wrap (_ + _))) = Sem.pure _
  rw [u64_wrap, BitVec.ofInt_add]; simp [U64]
@[go_sem ↓] theorem b_sub_64 (x : BitVec 64) (y : BitVec 64) : binOp .sub t (U64 x) (U64 y) = pure (U64 (x - y)) := by
  show Sem.pure (Value.int .u64 (IntKind.u64.wrap (_ - _))) = Sem.pure _
  rw [u64_wrap, ofInt_sub']; simp [U64]
@[go_sem ↓] theorem b_subc_64 (x : BitVec 64) : binOp .sub t (U64 x) (.int .u64 n) = pure (U64 (x - BitVec.ofInt 64 n)) := by
  show Sem.pure (Value.int .u64 (IntKind.u64.wrap (_ - _))) = Sem.pure _
  rw [u64_wrap, ofInt_sub']; simp [U64]
@[go_sem ↓] theorem b_csub_64 (y : BitVec 64) : binOp .sub t (.int .u64 n) (U64 y) = pure (U64 (BitVec.ofInt 64 n - y)) := by
  show Sem.pure (Value.int .u64 (IntKind.u64.wrap (_ - _))) = Sem.pure _
  rw [u64_wrap, ofInt_sub']; simp [U64]
@[go_sem ↓] theorem b_mul_64 (x : BitVec 64) (y : BitVec 64) : binOp .mul t (U64 x) (U64 y) = pure (U64 (x * y)) := by
  show Sem.pure (Value.int .u64 (IntKind.u64.wrap (_ * _))) = Sem.pure _
  rw [u64_wrap, BitVec.ofInt_mul]; simp [U64]
@[go_sem ↓] theorem b_mulc_64 (x : BitVec 64) : binOp .mul t (U64 x) (.int .u64 n) = pure (U64 (x * BitVec.ofInt 64 n)) := by
  show Sem.pure (Value.int .u64 (IntKind.u64.wrap (_ * _))) = Sem.pure _
  rw [u64_wrap, BitVec.ofInt_mul]; simp [U64]
@[go_sem ↓] theorem b_cmul_64 (y : BitVec 64) : binOp .mul t (.int .u64 n) (U64 y) = pure (U64 (BitVec.ofInt 64 n * y)) := by
  show Sem.pure (Value.int .u64 (IntKind.u64.wrap (_ * _))) = Sem.pure _
  rw [u64_wrap, BitVec.ofInt_mul]; simp [U64]
@[go_sem ↓] theorem b_and_64 (x : BitVec 64) (y : BitVec 64) : binOp .and t (U64 x) (U64 y) = pure (U64 (x &&& y)) := by
  show Sem.pure (Value.int .u64 (IntKind.u64.wrap ((BitVec.ofInt 64 _ &&& BitVec.ofInt 64 _).toNat : Int))) = Sem.pure _
  rw [u64_wrap, ofInt_toNat]; simp [U64, ofInt_toNat]
@[go_sem ↓] theorem b_andc_64 (x : BitVec 64) : binOp .and t (U64 x) (.int .u64 n) = pure (U64 (x &&& BitVec.ofInt 64 n)) := by
  show Sem.pure (Value.int .u64 (IntKind.u64.wrap ((BitVec.ofInt 64 _ &&& BitVec.ofInt 64 _).toNat : Int))) = Sem.pure _
  rw [u64_wrap, ofInt_toNat]; simp [U64, ofInt_toNat]
@[go_sem ↓] theorem b_cand_64 (y : BitVec 64) : binOp .and t (.int .u64 n) (U64 y) = pure (U64 (BitVec.ofInt 64 n &&& y)) := by
  show Sem.pure (Value.int .u64 (IntKind.u64.wrap ((BitVec.ofInt 64 _ &&& BitVec.ofInt 64 _).toNat : Int))) = Sem.pure _
  rw [u64_wrap, ofInt_toNat]; simp [U64, ofInt_toNat]
@[go_sem ↓] theorem b_or_64 (x : BitVec 64) (y : BitVec 64) : binOp .or t (U64 x) (U64 y) = pure (U64 (x ||| y)) := by
  show Sem.pure (Value.int .u64 (IntKind.u64.wrap ((BitVec.ofInt 64 _ ||| BitVec.ofInt 64 _).toNat : Int))) = Sem.pure _
  rw [u64_wrap, ofInt_toNat]; simp [U64, ofInt_toNat]
@[go_sem ↓] theorem b_orc_64 (x : BitVec 64) : binOp .or t (U64 x) (.int .u64 n) = pure (U64 (x ||| BitVec.ofInt 64 n)) := by
  show Sem.pure (Value.int .u64 (IntKind.u64.wrap ((BitVec.ofInt 64 _ ||| BitVec.ofInt 64 _).toNat : Int))) = Sem.pure _
  rw [u64_wrap, ofInt_toNat]; simp [U64, ofInt_toNat]
@[go_sem ↓] theorem b_cor_64 (y : BitVec 64) : binOp .or t (.int .u64 n) (U64 y) = pure (U64 (BitVec.ofInt 64 n ||| y)) := by
  show Sem.pure (Value.int .u64 (IntKind.u64.wrap ((BitVec.ofInt 64 _ ||| BitVec.ofInt 64 _).toNat : Int))) = Sem.pure _
  rw [u64_wrap, ofInt_toNat]; simp [U64, ofInt_toNat]
@[go_sem ↓] theorem b_xor_64 (x : BitVec 64) (y : BitVec 64) : binOp .xor t (U64 x) (U64 y) = pure (U64 (x ^^^ y)) := by
  show Sem.pure (Value.int .u64 (IntKind.u64.wrap ((BitVec.ofInt 64 _ ^^^ BitVec.ofInt 64 _).toNat : Int))) = Sem.pure _
  rw [u64_wrap, ofInt_toNat]; simp [U64, ofInt_toNat]
@[go_sem ↓] theorem b_xorc_64 (x : BitVec 64) : binOp .xor t (U64 x) (.int .u64 n) = pure (U64 (x ^^^ BitVec.ofInt 64 n)) := by
  show Sem.pure (Value.int .u64 (IntKind.u64.wrap ((BitVec.ofInt 64 _ ^^^ BitVec.ofInt 64 _).toNat : Int))) = Sem.pure _
  rw [u64_wrap, ofInt_toNat]; simp [U64, ofInt_toNat]
@[go_sem ↓] theorem b_cxor_64 (y : BitVec 64) : binOp .xor t (.int .u64 n) (U64 y) = pure (U64 (BitVec.ofInt 64 n ^^^ y)) := by
  show Sem.pure (Value.int .u64 (IntKind.u64.wrap ((BitVec.ofInt 64 _ ^^^ BitVec.ofInt 64 _).toNat : Int))) = Sem.pure _
  rw [u64_wrap, ofInt_toNat]; simp [U64, ofInt_toNat]
@[go_sem ↓] theorem b_lss_64 (x y : BitVec 64) : binOp .lss t (U64 x) (U64 y) = pure (.bool (decide (x < y))) := by
  show Sem.pure (Value.bool _) = Sem.pure (Value.bool _)
  congr 2
  first | (rw [Bool.eq_iff_iff]; simp [BitVec.lt_def, BitVec.le_def, ← BitVec.toNat_inj]; done) | (rw [Bool.eq_iff_iff]; simp [BitVec.lt_def, BitVec.le_def, ← BitVec.toNat_inj]; omega)
@[go_sem ↓] theorem b_leq_64 (x y : BitVec 64) : binOp .leq t (U64 x) (U64 y) = pure (.bool (decide (x ≤ y))) := by
  show Sem.pure (Value.bool _) = Sem.pure (Value.bool _)
  congr 2
  first | (rw [Bool.eq_iff_iff]; simp [BitVec.lt_def, BitVec.le_def, ← BitVec.toNat_inj]; done) | (rw [Bool.eq_iff_iff]; simp [BitVec.lt_def, BitVec.le_def, ← BitVec.toNat_inj]; omega)
@[go_sem ↓] theorem b_gtr_64 (x y : BitVec 64) : binOp .gtr t (U64 x) (U64 y) = pure (.bool (decide (y < x))) := by
  show Sem.pure (Value.bool _) = Sem.pure (Value.bool _)
  congr 2
  first | (rw [Bool.eq_iff_iff]; simp [BitVec.lt_def, BitVec.le_def, ← BitVec.toNat_inj]; done) | (rw [Bool.eq_iff_iff]; simp [BitVec.lt_def, BitVec.le_def, ← BitVec.toNat_inj]; omega)
@[go_sem ↓] theorem b_geq_64 (x y : BitVec 64) : binOp .geq t (U64 x) (U64 y) = pure (.bool (decide (y ≤ x))) := by
  show Sem.pure (Value.bool _) = Sem.pure (Value.bool _)
  congr 2
  first | (rw [Bool.eq_iff_iff]; simp [BitVec.lt_def, BitVec.le_def, ← BitVec.toNat_inj]; done) | (rw [Bool.eq_iff_iff]; simp [BitVec.lt_def, BitVec.le_def, ← BitVec.toNat_inj]; omega)
@[go_sem ↓] theorem b_eql_64 (x y : BitVec 64) : binOp .eql t (U64 x) (U64 y) = pure (.bool (x == y)) := by
  show Sem.pure (Value.bool _) = Sem.pure (Value.bool _)
  congr 2
  first | (rw [Bool.eq_iff_iff]; simp [BitVec.lt_def, BitVec.le_def, ← BitVec.toNat_inj]; done) | (rw [Bool.eq_iff_iff]; simp [BitVec.lt_def, BitVec.le_def, ← BitVec.toNat_inj]; omega)
@[go_sem ↓] theorem b_neq_64 (x y : BitVec 64) : binOp .neq t (U64 x) (U64 y) = pure (.bool (x != y)) := by
  show Sem.pure (Value.bool _) = Sem.pure (Value.bool _)
  congr 2
  first | (rw [Bool.eq_iff_iff]; simp [BitVec.lt_def, BitVec.le_def, ← BitVec.toNat_inj]; done) | (rw [Bool.eq_iff_iff]; simp [BitVec.lt_def, BitVec.le_def, ← BitVec.toNat_inj]; omega)
@[go_sem ↓] theorem uxor_64 (x : BitVec 64) : Op.unary .xor (U64 x) = pure (U64 (~~~x)) := by
  show Sem.pure (Value.int .u64 (IntKind.u64.wrap ((BitVec.ofInt 64 _ ^^^ BitVec.ofInt 64 _).toNat : Int))) = Sem.pure _
  rw [u64_wrap, ofInt_toNat]
  congr 2
  have : BitVec.ofInt 64 (IntKind.u64.max) = BitVec.allOnes 64 := by decide
  simp only [IntKind.signed, Bool.false_eq_true, if_false, this, ofInt_toNat]
  rw [BitVec.xor_comm, BitVec.xor_allOnes]
@[go_sem ↓] theorem b_shl_8 (x : BitVec 8) (yk : IntKind) (h : 0 ≤ n) : binOp .shl t (U8 x) (.int yk n) = pure (U8 (x <<< n.toNat)) := shl_8 x yk n h
@[go_sem ↓] theorem b_shr_8 (x : BitVec 8) (yk : IntKind) (h : 0 ≤ n) : binOp .shr t (U8 x) (.int yk n) = pure (U8 (x >>> n.toNat)) := shr_8 x yk n h
@[go_sem ↓] theorem b_shl_8_8 (x : BitVec 8) (y : BitVec 8) : binOp .shl t (U8 x) (U8 y) = pure (U8 (x <<< y.toNat)) := (shl_8 x _ _ (Int.natCast_nonneg _)).trans (by simp)
@[go_sem ↓] theorem b_shr_8_8 (x : BitVec 8) (y : BitVec 8) : binOp .shr t (U8 x) (U8 y) = pure (U8 (x >>> y.toNat)) := (shr_8 x _ _ (Int.natCast_nonneg _)).trans (by simp)
@[go_sem ↓] theorem b_shl_8_32 (x : BitVec 8) (y : BitVec 32) : binOp .shl t (U8 x) (U32 y) = pure (U8 (x <<< y.toNat)) := (shl_8 x _ _ (Int.natCast_nonneg _)).trans (by simp)
@[go_sem ↓] theorem b_shr_8_32 (x : BitVec 8) (y : BitVec 32) : binOp .shr t (U8 x) (U32 y) = pure (U8 (x >>> y.toNat)) := (shr_8 x _ _ (Int.natCast_nonneg _)).trans (by simp)
@[go_sem ↓] theorem b_shl_8_64 (x : BitVec 8) (y : BitVec 64) : binOp .shl t (U8 x) (U64 y) = pure (U8 (x <<< y.toNat)) := (shl_8 x _ _ (Int.natCast_nonneg _)).trans (by simp)
@[go_sem ↓] theorem b_shr_8_64 (x : BitVec 8) (y : BitVec 64) : binOp .shr t (U8 x) (U64 y) = pure (U8 (x >>> y.toNat)) := (shr_8 x _ _ (Int.natCast_nonneg _)).trans (by simp)
@[go_sem ↓] theorem neg_8 (x : BitVec 8) : Op.unary .neg (U8 x) = pure (U8 (-x)) := by
  show Sem.pure (Value.int .u8 (IntKind.u8.wrap (0 - _))) = Sem.pure _
  rw [u8_wrap, ofInt_sub', ofInt_toNat]; simp
@[go_sem ↓] theorem eqg_8 (op : BinOp) (x y : Operand) (u : BitVec 8) (v : Value) : eqGuard op t x y (U8 u) v = pure () := by cases op <;> rfl
@[go_sem ↓] theorem b_shl_32 (x : BitVec 32) (yk : IntKind) (h : 0 ≤ n) : binOp .shl t (U32 x) (.int yk n) = pure (U32 (x <<< n.toNat)) := shl_32 x yk n h
@[go_sem ↓] theorem b_shr_32 (x : BitVec 32) (yk : IntKind) (h : 0 ≤ n) : binOp .shr t (U32 x) (.int yk n) = pure (U32 (x >>> n.toNat)) := shr_32 x yk n h
@[go_sem ↓] theorem b_shl_32_8 (x : BitVec 32) (y : BitVec 8) : binOp .shl t (U32 x) (U8 y) = pure (U32 (x <<< y.toNat)) := (shl_32 x _ _ (Int.natCast_nonneg _)).trans (by simp)
@[go_sem ↓] theorem b_shr_32_8 (x : BitVec 32) (y : BitVec 8) : binOp .shr t (U32 x) (U8 y) = pure (U32 (x >>> y.toNat)) := (shr_32 x _ _ (Int.natCast_nonneg _)).trans (by simp)
@[go_sem ↓] theorem b_shl_32_32 (x : BitVec 32) (y : BitVec 32) : binOp .shl t (U32 x) (U32 y) = pure (U32 (x <<< y.toNat)) := (shl_32 x _ _ (Int.natCast_nonneg _)).trans (by simp)
@[go_sem ↓] theorem b_shr_32_32 (x : BitVec 32) (y : BitVec 32) : binOp .shr t (U32 x) (U32 y) = pure (U32 (x >>> y.toNat)) := (shr_32 x _ _ (Int.natCast_nonneg _)).trans (by simp)
@[go_sem ↓] theorem b_shl_32_64 (x : BitVec 32) (y : BitVec 64) : binOp .shl t (U32 x) (U64 y) = pure (U32 (x <<< y.toNat)) := (shl_32 x _ _ (Int.natCast_nonneg _)).trans (by simp)
@[go_sem ↓] theorem b_shr_32_64 (x : BitVec 32) (y : BitVec 64) : binOp .shr t (U32 x) (U64 y) = pure (U32 (x >>> y.toNat)) := (shr_32 x _ _ (Int.natCast_nonneg _)).trans (by simp)
@[go_sem ↓] theorem neg_32 (x : BitVec 32) : Op.unary .neg (U32 x) = pure (U32 (-x)) := by
  show Sem.pure (Value.int .u32 (IntKind.u32.wrap (0 - _))) = Sem.pure _
  rw [u32_wrap, ofInt_sub', ofInt_toNat]; simp
@[go_sem ↓] theorem eqg_32 (op : BinOp) (x y : Operand) (u : BitVec 32) (v : Value) : eqGuard op t x y (U32 u) v = pure () := by cases op <;> rfl
@[go_sem ↓] theorem b_shl_64 (x : BitVec 64) (yk : IntKind) (h : 0 ≤ n) : binOp .shl t (U64 x) (.int yk n) = pure (U64 (x <<< n.toNat)) := shl_64 x yk n h
@[go_sem ↓] theorem b_shr_64 (x : BitVec 64) (yk : IntKind) (h : 0 ≤ n) : binOp .shr t (U64 x) (.int yk n) = pure (U64 (x >>> n.toNat)) := shr_64 x yk n h
@[go_sem ↓] theorem b_shl_64_8 (x : BitVec 64) (y : BitVec 8) : binOp .shl t (U64 x) (U8 y) = pure (U64 (x <<< y.toNat)) := (shl_64 x _ _ (Int.natCast_nonneg _)).trans (by simp)
@[go_sem ↓] theorem b_shr_64_8 (x : BitVec 64) (y : BitVec 8) : binOp .shr t (U64 x) (U8 y) = pure (U64 (x >>> y.toNat)) := (shr_64 x _ _ (Int.natCast_nonneg _)).trans (by simp)
@[go_sem ↓] theorem b_shl_64_32 (x : BitVec 64) (y : BitVec 32) : binOp .shl t (U64 x) (U32 y) = pure (U64 (x <<< y.toNat)) := (shl_64 x _ _ (Int.natCast_nonneg _)).trans (by simp)
@[go_sem ↓] theorem b_shr_64_32 (x : BitVec 64) (y : BitVec 32) : binOp .shr t (U64 x) (U32 y) = pure (U64 (x >>> y.toNat)) := (shr_64 x _ _ (Int.natCast_nonneg _)).trans (by simp)
@[go_sem ↓] theorem b_shl_64_64 (x : BitVec 64) (y : BitVec 64) : binOp .shl t (U64 x) (U64 y) = pure (U64 (x <<< y.toNat)) := (shl_64 x _ _ (Int.natCast_nonneg _)).trans (by simp)
@[go_sem ↓] theorem b_shr_64_64 (x : BitVec 64) (y : BitVec 64) : binOp .shr t (U64 x) (U64 y) = pure (U64 (x >>> y.toNat)) := (shr_64 x _ _ (Int.natCast_nonneg _)).trans (by simp)
@[go_sem ↓] theorem neg_64 (x : BitVec 64) : Op.unary .neg (U64 x) = pure (U64 (-x)) := by
  show Sem.pure (Value.int .u64 (IntKind.u64.wrap (0 - _))) = Sem.pure _
  rw [u64_wrap, ofInt_sub', ofInt_toNat]; simp
@[go_sem ↓] theorem eqg_64 (op : BinOp) (x y : Operand) (u : BitVec 64) (v : Value) : eqGuard op t x y (U64 u) v = pure () := by cases op <;> rfl
end
section
variable {P : Program} (w : World) (src dst : TypeId)
@[go_sem ↓] theorem cv_8_8 (x : BitVec 8) (hs : (P.underlying src).isSome = true) (hd : P.underlying dst = some (.int .u8)) : (convert src dst (U8 x)).run P w = .ok (U8 (x.setWidth 8)) w := by
  obtain ⟨d, hd'⟩ := Option.isSome_iff_exists.mp hs
  have e : Value.int .u8 (IntKind.u8.wrap (x.toNat : Int)) = U8 (x.setWidth 8) := by
    rw [u8_wrap]; congr 1 <;> (apply BitVec.eq_of_toNat_eq; rw [BitVec.toNat_ofInt, BitVec.toNat_setWidth]; first | done | omega)
  simp [convert, run_underlying hd', run_underlying hd, Conv.intToInt, U8, e]
@[go_sem ↓] theorem cv_8_32 (x : BitVec 8) (hs : (P.underlying src).isSome = true) (hd : P.underlying dst = some (.int .u32)) : (convert src dst (U8 x)).run P w = .ok (U32 (x.setWidth 32)) w := by
  obtain ⟨d, hd'⟩ := Option.isSome_iff_exists.mp hs
  have e : Value.int .u32 (IntKind.u32.wrap (x.toNat : Int)) = U32 (x.setWidth 32) := by
    rw [u32_wrap]; congr 1 <;> (apply BitVec.eq_of_toNat_eq; rw [BitVec.toNat_ofInt, BitVec.toNat_setWidth]; first | done | omega)
  simp [convert, run_underlying hd', run_underlying hd, Conv.intToInt, U8, e]
@[go_sem ↓] theorem cv_8_64 (x : BitVec 8) (hs : (P.underlying src).isSome = true) (hd : P.underlying dst = some (.int .u64)) : (convert src dst (U8 x)).run P w = .ok (U64 (x.setWidth 64)) w := by
  obtain ⟨d, hd'⟩ := Option.isSome_iff_exists.mp hs
  have e : Value.int .u64 (IntKind.u64.wrap (x.toNat : Int)) = U64 (x.setWidth 64) := by
    rw [u64_wrap]; congr 1 <;> (apply BitVec.eq_of_toNat_eq; rw [BitVec.toNat_ofInt, BitVec.toNat_setWidth]; first | done | omega)
  simp [convert, run_underlying hd', run_underlying hd, Conv.intToInt, U8, e]
@[go_sem ↓] theorem cv_8_i (x : BitVec 8) (hs : (P.underlying src).isSome = true) (hd : P.underlying dst = some (.int .i64)) : (convert src dst (U8 x)).run P w = .ok (.int .i64 (x.toNat : Int)) w := by
  obtain ⟨d, hd'⟩ := Option.isSome_iff_exists.mp hs
  have e : IntKind.i64.wrap (x.toNat : Int) = (x.toNat : Int) := by
    have := x.isLt; rw [IntKind.wrap_i64]; omega
  simp [convert, run_underlying hd', run_underlying hd, Conv.intToInt, U8, e]
@[go_sem ↓] theorem st_8 (a : Addr) (m : Mode) (x : BitVec 8) : (store a (U8 x) m).run P w = stored P w a (U8 x) m := run_store P w a _ m rfl
@[go_sem ↓] theorem cells_8 (x : BitVec 8) : (U8 x).cells = #[U8 x] := rfl
@[go_sem ↓] theorem cv_32_8 (x : BitVec 32) (hs : (P.underlying src).isSome = true) (hd : P.underlying dst = some (.int .u8)) : (convert src dst (U32 x)).run P w = .ok (U8 (x.setWidth 8)) w := by
  obtain ⟨d, hd'⟩ := Option.isSome_iff_exists.mp hs
  have e : Value.int .u8 (IntKind.u8.wrap (x.toNat : Int)) = U8 (x.setWidth 8) := by
    rw [u8_wrap]; congr 1 <;> (apply BitVec.eq_of_toNat_eq; rw [BitVec.toNat_ofInt, BitVec.toNat_setWidth]; first | done | omega)
  simp [convert, run_underlying hd', run_underlying hd, Conv.intToInt, U32, e]
@[go_sem ↓] theorem cv_32_32 (x : BitVec 32) (hs : (P.underlying src).isSome = true) (hd : P.underlying dst = some (.int .u32)) : (convert src dst (U32 x)).run P w = .ok (U32 (x.setWidth 32)) w := by
  obtain ⟨d, hd'⟩ := Option.isSome_iff_exists.mp hs
  have e : Value.int .u32 (IntKind.u32.wrap (x.toNat : Int)) = U32 (x.setWidth 32) := by
    rw [u32_wrap]; congr 1 <;> (apply BitVec.eq_of_toNat_eq; rw [BitVec.toNat_ofInt, BitVec.toNat_setWidth]; first | done | omega)
  simp [convert, run_underlying hd', run_underlying hd, Conv.intToInt, U32, e]
@[go_sem ↓] theorem cv_32_64 (x : BitVec 32) (hs : (P.underlying src).isSome = true) (hd : P.underlying dst = some (.int .u64)) : (convert src dst (U32 x)).run P w = .ok (U64 (x.setWidth 64)) w := by
  obtain ⟨d, hd'⟩ := Option.isSome_iff_exists.mp hs
  have e : Value.int .u64 (IntKind.u64.wrap (x.toNat : Int)) = U64 (x.setWidth 64) := by
    rw [u64_wrap]; congr 1 <;> (apply BitVec.eq_of_toNat_eq; rw [BitVec.toNat_ofInt, BitVec.toNat_setWidth]; first | done | omega)
  simp [convert, run_underlying hd', run_underlying hd, Conv.intToInt, U32, e]
@[go_sem ↓] theorem cv_32_i (x : BitVec 32) (hs : (P.underlying src).isSome = true) (hd : P.underlying dst = some (.int .i64)) : (convert src dst (U32 x)).run P w = .ok (.int .i64 (x.toNat : Int)) w := by
  obtain ⟨d, hd'⟩ := Option.isSome_iff_exists.mp hs
  have e : IntKind.i64.wrap (x.toNat : Int) = (x.toNat : Int) := by
    have := x.isLt; rw [IntKind.wrap_i64]; omega
  simp [convert, run_underlying hd', run_underlying hd, Conv.intToInt, U32, e]
@[go_sem ↓] theorem st_32 (a : Addr) (m : Mode) (x : BitVec 32) : (store a (U32 x) m).run P w = stored P w a (U32 x) m := run_store P w a _ m rfl
@[go_sem ↓] theorem cells_32 (x : BitVec 32) : (U32 x).cells = #[U32 x] := rfl
@[go_sem ↓] theorem cv_64_8 (x : BitVec 64) (hs : (P.underlying src).isSome = true) (hd : P.underlying dst = some (.int .u8)) : (convert src dst (U64 x)).run P w = .ok (U8 (x.setWidth 8)) w := by
  obtain ⟨d, hd'⟩ := Option.isSome_iff_exists.mp hs
  have e : Value.int .u8 (IntKind.u8.wrap (x.toNat : Int)) = U8 (x.setWidth 8) := by
    rw [u8_wrap]; congr 1 <;> (apply BitVec.eq_of_toNat_eq; rw [BitVec.toNat_ofInt, BitVec.toNat_setWidth]; first | done | omega)
  simp [convert, run_underlying hd', run_underlying hd, Conv.intToInt, U64, e]
@[go_sem ↓] theorem cv_64_32 (x : BitVec 64) (hs : (P.underlying src).isSome = true) (hd : P.underlying dst = some (.int .u32)) : (convert src dst (U64 x)).run P w = .ok (U32 (x.setWidth 32)) w := by
  obtain ⟨d, hd'⟩ := Option.isSome_iff_exists.mp hs
  have e : Value.int .u32 (IntKind.u32.wrap (x.toNat : Int)) = U32 (x.setWidth 32) := by
    rw [u32_wrap]; congr 1 <;> (apply BitVec.eq_of_toNat_eq; rw [BitVec.toNat_ofInt, BitVec.toNat_setWidth]; first | done | omega)
  simp [convert, run_underlying hd', run_underlying hd, Conv.intToInt, U64, e]
@[go_sem ↓] theorem cv_64_64 (x : BitVec 64) (hs : (P.underlying src).isSome = true) (hd : P.underlying dst = some (.int .u64)) : (convert src dst (U64 x)).run P w = .ok (U64 (x.setWidth 64)) w := by
  obtain ⟨d, hd'⟩ := Option.isSome_iff_exists.mp hs
  have e : Value.int .u64 (IntKind.u64.wrap (x.toNat : Int)) = U64 (x.setWidth 64) := by
    rw [u64_wrap]; congr 1 <;> (apply BitVec.eq_of_toNat_eq; rw [BitVec.toNat_ofInt, BitVec.toNat_setWidth]; first | done | omega)
  simp [convert, run_underlying hd', run_underlying hd, Conv.intToInt, U64, e]
@[go_sem ↓] theorem st_64 (a : Addr) (m : Mode) (x : BitVec 64) : (store a (U64 x) m).run P w = stored P w a (U64 x) m := run_store P w a _ m rfl
@[go_sem ↓] theorem cells_64 (x : BitVec 64) : (U64 x).cells = #[U64 x] := rfl
end
end Go.Proofs.Ytojkcbhmhfjioaa
