/- Laws for single operations: whole numbers. No program text. -/
import Derived.Test.YtiggfalelcepbaaGreatDoorK2
namespace Go.Proofs.YtiggfalelcepbaaGreatDoor
open Go
abbrev nu (n : Nat) : Value := .int .u64 (n : Int)
theorem wrap_i64 {n : Nat} (h : n < 9223372036854775808) : IntKind.i64.wrap (n : Int) = n := by
  rw [IntKind.wrap_i64]; omega
theorem wrap_u64i (n : Int) : IntKind.u64.wrap n = n % 18446744073709551616 := rfl
theorem wrap_u32i (n : Int) : IntKind.u32.wrap n = n % 4294967296 := rfl
theorem wrap_u8i (n : Int) : IntKind.u8.wrap n = n % 256 := rfl
theorem wrap_u64 {n : Nat} (h : n < 18446744073709551616) : IntKind.u64.wrap (n : Int) = n := by
  rw [wrap_u64i]; omega
theorem wrap_u32 (n : Nat) : IntKind.u32.wrap (n : Int) = ((n % 4294967296 : Nat) : Int) := by
  rw [wrap_u32i]; omega
theorem wrap_u8 (n : Nat) : IntKind.u8.wrap (n : Int) = ((n % 256 : Nat) : Int) := by
  rw [wrap_u8i]; omega
theorem bnat {n : Nat} {k : IntKind} (h : n < 2 ^ k.bits) : (BitVec.ofInt k.bits (n : Int)).toNat = n := by
  rw [BitVec.ofInt_natCast, BitVec.toNat_ofNat, Nat.mod_eq_of_lt h]
section
variable {P : Program} {ρ : Operand → Value} {w : World} {dst : Option Tmp} {ty T U : TypeId} {pos : String} {af : Array Edge} {g : Option (Nat × Bool)} {x y : Operand} {i j : Nat}
theorem r_add (hx : ρ x = nn i) (hy : ρ y = nn j) (hb : i + j < 9223372036854775808) : (execOp ρ ⟨dst, .binOp .add T x y U, ty, pos, af, g⟩).run P w = .ok (.value (nn (i + j))) w := by
  have := wrap_i64 hb
  simp only [Int.natCast_add] at this
  simp [execOp, hx, hy, eqGuard, binOp, Op.intArith, this]
theorem r_sub (hx : ρ x = nn i) (hy : ρ y = nn j) (hb : j ≤ i) (hi : i < 9223372036854775808) : (execOp ρ ⟨dst, .binOp .sub T x y U, ty, pos, af, g⟩).run P w = .ok (.value (nn (i - j))) w := by
  have := wrap_i64 (show i - j < 9223372036854775808 by omega)
  rw [Int.ofNat_sub hb] at this
  simp [execOp, hx, hy, eqGuard, binOp, Op.intArith, this, Int.ofNat_sub hb]
theorem r_mul (hx : ρ x = nn i) (hy : ρ y = nn j) (hb : i * j < 9223372036854775808) : (execOp ρ ⟨dst, .binOp .mul T x y U, ty, pos, af, g⟩).run P w = .ok (.value (nn (i * j))) w := by
  have := wrap_i64 hb
  simp only [Int.natCast_mul] at this
  simp [execOp, hx, hy, eqGuard, binOp, Op.intArith, this]
theorem r_quo (hx : ρ x = nn i) (hy : ρ y = nn j) (hj : 0 < j) (hi : i < 9223372036854775808) : (execOp ρ ⟨dst, .binOp .quo T x y U, ty, pos, af, g⟩).run P w = .ok (.value (nn (i / j))) w := by
  have h0 : ¬ (j : Int) = 0 := by omega
  have e : (i : Int).tdiv j = ((i / j : Nat) : Int) := by rw [Int.ofNat_tdiv]
  have := wrap_i64 (show i / j < 9223372036854775808 from Nat.lt_of_le_of_lt (Nat.div_le_self _ _) hi)
  have h0' : j ≠ 0 := by omega
  simp only [execOp, hx, hy, eqGuard, binOp, Op.intDiv, e, this, h0, if_false, Sem.run_bind, Sem.run_pure, Result.andThen_ok]
  simp
theorem r_rem (hx : ρ x = nn i) (hy : ρ y = nn j) (hj : 0 < j) : (execOp ρ ⟨dst, .binOp .rem T x y U, ty, pos, af, g⟩).run P w = .ok (.value (nn (i % j))) w := by
  have h0 : ¬ (j : Int) = 0 := by omega
  have e : (i : Int).tmod j = ((i % j : Nat) : Int) := by rw [Int.ofNat_tmod]
  simp only [execOp, hx, hy, eqGuard, binOp, Op.intDiv, e, h0, if_false, Sem.run_bind, Sem.run_pure, Result.andThen_ok]
  simp
theorem r_shr (hx : ρ x = nn i) (hy : ρ y = nn j) (hj : j < 64) : (execOp ρ ⟨dst, .binOp .shr T x y U, ty, pos, af, g⟩).run P w = .ok (.value (nn (i / 2 ^ j))) w := by
  have h0 : ¬ (j : Int) < 0 := by omega
  have e1 : min (j : Int).toNat IntKind.i64.bits = j := by simp [IntKind.bits]; omega
  have e2 : (i : Int).fdiv (2 ^ j) = ((i / 2 ^ j : Nat) : Int) := by
    rw [show ((2 : Int) ^ j) = ((2 ^ j : Nat) : Int) by simp, Int.ofNat_fdiv]
  simp only [execOp, hx, hy, eqGuard, binOp, Op.shift, h0, if_false, e1, e2, Sem.run_bind, Sem.run_pure, Result.andThen_ok]
  simp
theorem r_shru (hx : ρ x = nn i) (hy : ρ y = nu j) (hj : j < 64) : (execOp ρ ⟨dst, .binOp .shr T x y U, ty, pos, af, g⟩).run P w = .ok (.value (nn (i / 2 ^ j))) w := by
  have h0 : ¬ (j : Int) < 0 := by omega
  have e1 : min (j : Int).toNat IntKind.i64.bits = j := by simp [IntKind.bits]; omega
  have e2 : (i : Int).fdiv (2 ^ j) = ((i / 2 ^ j : Nat) : Int) := by
    rw [show ((2 : Int) ^ j) = ((2 ^ j : Nat) : Int) by simp, Int.ofNat_fdiv]
  simp only [execOp, hx, hy, eqGuard, binOp, Op.shift, h0, if_false, e1, e2, Sem.run_bind, Sem.run_pure, Result.andThen_ok]
  simp
theorem r_shl (hx : ρ x = nn i) (hy : ρ y = nn j) (hj : j < 64) (hb : i * 2 ^ j < 9223372036854775808) : (execOp ρ ⟨dst, .binOp .shl T x y U, ty, pos, af, g⟩).run P w = .ok (.value (nn (i * 2 ^ j))) w := by
  have h0 : ¬ (j : Int) < 0 := by omega
  have e1 : min (j : Int).toNat IntKind.i64.bits = j := by simp [IntKind.bits]; omega
  have := wrap_i64 hb
  simp only [Int.natCast_mul, Int.natCast_pow, Int.cast_ofNat_Int] at this
  simp only [execOp, hx, hy, eqGuard, binOp, Op.shift, h0, if_false, e1, Sem.run_bind, Sem.run_pure, Result.andThen_ok]
  simp [this]
theorem r_and (hx : ρ x = nn i) (hy : ρ y = nn j) (hi : i < 9223372036854775808) (hj : j < 9223372036854775808) : (execOp ρ ⟨dst, .binOp .and T x y U, ty, pos, af, g⟩).run P w = .ok (.value (nn (i &&& j))) w := by
  have hb : i &&& j < 9223372036854775808 := Nat.lt_of_le_of_lt Nat.and_le_left hi
  have e : (BitVec.ofInt IntKind.i64.bits (i : Int) &&& BitVec.ofInt IntKind.i64.bits (j : Int)).toNat = i &&& j := by
    rw [BitVec.ofInt_natCast, BitVec.ofInt_natCast, BitVec.toNat_and, BitVec.toNat_ofNat, BitVec.toNat_ofNat]
    rw [Nat.mod_eq_of_lt (by simp [IntKind.bits]; omega), Nat.mod_eq_of_lt (by simp [IntKind.bits]; omega)]
  have := wrap_i64 hb
  simp only [execOp, hx, hy, eqGuard, binOp, Op.intBits, e, this, Sem.run_bind, Sem.run_pure, Result.andThen_ok]
  simp
theorem r_lss (hx : ρ x = nn i) (hy : ρ y = nn j) : (execOp ρ ⟨dst, .binOp .lss T x y U, ty, pos, af, g⟩).run P w = .ok (.value (.bool (decide (i < j)))) w := by
  simp [execOp, hx, hy, eqGuard, binOp, Op.intCmp]
theorem r_leq (hx : ρ x = nn i) (hy : ρ y = nn j) : (execOp ρ ⟨dst, .binOp .leq T x y U, ty, pos, af, g⟩).run P w = .ok (.value (.bool (decide (i ≤ j)))) w := by
  simp [execOp, hx, hy, eqGuard, binOp, Op.intCmp]
theorem r_gtr (hx : ρ x = nn i) (hy : ρ y = nn j) : (execOp ρ ⟨dst, .binOp .gtr T x y U, ty, pos, af, g⟩).run P w = .ok (.value (.bool (decide (j < i)))) w := by
  simp [execOp, hx, hy, eqGuard, binOp, Op.intCmp]
theorem r_geq (hx : ρ x = nn i) (hy : ρ y = nn j) : (execOp ρ ⟨dst, .binOp .geq T x y U, ty, pos, af, g⟩).run P w = .ok (.value (.bool (decide (j ≤ i)))) w := by
  simp [execOp, hx, hy, eqGuard, binOp, Op.intCmp]
theorem r_eql (hx : ρ x = nn i) (hy : ρ y = nn j) : (execOp ρ ⟨dst, .binOp .eql T x y U, ty, pos, af, g⟩).run P w = .ok (.value (.bool (decide (i = j)))) w := by
  have e : ((i : Int) == j) = decide (i = j) := by rw [Bool.eq_iff_iff]; simp; omega
  simp [execOp, hx, hy, eqGuard, binOp, Op.intCmp, e]
theorem r_neq (hx : ρ x = nn i) (hy : ρ y = nn j) : (execOp ρ ⟨dst, .binOp .neq T x y U, ty, pos, af, g⟩).run P w = .ok (.value (.bool (decide (i ≠ j)))) w := by
  have e : ((i : Int) != j) = decide (i ≠ j) := by rw [Bool.eq_iff_iff]; simp; omega
  simp [execOp, hx, hy, eqGuard, binOp, Op.intCmp, e]
theorem r_not {b : Bool} (hx : ρ x = .bool b) : (execOp ρ ⟨dst, .unOp .not T x, ty, pos, af, g⟩).run P w = .ok (.value (.bool (!b))) w := by
  simp [execOp, hx, Op.unary]

/-! ### uint64 -/
theorem r_subU (hx : ρ x = nu i) (hy : ρ y = nu j) (hb : j ≤ i) (hi : i < 18446744073709551616) : (execOp ρ ⟨dst, .binOp .sub T x y U, ty, pos, af, g⟩).run P w = .ok (.value (nu (i - j))) w := by
  have := wrap_u64 (show i - j < 18446744073709551616 by omega)
  rw [Int.ofNat_sub hb] at this
  simp [execOp, hx, hy, eqGuard, binOp, Op.intArith, this, Int.ofNat_sub hb]
theorem r_mulU (hx : ρ x = nu i) (hy : ρ y = nu j) (hb : i * j < 18446744073709551616) : (execOp ρ ⟨dst, .binOp .mul T x y U, ty, pos, af, g⟩).run P w = .ok (.value (nu (i * j))) w := by
  have := wrap_u64 hb
  simp only [Int.natCast_mul] at this
  simp [execOp, hx, hy, eqGuard, binOp, Op.intArith, this]
theorem r_geqU (hx : ρ x = nu i) (hy : ρ y = nu j) : (execOp ρ ⟨dst, .binOp .geq T x y U, ty, pos, af, g⟩).run P w = .ok (.value (.bool (decide (j ≤ i)))) w := by
  simp [execOp, hx, hy, eqGuard, binOp, Op.intCmp]
theorem r_gtrU (hx : ρ x = nu i) (hy : ρ y = nu j) : (execOp ρ ⟨dst, .binOp .gtr T x y U, ty, pos, af, g⟩).run P w = .ok (.value (.bool (decide (j < i)))) w := by
  simp [execOp, hx, hy, eqGuard, binOp, Op.intCmp]
theorem r_shrU (hx : ρ x = nu i) (hy : ρ y = nu j) (hj : j < 64) : (execOp ρ ⟨dst, .binOp .shr T x y U, ty, pos, af, g⟩).run P w = .ok (.value (nu (i / 2 ^ j))) w := by
  have h0 : ¬ (j : Int) < 0 := by omega
  have e1 : min (j : Int).toNat IntKind.u64.bits = j := by simp [IntKind.bits]; omega
  have e2 : (i : Int).fdiv (2 ^ j) = ((i / 2 ^ j : Nat) : Int) := by
    rw [show ((2 : Int) ^ j) = ((2 ^ j : Nat) : Int) by simp, Int.ofNat_fdiv]
  simp only [execOp, hx, hy, eqGuard, binOp, Op.shift, h0, if_false, e1, e2, Sem.run_bind, Sem.run_pure, Result.andThen_ok]
  simp
theorem r_shrUn (hx : ρ x = nu i) (hy : ρ y = nn j) (hj : j < 64) : (execOp ρ ⟨dst, .binOp .shr T x y U, ty, pos, af, g⟩).run P w = .ok (.value (nu (i / 2 ^ j))) w := by
  have h0 : ¬ (j : Int) < 0 := by omega
  have e1 : min (j : Int).toNat IntKind.u64.bits = j := by simp [IntKind.bits]; omega
  have e2 : (i : Int).fdiv (2 ^ j) = ((i / 2 ^ j : Nat) : Int) := by
    rw [show ((2 : Int) ^ j) = ((2 ^ j : Nat) : Int) by simp, Int.ofNat_fdiv]
  simp only [execOp, hx, hy, eqGuard, binOp, Op.shift, h0, if_false, e1, e2, Sem.run_bind, Sem.run_pure, Result.andThen_ok]
  simp
theorem r_shlU (hx : ρ x = nu i) (hy : ρ y = nu j) (hj : j < 64) (hb : i * 2 ^ j < 18446744073709551616) : (execOp ρ ⟨dst, .binOp .shl T x y U, ty, pos, af, g⟩).run P w = .ok (.value (nu (i * 2 ^ j))) w := by
  have h0 : ¬ (j : Int) < 0 := by omega
  have e1 : min (j : Int).toNat IntKind.u64.bits = j := by simp [IntKind.bits]; omega
  have := wrap_u64 hb
  simp only [Int.natCast_mul, Int.natCast_pow, Int.cast_ofNat_Int] at this
  simp only [execOp, hx, hy, eqGuard, binOp, Op.shift, h0, if_false, e1, Sem.run_bind, Sem.run_pure, Result.andThen_ok]
  simp [this]
theorem r_andU (hx : ρ x = nu i) (hy : ρ y = nu j) (hi : i < 18446744073709551616) (hj : j < 18446744073709551616) : (execOp ρ ⟨dst, .binOp .and T x y U, ty, pos, af, g⟩).run P w = .ok (.value (nu (i &&& j))) w := by
  have hb : i &&& j < 18446744073709551616 := Nat.lt_of_le_of_lt Nat.and_le_left hi
  have e : (BitVec.ofInt IntKind.u64.bits (i : Int) &&& BitVec.ofInt IntKind.u64.bits (j : Int)).toNat = i &&& j := by
    rw [BitVec.ofInt_natCast, BitVec.ofInt_natCast, BitVec.toNat_and, BitVec.toNat_ofNat, BitVec.toNat_ofNat]
    rw [Nat.mod_eq_of_lt (by simp [IntKind.bits]; omega), Nat.mod_eq_of_lt (by simp [IntKind.bits]; omega)]
  have := wrap_u64 hb
  simp only [execOp, hx, hy, eqGuard, binOp, Op.intBits, e, this, Sem.run_bind, Sem.run_pure, Result.andThen_ok]
  simp
theorem r_orU (hx : ρ x = nu i) (hy : ρ y = nu j) (hi : i < 18446744073709551616) (hj : j < 18446744073709551616) : (execOp ρ ⟨dst, .binOp .or T x y U, ty, pos, af, g⟩).run P w = .ok (.value (nu (i ||| j))) w := by
  have hb : i ||| j < 18446744073709551616 := Nat.or_lt_two_pow (n := 64) hi hj
  have e : (BitVec.ofInt IntKind.u64.bits (i : Int) ||| BitVec.ofInt IntKind.u64.bits (j : Int)).toNat = i ||| j := by
    rw [BitVec.ofInt_natCast, BitVec.ofInt_natCast, BitVec.toNat_or, BitVec.toNat_ofNat, BitVec.toNat_ofNat]
    rw [Nat.mod_eq_of_lt (by simp [IntKind.bits]; omega), Nat.mod_eq_of_lt (by simp [IntKind.bits]; omega)]
  have := wrap_u64 hb
  simp only [execOp, hx, hy, eqGuard, binOp, Op.intBits, e, this, Sem.run_bind, Sem.run_pure, Result.andThen_ok]
  simp

/-! ### uint32 -/
variable {p q : UInt32}
theorem r_add32 (hx : ρ x = u32 p) (hy : ρ y = u32 q) : (execOp ρ ⟨dst, .binOp .add T x y U, ty, pos, af, g⟩).run P w = .ok (.value (u32 (p + q))) w := by
  have e : IntKind.u32.wrap ((p.toNat : Int) + q.toNat) = (((p + q).toNat : Nat) : Int) := by
    rw [← Int.natCast_add, wrap_u32, UInt32.toNat_add]
  simp [execOp, hx, hy, eqGuard, binOp, Op.intArith, e]
theorem r_and32 (hx : ρ x = u32 p) (hy : ρ y = u32 q) : (execOp ρ ⟨dst, .binOp .and T x y U, ty, pos, af, g⟩).run P w = .ok (.value (u32 (p &&& q))) w := by
  have e : IntKind.u32.wrap (((BitVec.ofInt IntKind.u32.bits (p.toNat : Int) &&& BitVec.ofInt IntKind.u32.bits (q.toNat : Int)).toNat : Nat) : Int) = ((p &&& q).toNat : Int) := by
    rw [BitVec.toNat_and, bnat p.toNat_lt, bnat q.toNat_lt, wrap_u32, ← UInt32.toNat_and, Nat.mod_eq_of_lt (p &&& q).toNat_lt]
  simp only [execOp, hx, hy, eqGuard, binOp, Op.intBits, e, Sem.run_bind, Sem.run_pure, Result.andThen_ok]
  simp
theorem r_or32 (hx : ρ x = u32 p) (hy : ρ y = u32 q) : (execOp ρ ⟨dst, .binOp .or T x y U, ty, pos, af, g⟩).run P w = .ok (.value (u32 (p ||| q))) w := by
  have e : IntKind.u32.wrap (((BitVec.ofInt IntKind.u32.bits (p.toNat : Int) ||| BitVec.ofInt IntKind.u32.bits (q.toNat : Int)).toNat : Nat) : Int) = ((p ||| q).toNat : Int) := by
    rw [BitVec.toNat_or, bnat p.toNat_lt, bnat q.toNat_lt, wrap_u32, ← UInt32.toNat_or, Nat.mod_eq_of_lt (p ||| q).toNat_lt]
  simp only [execOp, hx, hy, eqGuard, binOp, Op.intBits, e, Sem.run_bind, Sem.run_pure, Result.andThen_ok]
  simp
theorem r_xor32 (hx : ρ x = u32 p) (hy : ρ y = u32 q) : (execOp ρ ⟨dst, .binOp .xor T x y U, ty, pos, af, g⟩).run P w = .ok (.value (u32 (p ^^^ q))) w := by
  have e : IntKind.u32.wrap (((BitVec.ofInt IntKind.u32.bits (p.toNat : Int) ^^^ BitVec.ofInt IntKind.u32.bits (q.toNat : Int)).toNat : Nat) : Int) = ((p ^^^ q).toNat : Int) := by
    rw [BitVec.toNat_xor, bnat p.toNat_lt, bnat q.toNat_lt, wrap_u32, ← UInt32.toNat_xor, Nat.mod_eq_of_lt (p ^^^ q).toNat_lt]
  simp only [execOp, hx, hy, eqGuard, binOp, Op.intBits, e, Sem.run_bind, Sem.run_pure, Result.andThen_ok]
  simp
/-- Shifts by a number below 32. -/
theorem r_shr32 (hx : ρ x = u32 p) (hy : ρ y = nu j) (hj : j < 32) : (execOp ρ ⟨dst, .binOp .shr T x y U, ty, pos, af, g⟩).run P w = .ok (.value (u32 (p >>> UInt32.ofNat j))) w := by
  have h0 : ¬ (j : Int) < 0 := by omega
  have e1 : min (j : Int).toNat IntKind.u32.bits = j := by simp [IntKind.bits]; omega
  have e2 : (p.toNat : Int).fdiv (2 ^ j) = ((p >>> UInt32.ofNat j).toNat : Int) := by
    rw [show ((2 : Int) ^ j) = ((2 ^ j : Nat) : Int) by simp, ← Int.ofNat_fdiv, UInt32.toNat_shiftRight, UInt32.toNat_ofNat']
    rw [Nat.mod_eq_of_lt (show j < 2 ^ 32 by omega), Nat.mod_eq_of_lt hj, Nat.shiftRight_eq_div_pow]
  simp only [execOp, hx, hy, eqGuard, binOp, Op.shift, h0, if_false, e1, e2, Sem.run_bind, Sem.run_pure, Result.andThen_ok]
  simp
theorem r_shl32 (hx : ρ x = u32 p) (hy : ρ y = nu j) (hj : j < 32) : (execOp ρ ⟨dst, .binOp .shl T x y U, ty, pos, af, g⟩).run P w = .ok (.value (u32 (p <<< UInt32.ofNat j))) w := by
  have h0 : ¬ (j : Int) < 0 := by omega
  have e1 : min (j : Int).toNat IntKind.u32.bits = j := by simp [IntKind.bits]; omega
  have e2 : IntKind.u32.wrap ((p.toNat : Int) * 2 ^ j) = ((p <<< UInt32.ofNat j).toNat : Int) := by
    rw [show ((p.toNat : Int) * 2 ^ j) = ((p.toNat * 2 ^ j : Nat) : Int) by simp, wrap_u32, UInt32.toNat_shiftLeft, UInt32.toNat_ofNat']
    rw [Nat.mod_eq_of_lt (show j < 2 ^ 32 by omega), Nat.mod_eq_of_lt hj, Nat.shiftLeft_eq]
  simp only [execOp, hx, hy, eqGuard, binOp, Op.shift, h0, if_false, e1, e2, Sem.run_bind, Sem.run_pure, Result.andThen_ok]
  simp
theorem r_com32 (hx : ρ x = u32 p) : (execOp ρ ⟨dst, .unOp .xor T x, ty, pos, af, g⟩).run P w = .ok (.value (u32 (~~~p))) w := by
  have e : IntKind.u32.wrap (((BitVec.ofInt IntKind.u32.bits (4294967295 : Int) ^^^ BitVec.ofInt IntKind.u32.bits (p.toNat : Int)).toNat : Nat) : Int) = ((~~~p).toNat : Int) := by
    have h : (4294967295 : UInt32) ^^^ p = ~~~p := by
      apply UInt32.toBitVec_inj.1
      show BitVec.allOnes 32 ^^^ p.toBitVec = ~~~p.toBitVec
      exact BitVec.allOnes_xor
    rw [BitVec.toNat_xor, bnat p.toNat_lt, show BitVec.ofInt IntKind.u32.bits (4294967295 : Int) = BitVec.ofInt IntKind.u32.bits (((4294967295 : UInt32).toNat : Nat) : Int) from rfl, bnat (4294967295 : UInt32).toNat_lt, wrap_u32, ← UInt32.toNat_xor, h, Nat.mod_eq_of_lt (~~~p).toNat_lt]
  have e2 : (if IntKind.u32.signed = true then (-1 : Int) else IntKind.u32.max) = 4294967295 := rfl
  simp only [execOp, hx, Op.unary, e2, Op.intBits, e, Sem.run_bind, Sem.run_pure, Result.andThen_ok]

/-! ### bytes -/
variable {c e : UInt8}
theorem r_or8 (hx : ρ x = u8 c) (hy : ρ y = u8 e) : (execOp ρ ⟨dst, .binOp .or T x y U, ty, pos, af, g⟩).run P w = .ok (.value (u8 (c ||| e))) w := by
  have e' : IntKind.u8.wrap (((BitVec.ofInt IntKind.u8.bits (c.toNat : Int) ||| BitVec.ofInt IntKind.u8.bits (e.toNat : Int)).toNat : Nat) : Int) = ((c ||| e).toNat : Int) := by
    rw [BitVec.toNat_or, bnat c.toNat_lt, bnat e.toNat_lt, wrap_u8, ← UInt8.toNat_or, Nat.mod_eq_of_lt (c ||| e).toNat_lt]
  simp only [execOp, hx, hy, eqGuard, binOp, Op.intBits, e', Sem.run_bind, Sem.run_pure, Result.andThen_ok]
  simp
theorem r_and8 (hx : ρ x = u8 c) (hy : ρ y = u8 e) : (execOp ρ ⟨dst, .binOp .and T x y U, ty, pos, af, g⟩).run P w = .ok (.value (u8 (c &&& e))) w := by
  have e' : IntKind.u8.wrap (((BitVec.ofInt IntKind.u8.bits (c.toNat : Int) &&& BitVec.ofInt IntKind.u8.bits (e.toNat : Int)).toNat : Nat) : Int) = ((c &&& e).toNat : Int) := by
    rw [BitVec.toNat_and, bnat c.toNat_lt, bnat e.toNat_lt, wrap_u8, ← UInt8.toNat_and, Nat.mod_eq_of_lt (c &&& e).toNat_lt]
  simp only [execOp, hx, hy, eqGuard, binOp, Op.intBits, e', Sem.run_bind, Sem.run_pure, Result.andThen_ok]
  simp
theorem r_shr8 (hx : ρ x = u8 c) (hy : ρ y = nn j) (hj : j < 8) : (execOp ρ ⟨dst, .binOp .shr T x y U, ty, pos, af, g⟩).run P w = .ok (.value (u8 (c >>> UInt8.ofNat j))) w := by
  have h0 : ¬ (j : Int) < 0 := by omega
  have e1 : min (j : Int).toNat IntKind.u8.bits = j := by simp [IntKind.bits]; omega
  have e2 : (c.toNat : Int).fdiv (2 ^ j) = ((c >>> UInt8.ofNat j).toNat : Int) := by
    rw [show ((2 : Int) ^ j) = ((2 ^ j : Nat) : Int) by simp, ← Int.ofNat_fdiv, UInt8.toNat_shiftRight, UInt8.toNat_ofNat']
    rw [Nat.mod_eq_of_lt (show j < 2 ^ 8 by omega), Nat.mod_eq_of_lt hj, Nat.shiftRight_eq_div_pow]
  simp only [execOp, hx, hy, eqGuard, binOp, Op.shift, h0, if_false, e1, e2, Sem.run_bind, Sem.run_pure, Result.andThen_ok]
  simp
theorem r_shr8u (hx : ρ x = u8 c) (hy : ρ y = nu j) (hj : j < 8) : (execOp ρ ⟨dst, .binOp .shr T x y U, ty, pos, af, g⟩).run P w = .ok (.value (u8 (c >>> UInt8.ofNat j))) w := by
  have h0 : ¬ (j : Int) < 0 := by omega
  have e1 : min (j : Int).toNat IntKind.u8.bits = j := by simp [IntKind.bits]; omega
  have e2 : (c.toNat : Int).fdiv (2 ^ j) = ((c >>> UInt8.ofNat j).toNat : Int) := by
    rw [show ((2 : Int) ^ j) = ((2 ^ j : Nat) : Int) by simp, ← Int.ofNat_fdiv, UInt8.toNat_shiftRight, UInt8.toNat_ofNat']
    rw [Nat.mod_eq_of_lt (show j < 2 ^ 8 by omega), Nat.mod_eq_of_lt hj, Nat.shiftRight_eq_div_pow]
  simp only [execOp, hx, hy, eqGuard, binOp, Op.shift, h0, if_false, e1, e2, Sem.run_bind, Sem.run_pure, Result.andThen_ok]
  simp
theorem r_eql8 (hx : ρ x = u8 c) (hy : ρ y = u8 e) : (execOp ρ ⟨dst, .binOp .eql T x y U, ty, pos, af, g⟩).run P w = .ok (.value (.bool (decide (c = e)))) w := by
  have e' : ((c.toNat : Int) == e.toNat) = decide (c = e) := by rw [Bool.eq_iff_iff]; simp [← UInt8.toNat_inj]; omega
  simp only [execOp, hx, hy, eqGuard, binOp, Op.intCmp, e', Sem.run_bind, Sem.run_pure, Result.andThen_ok]
  simp
theorem r_neq8 (hx : ρ x = u8 c) (hy : ρ y = u8 e) : (execOp ρ ⟨dst, .binOp .neq T x y U, ty, pos, af, g⟩).run P w = .ok (.value (.bool (decide (c ≠ e)))) w := by
  have e' : ((c.toNat : Int) != e.toNat) = decide (c ≠ e) := by rw [Bool.eq_iff_iff]; simp [← UInt8.toNat_inj]; omega
  simp only [execOp, hx, hy, eqGuard, binOp, Op.intCmp, e', Sem.run_bind, Sem.run_pure, Result.andThen_ok]
  simp
theorem r_lss8 (hx : ρ x = u8 c) (hy : ρ y = u8 e) : (execOp ρ ⟨dst, .binOp .lss T x y U, ty, pos, af, g⟩).run P w = .ok (.value (.bool (decide (c < e)))) w := by
  have e' : decide ((c.toNat : Int) < e.toNat) = decide (c < e) := by rw [Bool.eq_iff_iff]; simp [UInt8.lt_iff_toNat_lt]
  simp only [execOp, hx, hy, eqGuard, binOp, Op.intCmp, e', Sem.run_bind, Sem.run_pure, Result.andThen_ok]
  simp
theorem r_gtr8 (hx : ρ x = u8 c) (hy : ρ y = u8 e) : (execOp ρ ⟨dst, .binOp .gtr T x y U, ty, pos, af, g⟩).run P w = .ok (.value (.bool (decide (e < c)))) w := by
  have e' : decide ((c.toNat : Int) > e.toNat) = decide (e < c) := by rw [Bool.eq_iff_iff]; simp [UInt8.lt_iff_toNat_lt]
  simp only [execOp, hx, hy, eqGuard, binOp, Op.intCmp, e', Sem.run_bind, Sem.run_pure, Result.andThen_ok]
  simp
theorem r_geq8 (hx : ρ x = u8 c) (hy : ρ y = u8 e) : (execOp ρ ⟨dst, .binOp .geq T x y U, ty, pos, af, g⟩).run P w = .ok (.value (.bool (decide (e ≤ c)))) w := by
  have e' : decide ((c.toNat : Int) ≥ e.toNat) = decide (e ≤ c) := by rw [Bool.eq_iff_iff]; simp [UInt8.le_iff_toNat_le]
  simp only [execOp, hx, hy, eqGuard, binOp, Op.intCmp, e', Sem.run_bind, Sem.run_pure, Result.andThen_ok]
  simp
/-! ### Conversions -/
variable {d : TypeDesc}
theorem r_cv {k k' : IntKind} {a : Int} {src dt : TypeId} (hx : ρ x = .int k a) (hs : qund P src = some d) (hd : qund P dt = some (.int k')) :
    (execOp ρ ⟨dst, .convert src dt x, ty, pos, af, g⟩).run P w = .ok (.value (.int k' (k'.wrap a))) w := by
  unfold qund at hs hd
  simp [execOp, hx, convert, run_underlying hs, run_underlying hd, Conv.intToInt]
theorem r_cv_n_u {src dt : TypeId} (hx : ρ x = nn i) (hs : qund P src = some d) (hd : qund P dt = some (.int .u64)) (hi : i < 18446744073709551616) :
    (execOp ρ ⟨dst, .convert src dt x, ty, pos, af, g⟩).run P w = .ok (.value (nu i)) w := by rw [r_cv hx hs hd, wrap_u64 hi]
theorem r_cv_u_n {src dt : TypeId} (hx : ρ x = nu i) (hs : qund P src = some d) (hd : qund P dt = some (.int .i64)) (hi : i < 9223372036854775808) :
    (execOp ρ ⟨dst, .convert src dt x, ty, pos, af, g⟩).run P w = .ok (.value (nn i)) w := by rw [r_cv hx hs hd, wrap_i64 hi]
theorem r_cv_n_8 {src dt : TypeId} (hx : ρ x = nn i) (hs : qund P src = some d) (hd : qund P dt = some (.int .u8)) :
    (execOp ρ ⟨dst, .convert src dt x, ty, pos, af, g⟩).run P w = .ok (.value (u8 (UInt8.ofNat i))) w := by rw [r_cv hx hs hd, wrap_u8]; simp
theorem r_cv_u_8 {src dt : TypeId} (hx : ρ x = nu i) (hs : qund P src = some d) (hd : qund P dt = some (.int .u8)) :
    (execOp ρ ⟨dst, .convert src dt x, ty, pos, af, g⟩).run P w = .ok (.value (u8 (UInt8.ofNat i))) w := by rw [r_cv hx hs hd, wrap_u8]; simp
theorem r_cv_8_n {src dt : TypeId} (hx : ρ x = u8 c) (hs : qund P src = some d) (hd : qund P dt = some (.int .i64)) :
    (execOp ρ ⟨dst, .convert src dt x, ty, pos, af, g⟩).run P w = .ok (.value (nn c.toNat)) w := by rw [r_cv hx hs hd, wrap_i64 (by have := c.toNat_lt; omega)]
theorem r_cv_8_u {src dt : TypeId} (hx : ρ x = u8 c) (hs : qund P src = some d) (hd : qund P dt = some (.int .u64)) :
    (execOp ρ ⟨dst, .convert src dt x, ty, pos, af, g⟩).run P w = .ok (.value (nu c.toNat)) w := by rw [r_cv hx hs hd, wrap_u64 (by have := c.toNat_lt; omega)]
theorem r_cv_8_32 {src dt : TypeId} (hx : ρ x = u8 c) (hs : qund P src = some d) (hd : qund P dt = some (.int .u32)) :
    (execOp ρ ⟨dst, .convert src dt x, ty, pos, af, g⟩).run P w = .ok (.value (u32 c.toUInt32)) w := by
  rw [r_cv hx hs hd, wrap_u32, Nat.mod_eq_of_lt (by have := c.toNat_lt; omega)]; simp
theorem r_cv_32_8 {src dt : TypeId} (hx : ρ x = u32 p) (hs : qund P src = some d) (hd : qund P dt = some (.int .u8)) :
    (execOp ρ ⟨dst, .convert src dt x, ty, pos, af, g⟩).run P w = .ok (.value (u8 p.toUInt8)) w := by rw [r_cv hx hs hd, wrap_u8]; simp
theorem r_cv_u_32 {src dt : TypeId} (hx : ρ x = nu i) (hs : qund P src = some d) (hd : qund P dt = some (.int .u32)) :
    (execOp ρ ⟨dst, .convert src dt x, ty, pos, af, g⟩).run P w = .ok (.value (u32 (UInt32.ofNat i))) w := by rw [r_cv hx hs hd, wrap_u32]; simp
end
end Go.Proofs.YtiggfalelcepbaaGreatDoor
