/- What the operations on bytes and words leave (uint8, uint32, uint64), and the conversions between them. -/
import Derived.Test.YtdcmbcjkdhdohaaOps
namespace Go.Proofs.Ytdcmbcjkdhdohaa
open Go Go.RowKit

/-- The byte of an int. -/
def b8 (i : Int) : UInt8 := UInt8.ofNat (i % 256).toNat
/-- The uint64 of an int. -/
def u64 (i : Int) : UInt64 := UInt64.ofNat (i % 18446744073709551616).toNat
/-- The int of a uint64. -/
def i64 (x : UInt64) : Int := IntKind.i64.wrap x.toNat

theorem b8_val (i : Int) : ((b8 i).toNat : Int) = i % 256 := by
  simp only [b8, UInt8.toNat_ofNat']
  omega
theorem u64_val (i : Int) : ((u64 i).toNat : Int) = i % 18446744073709551616 := by
  simp only [u64, UInt64.toNat_ofNat']
  omega

theorem bv8 (x : UInt8) : BitVec.ofInt 8 (x.toNat : Int) = x.toBitVec := by
  rw [BitVec.ofInt_natCast]; simp
theorem bv32 (x : UInt32) : BitVec.ofInt 32 (x.toNat : Int) = x.toBitVec := by
  rw [BitVec.ofInt_natCast]; simp
theorem bv64 (x : UInt64) : BitVec.ofInt 64 (x.toNat : Int) = x.toBitVec := by
  rw [BitVec.ofInt_natCast]; simp
theorem w8 (x : UInt8) : IntKind.u8.wrap (x.toNat : Int) = x.toNat := by
  rw [wrap_u8]; have := x.toNat_lt; omega
theorem w32 (x : UInt32) : IntKind.u32.wrap (x.toNat : Int) = x.toNat := by
  rw [wrap_u32]; have := x.toNat_lt; omega
theorem w64 (x : UInt64) : IntKind.u64.wrap (x.toNat : Int) = x.toNat := by
  rw [wrap_u64]; have := x.toNat_lt; omega

section
variable {P : Program} {n : Nat} {f : Nat → Value} {ty : TypeId} {w : World} {x y c : Operand} {v : Value} {t t2 : TypeId}

/-! uint8 -/
section
variable {a b : UInt8} (hx : ev n f x = B8 a) (hy : ev n f y = B8 b)
include hx hy
theorem y_and8 : Y P n f (.binOp .and t x y t2) ty w (B8 (a &&& b)) w := bin_pure (by simp) hx hy (by
  simp only [Go.binOp, Op.intBits, ne_eq, not_true_eq_false, if_false, IntKind.bits, bv8, Sem.run_pure]
  exact congrArg (fun z => Result.ok (Value.int .u8 z) w) (w8 (a &&& b)))
theorem y_or8 : Y P n f (.binOp .or t x y t2) ty w (B8 (a ||| b)) w := bin_pure (by simp) hx hy (by
  simp only [Go.binOp, Op.intBits, ne_eq, not_true_eq_false, if_false, IntKind.bits, bv8, Sem.run_pure]
  exact congrArg (fun z => Result.ok (Value.int .u8 z) w) (w8 (a ||| b)))
theorem y_xor8 : Y P n f (.binOp .xor t x y t2) ty w (B8 (a ^^^ b)) w := bin_pure (by simp) hx hy (by
  simp only [Go.binOp, Op.intBits, ne_eq, not_true_eq_false, if_false, IntKind.bits, bv8, Sem.run_pure]
  exact congrArg (fun z => Result.ok (Value.int .u8 z) w) (w8 (a ^^^ b)))
theorem y_add8 : Y P n f (.binOp .add t x y t2) ty w (B8 (a + b)) w := bin_pure (by simp) hx hy (by
  simp only [Go.binOp, Op.intArith, ne_eq, not_true_eq_false, if_false, Sem.run_pure, wrap_u8]
  refine congrArg (fun z => Result.ok (Value.int .u8 z) w) ?_
  rw [UInt8.toNat_add]; omega)
theorem y_mul8 : Y P n f (.binOp .mul t x y t2) ty w (B8 (a * b)) w := bin_pure (by simp) hx hy (by
  simp only [Go.binOp, Op.intArith, ne_eq, not_true_eq_false, if_false, Sem.run_pure, wrap_u8]
  refine congrArg (fun z => Result.ok (Value.int .u8 z) w) ?_
  rw [UInt8.toNat_mul, Int.natCast_emod, Int.natCast_mul]; rfl)
theorem y_eql8 : Y P n f (.binOp .eql t x y t2) ty w (.bool (decide (a = b))) w := by
  have h := y_eqlK (P := P) (ty := ty) (w := w) (t := t) (t2 := t2) hx hy
  have e : decide ((a.toNat : Int) = b.toNat) = decide (a = b) := decide_eq_decide.2 (by rw [← UInt8.toNat_inj]; omega)
  rwa [e] at h
theorem y_neq8 : Y P n f (.binOp .neq t x y t2) ty w (.bool (decide (a ≠ b))) w := by
  have h := y_neqK (P := P) (ty := ty) (w := w) (t := t) (t2 := t2) hx hy
  have e : decide ((a.toNat : Int) ≠ b.toNat) = decide (a ≠ b) := decide_eq_decide.2 (by rw [Ne, Ne, ← UInt8.toNat_inj]; omega)
  rwa [e] at h
theorem y_rem8 (h0 : b ≠ 0) : Y P n f (.binOp .rem t x y t2) ty w (B8 (a % b)) w := bin_pure (by simp) hx hy (by
  have hb : ¬ (b.toNat : Int) = 0 := fun e => h0 (UInt8.toNat_inj.1 (by rw [UInt8.toNat_zero]; omega))
  have e1 : (a.toNat : Int).tmod b.toNat = (a.toNat : Int) % b.toNat := Int.tmod_eq_emod_of_nonneg (by omega)
  simp only [Go.binOp, Op.intDiv, ne_eq, not_true_eq_false, if_false, hb, Sem.run_pure, e1]
  refine congrArg (fun z => Result.ok (Value.int .u8 z) w) ?_
  rw [UInt8.toNat_mod]; rfl)
end

/-! uint32 -/
section
variable {a b : UInt32} (hx : ev n f x = U32 a) (hy : ev n f y = U32 b)
include hx hy
theorem y_and32 : Y P n f (.binOp .and t x y t2) ty w (U32 (a &&& b)) w := bin_pure (by simp) hx hy (by
  simp only [Go.binOp, Op.intBits, ne_eq, not_true_eq_false, if_false, IntKind.bits, bv32, Sem.run_pure]
  exact congrArg (fun z => Result.ok (Value.int .u32 z) w) (w32 (a &&& b)))
theorem y_or32 : Y P n f (.binOp .or t x y t2) ty w (U32 (a ||| b)) w := bin_pure (by simp) hx hy (by
  simp only [Go.binOp, Op.intBits, ne_eq, not_true_eq_false, if_false, IntKind.bits, bv32, Sem.run_pure]
  exact congrArg (fun z => Result.ok (Value.int .u32 z) w) (w32 (a ||| b)))
theorem y_xor32 : Y P n f (.binOp .xor t x y t2) ty w (U32 (a ^^^ b)) w := bin_pure (by simp) hx hy (by
  simp only [Go.binOp, Op.intBits, ne_eq, not_true_eq_false, if_false, IntKind.bits, bv32, Sem.run_pure]
  exact congrArg (fun z => Result.ok (Value.int .u32 z) w) (w32 (a ^^^ b)))
theorem y_add32 : Y P n f (.binOp .add t x y t2) ty w (U32 (a + b)) w := bin_pure (by simp) hx hy (by
  simp only [Go.binOp, Op.intArith, ne_eq, not_true_eq_false, if_false, Sem.run_pure, wrap_u32]
  refine congrArg (fun z => Result.ok (Value.int .u32 z) w) ?_
  rw [UInt32.toNat_add]; omega)
end
theorem y_not32 {a : UInt32} (hx : ev n f x = U32 a) : Y P n f (.unOp .xor t x) ty w (U32 (~~~ a)) w := by
  intro o ho _
  have h : (Op.unary .xor (U32 a)).run P w = .ok (U32 (~~~ a)) w := by
    simp only [Op.unary, Op.intBits, IntKind.bits, IntKind.signed, IntKind.max, Bool.false_eq_true, if_false, bv32, Sem.run_pure]
    refine congrArg (fun z => Result.ok (Value.int .u32 z) w) ?_
    have e : BitVec.ofInt 32 (2 ^ 32 - 1) = BitVec.allOnes 32 := by decide
    rw [e]
    show IntKind.u32.wrap ((BitVec.allOnes 32 ^^^ a.toBitVec : BitVec 32).toNat : Int) = _
    rw [BitVec.allOnes_xor]
    exact w32 (~~~ a)
  simp [execOp, ho, hx, h]

/-! shifts -/
theorem pow_cast (m : Nat) : ((2 : Int) ^ m) = ((2 ^ m : Nat) : Int) := by simp
theorem fdiv_cast (a b : Nat) : (a : Int).fdiv (b : Int) = ((a / b : Nat) : Int) := by
  rw [Int.fdiv_eq_ediv_of_nonneg _ (Int.natCast_nonneg b)]; rfl
theorem shift_pure {op : BinOp} {k k2 : IntKind} {i j : Int} {r : Value} (hop : op = .shl ∨ op = .shr) (hx : ev n f x = .int k i) (hy : ev n f y = .int k2 j)
    (h : (Op.shift op k i k2 j).run P w = .ok r w) : Y P n f (.binOp op t x y t2) ty w r w := by
  intro o ho _
  have hg : (eqGuard op t x y (.int k i) (.int k2 j)).run P w = .ok PUnit.unit w := by
    rcases hop with rfl | rfl <;> simp [eqGuard]
  have hb : (Go.binOp op t (.int k i) (.int k2 j)).run P w = .ok r w := by
    rcases hop with rfl | rfl <;> exact h
  simp [execOp, ho, hx, hy, hg, hb]

theorem y_shl32 {a : UInt32} {k2 : IntKind} {j : Int} (hx : ev n f x = U32 a) (hy : ev n f y = .int k2 j) (h0 : 0 ≤ j) (h1 : j < 32) :
    Y P n f (.binOp .shl t x y t2) ty w (U32 (a <<< UInt32.ofNat j.toNat)) w := shift_pure (.inl rfl) hx hy (by
  have hj : ¬ j < 0 := by omega
  obtain ⟨m, rfl⟩ := Int.eq_ofNat_of_zero_le h0
  simp only [Op.shift, hj, if_false, Sem.run_pure, wrap_u32, IntKind.bits, Int.toNat_natCast]
  refine congrArg (fun z => Result.ok (Value.int .u32 z) w) ?_
  have hm : m < 32 := by omega
  have e1 : min m 32 = m := by omega
  rw [UInt32.toNat_shiftLeft, e1, UInt32.toNat_ofNat', Nat.mod_eq_of_lt (show m < 2 ^ 32 by omega), Nat.mod_eq_of_lt hm, Nat.shiftLeft_eq, pow_cast, ← Int.natCast_mul]
  omega)
theorem y_shr32 {a : UInt32} {k2 : IntKind} {j : Int} (hx : ev n f x = U32 a) (hy : ev n f y = .int k2 j) (h0 : 0 ≤ j) (h1 : j < 32) :
    Y P n f (.binOp .shr t x y t2) ty w (U32 (a >>> UInt32.ofNat j.toNat)) w := shift_pure (.inr rfl) hx hy (by
  have hj : ¬ j < 0 := by omega
  obtain ⟨m, rfl⟩ := Int.eq_ofNat_of_zero_le h0
  simp only [Op.shift, hj, if_false, Sem.run_pure, IntKind.bits, Int.toNat_natCast]
  refine congrArg (fun z => Result.ok (Value.int .u32 z) w) ?_
  have hm : m < 32 := by omega
  have e1 : min m 32 = m := by omega
  rw [UInt32.toNat_shiftRight, e1, UInt32.toNat_ofNat', Nat.mod_eq_of_lt (show m < 2 ^ 32 by omega), Nat.mod_eq_of_lt hm, Nat.shiftRight_eq_div_pow, pow_cast, fdiv_cast])
theorem y_shr8 {a : UInt8} {k2 : IntKind} {j : Int} (hx : ev n f x = B8 a) (hy : ev n f y = .int k2 j) (h0 : 0 ≤ j) (h1 : j < 8) :
    Y P n f (.binOp .shr t x y t2) ty w (B8 (a >>> UInt8.ofNat j.toNat)) w := shift_pure (.inr rfl) hx hy (by
  have hj : ¬ j < 0 := by omega
  obtain ⟨m, rfl⟩ := Int.eq_ofNat_of_zero_le h0
  simp only [Op.shift, hj, if_false, Sem.run_pure, IntKind.bits, Int.toNat_natCast]
  refine congrArg (fun z => Result.ok (Value.int .u8 z) w) ?_
  have hm : m < 8 := by omega
  have e1 : min m 8 = m := by omega
  rw [UInt8.toNat_shiftRight, e1, UInt8.toNat_ofNat', Nat.mod_eq_of_lt (show m < 2 ^ 8 by omega), Nat.mod_eq_of_lt hm, Nat.shiftRight_eq_div_pow, pow_cast, fdiv_cast])
theorem y_shl8 {a : UInt8} {k2 : IntKind} {j : Int} (hx : ev n f x = B8 a) (hy : ev n f y = .int k2 j) (h0 : 0 ≤ j) (h1 : j < 8) :
    Y P n f (.binOp .shl t x y t2) ty w (B8 (a <<< UInt8.ofNat j.toNat)) w := shift_pure (.inl rfl) hx hy (by
  have hj : ¬ j < 0 := by omega
  obtain ⟨m, rfl⟩ := Int.eq_ofNat_of_zero_le h0
  simp only [Op.shift, hj, if_false, Sem.run_pure, wrap_u8, IntKind.bits, Int.toNat_natCast]
  refine congrArg (fun z => Result.ok (Value.int .u8 z) w) ?_
  have hm : m < 8 := by omega
  have e1 : min m 8 = m := by omega
  rw [UInt8.toNat_shiftLeft, e1, UInt8.toNat_ofNat', Nat.mod_eq_of_lt (show m < 2 ^ 8 by omega), Nat.mod_eq_of_lt hm, Nat.shiftLeft_eq, pow_cast, ← Int.natCast_mul]
  omega)
theorem y_shr64 {a : UInt64} {k2 : IntKind} {j : Int} (hx : ev n f x = U64 a) (hy : ev n f y = .int k2 j) (h0 : 0 ≤ j) (h1 : j < 64) :
    Y P n f (.binOp .shr t x y t2) ty w (U64 (a >>> UInt64.ofNat j.toNat)) w := shift_pure (.inr rfl) hx hy (by
  have hj : ¬ j < 0 := by omega
  obtain ⟨m, rfl⟩ := Int.eq_ofNat_of_zero_le h0
  simp only [Op.shift, hj, if_false, Sem.run_pure, IntKind.bits, Int.toNat_natCast]
  refine congrArg (fun z => Result.ok (Value.int .u64 z) w) ?_
  have hm : m < 64 := by omega
  have e1 : min m 64 = m := by omega
  rw [UInt64.toNat_shiftRight, e1, UInt64.toNat_ofNat', Nat.mod_eq_of_lt (show m < 2 ^ 64 by omega), Nat.mod_eq_of_lt hm, Nat.shiftRight_eq_div_pow, pow_cast, fdiv_cast])
theorem y_shl64 {a : UInt64} {k2 : IntKind} {j : Int} (hx : ev n f x = U64 a) (hy : ev n f y = .int k2 j) (h0 : 0 ≤ j) (h1 : j < 64) :
    Y P n f (.binOp .shl t x y t2) ty w (U64 (a <<< UInt64.ofNat j.toNat)) w := shift_pure (.inl rfl) hx hy (by
  have hj : ¬ j < 0 := by omega
  obtain ⟨m, rfl⟩ := Int.eq_ofNat_of_zero_le h0
  simp only [Op.shift, hj, if_false, Sem.run_pure, wrap_u64, IntKind.bits, Int.toNat_natCast]
  refine congrArg (fun z => Result.ok (Value.int .u64 z) w) ?_
  have hm : m < 64 := by omega
  have e1 : min m 64 = m := by omega
  rw [UInt64.toNat_shiftLeft, e1, UInt64.toNat_ofNat', Nat.mod_eq_of_lt (show m < 2 ^ 64 by omega), Nat.mod_eq_of_lt hm, Nat.shiftLeft_eq, pow_cast, ← Int.natCast_mul]
  omega)
/-- An int to the right. -/
theorem y_shrI {i : Int} {k2 : IntKind} {j : Int} (hx : ev n f x = I i) (hy : ev n f y = .int k2 j) (h0 : 0 ≤ j) (h1 : j < 64) :
    Y P n f (.binOp .shr t x y t2) ty w (I (i / 2 ^ j.toNat)) w := shift_pure (.inr rfl) hx hy (by
  have hj : ¬ j < 0 := by omega
  have e1 : min j.toNat 64 = j.toNat := by omega
  simp only [Op.shift, hj, if_false, Sem.run_pure, IntKind.bits, e1]
  rw [Int.fdiv_eq_ediv_of_nonneg _ (Int.le_of_lt (Int.pow_pos (by decide)))])
theorem y_shlI {i : Int} {k2 : IntKind} {j : Int} (hx : ev n f x = I i) (hy : ev n f y = .int k2 j) (h0 : 0 ≤ j) (h1 : j < 64)
    (hb : -9223372036854775808 ≤ i * 2 ^ j.toNat ∧ i * 2 ^ j.toNat ≤ 9223372036854775807) :
    Y P n f (.binOp .shl t x y t2) ty w (I (i * 2 ^ j.toNat)) w := shift_pure (.inl rfl) hx hy (by
  have hj : ¬ j < 0 := by omega
  have e1 : min j.toNat 64 = j.toNat := by omega
  simp only [Op.shift, hj, if_false, Sem.run_pure, IntKind.bits, e1, wrap64_in hb])

/-! uint64 -/
section
variable {a b : UInt64} (hx : ev n f x = U64 a) (hy : ev n f y = U64 b)
include hx hy
theorem y_or64 : Y P n f (.binOp .or t x y t2) ty w (U64 (a ||| b)) w := bin_pure (by simp) hx hy (by
  simp only [Go.binOp, Op.intBits, ne_eq, not_true_eq_false, if_false, IntKind.bits, bv64, Sem.run_pure]
  exact congrArg (fun z => Result.ok (Value.int .u64 z) w) (w64 (a ||| b)))
theorem y_add64 : Y P n f (.binOp .add t x y t2) ty w (U64 (a + b)) w := bin_pure (by simp) hx hy (by
  simp only [Go.binOp, Op.intArith, ne_eq, not_true_eq_false, if_false, Sem.run_pure, wrap_u64]
  refine congrArg (fun z => Result.ok (Value.int .u64 z) w) ?_
  rw [UInt64.toNat_add]; omega)
theorem y_mul64 : Y P n f (.binOp .mul t x y t2) ty w (U64 (a * b)) w := bin_pure (by simp) hx hy (by
  simp only [Go.binOp, Op.intArith, ne_eq, not_true_eq_false, if_false, Sem.run_pure, wrap_u64]
  refine congrArg (fun z => Result.ok (Value.int .u64 z) w) ?_
  rw [UInt64.toNat_mul, Int.natCast_emod, Int.natCast_mul]; rfl)
theorem y_geq64 : Y P n f (.binOp .geq t x y t2) ty w (.bool (decide (b ≤ a))) w := bin_pure (by simp) hx hy (by
  simp only [Go.binOp, Op.intCmp, ne_eq, not_true_eq_false, if_false, Sem.run_pure]
  refine congrArg (fun z => Result.ok (Value.bool z) w) (decide_eq_decide.2 ?_)
  rw [UInt64.le_iff_toNat_le]; omega)
theorem y_rem64 (h0 : b ≠ 0) : Y P n f (.binOp .rem t x y t2) ty w (U64 (a % b)) w := bin_pure (by simp) hx hy (by
  have hb : ¬ (b.toNat : Int) = 0 := fun e => h0 (UInt64.toNat_inj.1 (by rw [UInt64.toNat_zero]; omega))
  have e1 : (a.toNat : Int).tmod b.toNat = (a.toNat : Int) % b.toNat := Int.tmod_eq_emod_of_nonneg (by omega)
  simp only [Go.binOp, Op.intDiv, ne_eq, not_true_eq_false, if_false, hb, Sem.run_pure, e1]
  refine congrArg (fun z => Result.ok (Value.int .u64 z) w) ?_
  rw [UInt64.toNat_mod]; rfl)
theorem y_quo64 (h0 : b ≠ 0) : Y P n f (.binOp .quo t x y t2) ty w (U64 (a / b)) w := bin_pure (by simp) hx hy (by
  have hb : ¬ (b.toNat : Int) = 0 := fun e => h0 (UInt64.toNat_inj.1 (by rw [UInt64.toNat_zero]; omega))
  have e1 : (a.toNat : Int).tdiv b.toNat = (a.toNat : Int) / b.toNat := Int.tdiv_eq_ediv_of_nonneg (by omega)
  simp only [Go.binOp, Op.intDiv, ne_eq, not_true_eq_false, if_false, hb, Sem.run_pure, e1]
  refine congrArg (fun z => Result.ok (Value.int .u64 z) w) ?_
  have e2 : (a.toNat : Int) / b.toNat = ((a / b).toNat : Int) := by rw [UInt64.toNat_div]; rfl
  rw [e2]; exact w64 _)
end

/-! conversions: 'src' and 'dst' are types of integers -/
theorem conv_pure {k k2 : IntKind} {i : Int} {src dst : TypeId} (hs : P.underlying src = some (.int k)) (hd : P.underlying dst = some (.int k2)) (hx : ev n f x = .int k i) :
    Y P n f (.convert src dst x) ty w (.int k2 (k2.wrap i)) w := by
  intro o ho _
  have h : (convert src dst (.int k i)).run P w = .ok (.int k2 (k2.wrap i)) w := by
    simp [convert, underlying, hs, hd, Conv.intToInt]
  simp [execOp, ho, hx, h]
section
variable {src dst : TypeId}
theorem y_conv_32_8 {a : UInt32} (hs : P.underlying src = some (.int .u32)) (hd : P.underlying dst = some (.int .u8)) (hx : ev n f x = U32 a) : Y P n f (.convert src dst x) ty w (B8 a.toUInt8) w := by
  have h := conv_pure (ty := ty) (w := w) hs hd hx
  rw [wrap_u8] at h
  have e : (a.toNat : Int) % 256 = (a.toUInt8.toNat : Int) := by rw [UInt32.toNat_toUInt8]; omega
  rwa [e] at h
theorem y_conv_8_32 {a : UInt8} (hs : P.underlying src = some (.int .u8)) (hd : P.underlying dst = some (.int .u32)) (hx : ev n f x = B8 a) : Y P n f (.convert src dst x) ty w (U32 a.toUInt32) w := by
  have h := conv_pure (ty := ty) (w := w) hs hd hx
  rw [wrap_u32] at h
  have e : (a.toNat : Int) % 4294967296 = (a.toUInt32.toNat : Int) := by rw [UInt8.toNat_toUInt32]; have := a.toNat_lt; omega
  rwa [e] at h
theorem y_conv_8_64 {a : UInt8} (hs : P.underlying src = some (.int .u8)) (hd : P.underlying dst = some (.int .u64)) (hx : ev n f x = B8 a) : Y P n f (.convert src dst x) ty w (U64 a.toUInt64) w := by
  have h := conv_pure (ty := ty) (w := w) hs hd hx
  rw [wrap_u64] at h
  have e : (a.toNat : Int) % 18446744073709551616 = (a.toUInt64.toNat : Int) := by rw [UInt8.toNat_toUInt64]; have := a.toNat_lt; omega
  rwa [e] at h
theorem y_conv_64_8 {a : UInt64} (hs : P.underlying src = some (.int .u64)) (hd : P.underlying dst = some (.int .u8)) (hx : ev n f x = U64 a) : Y P n f (.convert src dst x) ty w (B8 a.toUInt8) w := by
  have h := conv_pure (ty := ty) (w := w) hs hd hx
  rw [wrap_u8] at h
  have e : (a.toNat : Int) % 256 = (a.toUInt8.toNat : Int) := by rw [UInt64.toNat_toUInt8]; omega
  rwa [e] at h
theorem y_conv_I_8 {i : Int} (hs : P.underlying src = some (.int .i64)) (hd : P.underlying dst = some (.int .u8)) (hx : ev n f x = I i) : Y P n f (.convert src dst x) ty w (B8 (b8 i)) w := by
  have h := conv_pure (ty := ty) (w := w) hs hd hx
  rw [wrap_u8, ← b8_val] at h
  exact h
theorem y_conv_I_64 {i : Int} (hs : P.underlying src = some (.int .i64)) (hd : P.underlying dst = some (.int .u64)) (hx : ev n f x = I i) : Y P n f (.convert src dst x) ty w (U64 (u64 i)) w := by
  have h := conv_pure (ty := ty) (w := w) hs hd hx
  rw [wrap_u64, ← u64_val] at h
  exact h
theorem y_conv_8_I {a : UInt8} (hs : P.underlying src = some (.int .u8)) (hd : P.underlying dst = some (.int .i64)) (hx : ev n f x = B8 a) : Y P n f (.convert src dst x) ty w (I a.toNat) w := by
  have h := conv_pure (ty := ty) (w := w) hs hd hx
  rwa [wrap64_in (by have := a.toNat_lt; omega)] at h
theorem y_conv_64_I {a : UInt64} (hs : P.underlying src = some (.int .u64)) (hd : P.underlying dst = some (.int .i64)) (hx : ev n f x = U64 a) : Y P n f (.convert src dst x) ty w (I (i64 a)) w :=
  conv_pure (ty := ty) (w := w) hs hd hx
end
end
end Go.Proofs.Ytdcmbcjkdhdohaa
