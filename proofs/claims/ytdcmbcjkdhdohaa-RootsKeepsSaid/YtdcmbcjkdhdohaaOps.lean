/- What the operations without memory leave: one rule an operation, over values that are typed (ints, bytes, words). -/
import Derived.Test.YtdcmbcjkdhdohaaCore
import Derived.Laws.StructEq
import Derived.DeepKeys
namespace Go.Proofs.Ytdcmbcjkdhdohaa
open Go Go.RowKit

abbrev I (n : Int) : Value := .int .i64 n
abbrev B8 (x : UInt8) : Value := .int .u8 (x.toNat : Int)
abbrev U32 (x : UInt32) : Value := .int .u32 (x.toNat : Int)
abbrev U64 (x : UInt64) : Value := .int .u64 (x.toNat : Int)
abbrev Bo (b : Bool) : Value := .bool b
abbrev Pt (g k : Nat) : Value := .pointer (some ⟨g, k, none⟩)

theorem wrap64_in {a : Int} (h : -9223372036854775808 ≤ a ∧ a ≤ 9223372036854775807) : IntKind.i64.wrap a = a := by
  simp only [IntKind.wrap, IntKind.bits, IntKind.signed, Bool.true_and]
  have e1 : (2 : Int) ^ 64 = 18446744073709551616 := by decide
  have e2 : (2 : Int) ^ (64 - 1) = 9223372036854775808 := by decide
  simp only [e1, e2, ge_iff_le, decide_eq_true_eq]
  split <;> omega
theorem wrap_u (k : IntKind) (hk : k.signed = false) (a : Int) : k.wrap a = a % (2 ^ k.bits : Int) := by
  simp [IntKind.wrap, hk]
theorem wrap_u8 (a : Int) : IntKind.u8.wrap a = a % 256 := by simp [IntKind.wrap, IntKind.bits, IntKind.signed]
theorem wrap_u32 (a : Int) : IntKind.u32.wrap a = a % 4294967296 := by simp [IntKind.wrap, IntKind.bits, IntKind.signed]
theorem wrap_u64 (a : Int) : IntKind.u64.wrap a = a % 18446744073709551616 := by simp [IntKind.wrap, IntKind.bits, IntKind.signed]

section
variable {P : Program} {n : Nat} {f : Nat → Value} {ty : TypeId} {w : World} {x y c a b : Operand} {v : Value} {t t2 : TypeId}

theorem y_move (hx : ev n f x = v) : Y P n f (.move x) ty w v w := by
  intro o ho _; simp only [execOp, ho, hx]; rfl
theorem y_assign (hx : ev n f x = v) : Y P n f (.assign x) ty w v w := by
  intro o ho _; simp only [execOp, ho, hx]; rfl
theorem y_pickT {p : Bool} (hc : ev n f c = .bool p) (hp : p = true) (ha : ev n f a = v) : Y P n f (.pick c a b) ty w v w := by
  intro o ho _; subst hp; simp [execOp, ho, hc, ha, asBool]
theorem y_pickF {p : Bool} (hc : ev n f c = .bool p) (hp : p = false) (hb : ev n f b = v) : Y P n f (.pick c a b) ty w v w := by
  intro o ho _; subst hp; simp [execOp, ho, hc, hb, asBool]
theorem y_pickB {p q r : Bool} (hc : ev n f c = .bool p) (ha : ev n f a = .bool q) (hb : ev n f b = .bool r) : Y P n f (.pick c a b) ty w (.bool (bif p then q else r)) w := by
  intro o ho _; cases p <;> simp [execOp, ho, hc, ha, hb, asBool]
theorem y_nilCheck {p : Addr} (hx : ev n f x = .pointer (some p)) : Y P n f (.nilCheck x) ty w (.pointer (some p)) w := by
  intro o ho _; simp [execOp, ho, hx]
theorem y_extract {vs : Array Value} {i : Nat} (hx : ev n f x = .tuple vs) (hi : vs[i]? = some v) : Y P n f (.extract x i) ty w v w := by
  intro o ho _; simp [execOp, ho, hx, Instr.extract, hi]
theorem y_not {p : Bool} (hx : ev n f x = .bool p) : Y P n f (.unOp .not t x) ty w (.bool (!p)) w := by
  intro o ho _; simp [execOp, ho, hx, Op.unary]

/-! ints -/
theorem bin_pure {op : BinOp} {k : IntKind} {i j : Int} {r : Value} (hop : op ≠ .eql ∧ op ≠ .neq) (hx : ev n f x = .int k i) (hy : ev n f y = .int k j)
    (h : (Go.binOp op t (.int k i) (.int k j)).run P w = .ok r w) : Y P n f (.binOp op t x y t2) ty w r w := by
  intro o ho _
  have hg : (eqGuard op t x y (.int k i) (.int k j)).run P w = .ok PUnit.unit w := by
    cases op <;> simp_all [eqGuard]
  simp [execOp, ho, hx, hy, hg, h]

section
variable {i j : Int} (hx : ev n f x = I i) (hy : ev n f y = I j)
include hx hy
theorem y_add (h : -9223372036854775808 ≤ i + j ∧ i + j ≤ 9223372036854775807) : Y P n f (.binOp .add t x y t2) ty w (I (i + j)) w :=
  bin_pure (by simp) hx hy (by simp [Go.binOp, Op.intArith, wrap64_in h])
theorem y_sub (h : -9223372036854775808 ≤ i - j ∧ i - j ≤ 9223372036854775807) : Y P n f (.binOp .sub t x y t2) ty w (I (i - j)) w :=
  bin_pure (by simp) hx hy (by simp [Go.binOp, Op.intArith, wrap64_in h])
theorem y_mul (h : -9223372036854775808 ≤ i * j ∧ i * j ≤ 9223372036854775807) : Y P n f (.binOp .mul t x y t2) ty w (I (i * j)) w :=
  bin_pure (by simp) hx hy (by simp [Go.binOp, Op.intArith, wrap64_in h])
theorem y_addW : Y P n f (.binOp .add t x y t2) ty w (I (IntKind.i64.wrap (i + j))) w :=
  bin_pure (by simp) hx hy (by simp [Go.binOp, Op.intArith])
theorem y_mulW : Y P n f (.binOp .mul t x y t2) ty w (I (IntKind.i64.wrap (i * j))) w :=
  bin_pure (by simp) hx hy (by simp [Go.binOp, Op.intArith])
theorem y_quo (h : 0 ≤ i ∧ i ≤ 9223372036854775807) (h2 : 0 < j) : Y P n f (.binOp .quo t x y t2) ty w (I (i / j)) w := by
  refine bin_pure (by simp) hx hy ?_
  have e1 : i.tdiv j = i / j := Int.tdiv_eq_ediv_of_nonneg h.1
  have e2 : 0 ≤ i / j := Int.ediv_nonneg h.1 (Int.le_of_lt h2)
  have e3 : i / j ≤ i := Int.ediv_le_self _ h.1
  have e0 : ¬ j = 0 := by omega
  simp [Go.binOp, Op.intDiv, e0, e1, wrap64_in (a := i / j) ⟨by omega, by omega⟩]
theorem y_rem (h : 0 ≤ i) (h2 : 0 < j) : Y P n f (.binOp .rem t x y t2) ty w (I (i % j)) w := by
  refine bin_pure (by simp) hx hy ?_
  have e1 : i.tmod j = i % j := Int.tmod_eq_emod_of_nonneg h
  have e0 : ¬ j = 0 := by omega
  simp [Go.binOp, Op.intDiv, e0, e1]
theorem y_tmod (h2 : j ≠ 0) : Y P n f (.binOp .rem t x y t2) ty w (I (i.tmod j)) w := by
  refine bin_pure (by simp) hx hy ?_
  simp [Go.binOp, Op.intDiv, h2]
theorem y_lss : Y P n f (.binOp .lss t x y t2) ty w (.bool (decide (i < j))) w := bin_pure (by simp) hx hy (by simp [Go.binOp, Op.intCmp])
theorem y_leq : Y P n f (.binOp .leq t x y t2) ty w (.bool (decide (i ≤ j))) w := bin_pure (by simp) hx hy (by simp [Go.binOp, Op.intCmp])
theorem y_gtr : Y P n f (.binOp .gtr t x y t2) ty w (.bool (decide (j < i))) w := bin_pure (by simp) hx hy (by simp [Go.binOp, Op.intCmp])
theorem y_geq : Y P n f (.binOp .geq t x y t2) ty w (.bool (decide (j ≤ i))) w := bin_pure (by simp) hx hy (by simp [Go.binOp, Op.intCmp])
end
theorem y_eqlK {k : IntKind} {i j : Int} (hx : ev n f x = .int k i) (hy : ev n f y = .int k j) : Y P n f (.binOp .eql t x y t2) ty w (.bool (decide (i = j))) w := by
  intro o ho _
  have hg : (eqGuard .eql t x y (.int k i) (.int k j)).run P w = .ok PUnit.unit w := by simp [eqGuard]
  have hb : (Go.binOp .eql t (.int k i) (.int k j)).run P w = .ok (.bool (decide (i = j))) w := by
    simp [Go.binOp, Op.intCmp]; exact (Bool.beq_eq_decide_eq i j)
  simp [execOp, ho, hx, hy, hg, hb]
theorem y_neqK {k : IntKind} {i j : Int} (hx : ev n f x = .int k i) (hy : ev n f y = .int k j) : Y P n f (.binOp .neq t x y t2) ty w (.bool (decide (i ≠ j))) w := by
  intro o ho _
  have hg : (eqGuard .neq t x y (.int k i) (.int k j)).run P w = .ok PUnit.unit w := by simp [eqGuard]
  have hb : (Go.binOp .neq t (.int k i) (.int k j)).run P w = .ok (.bool (decide (i ≠ j))) w := by
    simp [Go.binOp, Op.intCmp]; by_cases h : i = j <;> simp [h]
  simp [execOp, ho, hx, hy, hg, hb]
theorem run_eqB {p q : Bool} (hu : P.underlying t = some .bool) : (Op.equal t (.bool p) (.bool q)).run P w = .ok (p == q) w :=
  run_equalIn_bool' w 9999 t p q hu
theorem y_eqlB {p q : Bool} (hx : ev n f x = .bool p) (hy : ev n f y = .bool q) (hu : P.underlying t = some .bool) : Y P n f (.binOp .eql t x y t2) ty w (.bool (p == q)) w := by
  intro o ho _
  have hg : (eqGuard .eql t x y (.bool p) (.bool q)).run P w = .ok PUnit.unit w := by simp [eqGuard]
  have hb : (Go.binOp .eql t (.bool p) (.bool q)).run P w = .ok (.bool (p == q)) w := by
    show ((do pure (Value.bool (← Op.equal t (.bool p) (.bool q)))) : Sem Value).run P w = _
    rw [Sem.run_bind, run_eqB hu]; rfl
  simp [execOp, ho, hx, hy, hg, hb]
theorem y_neqB {p q : Bool} (hx : ev n f x = .bool p) (hy : ev n f y = .bool q) (hu : P.underlying t = some .bool) : Y P n f (.binOp .neq t x y t2) ty w (.bool (p != q)) w := by
  intro o ho _
  have hg : (eqGuard .neq t x y (.bool p) (.bool q)).run P w = .ok PUnit.unit w := by simp [eqGuard]
  have hb : (Go.binOp .neq t (.bool p) (.bool q)).run P w = .ok (.bool (p != q)) w := by
    show ((do pure (Value.bool (!(← Op.equal t (.bool p) (.bool q))))) : Sem Value).run P w = _
    rw [Sem.run_bind, run_eqB hu]; rfl
  simp [execOp, ho, hx, hy, hg, hb]
end
end Go.Proofs.Ytdcmbcjkdhdohaa
