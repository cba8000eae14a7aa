/- The operations on ints once more, where the ints are known to be natural numbers; shifts by a known number. -/
import Derived.Test.YtdcmbcjkdhdohaaMem
namespace Go.Proofs.Ytdcmbcjkdhdohaa
open Go Go.RowKit

section
variable {P : Program} {n : Nat} {f : Nat → Value} {ty : TypeId} {w : World} {x y : Operand} {t t2 : TypeId} {a b : Nat}

section
variable (hx : ev n f x = I (a : Int)) (hy : ev n f y = I (b : Int))
include hx hy
theorem n_add (h : a + b ≤ 9223372036854775807) : Y P n f (.binOp .add t x y t2) ty w (I ((a + b : Nat) : Int)) w := y_add hx hy (by omega)
theorem n_sub (h : b ≤ a) (h2 : a ≤ 9223372036854775807) : Y P n f (.binOp .sub t x y t2) ty w (I ((a - b : Nat) : Int)) w := by
  have := y_sub (P := P) (ty := ty) (w := w) (t := t) (t2 := t2) hx hy (by omega)
  rwa [show (a : Int) - b = ((a - b : Nat) : Int) by omega] at this
theorem n_mul (h : a * b ≤ 9223372036854775807) : Y P n f (.binOp .mul t x y t2) ty w (I ((a * b : Nat) : Int)) w := by
  have e : (a : Int) * b = ((a * b : Nat) : Int) := by simp
  have := y_mul (P := P) (ty := ty) (w := w) (t := t) (t2 := t2) hx hy (by rw [e]; omega)
  rwa [e] at this
theorem n_quo (h : a ≤ 9223372036854775807) (h2 : 0 < b) : Y P n f (.binOp .quo t x y t2) ty w (I ((a / b : Nat) : Int)) w := y_quo hx hy (by omega) (by omega)
theorem n_rem (h2 : 0 < b) : Y P n f (.binOp .rem t x y t2) ty w (I ((a % b : Nat) : Int)) w := y_rem hx hy (by omega) (by omega)
theorem n_lss : Y P n f (.binOp .lss t x y t2) ty w (.bool (decide (a < b))) w := by
  have := y_lss (P := P) (ty := ty) (w := w) (t := t) (t2 := t2) hx hy
  rwa [show decide ((a : Int) < b) = decide (a < b) from decide_eq_decide.2 (by omega)] at this
theorem n_leq : Y P n f (.binOp .leq t x y t2) ty w (.bool (decide (a ≤ b))) w := by
  have := y_leq (P := P) (ty := ty) (w := w) (t := t) (t2 := t2) hx hy
  rwa [show decide ((a : Int) ≤ b) = decide (a ≤ b) from decide_eq_decide.2 (by omega)] at this
theorem n_gtr : Y P n f (.binOp .gtr t x y t2) ty w (.bool (decide (b < a))) w := by
  have := y_gtr (P := P) (ty := ty) (w := w) (t := t) (t2 := t2) hx hy
  rwa [show decide ((b : Int) < a) = decide (b < a) from decide_eq_decide.2 (by omega)] at this
theorem n_geq : Y P n f (.binOp .geq t x y t2) ty w (.bool (decide (b ≤ a))) w := by
  have := y_geq (P := P) (ty := ty) (w := w) (t := t) (t2 := t2) hx hy
  rwa [show decide ((b : Int) ≤ a) = decide (b ≤ a) from decide_eq_decide.2 (by omega)] at this
theorem n_eql : Y P n f (.binOp .eql t x y t2) ty w (.bool (decide (a = b))) w := by
  have := y_eqlK (P := P) (ty := ty) (w := w) (t := t) (t2 := t2) hx hy
  rwa [show decide ((a : Int) = b) = decide (a = b) from decide_eq_decide.2 (by omega)] at this
theorem n_neq : Y P n f (.binOp .neq t x y t2) ty w (.bool (decide (a ≠ b))) w := by
  have := y_neqK (P := P) (ty := ty) (w := w) (t := t) (t2 := t2) hx hy
  rwa [show decide ((a : Int) ≠ b) = decide (a ≠ b) from decide_eq_decide.2 (by omega)] at this
end
section
variable {k2 : IntKind} {m : Nat} (hy : ev n f y = .int k2 (m : Int))
include hy
theorem n_shl32 {c : UInt32} (hx : ev n f x = U32 c) (h : m < 32) : Y P n f (.binOp .shl t x y t2) ty w (U32 (c <<< UInt32.ofNat m)) w := by
  have := y_shl32 (P := P) (ty := ty) (w := w) (t := t) (t2 := t2) hx hy (by omega) (by omega)
  rwa [Int.toNat_natCast] at this
theorem n_shr32 {c : UInt32} (hx : ev n f x = U32 c) (h : m < 32) : Y P n f (.binOp .shr t x y t2) ty w (U32 (c >>> UInt32.ofNat m)) w := by
  have := y_shr32 (P := P) (ty := ty) (w := w) (t := t) (t2 := t2) hx hy (by omega) (by omega)
  rwa [Int.toNat_natCast] at this
theorem n_shl8 {c : UInt8} (hx : ev n f x = B8 c) (h : m < 8) : Y P n f (.binOp .shl t x y t2) ty w (B8 (c <<< UInt8.ofNat m)) w := by
  have := y_shl8 (P := P) (ty := ty) (w := w) (t := t) (t2 := t2) hx hy (by omega) (by omega)
  rwa [Int.toNat_natCast] at this
theorem n_shr8 {c : UInt8} (hx : ev n f x = B8 c) (h : m < 8) : Y P n f (.binOp .shr t x y t2) ty w (B8 (c >>> UInt8.ofNat m)) w := by
  have := y_shr8 (P := P) (ty := ty) (w := w) (t := t) (t2 := t2) hx hy (by omega) (by omega)
  rwa [Int.toNat_natCast] at this
theorem n_shl64 {c : UInt64} (hx : ev n f x = U64 c) (h : m < 64) : Y P n f (.binOp .shl t x y t2) ty w (U64 (c <<< UInt64.ofNat m)) w := by
  have := y_shl64 (P := P) (ty := ty) (w := w) (t := t) (t2 := t2) hx hy (by omega) (by omega)
  rwa [Int.toNat_natCast] at this
theorem n_shr64 {c : UInt64} (hx : ev n f x = U64 c) (h : m < 64) : Y P n f (.binOp .shr t x y t2) ty w (U64 (c >>> UInt64.ofNat m)) w := by
  have := y_shr64 (P := P) (ty := ty) (w := w) (t := t) (t2 := t2) hx hy (by omega) (by omega)
  rwa [Int.toNat_natCast] at this
theorem n_shr {a : Nat} (hx : ev n f x = I (a : Int)) (h : m < 64) : Y P n f (.binOp .shr t x y t2) ty w (I ((a / 2 ^ m : Nat) : Int)) w := by
  have := y_shrI (P := P) (ty := ty) (w := w) (t := t) (t2 := t2) hx hy (by omega) (by omega)
  rw [Int.toNat_natCast, pow_cast] at this
  exact this
theorem n_shl {a : Nat} (hx : ev n f x = I (a : Int)) (h : m < 64) (hb : a * 2 ^ m ≤ 9223372036854775807) : Y P n f (.binOp .shl t x y t2) ty w (I ((a * 2 ^ m : Nat) : Int)) w := by
  have e : (a : Int) * 2 ^ m = ((a * 2 ^ m : Nat) : Int) := by simp
  have := y_shlI (P := P) (ty := ty) (w := w) (t := t) (t2 := t2) hx hy (by omega) (by omega) (by rw [Int.toNat_natCast, e]; omega)
  rw [Int.toNat_natCast, e] at this
  exact this
end
theorem sz_of {s : Nat} (h : (P.info? t).map (·.size) = some s) : Sz P t s := by
  cases hi : P.info? t with
  | none => simp [hi] at h
  | some i => exact ⟨i, hi, by simpa [hi] using h⟩
theorem bt_of {s : Nat} (h : (P.info? t).map (·.bytes) = some s) : Bt P t s := by
  cases hi : P.info? t with
  | none => simp [hi] at h
  | some i => exact ⟨i, hi, by simpa [hi] using h⟩
theorem zr_of {z : Value} (h : (P.info? t).bind (·.zero) = some z) : Zr P t z := by
  cases hi : P.info? t with
  | none => simp [hi] at h
  | some i => exact ⟨i, hi, by simpa [hi] using h⟩
/-- An element of a list that was mapped. -/
theorem map_get {α : Type} (F : α → Value) {l : List α} {k : Nat} (d : α) (h : k < l.length) : (l.map F)[k]? = some (F (l.getD k d)) := by
  simp [List.getD, h]
end
end Go.Proofs.Ytdcmbcjkdhdohaa
