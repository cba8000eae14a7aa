/- More operations: not of a proposition, greatest and least, 'and' of naturals. Digests of sets of hashes as plain Lean. -/
import Derived.Test.YtdcmbcjkdhdohaaStr
namespace Go.Proofs.Ytdcmbcjkdhdohaa
open Go Go.RowKit

abbrev IN (k : Nat) : Value := I (k : Int)
section
variable {P : Program} {n : Nat} {f : Nat → Value} {ty t t2 : TypeId} {w : World} {x y : Operand}
theorem y_notP {p : Prop} [Decidable p] (hx : ev n f x = .bool (decide p)) : Y P n f (.unOp .not t x) ty w (.bool (decide (¬ p))) w := by
  rw [decide_not]; exact y_not hx
section
variable {a b : Nat} (hx : ev n f x = I (a : Int)) (hy : ev n f y = I (b : Int))
include hx hy
theorem n_and (h : a < 9223372036854775808) (h2 : b < 9223372036854775808) : Y P n f (.binOp .and t x y t2) ty w (I ((a &&& b : Nat) : Int)) w := bin_pure (by simp) hx hy (by
  simp only [Go.binOp, Op.intBits, ne_eq, not_true_eq_false, if_false, IntKind.bits, Sem.run_pure]
  have key : IntKind.i64.wrap ((BitVec.ofInt 64 (a : Int) &&& BitVec.ofInt 64 (b : Int)).toNat : Int) = ((a &&& b : Nat) : Int) := by
    have ha : (BitVec.ofInt 64 (a : Int)).toNat = a := by rw [BitVec.ofInt_natCast, BitVec.toNat_ofNat]; omega
    have hb : (BitVec.ofInt 64 (b : Int)).toNat = b := by rw [BitVec.ofInt_natCast, BitVec.toNat_ofNat]; omega
    rw [BitVec.toNat_and, ha, hb]
    have : a &&& b ≤ a := Nat.and_le_left
    exact wrap64_in (by omega)
  exact congrArg (fun z => Result.ok (Value.int .i64 z) w) key)
theorem n_max {ats : Array TypeId} : Y P n f (.call { callee := .builtin .max, args := #[x, y], argTypes := ats }) ty w (I ((max a b : Nat) : Int)) w := by
  intro o ho _
  have : (if a < b then (b : Int) else a) = ((max a b : Nat) : Int) := by split <;> omega
  simp [execOp, ho, resolve, invoke, builtin, Builtin.max_, Builtin.max2, hx, hy, this]
theorem n_min {ats : Array TypeId} : Y P n f (.call { callee := .builtin .min, args := #[x, y], argTypes := ats }) ty w (I ((min a b : Nat) : Int)) w := by
  intro o ho _
  have : (if b < a then (b : Int) else a) = ((min a b : Nat) : Int) := by split <;> omega
  simp [execOp, ho, resolve, invoke, builtin, Builtin.min_, Builtin.min2, hx, hy, this]
end
theorem i64_small {a : UInt64} (h : a.toNat < 9223372036854775808) : i64 a = a.toNat := wrap64_in (by omega)
theorem n_conv_64_I {src dst : TypeId} {a : UInt64} (h : a.toNat < 9223372036854775808) (hs : P.underlying src = some (.int .u64)) (hd : P.underlying dst = some (.int .i64)) (hx : ev n f x = U64 a) : Y P n f (.convert src dst x) ty w (I ((a.toNat : Nat) : Int)) w := by
  have := y_conv_64_I (ty := ty) (w := w) hs hd hx
  rwa [i64_small h] at this
end

/-! ### Sizes -/
def bz (n : Nat) : Nat → Nat → Nat
  | 0, z => z
  | k + 1, z => if z < 8192 ∧ 8 * z < 10 * n then bz n k (z * 2) else z
def bsz (n : Nat) : Nat := bz n 10 8
theorem bz_end {n k z : Nat} (h : ¬ (z < 8192 ∧ 8 * z < 10 * n)) : bz n k z = z := by
  cases k with
  | zero => rfl
  | succ k => simp only [bz]; rw [if_neg h]
theorem bz_le {n : Nat} : ∀ (k z : Nat), z * 2 ^ k ≤ 8192 → bz n k z * 1 ≤ 8192
  | 0, z, h => by simpa [bz] using h
  | k + 1, z, h => by
    simp only [bz]
    split
    · exact bz_le k _ (by rw [Nat.pow_succ] at h; rw [Nat.mul_assoc, Nat.mul_comm 2]; exact h)
    · have : 1 ≤ 2 ^ (k + 1) := Nat.one_le_two_pow
      have := Nat.mul_le_mul_left z this
      omega
theorem bz_min (n : Nat) : ∀ (k z : Nat), bz (min (max n 0) 8192) k z = bz n k z
  | 0, z => rfl
  | k + 1, z => by
    simp only [bz, bz_min n k]
    by_cases h : z < 8192 ∧ 8 * z < 10 * n
    · rw [if_pos h]
      by_cases h2 : z < 8192 ∧ 8 * z < 10 * min (max n 0) 8192
      · rw [if_pos h2]
      · rw [if_neg h2]
        exfalso; omega
    · rw [if_neg h, if_neg (by omega)]
/-- A number of bytes that a digest may have. -/
def okS (i : Int) : Prop := 8 ≤ i ∧ i ≤ 8192 ∧ i.toNat &&& (i.toNat - 1) = 0
instance (i : Int) : Decidable (okS i) := by unfold okS; infer_instance
def pows : List Nat := [8, 16, 32, 64, 128, 256, 512, 1024, 2048, 4096, 8192]
theorem pows_ok : (List.range 8193).all (fun i => decide (8 ≤ i ∧ i &&& (i - 1) = 0) == pows.contains i) = true := by kernel_rfl
theorem okS_iff (i : Int) : okS i ↔ ∃ z ∈ pows, i = (z : Int) := by
  constructor
  · rintro ⟨h1, h2, h3⟩
    have := List.all_eq_true.1 pows_ok i.toNat (List.mem_range.2 (by omega))
    rw [decide_eq_true ⟨by omega, h3⟩] at this
    refine ⟨i.toNat, ?_, by omega⟩
    simpa using this
  · rintro ⟨z, hz, rfl⟩
    simp only [pows, List.mem_cons, List.not_mem_nil, or_false] at hz
    rcases hz with rfl | rfl | rfl | rfl | rfl | rfl | rfl | rfl | rfl | rfl | rfl <;> (refine ⟨by decide, by decide, by decide⟩)
theorem bz_pow (n : Nat) : ∀ (k z : Nat), z * 2 ^ k = 8192 → 8 ≤ z → z ∈ pows → bz n k z ∈ pows
  | 0, z, _, _, h => h
  | k + 1, z, h, h8, hz => by
    simp only [bz]
    split
    · refine bz_pow n k _ (by rw [Nat.mul_assoc, Nat.mul_comm 2, ← Nat.pow_succ]; exact h) (by omega) ?_
      simp only [pows, List.mem_cons, List.not_mem_nil, or_false] at hz ⊢
      omega
    · exact hz
theorem bsz_pow (n : Nat) : bsz n ∈ pows := bz_pow n 10 8 (by decide) (by decide) (by simp [pows])
theorem okS_bsz (n : Nat) : okS (bsz n : Int) := (okS_iff _).2 ⟨_, bsz_pow n, rfl⟩
theorem okS_le {i : Int} (h : okS i) : 8 ≤ i ∧ i ≤ 8192 := ⟨h.1, h.2.1⟩

/-! ### Numbers -/
def leN : List UInt8 → Nat
  | [] => 0
  | b :: l => b.toNat + 256 * leN l
theorem leN_lt : ∀ l : List UInt8, leN l < 256 ^ l.length
  | [] => by simp [leN]
  | b :: l => by
    have := leN_lt l
    have := b.toNat_lt
    simp only [leN, List.length_cons, Nat.pow_succ]
    omega
def le8 (x : UInt64) : List UInt8 := [0, 8, 16, 24, 32, 40, 48, 56].map fun i => (x >>> UInt64.ofNat i).toUInt8
def b8s (s : List UInt8) (k : Nat) : List UInt8 := (s.drop k).take 8
def nw (s : List UInt8) : List UInt64 := [0, 1, 2, 3].map fun i => UInt64.ofNat (leN (b8s s (8 * i)))
def nb (s : List UInt8) : Nat → List UInt64
  | 0 => [0, 0, 0, 0]
  | i + 1 => (nb s i).set (i / 8) ((nb s i).getD (i / 8) 0 ||| (s.getD i 0).toUInt64 <<< UInt64.ofNat (i % 8 * 8))
@[simp] theorem nb_length (s : List UInt8) : ∀ i, (nb s i).length = 4
  | 0 => rfl
  | i + 1 => by simp [nb, nb_length s i]
theorem or_step (acc : UInt64) (c : UInt8) (i : Nat) (hi : i < 8) (ha : acc.toNat < 2 ^ (i * 8)) : (acc ||| c.toUInt64 <<< UInt64.ofNat (i * 8)).toNat = acc.toNat + 2 ^ (i * 8) * c.toNat := by
  have hc := c.toNat_lt
  have h1 : (UInt64.ofNat (i * 8)).toNat = i * 8 := by rw [UInt64.toNat_ofNat']; omega
  have hp : 2 ^ (i * 8) * c.toNat < 2 ^ 64 := by
    have h2 : 2 ^ (i * 8) ≤ 2 ^ 56 := Nat.pow_le_pow_right (by omega) (by omega)
    have h3 : 2 ^ (i * 8) * c.toNat ≤ 2 ^ 56 * 255 := Nat.mul_le_mul h2 (by omega)
    omega
  rw [UInt64.toNat_or, UInt64.toNat_shiftLeft, h1, Nat.shiftLeft_eq, UInt8.toNat_toUInt64, Nat.mod_eq_of_lt (by omega : i * 8 < 64), Nat.mul_comm c.toNat, Nat.mod_eq_of_lt hp, Nat.or_comm, ← Nat.two_pow_add_eq_or_of_lt ha, Nat.add_comm]
def orN (g : Nat → UInt8) : Nat → UInt64
  | 0 => 0
  | i + 1 => orN g i ||| (g i).toUInt64 <<< UInt64.ofNat (i * 8)
theorem leN_snoc : ∀ (l : List UInt8) (c : UInt8), leN (l ++ [c]) = leN l + 256 ^ l.length * c.toNat
  | [], c => by simp [leN]
  | b :: l, c => by
    simp only [List.cons_append, leN, leN_snoc l c, List.length_cons, Nat.pow_succ]
    rw [Nat.mul_add, ← Nat.mul_assoc, Nat.mul_comm 256 (256 ^ l.length)]
    omega
theorem orN_toNat (g : Nat → UInt8) : ∀ i, i ≤ 8 → (orN g i).toNat = leN ((List.range i).map g) := by
  intro i
  induction i with
  | zero => intro _; rfl
  | succ i ih =>
    intro hi
    have h := ih (by omega)
    have hlt := leN_lt ((List.range i).map g)
    have e : 256 ^ i = 2 ^ (i * 8) := by rw [Nat.mul_comm, Nat.pow_mul]
    rw [List.length_map, List.length_range, e, ← h] at hlt
    simp only [orN]
    rw [or_step _ _ _ (by omega) hlt, h, List.range_succ, List.map_append, List.map_cons, List.map_nil, leN_snoc, List.length_map, List.length_range, e]
theorem b8s_eq {s : List UInt8} {k : Nat} (h : k + 8 ≤ s.length) : b8s s k = (List.range 8).map fun i => s.getD (k + i) 0 := by
  apply List.ext_getElem?
  intro i
  simp only [b8s, List.getElem?_take, List.getElem?_drop, List.getElem?_map]
  by_cases hi : i < 8
  · rw [if_pos hi, List.getElem?_range hi]
    simp [List.getElem?_eq_getElem (show k + i < s.length by omega)]
  · rw [if_neg hi, List.getElem?_eq_none (by simp; omega)]; rfl
theorem nb_32 {s : List UInt8} (h : s.length = 32) : nb s 32 = nw s := by
  have e : nb s 32 = [0, 1, 2, 3].map fun j => orN (fun i => s.getD (8 * j + i) 0) 8 := by kernel_rfl
  rw [e]
  simp only [nw]
  apply List.map_congr_left
  intro j hj
  have hj' : j < 4 := by simp at hj; omega
  apply UInt64.toNat_inj.1
  rw [orN_toNat _ 8 (by omega), b8s_eq (by omega), UInt64.toNat_ofNat', Nat.mod_eq_of_lt]
  have := leN_lt ((List.range 8).map fun i => s.getD (8 * j + i) 0)
  simpa using this
/-- The bits that stand for a hash. -/
def plc (s : List UInt8) (z : Nat) : List Nat := [0, 1, 2, 3].map fun i => leN (b8s s (8 * i)) % (8 * z)
@[simp] theorem plc_length (s : List UInt8) (z : Nat) : (plc s z).length = 4 := rfl
def dg (salt : UInt64) (h : List UInt8) : List UInt8 := sha (le8 salt ++ h)
@[simp] theorem dg_length (salt : UInt64) (h : List UInt8) : (dg salt h).length = 32 := sha_length _
theorem leN8_lt (s : List UInt8) (k : Nat) : leN (b8s s k) < 18446744073709551616 := by
  have := leN_lt (b8s s k)
  have h2 : (b8s s k).length ≤ 8 := by simp [b8s]; omega
  have : 256 ^ (b8s s k).length ≤ 256 ^ 8 := Nat.pow_le_pow_right (by omega) h2
  omega
theorem plc_at {s : List UInt8} {z i : Nat} (hi : i < 4) (h8 : 8 ≤ z) (hz : z ≤ 8192) : ((nw s).getD i 0 % u64 ((8 * z : Nat) : Int)).toNat = (plc s z).getD i 0 := by
  have hu : (u64 ((8 * z : Nat) : Int)).toNat = 8 * z := by
    simp only [u64, UInt64.toNat_ofNat']
    omega
  have hk : i = 0 ∨ i = 1 ∨ i = 2 ∨ i = 3 := by omega
  have key : ∀ k, (UInt64.ofNat (leN (b8s s k)) % u64 ((8 * z : Nat) : Int)).toNat = leN (b8s s k) % (8 * z) := by
    intro k
    rw [UInt64.toNat_mod, hu, UInt64.toNat_ofNat', Nat.mod_eq_of_lt (leN8_lt s k)]
  rcases hk with rfl | rfl | rfl | rfl <;> exact key _
theorem plc_lt {s : List UInt8} {z : Nat} (h : 0 < z) : ∀ p ∈ plc s z, p < 8 * z := by
  intro p hp
  simp only [plc, List.mem_map] at hp
  obtain ⟨i, -, rfl⟩ := hp
  exact Nat.mod_lt _ (by omega)
end Go.Proofs.Ytdcmbcjkdhdohaa
