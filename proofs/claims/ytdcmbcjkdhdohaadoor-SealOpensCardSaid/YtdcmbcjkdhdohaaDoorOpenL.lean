/- What Open of a sealed message tells, as plain Lean; two more operations: 'or' of naturals, a value in an interface. -/
import Derived.Test.YtdcmbcjkdhdohaaDoorSeal4
namespace Go.Proofs.YtdcmbcjkdhdohaaDoor
open Go Go.RowKit

section
variable {P : Program} {n : Nat} {f : Nat → Value} {ty t t2 : TypeId} {w : World} {x y : Operand} {a b : Nat}
theorem n_or (hx : ev n f x = I (a : Int)) (hy : ev n f y = I (b : Int)) (h : a < 4294967296) (h2 : b < 4294967296) : Y P n f (.binOp .or t x y t2) ty w (I ((a ||| b : Nat) : Int)) w := bin_pure (by simp) hx hy (by
  simp only [Go.binOp, Op.intBits, ne_eq, not_true_eq_false, if_false, IntKind.bits, Sem.run_pure]
  have key : IntKind.i64.wrap ((BitVec.ofInt 64 (a : Int) ||| BitVec.ofInt 64 (b : Int)).toNat : Int) = ((a ||| b : Nat) : Int) := by
    have ha : (BitVec.ofInt 64 (a : Int)).toNat = a := by rw [BitVec.ofInt_natCast, BitVec.toNat_ofNat]; omega
    have hb : (BitVec.ofInt 64 (b : Int)).toNat = b := by rw [BitVec.ofInt_natCast, BitVec.toNat_ofNat]; omega
    rw [BitVec.toNat_or, ha, hb]
    have : a ||| b < 2 ^ 32 := Nat.or_lt_two_pow h h2
    exact wrap64_in (by omega)
  exact congrArg (fun z => Result.ok (Value.int .i64 z) w) key)
theorem y_mkI {v : Value} {d : TypeDesc} (hu : P.underlying t = some d) (hd : (match d with | .interface _ => true | _ => false) = false) (hx : ev n f x = v) : Y P n f (.makeInterface t x) ty w (.iface t v) w := by
  intro o ho _
  cases d <;> simp_all [execOp, Instr.makeInterface, run_underlying hu]
theorem eqI_no {ms : Array (String × TypeId)} {u : TypeId} {v : Value} (d : Nat) (hu : P.underlying t = some (.interface ms)) : (Op.equalIn (d + 1) t (.iface u v) .nilIface).run P w = .ok false w := by simp [Op.equalIn, run_underlying hu]
theorem eqI_yes {ms : Array (String × TypeId)} (d : Nat) (hu : P.underlying t = some (.interface ms)) : (Op.equalIn (d + 1) t .nilIface .nilIface).run P w = .ok true w := by simp [Op.equalIn, run_underlying hu]
theorem y_neqNil {ms : Array (String × TypeId)} {u : TypeId} {v : Value} (hu : P.underlying t = some (.interface ms)) (hx : ev n f x = .iface u v) : Y P n f (.binOp .neq t x (.const .nilIface) t2) ty w (.bool true) w := by
  intro o ho _
  have hb : (Go.binOp .neq t (.iface u v) .nilIface).run P w = .ok (.bool true) w := by
    have h1 := eqI_no (w := w) 9999 (u := u) (v := v) hu
    show ((do pure (Value.bool (!(← Op.equal t (.iface u v) .nilIface)))) : Sem Value).run P w = _
    rw [Sem.run_bind, show Op.equal t (.iface u v) .nilIface = Op.equalIn (9999 + 1) t (.iface u v) .nilIface from rfl, h1]; rfl
  have he : ev n f (.const .nilIface) = .nilIface := rfl
  have hg : (eqGuard .neq t x (.const .nilIface) (.iface u v) .nilIface).run P w = .ok PUnit.unit w := by simp [eqGuard]
  simp [execOp, ho, hx, he, hb, hg]
theorem y_neqNil0 {ms : Array (String × TypeId)} (hu : P.underlying t = some (.interface ms)) (hx : ev n f x = .nilIface) : Y P n f (.binOp .neq t x (.const .nilIface) t2) ty w (.bool false) w := by
  intro o ho _
  have hb : (Go.binOp .neq t .nilIface .nilIface).run P w = .ok (.bool false) w := by
    have h1 := eqI_yes (w := w) 9999 hu
    show ((do pure (Value.bool (!(← Op.equal t .nilIface .nilIface)))) : Sem Value).run P w = _
    rw [Sem.run_bind, show Op.equal t .nilIface .nilIface = Op.equalIn (9999 + 1) t .nilIface .nilIface from rfl, h1]; rfl
  have he : ev n f (.const .nilIface) = .nilIface := rfl
  have hg : (eqGuard .neq t x (.const .nilIface) .nilIface .nilIface).run P w = .ok PUnit.unit w := by simp [eqGuard]
  simp [execOp, ho, hx, he, hb, hg]
end
/-- The error's value, and the memory that it stands in. -/
def EE : Option (Nat × Nat) → Value → Part → Prop
  | none, ev, E => ev = .nilIface ∧ E = []
  | some (e, i), ev, E => ∃ g, ev = .iface 46 (Ad (bs g) 0) ∧ E = [(g, Rw 50 [I (e : Int), I (i : Int)])]
def markL : List UInt8 := [80, 76, 69, 49]
/-- The number of bytes that the head tells. -/
def hdN (b : List UInt8) : Nat := (b.getD 6 0).toNat + 256 * (b.getD 7 0).toNat + 65536 * (b.getD 8 0).toNat + 16777216 * (b.getD 9 0).toNat
/-- What is wrong with the mark from byte i on. -/
def hdM (b : List UInt8) : Nat → Nat → Option (Nat × Nat)
  | 0, _ => none
  | k + 1, i => if b.length ≤ i then some (20, i) else if b.getD i 0 ≠ markL.getD i 0 then some (5, i) else hdM b k (i + 1)
def hdR (b : List UInt8) : Nat → Nat → Option (Nat × Nat)
  | 0, _ => none
  | k + 1, i => if b.length ≤ i then some (20, i) else if ¬ repl (b.getD i 0).toNat then some (1, i) else hdR b k (i + 1)
/-- What is wrong ahead of the body. -/
def hdE (b : List UInt8) : Option (Nat × Nat) :=
  match hdM b 4 0 with
  | some e => some e
  | none => match hdR b 2 4 with
    | some e => some e
    | none => if b.length < 10 then some (20, 6) else if 2097152 < hdN b then some (22, 6) else none
/-- What is wrong, and where (none: the number itself). -/
def opE (lk b : List UInt8) : Option (Nat × Option Nat) :=
  if lk.length ≠ 32 then some (1, none)
  else match hdE b with
    | some (e, i) => some (e, some i)
    | none => if b.length < hdN b + 42 then some (20, some 10) else if hdN b + 42 < b.length then some (23, some (hdN b + 42))
      else if b.drop (10 + hdN b) ≠ hmac lk (b.take (10 + hdN b)) then some (30, some (10 + hdN b)) else none
end Go.Proofs.YtdcmbcjkdhdohaaDoor
