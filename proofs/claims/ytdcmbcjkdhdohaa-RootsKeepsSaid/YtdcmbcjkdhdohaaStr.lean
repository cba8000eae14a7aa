/- Bytes as strings; arrays compared. -/
import Derived.Test.YtdcmbcjkdhdohaaHmac
import Derived.Laws.IdiomStrings
import Derived.Laws.StructEq
import Derived.Laws.Strings
namespace Go.Proofs.Ytdcmbcjkdhdohaa
open Go Go.RowKit

def bst (l : List UInt8) : ByteArray := ⟨l.toArray⟩
section
variable {P : Program} {n : Nat} {f : Nat → Value} {ty t t2 : TypeId} {w : World} {x y : Operand} {X : List Nat} {s : Nat} {v : Value}
theorem bst_toList (l : List UInt8) : (bst l).toList = l := ByteArray.toList_mk l
theorem loop_arr (F : Nat → Sem Bool) (E : Nat → Bool) (w : World) : ∀ (l : List Nat), (∀ i ∈ l, (F i).run P w = .ok (E i) w) →
    (forIn l ((none, ()) : Option Bool × Unit) fun i _ => do
      let r ← F i
      if (!r) = true then pure (ForInStep.done (some false, ())) else pure (ForInStep.yield (none, ()))).run P w = .ok (if l.all E then (none, ()) else (some false, ())) w
  | [], _ => by simp
  | i :: l, h => by
    simp only [List.forIn_cons, Sem.run_bind, h i (by simp), Result.andThen_ok]
    cases hE : E i with
    | true => 
      have := loop_arr F E w l (fun j hj => h j (by simp [hj]))
      simp only [Bool.not_true, Bool.false_eq_true, if_false, Sem.run_pure, Result.andThen_ok, List.all_cons, hE, Bool.true_and]
      exact this
    | false => simp [hE]
theorem run_eqIn_arr (d : Nat) (t e : TypeId) (len : Nat) (ht : P.underlying t = some (.array len e)) (hs : Sz P e 1) (hsc : scal P e) (xs ys : List Value) (E : Nat → Bool)
    (he : ∀ i, i < len → ∃ a b, xs[i]? = some a ∧ ys[i]? = some b ∧ (Op.equalIn d e a b).run P w = .ok (E i) w) :
    (Op.equalIn (d + 1) t (.agg xs.toArray) (.agg ys.toArray)).run P w = .ok ((List.range len).all E) w := by
  simp only [Op.equalIn, Sem.run_bind, run_underlying ht, Result.andThen_ok, run_sizeOf hs, Std.Legacy.Range.forIn_eq_forIn_range']
  have hr : List.range' (0 : Nat) (([:len] : Std.Legacy.Range).size) ([:len] : Std.Legacy.Range).step = List.range len := by simp [List.range_eq_range']
  have key := loop_arr (P := P) (fun i => do
            let a ← part e xs.toArray (i * 1)
            let b ← part e ys.toArray (i * 1)
            Op.equalIn d e a b) E w (List.range len) (fun i hi => by
    obtain ⟨a, b, ha, hb, h⟩ := he i (List.mem_range.1 hi)
    simp only [part, Sem.run_bind, run_isAgg_false hsc, Result.andThen_ok, Nat.mul_one, List.getElem?_toArray, ha, hb, Sem.run_pure, Bool.false_eq_true, if_false]
    exact h)
  simp only [bind_assoc] at key
  rw [hr]
  rw [key]
  by_cases h : (List.range len).all E <;> simp [h]
theorem all_eq {l1 l2 : List UInt8} {len : Nat} (h1 : l1.length = len) (h2 : l2.length = len) : (List.range len).all (fun i => ((l1.getD i 0).toNat : Int) == (l2.getD i 0).toNat) = decide (l1 = l2) := by
  rw [Bool.eq_iff_iff, List.all_eq_true, decide_eq_true_eq]
  constructor
  · intro h
    apply List.ext_getElem (by omega)
    intro i hi1 hi2
    have := h i (List.mem_range.2 (by omega))
    simp only [beq_iff_eq, List.getD_eq_getElem?_getD, List.getElem?_eq_getElem hi1, List.getElem?_eq_getElem hi2, Option.getD_some] at this
    exact UInt8.toNat_inj.1 (by omega)
  · rintro rfl i -
    simp
theorem run_eqArr {e : TypeId} {len : Nat} (d : Nat) {l1 l2 : List UInt8} (ht : P.underlying t = some (.array len e)) (hs : Sz P e 1) (hsc : scal P e) (he : P.underlying e = some (.int .u8))
    (h1 : l1.length = len) (h2 : l2.length = len) : (Op.equalIn (d + 2) t (.agg (l1.map B8).toArray) (.agg (l2.map B8).toArray)).run P w = .ok (decide (l1 = l2)) w := by
  rw [run_eqIn_arr (d + 1) t e len ht hs hsc _ _ (fun i => ((l1.getD i 0).toNat : Int) == (l2.getD i 0).toNat) (fun i hi => ⟨B8 (l1.getD i 0), B8 (l2.getD i 0), map_get B8 0 (by omega), map_get B8 0 (by omega), run_equalIn_int w d e .u8 .u8 _ _ he⟩), all_eq h1 h2]
theorem eqGuard_agg {op : BinOp} {a b : Array Value} (hg : P.eqGuardType P.depth t = false) : (eqGuard op t x y (.agg a) (.agg b)).run P w = .ok PUnit.unit w := by
  cases op <;> simp [eqGuard, hg]
theorem y_eqlArr {e : TypeId} {len : Nat} {l1 l2 : List UInt8} (ht : P.underlying t = some (.array len e)) (hs : Sz P e 1) (hsc : scal P e) (he : P.underlying e = some (.int .u8)) (hg : P.eqGuardType P.depth t = false)
    (h1 : l1.length = len) (h2 : l2.length = len) (hx : ev n f x = .agg (l1.map B8).toArray) (hy : ev n f y = .agg (l2.map B8).toArray) : Y P n f (.binOp .eql t x y t2) ty w (.bool (decide (l1 = l2))) w := by
  intro o ho _
  have hb : (Go.binOp .eql t (.agg (l1.map B8).toArray) (.agg (l2.map B8).toArray)).run P w = .ok (.bool (decide (l1 = l2))) w := by
    show ((do pure (Value.bool (← Op.equal t (.agg (l1.map B8).toArray) (.agg (l2.map B8).toArray)))) : Sem Value).run P w = _
    rw [Sem.run_bind, show Op.equal t (.agg (l1.map B8).toArray) (.agg (l2.map B8).toArray) = Op.equalIn (9998 + 2) t _ _ from rfl, run_eqArr 9998 ht hs hsc he h1 h2]; rfl
  simp [execOp, ho, hx, hy, eqGuard_agg hg, hb]
theorem y_neqArr {e : TypeId} {len : Nat} {l1 l2 : List UInt8} (ht : P.underlying t = some (.array len e)) (hs : Sz P e 1) (hsc : scal P e) (he : P.underlying e = some (.int .u8)) (hg : P.eqGuardType P.depth t = false)
    (h1 : l1.length = len) (h2 : l2.length = len) (hx : ev n f x = .agg (l1.map B8).toArray) (hy : ev n f y = .agg (l2.map B8).toArray) : Y P n f (.binOp .neq t x y t2) ty w (.bool (decide (l1 ≠ l2))) w := by
  intro o ho _
  have hb : (Go.binOp .neq t (.agg (l1.map B8).toArray) (.agg (l2.map B8).toArray)).run P w = .ok (.bool (decide (l1 ≠ l2))) w := by
    show ((do pure (Value.bool (!(← Op.equal t (.agg (l1.map B8).toArray) (.agg (l2.map B8).toArray))))) : Sem Value).run P w = _
    rw [Sem.run_bind, show Op.equal t (.agg (l1.map B8).toArray) (.agg (l2.map B8).toArray) = Op.equalIn (9998 + 2) t _ _ from rfl, run_eqArr 9998 ht hs hsc he h1 h2, decide_not]; rfl
  simp [execOp, ho, hx, hy, eqGuard_agg hg, hb]
/-- 'string(b)'. -/
theorem y_str {e : TypeId} {l : List UInt8} (hu : P.underlying t = some (.slice e)) (he : P.underlying e = some (.int .u8)) (hd : P.underlying t2 = some .string) (hR : Rd X w 1 v l.length (l.map B8)) (hx : ev n f x = v) :
    Y P n f (.convert t t2 x) ty w (.string (bst l)) w := by
  intro o ho _
  have hb : (convert t t2 v).run P w = .ok (.string (bst l)) w := by
    by_cases h0 : 0 < (l.map B8).length
    · obtain ⟨-, p, n', cap, e1⟩ := hR.off h0
      obtain ⟨a, c, e2, -⟩ := hR.shape
      have e3 := e1.symm.trans e2
      injection e3 with e4 e5 e6
      subst e1 e4 e5 e6
      exact run_convert_bytes_back w t t2 e p _ l hu he hd (fun j hj => hR.cell j _ (by simp [hj]))
    · obtain rfl : l = [] := by simpa using h0
      obtain ⟨a, c, rfl, -⟩ := hR.shape
      cases a with
      | none => rw [run_convert_bytes_string w t t2 e none _ c hu he hd]; rfl
      | some p => exact run_convert_bytes_back w t t2 e p c [] hu he hd (fun j hj => by simp at hj)
  simp [execOp, ho, hx, hb]
theorem y_eqlS {a b : List UInt8} (hx : ev n f x = .string (bst a)) (hy : ev n f y = .string (bst b)) : Y P n f (.binOp .eql t x y t2) ty w (.bool (decide (a = b))) w := by
  intro o ho _
  have hb : (Go.binOp .eql t (.string (bst a)) (.string (bst b))).run P w = .ok (.bool (decide (a = b))) w := by
    show (Op.stringOp .eql (bst a) (bst b)).run P w = _
    have : ((bst a).toList == (bst b).toList) = decide (a = b) := by rw [bst_toList, bst_toList, Bool.eq_iff_iff]; simp
    simp [Op.stringOp, this]
  have hg : (eqGuard .eql t x y (.string (bst a)) (.string (bst b))).run P w = .ok PUnit.unit w := by simp [eqGuard]
  simp [execOp, ho, hx, hy, hb, hg]
theorem y_neqS {a b : List UInt8} (hx : ev n f x = .string (bst a)) (hy : ev n f y = .string (bst b)) : Y P n f (.binOp .neq t x y t2) ty w (.bool (decide (a ≠ b))) w := by
  intro o ho _
  have hb : (Go.binOp .neq t (.string (bst a)) (.string (bst b))).run P w = .ok (.bool (decide (a ≠ b))) w := by
    show (Op.stringOp .neq (bst a) (bst b)).run P w = _
    have : (!((bst a).toList == (bst b).toList)) = decide (a ≠ b) := by rw [bst_toList, bst_toList, Bool.eq_iff_iff]; simp
    simp [Op.stringOp, this]
  have hg : (eqGuard .neq t x y (.string (bst a)) (.string (bst b))).run P w = .ok PUnit.unit w := by simp [eqGuard]
  simp [execOp, ho, hx, hy, hb, hg]
end
theorem gt26 : Try.prog.eqGuardType Try.prog.depth 26 = false := by kernel_rfl
/-- The eight marked places behind bytes. -/
def marks : List UInt8 := [0xA1, 0xA2, 0xA3, 0xA4, 0xA5, 0xA6, 0xA7, 0xA8]
end Go.Proofs.Ytdcmbcjkdhdohaa
