/- Walks: replica and Seal of both. -/
import Derived.Test.YtdcmbcjkdhdohaaDoorGrown
import Derived.Test.YtdcmbcjkdhdohaaDoorBit
namespace Go.Proofs.YtdcmbcjkdhdohaaDoor
open Go Go.RowKit
set_option linter.unusedSimpArgs false
set_option linter.unusedVariables false
attribute [local irreducible] wpList wpP Code.wp

theorem os_made {g cap e : Nat} {cur : List Value} (hc : cur.length = cap) (hm : cap ≤ maxLen) : OS e 1 (.slice (some (bs g)) 0 cap) 0 [] [(g, Rw e cur)] :=
  .inr ⟨g, cap, cur, rfl, rfl, Nat.zero_le _, hm, by omega, rfl⟩
def repl (i : Int) : Prop := 1 ≤ i ∧ i ≤ 8
instance (i : Int) : Decidable (repl i) := by unfold repl; infer_instance
def sealOk (lk : List UInt8) (fr to : Int) : Prop := lk.length = 32 ∧ repl fr ∧ repl to
instance (lk : List UInt8) (fr to : Int) : Decidable (sealOk lk fr to) := by unfold sealOk; infer_instance
def sealEr (lk : List UInt8) (fr to : Int) (l : List UInt8) : Nat := if sealOk lk fr to then (if 2097152 < l.length then 4 else 0) else 1
def headL (fr to : Int) (n : Nat) : List UInt8 := [80, 76, 69, 49, b8 fr, b8 to, b8 (n : Int), b8 ((n / 256 : Nat) : Int), b8 ((n / 65536 : Nat) : Int), b8 ((n / 16777216 : Nat) : Int)]
def sealL (lk : List UInt8) (fr to : Int) (l : List UInt8) : List UInt8 := if sealOk lk fr to ∧ l.length ≤ 2097152 then headL fr to l.length ++ l ++ hmac lk (headL fr to l.length ++ l) else []
theorem sealL_le (lk : List UInt8) (fr to : Int) (l : List UInt8) : (sealL lk fr to l).length ≤ 1099511627776 := by
  unfold sealL
  split
  · simp only [List.length_append, hmac_length, headL, List.length_cons, List.length_nil]
    omega
  · simp

theorem rrepl_c (i : Int) (w : World) :
    Calls Tryd.prog 14 (([I (i)] : List Value).toArray) w (fun e w' => ∃ v, e = .returned v ∧ v = .bool (decide (repl i)) ∧ Below w.heap.size w w') := by
  refine calls_mk Tryd.func14 rfl 9 Tryd.ntmps14 rfl ?_
  have H0 : St w [] [] w := St.refl w
  refine c_seq ?_
  refine c_reg ?_
  refine sy (v := .bool (false)) (y_assign (v := .bool (false)) rfl) ?_
  refine c_nil ?_
  refine n_then ?_
  refine c_seq ?_
  refine c_reg ?_
  refine sy (v := I (i)) (y_move rfl) ?_
  refine sy (v := .bool (decide (((1 : Nat) : Int) ≤ i))) (y_geq (i := i) (j := ((1 : Nat) : Int)) rfl rfl) ?_
  refine sy (v := .bool (decide (((1 : Nat) : Int) ≤ i))) (y_move rfl) ?_
  by_cases hp1 : ((1 : Nat) : Int) ≤ i
  · skip
    refine gsy (v := I (i)) (gv_of (t := 5) rfl rfl rfl) (decide_eq_true hp1) (y_move rfl) ?_
    refine gsy (v := .bool (decide (i ≤ ((8 : Nat) : Int)))) (gv_of (t := 5) rfl rfl rfl) (decide_eq_true hp1) (y_leq (i := i) (j := ((8 : Nat) : Int)) rfl rfl) ?_
    refine sy (v := .bool (decide (i ≤ ((8 : Nat) : Int)))) (y_pickT rfl (decide_eq_true hp1) rfl) ?_
    refine sy (v := .bool (decide (i ≤ ((8 : Nat) : Int)))) (y_assign rfl) ?_
    refine c_nil ?_
    refine n_then ?_
    refine wp_ret ?_
    refine e_r1 Tryd.results14 (rv_t rfl) ?_
    refine ⟨_, rfl, ?_, H0.below⟩
    refine congrArg Value.bool ?_
    unfold repl
    first | (apply decide_eq_decide.2; omega) | (symm; apply decide_eq_false; omega)
  · skip
    refine gno (gv_of (t := 5) rfl rfl rfl) (decide_eq_false hp1) ?_
    refine gno (gv_of (t := 5) rfl rfl rfl) (decide_eq_false hp1) ?_
    refine sy (v := .bool (false)) (y_pickF (v := .bool (false)) rfl (decide_eq_false hp1) rfl) ?_
    refine sy (v := .bool (false)) (y_assign rfl) ?_
    refine c_nil ?_
    refine n_then ?_
    refine wp_ret ?_
    refine e_r1 Tryd.results14 (rv_t rfl) ?_
    refine ⟨_, rfl, ?_, H0.below⟩
    refine congrArg Value.bool ?_
    unfold repl
    first | (apply decide_eq_decide.2; omega) | (symm; apply decide_eq_false; omega)

theorem repl_c (i : Int) (w : World) :
    Calls Tryd.prog 25 (([I (i)] : List Value).toArray) w (fun e w' => ∃ v, e = .returned v ∧ v = .bool (decide (repl i)) ∧ Below w.heap.size w w') := by
  refine calls_mk Tryd.func25 rfl 9 Tryd.ntmps25 rfl ?_
  have H0 : St w [] [] w := St.refl w
  refine c_seq ?_
  refine c_reg ?_
  refine sy (v := .bool (false)) (y_assign (v := .bool (false)) rfl) ?_
  refine c_nil ?_
  refine n_then ?_
  refine c_seq ?_
  refine c_reg ?_
  refine sy (v := I (i)) (y_move rfl) ?_
  refine sy (v := .bool (decide (((1 : Nat) : Int) ≤ i))) (y_geq (i := i) (j := ((1 : Nat) : Int)) rfl rfl) ?_
  refine sy (v := .bool (decide (((1 : Nat) : Int) ≤ i))) (y_move rfl) ?_
  by_cases hp1 : ((1 : Nat) : Int) ≤ i
  · skip
    refine gsy (v := I (i)) (gv_of (t := 5) rfl rfl rfl) (decide_eq_true hp1) (y_move rfl) ?_
    refine gsy (v := .bool (decide (i ≤ ((8 : Nat) : Int)))) (gv_of (t := 5) rfl rfl rfl) (decide_eq_true hp1) (y_leq (i := i) (j := ((8 : Nat) : Int)) rfl rfl) ?_
    refine sy (v := .bool (decide (i ≤ ((8 : Nat) : Int)))) (y_pickT rfl (decide_eq_true hp1) rfl) ?_
    refine sy (v := .bool (decide (i ≤ ((8 : Nat) : Int)))) (y_assign rfl) ?_
    refine c_nil ?_
    refine n_then ?_
    refine wp_ret ?_
    refine e_r1 Tryd.results25 (rv_t rfl) ?_
    refine ⟨_, rfl, ?_, H0.below⟩
    refine congrArg Value.bool ?_
    unfold repl
    first | (apply decide_eq_decide.2; omega) | (symm; apply decide_eq_false; omega)
  · skip
    refine gno (gv_of (t := 5) rfl rfl rfl) (decide_eq_false hp1) ?_
    refine gno (gv_of (t := 5) rfl rfl rfl) (decide_eq_false hp1) ?_
    refine sy (v := .bool (false)) (y_pickF (v := .bool (false)) rfl (decide_eq_false hp1) rfl) ?_
    refine sy (v := .bool (false)) (y_assign rfl) ?_
    refine c_nil ?_
    refine n_then ?_
    refine wp_ret ?_
    refine e_r1 Tryd.results25 (rv_t rfl) ?_
    refine ⟨_, rfl, ?_, H0.below⟩
    refine congrArg Value.bool ?_
    unfold repl
    first | (apply decide_eq_decide.2; omega) | (symm; apply decide_eq_false; omega)

end Go.Proofs.YtdcmbcjkdhdohaaDoor
