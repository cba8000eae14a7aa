/- Walks: replica and Seal of both. -/
import Derived.Test.YtdcmbcjkdhdohaaBloom4
namespace Go.Proofs.Ytdcmbcjkdhdohaa
open Go Go.RowKit
set_option linter.unusedSimpArgs false
set_option linter.unusedVariables false
attribute [local irreducible] wpList wpP Code.wp

theorem os_made {g cap e : Nat} {cur : List Value} (hc : cur.length = cap) (hm : cap ≤ maxLen) : OS e 1 (.slice (some (bs g)) 0 cap) 0 [] [(g, Rw e cur)] :=
  .inr ⟨g, cap, cur, rfl, rfl, Nat.zero_le _, hm, by omega, rfl⟩
def repl (i : Int) : Prop := 1 ≤ i ∧ i ≤ 8
instance (i : Int) : Decidable (repl i) := by unfold repl; infer_instance
def sealOk (lk : List UInt8) (fr to : Int) : Prop := lk.length = 32 ∧ repl fr ∧ repl to
instance (lk : List UInt8) (fr to : Int) : Decidable (sealOk lk fr to) := by unfold sealOk; infer_instance
def sealEr (lk : List UInt8) (fr to : Int) (l : List UInt8) : Nat := if sealOk lk fr to then (if 2097152 < l.length then 4 else 0) else 1
def headL (fr to : Int) (n : Nat) : List UInt8 := [80, 76, 69, 49, b8 fr, b8 to, b8 (n : Int), b8 ((n / 256 : Nat) : Int), b8 ((n / 65536 : Nat) : Int), b8 ((n / 16777216 : Nat) : Int)]
def sealL (lk : List UInt8) (fr to : Int) (l : List UInt8) : List UInt8 := if sealOk lk fr to ∧ l.length ≤ 2097152 then headL fr to l.length ++ l ++ hmac lk (headL fr to l.length ++ l) else []
theorem sealL_le (lk : List UInt8) (fr to : Int) (l : List UInt8) : (sealL lk fr to l).length ≤ 1099511627776 := by
  unfold sealL
  split
  · simp only [List.length_append, hmac_length, headL, List.length_cons, List.length_nil]
    omega
  · simp

theorem rrepl_c (i : Int) (w : World) :
    Calls Try.prog 79 (([I (i)] : List Value).toArray) w (fun e w' => ∃ v, e = .returned v ∧ v = .bool (decide (repl i)) ∧ Below w.heap.size w w') := by
  refine calls_mk Try.func79 rfl 9 Try.ntmps79 rfl ?_
  have H0 : St w [] [] w := St.refl w
  refine c_seq ?_
  refine c_reg ?_
  refine sy (v := .bool (false)) (y_assign (v := .bool (false)) rfl) ?_
  refine c_nil ?_
  refine n_then ?_
  refine c_seq ?_
  refine c_reg ?_
  refine sy (v := I (i)) (y_move rfl) ?_
  refine sy (v := .bool (decide (((1 : Nat) : Int) ≤ i))) (y_geq (i := i) (j := ((1 : Nat) : Int)) rfl rfl) ?_
  refine sy (v := .bool (decide (((1 : Nat) : Int) ≤ i))) (y_move rfl) ?_
  by_cases hp1 : ((1 : Nat) : Int) ≤ i
  · skip
    refine gsy (v := I (i)) (gv_of (t := 5) rfl rfl rfl) (decide_eq_true hp1) (y_move rfl) ?_
    refine gsy (v := .bool (decide (i ≤ ((8 : Nat) : Int)))) (gv_of (t := 5) rfl rfl rfl) (decide_eq_true hp1) (y_leq (i := i) (j := ((8 : Nat) : Int)) rfl rfl) ?_
    refine sy (v := .bool (decide (i ≤ ((8 : Nat) : Int)))) (y_pickT rfl (decide_eq_true hp1) rfl) ?_
    refine sy (v := .bool (decide (i ≤ ((8 : Nat) : Int)))) (y_assign rfl) ?_
    refine c_nil ?_
    refine n_then ?_
    refine wp_ret ?_
    refine e_r1 Try.results79 (rv_t rfl) ?_
    refine ⟨_, rfl, ?_, H0.below⟩
    refine congrArg Value.bool ?_
    unfold repl
    first | (apply decide_eq_decide.2; omega) | (symm; apply decide_eq_false; omega)
  · skip
    refine gno (gv_of (t := 5) rfl rfl rfl) (decide_eq_false hp1) ?_
    refine gno (gv_of (t := 5) rfl rfl rfl) (decide_eq_false hp1) ?_
    refine sy (v := .bool (false)) (y_pickF (v := .bool (false)) rfl (decide_eq_false hp1) rfl) ?_
    refine sy (v := .bool (false)) (y_assign rfl) ?_
    refine c_nil ?_
    refine n_then ?_
    refine wp_ret ?_
    refine e_r1 Try.results79 (rv_t rfl) ?_
    refine ⟨_, rfl, ?_, H0.below⟩
    refine congrArg Value.bool ?_
    unfold repl
    first | (apply decide_eq_decide.2; omega) | (symm; apply decide_eq_false; omega)

theorem repl_c (i : Int) (w : World) :
    Calls Try.prog 80 (([I (i)] : List Value).toArray) w (fun e w' => ∃ v, e = .returned v ∧ v = .bool (decide (repl i)) ∧ Below w.heap.size w w') := by
  refine calls_mk Try.func80 rfl 9 Try.ntmps80 rfl ?_
  have H0 : St w [] [] w := St.refl w
  refine c_seq ?_
  refine c_reg ?_
  refine sy (v := .bool (false)) (y_assign (v := .bool (false)) rfl) ?_
  refine c_nil ?_
  refine n_then ?_
  refine c_seq ?_
  refine c_reg ?_
  refine sy (v := I (i)) (y_move rfl) ?_
  refine sy (v := .bool (decide (((1 : Nat) : Int) ≤ i))) (y_geq (i := i) (j := ((1 : Nat) : Int)) rfl rfl) ?_
  refine sy (v := .bool (decide (((1 : Nat) : Int) ≤ i))) (y_move rfl) ?_
  by_cases hp1 : ((1 : Nat) : Int) ≤ i
  · skip
    refine gsy (v := I (i)) (gv_of (t := 5) rfl rfl rfl) (decide_eq_true hp1) (y_move rfl) ?_
    refine gsy (v := .bool (decide (i ≤ ((8 : Nat) : Int)))) (gv_of (t := 5) rfl rfl rfl) (decide_eq_true hp1) (y_leq (i := i) (j := ((8 : Nat) : Int)) rfl rfl) ?_
    refine sy (v := .bool (decide (i ≤ ((8 : Nat) : Int)))) (y_pickT rfl (decide_eq_true hp1) rfl) ?_
    refine sy (v := .bool (decide (i ≤ ((8 : Nat) : Int)))) (y_assign rfl) ?_
    refine c_nil ?_
    refine n_then ?_
    refine wp_ret ?_
    refine e_r1 Try.results80 (rv_t rfl) ?_
    refine ⟨_, rfl, ?_, H0.below⟩
    refine congrArg Value.bool ?_
    unfold repl
    first | (apply decide_eq_decide.2; omega) | (symm; apply decide_eq_false; omega)
  · skip
    refine gno (gv_of (t := 5) rfl rfl rfl) (decide_eq_false hp1) ?_
    refine gno (gv_of (t := 5) rfl rfl rfl) (decide_eq_false hp1) ?_
    refine sy (v := .bool (false)) (y_pickF (v := .bool (false)) rfl (decide_eq_false hp1) rfl) ?_
    refine sy (v := .bool (false)) (y_assign rfl) ?_
    refine c_nil ?_
    refine n_then ?_
    refine wp_ret ?_
    refine e_r1 Try.results80 (rv_t rfl) ?_
    refine ⟨_, rfl, ?_, H0.below⟩
    refine congrArg Value.bool ?_
    unfold repl
    first | (apply decide_eq_decide.2; omega) | (symm; apply decide_eq_false; omega)

set_option maxHeartbeats 2000000 in
theorem rseal_c (v0 bv : Value) (lk : List UInt8) (fr to : Int) (l : List UInt8) (w : World) (hK : Rd [] w 1 v0 lk.length (lk.map B8)) (hR : Rd [] w 1 bv l.length (l.map B8)) (hl : l.length ≤ 9223372036854775700) :
    Calls Try.prog 27 (([v0, .agg ([I (fr), I (to), bv]).toArray] : List Value).toArray) w (fun e w' => ∃ v, e = .returned v ∧ ∃ sv E, v = .tuple #[sv, I ((sealEr lk fr to l : Nat) : Int)] ∧ OS 5 1 sv (sealL lk fr to l).length ((sealL lk fr to l).map B8) E ∧ St w [] [E] w') := by
  refine calls_mk Try.func27 rfl 62 Try.ntmps27 rfl ?_
  have H0 : St w [] [] w := St.refl w
  refine c_seq ?_
  refine c_reg ?_
  refine st (ow_box (l := [I (fr), I (to), bv]) H0 rfl rfl) ?_
  rintro _ w2 ⟨g1, rfl, H3⟩
  refine sy (v := .slice none 0 0) (y_assign (v := .slice none 0 0) rfl) ?_
  refine sy (v := I ((0 : Nat) : Int)) (y_assign (v := I ((0 : Nat) : Int)) rfl) ?_
  refine c_nil ?_
  refine n_then ?_
  refine c_seq ?_
  refine c_reg ?_
  refine sy (v := Ad (bs g1) (0 + 0)) (y_fld Try.underlying31 rfl rfl sz3 (by decide) rfl) ?_
  refine sy (v := I (fr)) (y_load sc3 rfl (H3.cell 0 rfl rfl)) ?_
  refine st (ow_call fn79 rfl (rrepl_c (fr) _) ⟨rfl, trivial⟩) ?_
  rintro _ w4 ⟨rfl, hB5⟩
  have H6 : St w [] [[(g1, Rw 31 ([I (fr), I (to), bv]))]] w4 := H3.call hB5
  refine sy (v := .bool (decide (repl (fr)))) (y_assign rfl) ?_
  refine c_nil ?_
  refine n_then ?_
  refine c_seq ?_
  refine c_reg ?_
  refine sy (v := Ad (bs g1) (0 + 1)) (y_fld Try.underlying31 rfl rfl sz3 (by decide) rfl) ?_
  refine sy (v := I (to)) (y_load sc3 rfl (H6.cell 0 rfl rfl)) ?_
  refine st (ow_call fn79 rfl (rrepl_c (to) _) ⟨rfl, trivial⟩) ?_
  rintro _ w7 ⟨rfl, hB8⟩
  have H9 : St w [] [[(g1, Rw 31 ([I (fr), I (to), bv]))]] w7 := H6.call hB8
  refine sy (v := .bool (decide (repl (to)))) (y_assign rfl) ?_
  refine c_nil ?_
  refine n_then ?_
  refine c_seq ?_
  refine c_seq ?_
  refine c_reg ?_
  refine sy (v := v0) (y_move rfl) ?_
  refine sy (v := I ((lk.length : Nat) : Int)) (y_lenR Try.underlying23 (hK.st H9) rfl) ?_
  refine sy (v := .bool (decide (lk.length ≠ 32))) (n_neq (a := lk.length) (b := 32) rfl rfl) ?_
  refine sy (v := .bool (decide (lk.length ≠ 32))) (y_move rfl) ?_
  by_cases hp10 : lk.length ≠ 32
  · skip
    refine gno (gv_of (t := 20) rfl rfl rfl) (decide_eq_true hp10) ?_
    refine gno (gv_of (t := 20) rfl rfl rfl) (decide_eq_true hp10) ?_
    refine sy (v := .bool (true)) (y_pickT (v := .bool (true)) rfl (decide_eq_true hp10) rfl) ?_
    refine sy (v := .bool (true)) (y_move rfl) ?_
    refine gno (gv_of (t := 24) rfl rfl rfl) (rfl) ?_
    refine gno (gv_of (t := 24) rfl rfl rfl) (rfl) ?_
    refine sy (v := .bool (true)) (y_pickT (v := .bool (true)) rfl (rfl) rfl) ?_
    refine c_nil ?_
    refine n_then ?_
    refine c_t rfl rfl ?_
    refine c_seq ?_
    refine c_reg ?_
    refine sy (v := .slice none 0 0) (y_assign (v := .slice none 0 0) rfl) ?_
    refine sy (v := I ((1 : Nat) : Int)) (y_assign (v := I ((1 : Nat) : Int)) rfl) ?_
    refine c_nil ?_
    refine n_then ?_
    refine wp_ret ?_
    refine r_then ?_
    refine e_r2 Try.results27 (rv_t rfl) (rv_t rfl) ?_
    have hno : ¬ sealOk lk fr to := by rintro ⟨q1, q2, q3⟩; first | omega | contradiction | (rename_i hx; exact hx q2) | (rename_i hx; exact hx q3) | grind
    exact ⟨_, rfl, .slice none 0 0, [], by rw [sealEr, if_neg hno]; rfl, by rw [sealL, if_neg (fun h => hno h.1)]; exact OS.nil 5 1, H9.none.nilp⟩
  · skip
    refine gsy (v := .bool (decide (repl (fr)))) (gv_of (t := 20) rfl rfl rfl) (decide_eq_false hp10) (y_move rfl) ?_
    refine gsy (v := .bool (decide (¬ (repl (fr))))) (gv_of (t := 20) rfl rfl rfl) (decide_eq_false hp10) (y_notP rfl) ?_
    refine sy (v := .bool (decide (¬ (repl (fr))))) (y_pickF rfl (decide_eq_false hp10) rfl) ?_
    refine sy (v := .bool (decide (¬ (repl (fr))))) (y_move rfl) ?_
    by_cases hp11 : ¬ (repl (fr))
    · skip
      refine gno (gv_of (t := 24) rfl rfl rfl) (decide_eq_true hp11) ?_
      refine gno (gv_of (t := 24) rfl rfl rfl) (decide_eq_true hp11) ?_
      refine sy (v := .bool (true)) (y_pickT (v := .bool (true)) rfl (decide_eq_true hp11) rfl) ?_
      refine c_nil ?_
      refine n_then ?_
      refine c_t rfl rfl ?_
      refine c_seq ?_
      refine c_reg ?_
      refine sy (v := .slice none 0 0) (y_assign (v := .slice none 0 0) rfl) ?_
      refine sy (v := I ((1 : Nat) : Int)) (y_assign (v := I ((1 : Nat) : Int)) rfl) ?_
      refine c_nil ?_
      refine n_then ?_
      refine wp_ret ?_
      refine r_then ?_
      refine e_r2 Try.results27 (rv_t rfl) (rv_t rfl) ?_
      have hno : ¬ sealOk lk fr to := by rintro ⟨q1, q2, q3⟩; first | omega | contradiction | (rename_i hx; exact hx q2) | (rename_i hx; exact hx q3) | grind
      exact ⟨_, rfl, .slice none 0 0, [], by rw [sealEr, if_neg hno]; rfl, by rw [sealL, if_neg (fun h => hno h.1)]; exact OS.nil 5 1, H9.none.nilp⟩
    · skip
      refine gsy (v := .bool (decide (repl (to)))) (gv_of (t := 24) rfl rfl rfl) (decide_eq_false hp11) (y_move rfl) ?_
      refine gsy (v := .bool (decide (¬ (repl (to))))) (gv_of (t := 24) rfl rfl rfl) (decide_eq_false hp11) (y_notP rfl) ?_
      refine sy (v := .bool (decide (¬ (repl (to))))) (y_pickF rfl (decide_eq_false hp11) rfl) ?_
      refine c_nil ?_
      refine n_then ?_
      refine c_if rfl (fun hc12 => ?_) (fun hc12 => ?_)
      · skip
        refine c_seq ?_
        refine c_reg ?_
        refine sy (v := .slice none 0 0) (y_assign (v := .slice none 0 0) rfl) ?_
        refine sy (v := I ((1 : Nat) : Int)) (y_assign (v := I ((1 : Nat) : Int)) rfl) ?_
        refine c_nil ?_
        refine n_then ?_
        refine wp_ret ?_
        refine r_then ?_
        refine e_r2 Try.results27 (rv_t rfl) (rv_t rfl) ?_
        have hno : ¬ sealOk lk fr to := by rintro ⟨q1, q2, q3⟩; first | omega | contradiction | (rename_i hx; exact hx q2) | (rename_i hx; exact hx q3) | grind
        exact ⟨_, rfl, .slice none 0 0, [], by rw [sealEr, if_neg hno]; rfl, by rw [sealL, if_neg (fun h => hno h.1)]; exact OS.nil 5 1, H9.none.nilp⟩
      · skip
        refine wp_skip ?_
        refine n_then ?_
        refine c_seq ?_
        refine c_reg ?_
        refine sy (v := Ad (bs g1) (0 + 2)) (y_fld Try.underlying31 rfl rfl sz23 (by decide) rfl) ?_
        refine sy (v := bv) (y_load sc23 rfl (H9.cell 0 rfl rfl)) ?_
        refine sy (v := I ((l.length : Nat) : Int)) (y_lenR Try.underlying23 (hR.st H9) rfl) ?_
        refine sy (v := I ((l.length : Nat) : Int)) (y_assign rfl) ?_
        refine c_nil ?_
        refine n_then ?_
        refine c_seq ?_
        refine c_seq ?_
        refine c_reg ?_
        refine sy (v := I ((l.length : Nat) : Int)) (y_move rfl) ?_
        refine sy (v := .bool (decide (2097152 < l.length))) (n_gtr (a := l.length) (b := 2097152) rfl rfl) ?_
        refine c_nil ?_
        refine n_then ?_
        refine c_if rfl (fun hc13 => ?_) (fun hc13 => ?_)
        · skip
          refine c_seq ?_
          refine c_reg ?_
          refine sy (v := .slice none 0 0) (y_assign (v := .slice none 0 0) rfl) ?_
          refine sy (v := I ((4 : Nat) : Int)) (y_assign (v := I ((4 : Nat) : Int)) rfl) ?_
          refine c_nil ?_
          refine n_then ?_
          refine wp_ret ?_
          refine r_then ?_
          refine e_r2 Try.results27 (rv_t rfl) (rv_t rfl) ?_
          have hyes : sealOk lk fr to := by refine ⟨?_, ?_, ?_⟩ <;> first | omega | assumption | grind
          exact ⟨_, rfl, .slice none 0 0, [], by rw [sealEr, if_pos hyes, if_pos (by omega)]; rfl, by rw [sealL, if_neg (fun h => by have := h.2; omega)]; exact OS.nil 5 1, H9.none.nilp⟩
        · skip
          refine wp_skip ?_
          refine n_then ?_
          refine c_seq ?_
          refine c_reg ?_
          refine sy (v := Ad (bs g1) (0 + 0)) (y_fld Try.underlying31 rfl rfl sz3 (by decide) rfl) ?_
          refine sy (v := I (fr)) (y_load sc3 rfl (H9.cell 0 rfl rfl)) ?_
          refine sy (v := B8 (b8 (fr))) (y_conv_I_8 Try.underlying3 Try.underlying5 rfl) ?_
          refine sy (v := Ad (bs g1) (0 + 1)) (y_fld Try.underlying31 rfl rfl sz3 (by decide) rfl) ?_
          refine sy (v := I (to)) (y_load sc3 rfl (H9.cell 0 rfl rfl)) ?_
          refine sy (v := B8 (b8 (to))) (y_conv_I_8 Try.underlying3 Try.underlying5 rfl) ?_
          refine sy (v := I ((l.length : Nat) : Int)) (y_move rfl) ?_
          refine sy (v := B8 (b8 ((l.length : Nat)))) (y_conv_I_8 Try.underlying3 Try.underlying5 rfl) ?_
          refine sy (v := I ((l.length : Nat) : Int)) (y_move rfl) ?_
          refine sy (v := I ((l.length / 256 : Nat) : Int)) (n_quo (a := l.length) (b := 256) rfl rfl (by omega) (by omega)) ?_
          refine sy (v := B8 (b8 ((l.length / 256 : Nat)))) (y_conv_I_8 Try.underlying3 Try.underlying5 rfl) ?_
          refine sy (v := I ((l.length : Nat) : Int)) (y_move rfl) ?_
          refine sy (v := I ((l.length / 65536 : Nat) : Int)) (n_quo (a := l.length) (b := 65536) rfl rfl (by omega) (by omega)) ?_
          refine sy (v := B8 (b8 ((l.length / 65536 : Nat)))) (y_conv_I_8 Try.underlying3 Try.underlying5 rfl) ?_
          refine sy (v := I ((l.length : Nat) : Int)) (y_move rfl) ?_
          refine sy (v := I ((l.length / 16777216 : Nat) : Int)) (n_quo (a := l.length) (b := 16777216) rfl rfl (by omega) (by omega)) ?_
          refine sy (v := B8 (b8 ((l.length / 16777216 : Nat)))) (y_conv_I_8 Try.underlying3 Try.underlying5 rfl) ?_
          refine st (ow_buildSlice (pv := [(0, B8 (80)), (1, B8 (76)), (2, B8 (69)), (3, B8 (49)), (4, B8 (b8 (fr))), (5, B8 (b8 (to))), (6, B8 (b8 ((l.length : Nat)))), (7, B8 (b8 ((l.length / 256 : Nat)))), (8, B8 (b8 ((l.length / 65536 : Nat)))), (9, B8 (b8 ((l.length / 16777216 : Nat))))]) (us := [B8 (80), B8 (76), B8 (69), B8 (49), B8 (b8 (fr)), B8 (b8 (to)), B8 (b8 ((l.length : Nat))), B8 (b8 ((l.length / 256 : Nat))), B8 (b8 ((l.length / 65536 : Nat))), B8 (b8 ((l.length / 16777216 : Nat)))]) Try.underlying23 sz5 zr5 H9 ⟨⟨rfl, rfl⟩, ⟨rfl, rfl⟩, ⟨rfl, rfl⟩, ⟨rfl, rfl⟩, ⟨rfl, rfl⟩, ⟨rfl, rfl⟩, ⟨rfl, rfl⟩, ⟨rfl, rfl⟩, ⟨rfl, rfl⟩, ⟨rfl, rfl⟩, trivial⟩ (by decide) (by kernel_rfl)) ?_
          rintro _ w15 ⟨g14, rfl, H16⟩
          refine sy (v := .slice (some (bs g14)) 10 10) (y_assign rfl) ?_
          refine c_nil ?_
          refine n_then ?_
          refine c_seq ?_
          refine c_reg ?_
          refine sy (v := .slice (some (bs g14)) 10 10) (y_move rfl) ?_
          refine sy (v := Ad (bs g1) (0 + 2)) (y_fld Try.underlying31 rfl rfl sz23 (by decide) rfl) ?_
          refine sy (v := bv) (y_load sc23 rfl (H16.cell 1 rfl rfl)) ?_
          refine st (ow_append Try.underlying23 sz5 zr5 bt5 rfl (os_lit (k := 10) rfl (by simp [maxLen])) H16 rfl rfl ((hR.st H16).src Try.underlying23 (map_one (F := B8) (fun _ => rfl) _)) (by first | omega | (simp only [List.length_append, List.length_cons, List.length_nil, List.length_take, List.length_drop, hmac_length, sha_length, List.length_replicate]; omega)) (by first | omega | (simp only [List.length_append, List.length_cons, List.length_nil, List.length_take, List.length_drop, hmac_length, sha_length, List.length_replicate]; omega))) ?_
          rintro v18 w19 ⟨E17, ho21', H20⟩
          have ho21 : OS 5 1 v18 (([80, 76, 69, 49, b8 (fr), b8 (to), b8 ((l.length : Nat)), b8 ((l.length / 256 : Nat)), b8 ((l.length / 65536 : Nat)), b8 ((l.length / 16777216 : Nat))]) ++ l).length ((([80, 76, 69, 49, b8 (fr), b8 (to), b8 ((l.length : Nat)), b8 ((l.length / 256 : Nat)), b8 ((l.length / 65536 : Nat)), b8 ((l.length / 16777216 : Nat))]) ++ l).map B8) E17 := by rw [List.length_append, List.map_append]; exact ho21'
          refine sy (v := v18) (y_assign rfl) ?_
          refine c_nil ?_
          refine n_then ?_
          refine c_seq ?_
          refine c_reg ?_
          refine sy (v := v0) (y_move rfl) ?_
          refine sy (v := v18) (y_move rfl) ?_
          refine st (ow_call fn24 rfl (rmac_c (v0) (v18) (lk) (([80, 76, 69, 49, b8 (fr), b8 (to), b8 ((l.length : Nat)), b8 ((l.length / 256 : Nat)), b8 ((l.length / 65536 : Nat)), b8 ((l.length / 16777216 : Nat))]) ++ l) _ ((hK.st H20)).nil ((ho21.rd H20 0 rfl)).nil (by first | omega | (simp only [List.length_append, List.length_cons, List.length_nil, List.length_take, List.length_drop, hmac_length, sha_length, List.length_replicate]; omega)) (by first | omega | (simp only [List.length_append, List.length_cons, List.length_nil, List.length_take, List.length_drop, hmac_length, sha_length, List.length_replicate]; omega))) ⟨rfl, rfl, trivial⟩) ?_
          rintro _ w22 ⟨rfl, hB23⟩
          have H24 : St w [] [E17, [(g1, Rw 31 ([I (fr), I (to), bv]))]] w22 := H20.call hB23
          refine st (ow_alloc (l := (List.replicate 32 0).map B8) H24 zr26 (by simp [Value.cells])) ?_
          rintro _ w26 ⟨g25, rfl, H27⟩
          refine s0 (ow_storeW (us := (hmac (lk) (([80, 76, 69, 49, b8 (fr), b8 (to), b8 ((l.length : Nat)), b8 ((l.length / 256 : Nat)), b8 ((l.length / 65536 : Nat)), b8 ((l.length / 16777216 : Nat))]) ++ l)).map B8) H27 sz26 ((List.length_map _).trans (hmac_length _ _)) rfl rfl (map_one (F := B8) (fun _ => rfl) _) ((List.length_map _).trans List.length_replicate)) ?_
          rintro _ w28 H29'
          have H29 : St w [] [[(g25, Rw 26 ((hmac (lk) (([80, 76, 69, 49, b8 (fr), b8 (to), b8 ((l.length : Nat)), b8 ((l.length / 256 : Nat)), b8 ((l.length / 65536 : Nat)), b8 ((l.length / 16777216 : Nat))]) ++ l)).map B8))], E17, [(g1, Rw 31 ([I (fr), I (to), bv]))]] w28 := H29'
          refine c_nil ?_
          refine n_then ?_
          refine c_seq ?_
          refine c_reg ?_
          refine sy (v := v18) (y_move rfl) ?_
          refine sy (v := .agg ((hmac (lk) (([80, 76, 69, 49, b8 (fr), b8 (to), b8 ((l.length : Nat)), b8 ((l.length / 256 : Nat)), b8 ((l.length / 65536 : Nat)), b8 ((l.length / 16777216 : Nat))]) ++ l)).map B8).toArray) (y_loadA (us := (hmac (lk) (([80, 76, 69, 49, b8 (fr), b8 (to), b8 ((l.length : Nat)), b8 ((l.length / 256 : Nat)), b8 ((l.length / 65536 : Nat)), b8 ((l.length / 16777216 : Nat))]) ++ l)).map B8) ag26 sz26 ((List.length_map _).trans (hmac_length _ _)) rfl (fun j u hu => (H29.cell 0 rfl (by rw [Nat.zero_add]; exact hu)))) ?_
          refine st (ow_call fn78 rfl (hashed_c (hmac (lk) (([80, 76, 69, 49, b8 (fr), b8 (to), b8 ((l.length : Nat)), b8 ((l.length / 256 : Nat)), b8 ((l.length / 65536 : Nat)), b8 ((l.length / 16777216 : Nat))]) ++ l)) _ (hmac_length _ _)) ⟨rfl, trivial⟩) ?_
          rintro v30 w31 ⟨E32, ho33, H34⟩
          have H35 : St w [] [E32, [(g25, Rw 26 ((hmac (lk) (([80, 76, 69, 49, b8 (fr), b8 (to), b8 ((l.length : Nat)), b8 ((l.length / 256 : Nat)), b8 ((l.length / 65536 : Nat)), b8 ((l.length / 16777216 : Nat))]) ++ l)).map B8))], E17, [(g1, Rw 31 ([I (fr), I (to), bv]))]] w31 := H29.app H34
          have H36 : St w [] [E17, E32, [(g25, Rw 26 ((hmac (lk) (([80, 76, 69, 49, b8 (fr), b8 (to), b8 ((l.length : Nat)), b8 ((l.length / 256 : Nat)), b8 ((l.length / 65536 : Nat)), b8 ((l.length / 16777216 : Nat))]) ++ l)).map B8))], [(g1, Rw 31 ([I (fr), I (to), bv]))]] w31 := H35.foc 2 rfl rfl
          refine st (ow_append Try.underlying23 sz5 zr5 bt5 rfl ho21 H36 rfl rfl ((ho33.rd H35 0 rfl).src Try.underlying23 (map_one (F := B8) (fun _ => rfl) _)) (by first | omega | (simp only [List.length_append, List.length_cons, List.length_nil, List.length_take, List.length_drop, hmac_length, sha_length, List.length_replicate]; omega)) (by first | omega | (simp only [List.length_append, List.length_cons, List.length_nil, List.length_take, List.length_drop, hmac_length, sha_length, List.length_replicate]; omega))) ?_
          rintro v38 w39 ⟨E37, ho41', H40⟩
          have ho41 : OS 5 1 v38 ((([80, 76, 69, 49, b8 (fr), b8 (to), b8 ((l.length : Nat)), b8 ((l.length / 256 : Nat)), b8 ((l.length / 65536 : Nat)), b8 ((l.length / 16777216 : Nat))]) ++ l) ++ (hmac (lk) (([80, 76, 69, 49, b8 (fr), b8 (to), b8 ((l.length : Nat)), b8 ((l.length / 256 : Nat)), b8 ((l.length / 65536 : Nat)), b8 ((l.length / 16777216 : Nat))]) ++ l))).length (((([80, 76, 69, 49, b8 (fr), b8 (to), b8 ((l.length : Nat)), b8 ((l.length / 256 : Nat)), b8 ((l.length / 65536 : Nat)), b8 ((l.length / 16777216 : Nat))]) ++ l) ++ (hmac (lk) (([80, 76, 69, 49, b8 (fr), b8 (to), b8 ((l.length : Nat)), b8 ((l.length / 256 : Nat)), b8 ((l.length / 65536 : Nat)), b8 ((l.length / 16777216 : Nat))]) ++ l))).map B8) E37 := by rw [List.length_append, List.map_append]; exact ho41'
          refine sy (v := v38) (y_assign rfl) ?_
          refine sy (v := I ((0 : Nat) : Int)) (y_assign (v := I ((0 : Nat) : Int)) rfl) ?_
          refine c_nil ?_
          refine n_then ?_
          refine wp_ret ?_
          refine e_r2 Try.results27 (rv_t rfl) (rv_t rfl) ?_
          have hyes : sealOk lk fr to := by refine ⟨?_, ?_, ?_⟩ <;> first | omega | assumption | grind
          have H42 : St w [] [E37] w39 := H40.take 1 rfl
          exact ⟨_, rfl, _, _, by rw [sealEr, if_pos hyes, if_neg (by omega)]; rfl, by rw [sealL, if_pos ⟨hyes, by omega⟩]; exact ho41, H42⟩

set_option maxHeartbeats 2000000 in
theorem seal_c (v0 bv : Value) (lk : List UInt8) (fr to : Int) (l : List UInt8) (w : World) (hK : Rd [] w 1 v0 lk.length (lk.map B8)) (hR : Rd [] w 1 bv l.length (l.map B8)) (hl : l.length ≤ 9223372036854775700) :
    Calls Try.prog 28 (([v0, .agg ([I (fr), I (to), bv]).toArray] : List Value).toArray) w (fun e w' => ∃ v, e = .returned v ∧ ∃ sv E, v = .tuple #[sv, I ((sealEr lk fr to l : Nat) : Int)] ∧ OS 5 1 sv (sealL lk fr to l).length ((sealL lk fr to l).map B8) E ∧ St w [] [E] w') := by
  refine calls_mk Try.func28 rfl 64 Try.ntmps28 rfl ?_
  have H0 : St w [] [] w := St.refl w
  refine c_seq ?_
  refine c_reg ?_
  refine st (ow_box (l := [I (fr), I (to), bv]) H0 rfl rfl) ?_
  rintro _ w2 ⟨g1, rfl, H3⟩
  refine sy (v := .slice none 0 0) (y_assign (v := .slice none 0 0) rfl) ?_
  refine sy (v := I ((0 : Nat) : Int)) (y_assign (v := I ((0 : Nat) : Int)) rfl) ?_
  refine c_nil ?_
  refine n_then ?_
  refine c_seq ?_
  refine wp_block ?_
  refine c_seq ?_
  refine c_seq ?_
  refine c_reg ?_
  refine sy (v := v0) (y_move rfl) ?_
  refine sy (v := I ((lk.length : Nat) : Int)) (y_lenR Try.underlying23 (hK.st H3) rfl) ?_
  refine sy (v := .bool (decide (lk.length ≠ 32))) (n_neq (a := lk.length) (b := 32) rfl rfl) ?_
  refine sy (v := .bool (decide (lk.length ≠ 32))) (y_assign rfl) ?_
  refine c_nil ?_
  refine n_then ?_
  refine c_if rfl (fun hc4 => ?_) (fun hc4 => ?_)
  · skip
    refine wp_skip ?_
    refine n_then ?_
    refine c_t rfl (decide_eq_true hc4) ?_
    refine c_seq ?_
    refine c_reg ?_
    refine sy (v := .slice none 0 0) (y_assign (v := .slice none 0 0) rfl) ?_
    refine sy (v := I ((1 : Nat) : Int)) (y_assign (v := I ((1 : Nat) : Int)) rfl) ?_
    refine c_nil ?_
    refine n_then ?_
    refine wp_ret ?_
    refine r_block (r_then ?_)
    refine e_r2 Try.results28 (rv_t rfl) (rv_t rfl) ?_
    have hno : ¬ sealOk lk fr to := by rintro ⟨q1, q2, q3⟩; first | omega | contradiction | (rename_i hx; exact hx q2) | (rename_i hx; exact hx q3) | grind
    exact ⟨_, rfl, .slice none 0 0, [], by rw [sealEr, if_neg hno]; rfl, by rw [sealL, if_neg (fun h => hno h.1)]; exact OS.nil 5 1, H3.none.nilp⟩
  · skip
    refine c_seq ?_
    refine c_reg ?_
    refine sy (v := Ad (bs g1) (0 + 0)) (y_fld Try.underlying31 rfl rfl sz3 (by decide) rfl) ?_
    refine sy (v := I (fr)) (y_load sc3 rfl (H3.cell 0 rfl rfl)) ?_
    refine st (ow_call fn80 rfl (repl_c (fr) _) ⟨rfl, trivial⟩) ?_
    rintro _ w5 ⟨rfl, hB6⟩
    have H7 : St w [] [[(g1, Rw 31 ([I (fr), I (to), bv]))]] w5 := H3.call hB6
    refine sy (v := .bool (decide (¬ (repl (fr))))) (y_notP rfl) ?_
    refine sy (v := .bool (decide (¬ (repl (fr))))) (y_assign rfl) ?_
    refine c_nil ?_
    refine n_then ?_
    refine c_if rfl (fun hc8 => ?_) (fun hc8 => ?_)
    · skip
      refine wp_skip ?_
      refine n_then ?_
      refine c_t rfl (decide_eq_true hc8) ?_
      refine c_seq ?_
      refine c_reg ?_
      refine sy (v := .slice none 0 0) (y_assign (v := .slice none 0 0) rfl) ?_
      refine sy (v := I ((1 : Nat) : Int)) (y_assign (v := I ((1 : Nat) : Int)) rfl) ?_
      refine c_nil ?_
      refine n_then ?_
      refine wp_ret ?_
      refine r_block (r_then ?_)
      refine e_r2 Try.results28 (rv_t rfl) (rv_t rfl) ?_
      have hno : ¬ sealOk lk fr to := by rintro ⟨q1, q2, q3⟩; first | omega | contradiction | (rename_i hx; exact hx q2) | (rename_i hx; exact hx q3) | grind
      exact ⟨_, rfl, .slice none 0 0, [], by rw [sealEr, if_neg hno]; rfl, by rw [sealL, if_neg (fun h => hno h.1)]; exact OS.nil 5 1, H7.none.nilp⟩
    · skip
      refine c_reg ?_
      refine sy (v := Ad (bs g1) (0 + 1)) (y_fld Try.underlying31 rfl rfl sz3 (by decide) rfl) ?_
      refine sy (v := I (to)) (y_load sc3 rfl (H7.cell 0 rfl rfl)) ?_
      refine st (ow_call fn80 rfl (repl_c (to) _) ⟨rfl, trivial⟩) ?_
      rintro _ w9 ⟨rfl, hB10⟩
      have H11 : St w [] [[(g1, Rw 31 ([I (fr), I (to), bv]))]] w9 := H7.call hB10
      refine sy (v := .bool (decide (¬ (repl (to))))) (y_notP rfl) ?_
      refine sy (v := .bool (decide (¬ (repl (to))))) (y_assign rfl) ?_
      refine c_nil ?_
      refine n_then ?_
      refine c_if rfl (fun hc12 => ?_) (fun hc12 => ?_)
      · skip
        refine c_seq ?_
        refine c_reg ?_
        refine sy (v := .slice none 0 0) (y_assign (v := .slice none 0 0) rfl) ?_
        refine sy (v := I ((1 : Nat) : Int)) (y_assign (v := I ((1 : Nat) : Int)) rfl) ?_
        refine c_nil ?_
        refine n_then ?_
        refine wp_ret ?_
        refine r_block (r_then ?_)
        refine e_r2 Try.results28 (rv_t rfl) (rv_t rfl) ?_
        have hno : ¬ sealOk lk fr to := by rintro ⟨q1, q2, q3⟩; first | omega | contradiction | (rename_i hx; exact hx q2) | (rename_i hx; exact hx q3) | grind
        exact ⟨_, rfl, .slice none 0 0, [], by rw [sealEr, if_neg hno]; rfl, by rw [sealL, if_neg (fun h => hno h.1)]; exact OS.nil 5 1, H11.none.nilp⟩
      · skip
        refine c_seq ?_
        refine c_reg ?_
        refine sy (v := Ad (bs g1) (0 + 2)) (y_fld Try.underlying31 rfl rfl sz23 (by decide) rfl) ?_
        refine sy (v := bv) (y_load sc23 rfl (H11.cell 0 rfl rfl)) ?_
        refine sy (v := I ((l.length : Nat) : Int)) (y_lenR Try.underlying23 (hR.st H11) rfl) ?_
        refine sy (v := .bool (decide (2097152 < l.length))) (n_gtr (a := l.length) (b := 2097152) rfl rfl) ?_
        refine sy (v := .bool (decide (2097152 < l.length))) (y_assign rfl) ?_
        refine c_nil ?_
        refine n_then ?_
        refine c_if rfl (fun hc13 => ?_) (fun hc13 => ?_)
        · skip
          refine c_seq ?_
          refine c_reg ?_
          refine sy (v := .slice none 0 0) (y_assign (v := .slice none 0 0) rfl) ?_
          refine sy (v := I ((4 : Nat) : Int)) (y_assign (v := I ((4 : Nat) : Int)) rfl) ?_
          refine c_nil ?_
          refine n_then ?_
          refine wp_ret ?_
          refine r_block (r_then ?_)
          refine e_r2 Try.results28 (rv_t rfl) (rv_t rfl) ?_
          have hyes : sealOk lk fr to := by refine ⟨?_, ?_, ?_⟩ <;> first | omega | assumption | grind
          exact ⟨_, rfl, .slice none 0 0, [], by rw [sealEr, if_pos hyes, if_pos (by omega)]; rfl, by rw [sealL, if_neg (fun h => by have := h.2; omega)]; exact OS.nil 5 1, H11.none.nilp⟩
        · skip
          refine wp_skip ?_
          refine n_block (n_then ?_)
          refine c_seq ?_
          refine c_reg ?_
          refine sy (v := Ad (bs g1) (0 + 2)) (y_fld Try.underlying31 rfl rfl sz23 (by decide) rfl) ?_
          refine sy (v := bv) (y_load sc23 rfl (H11.cell 0 rfl rfl)) ?_
          refine sy (v := I ((l.length : Nat) : Int)) (y_lenR Try.underlying23 (hR.st H11) rfl) ?_
          refine sy (v := I ((l.length : Nat) : Int)) (y_assign rfl) ?_
          refine c_nil ?_
          refine n_then ?_
          refine c_seq ?_
          refine c_reg ?_
          refine sy (v := I ((l.length : Nat) : Int)) (y_move rfl) ?_
          refine sy (v := I ((l.length + 42 : Nat) : Int)) (n_add (a := l.length) (b := 42) rfl rfl (by omega)) ?_
          refine st (ow_make (l := 0) (c := l.length + 42) Try.underlying23 sz5 zr5 bt5 rfl H11 rfl rfl (by omega) (by omega) (by omega)) ?_
          rintro _ w15 ⟨g14, rfl, H16'⟩
          have H16 : St w [] [[(g14, Rw 5 ((List.replicate (l.length + 42) 0).map B8))], [(g1, Rw 31 ([I (fr), I (to), bv]))]] w15 := H16'.eq1 (by rw [Nat.mul_one, made_rep rfl]; first | rfl | exact (List.map_replicate (f := B8) (a := 0)).symm)
          refine sy (v := .slice (some (bs g14)) (0) (l.length + 42)) (y_assign rfl) ?_
          refine c_nil ?_
          refine n_then ?_
          refine c_seq ?_
          refine c_reg ?_
          refine sy (v := .slice (some (bs g14)) (0) (l.length + 42)) (y_move rfl) ?_
          refine st (ow_append Try.underlying23 sz5 zr5 bt5 rfl (os_made (by simp) (by unfold maxLen; omega)) H16 rfl rfl (show Src Try.prog 1 9 (.string ⟨#[80, 76, 69, 49]⟩) 4 (([80, 76, 69, 49] : List UInt8).map B8) w15 from Src.ofString _ Try.underlying9 ⟨#[80, 76, 69, 49]⟩) (by first | omega | (simp only [List.length_append, List.length_cons, List.length_nil, List.length_take, List.length_drop, hmac_length, sha_length, List.length_replicate]; omega)) (by first | omega | (simp only [List.length_append, List.length_cons, List.length_nil, List.length_take, List.length_drop, hmac_length, sha_length, List.length_replicate]; omega))) ?_
          rintro v18 w19 ⟨E17, ho21', H20⟩
          have ho21 : OS 5 1 v18 ([80, 76, 69, 49]).length (([80, 76, 69, 49]).map B8) E17 := by simpa using ho21'
          refine sy (v := v18) (y_assign rfl) ?_
          refine c_nil ?_
          refine n_then ?_
          refine c_seq ?_
          refine c_reg ?_
          refine sy (v := v18) (y_move rfl) ?_
          refine sy (v := Ad (bs g1) (0 + 0)) (y_fld Try.underlying31 rfl rfl sz3 (by decide) rfl) ?_
          refine sy (v := I (fr)) (y_load sc3 rfl (H20.cell 1 rfl rfl)) ?_
          refine sy (v := B8 (b8 (fr))) (y_conv_I_8 Try.underlying3 Try.underlying5 rfl) ?_
          refine sy (v := Ad (bs g1) (0 + 1)) (y_fld Try.underlying31 rfl rfl sz3 (by decide) rfl) ?_
          refine sy (v := I (to)) (y_load sc3 rfl (H20.cell 1 rfl rfl)) ?_
          refine sy (v := B8 (b8 (to))) (y_conv_I_8 Try.underlying3 Try.underlying5 rfl) ?_
          refine sy (v := I ((l.length : Nat) : Int)) (y_move rfl) ?_
          refine sy (v := B8 (b8 ((l.length : Nat)))) (y_conv_I_8 Try.underlying3 Try.underlying5 rfl) ?_
          refine sy (v := I ((l.length : Nat) : Int)) (y_move rfl) ?_
          refine sy (v := I ((l.length / 2 ^ 8 : Nat) : Int)) (n_shr (m := 8) (a := l.length) rfl rfl (by omega)) ?_
          refine sy (v := B8 (b8 ((l.length / 2 ^ 8 : Nat)))) (y_conv_I_8 Try.underlying3 Try.underlying5 rfl) ?_
          refine sy (v := I ((l.length : Nat) : Int)) (y_move rfl) ?_
          refine sy (v := I ((l.length / 2 ^ 16 : Nat) : Int)) (n_shr (m := 16) (a := l.length) rfl rfl (by omega)) ?_
          refine sy (v := B8 (b8 ((l.length / 2 ^ 16 : Nat)))) (y_conv_I_8 Try.underlying3 Try.underlying5 rfl) ?_
          refine sy (v := I ((l.length : Nat) : Int)) (y_move rfl) ?_
          refine sy (v := I ((l.length / 2 ^ 24 : Nat) : Int)) (n_shr (m := 24) (a := l.length) rfl rfl (by omega)) ?_
          refine sy (v := B8 (b8 ((l.length / 2 ^ 24 : Nat)))) (y_conv_I_8 Try.underlying3 Try.underlying5 rfl) ?_
          refine st (ow_buildSlice (pv := [(0, B8 (b8 (fr))), (1, B8 (b8 (to))), (2, B8 (b8 ((l.length : Nat)))), (3, B8 (b8 ((l.length / 2 ^ 8 : Nat)))), (4, B8 (b8 ((l.length / 2 ^ 16 : Nat)))), (5, B8 (b8 ((l.length / 2 ^ 24 : Nat))))]) (us := [B8 (b8 (fr)), B8 (b8 (to)), B8 (b8 ((l.length : Nat))), B8 (b8 ((l.length / 2 ^ 8 : Nat))), B8 (b8 ((l.length / 2 ^ 16 : Nat))), B8 (b8 ((l.length / 2 ^ 24 : Nat)))]) Try.underlying23 sz5 zr5 H20 ⟨⟨rfl, rfl⟩, ⟨rfl, rfl⟩, ⟨rfl, rfl⟩, ⟨rfl, rfl⟩, ⟨rfl, rfl⟩, ⟨rfl, rfl⟩, trivial⟩ (by decide) (by kernel_rfl)) ?_
          rintro _ w23 ⟨g22, rfl, H24⟩
          have H25 : St w [] [E17, [(g22, Rw 5 ([B8 (b8 (fr)), B8 (b8 (to)), B8 (b8 ((l.length : Nat))), B8 (b8 ((l.length / 2 ^ 8 : Nat))), B8 (b8 ((l.length / 2 ^ 16 : Nat))), B8 (b8 ((l.length / 2 ^ 24 : Nat)))]))], [(g1, Rw 31 ([I (fr), I (to), bv]))]] w23 := H24.foc 1 rfl rfl
          refine st (ow_append Try.underlying23 sz5 zr5 bt5 rfl ho21 H25 rfl rfl ((rd_lit (k := 6) (us := [B8 (b8 (fr)), B8 (b8 (to)), B8 (b8 ((l.length : Nat))), B8 (b8 ((l.length / 2 ^ 8 : Nat))), B8 (b8 ((l.length / 2 ^ 16 : Nat))), B8 (b8 ((l.length / 2 ^ 24 : Nat)))]) H24 0 rfl rfl (by simp [maxLen])).src Try.underlying23 (by simp [Value.oneCell'])) (by first | omega | (simp only [List.length_append, List.length_cons, List.length_nil, List.length_take, List.length_drop, hmac_length, sha_length, List.length_replicate]; omega)) (by first | omega | (simp only [List.length_append, List.length_cons, List.length_nil, List.length_take, List.length_drop, hmac_length, sha_length, List.length_replicate]; omega))) ?_
          rintro v27 w28 ⟨E26, ho30', H29⟩
          have ho30 : OS 5 1 v27 (([80, 76, 69, 49]) ++ ([b8 (fr), b8 (to), b8 ((l.length : Nat)), b8 ((l.length / 2 ^ 8 : Nat)), b8 ((l.length / 2 ^ 16 : Nat)), b8 ((l.length / 2 ^ 24 : Nat))])).length ((([80, 76, 69, 49]) ++ ([b8 (fr), b8 (to), b8 ((l.length : Nat)), b8 ((l.length / 2 ^ 8 : Nat)), b8 ((l.length / 2 ^ 16 : Nat)), b8 ((l.length / 2 ^ 24 : Nat))])).map B8) E26 := by rw [List.length_append, List.map_append]; exact ho30'
          refine sy (v := v27) (y_assign rfl) ?_
          refine c_nil ?_
          refine n_then ?_
          refine c_seq ?_
          refine c_reg ?_
          refine sy (v := v27) (y_move rfl) ?_
          refine sy (v := Ad (bs g1) (0 + 2)) (y_fld Try.underlying31 rfl rfl sz23 (by decide) rfl) ?_
          refine sy (v := bv) (y_load sc23 rfl (H29.cell 2 rfl rfl)) ?_
          refine st (ow_append Try.underlying23 sz5 zr5 bt5 rfl ho30 H29 rfl rfl ((hR.st H29).src Try.underlying23 (map_one (F := B8) (fun _ => rfl) _)) (by first | omega | (simp only [List.length_append, List.length_cons, List.length_nil, List.length_take, List.length_drop, hmac_length, sha_length, List.length_replicate]; omega)) (by first | omega | (simp only [List.length_append, List.length_cons, List.length_nil, List.length_take, List.length_drop, hmac_length, sha_length, List.length_replicate]; omega))) ?_
          rintro v32 w33 ⟨E31, ho35', H34⟩
          have ho35 : OS 5 1 v32 ((([80, 76, 69, 49]) ++ ([b8 (fr), b8 (to), b8 ((l.length : Nat)), b8 ((l.length / 2 ^ 8 : Nat)), b8 ((l.length / 2 ^ 16 : Nat)), b8 ((l.length / 2 ^ 24 : Nat))])) ++ l).length (((([80, 76, 69, 49]) ++ ([b8 (fr), b8 (to), b8 ((l.length : Nat)), b8 ((l.length / 2 ^ 8 : Nat)), b8 ((l.length / 2 ^ 16 : Nat)), b8 ((l.length / 2 ^ 24 : Nat))])) ++ l).map B8) E31 := by rw [List.length_append, List.map_append]; exact ho35'
          refine sy (v := v32) (y_assign rfl) ?_
          refine c_nil ?_
          refine n_then ?_
          refine c_seq ?_
          refine c_reg ?_
          refine sy (v := v0) (y_move rfl) ?_
          refine sy (v := v32) (y_move rfl) ?_
          refine st (ow_call fn23 rfl (mac_c (v0) (v32) (lk) ((([80, 76, 69, 49]) ++ ([b8 (fr), b8 (to), b8 ((l.length : Nat)), b8 ((l.length / 2 ^ 8 : Nat)), b8 ((l.length / 2 ^ 16 : Nat)), b8 ((l.length / 2 ^ 24 : Nat))])) ++ l) _ ((hK.st H34)).nil ((ho35.rd H34 0 rfl)).nil (by first | omega | (simp only [List.length_append, List.length_cons, List.length_nil, List.length_take, List.length_drop, hmac_length, sha_length, List.length_replicate]; omega)) (by first | omega | (simp only [List.length_append, List.length_cons, List.length_nil, List.length_take, List.length_drop, hmac_length, sha_length, List.length_replicate]; omega))) ⟨rfl, rfl, trivial⟩) ?_
          rintro _ w36 ⟨rfl, hB37⟩
          have H38 : St w [] [E31, [(g22, Rw 5 ([B8 (b8 (fr)), B8 (b8 (to)), B8 (b8 ((l.length : Nat))), B8 (b8 ((l.length / 2 ^ 8 : Nat))), B8 (b8 ((l.length / 2 ^ 16 : Nat))), B8 (b8 ((l.length / 2 ^ 24 : Nat)))]))], [(g1, Rw 31 ([I (fr), I (to), bv]))]] w36 := H34.call hB37
          refine st (ow_alloc (l := (List.replicate 32 0).map B8) H38 zr26 (by simp [Value.cells])) ?_
          rintro _ w40 ⟨g39, rfl, H41⟩
          refine s0 (ow_storeW (us := (hmac (lk) ((([80, 76, 69, 49]) ++ ([b8 (fr), b8 (to), b8 ((l.length : Nat)), b8 ((l.length / 2 ^ 8 : Nat)), b8 ((l.length / 2 ^ 16 : Nat)), b8 ((l.length / 2 ^ 24 : Nat))])) ++ l)).map B8) H41 sz26 ((List.length_map _).trans (hmac_length _ _)) rfl rfl (map_one (F := B8) (fun _ => rfl) _) ((List.length_map _).trans List.length_replicate)) ?_
          rintro _ w42 H43'
          have H43 : St w [] [[(g39, Rw 26 ((hmac (lk) ((([80, 76, 69, 49]) ++ ([b8 (fr), b8 (to), b8 ((l.length : Nat)), b8 ((l.length / 2 ^ 8 : Nat)), b8 ((l.length / 2 ^ 16 : Nat)), b8 ((l.length / 2 ^ 24 : Nat))])) ++ l)).map B8))], E31, [(g22, Rw 5 ([B8 (b8 (fr)), B8 (b8 (to)), B8 (b8 ((l.length : Nat))), B8 (b8 ((l.length / 2 ^ 8 : Nat))), B8 (b8 ((l.length / 2 ^ 16 : Nat))), B8 (b8 ((l.length / 2 ^ 24 : Nat)))]))], [(g1, Rw 31 ([I (fr), I (to), bv]))]] w42 := H43'
          refine c_nil ?_
          refine n_then ?_
          refine c_seq ?_
          refine c_reg ?_
          refine sy (v := v32) (y_move rfl) ?_
          refine sy (v := .slice (some (bs g39)) 32 32) (y_slA (k1 := .i64) (k2 := .i64) (l := 0) (h := 32) Try.underlying26 sz5 rfl (.inl ⟨rfl, rfl⟩) (.inl ⟨rfl, rfl⟩) (by omega) (by omega)) ?_
          have H44 : St w [] [E31, [(g39, Rw 26 ((hmac (lk) ((([80, 76, 69, 49]) ++ ([b8 (fr), b8 (to), b8 ((l.length : Nat)), b8 ((l.length / 2 ^ 8 : Nat)), b8 ((l.length / 2 ^ 16 : Nat)), b8 ((l.length / 2 ^ 24 : Nat))])) ++ l)).map B8))], [(g22, Rw 5 ([B8 (b8 (fr)), B8 (b8 (to)), B8 (b8 ((l.length : Nat))), B8 (b8 ((l.length / 2 ^ 8 : Nat))), B8 (b8 ((l.length / 2 ^ 16 : Nat))), B8 (b8 ((l.length / 2 ^ 24 : Nat)))]))], [(g1, Rw 31 ([I (fr), I (to), bv]))]] w42 := H43.foc 1 rfl rfl
          refine st (ow_append Try.underlying23 sz5 zr5 bt5 rfl ho35 H44 rfl rfl ((rd_arr H43 0 rfl (hmac_length _ _) (by unfold maxLen; omega)).src Try.underlying23 (map_one (F := B8) (fun _ => rfl) _)) (by first | omega | (simp only [List.length_append, List.length_cons, List.length_nil, List.length_take, List.length_drop, hmac_length, sha_length, List.length_replicate]; omega)) (by first | omega | (simp only [List.length_append, List.length_cons, List.length_nil, List.length_take, List.length_drop, hmac_length, sha_length, List.length_replicate]; omega))) ?_
          rintro v46 w47 ⟨E45, ho49', H48⟩
          have ho49 : OS 5 1 v46 (((([80, 76, 69, 49]) ++ ([b8 (fr), b8 (to), b8 ((l.length : Nat)), b8 ((l.length / 2 ^ 8 : Nat)), b8 ((l.length / 2 ^ 16 : Nat)), b8 ((l.length / 2 ^ 24 : Nat))])) ++ l) ++ (hmac (lk) ((([80, 76, 69, 49]) ++ ([b8 (fr), b8 (to), b8 ((l.length : Nat)), b8 ((l.length / 2 ^ 8 : Nat)), b8 ((l.length / 2 ^ 16 : Nat)), b8 ((l.length / 2 ^ 24 : Nat))])) ++ l))).length ((((([80, 76, 69, 49]) ++ ([b8 (fr), b8 (to), b8 ((l.length : Nat)), b8 ((l.length / 2 ^ 8 : Nat)), b8 ((l.length / 2 ^ 16 : Nat)), b8 ((l.length / 2 ^ 24 : Nat))])) ++ l) ++ (hmac (lk) ((([80, 76, 69, 49]) ++ ([b8 (fr), b8 (to), b8 ((l.length : Nat)), b8 ((l.length / 2 ^ 8 : Nat)), b8 ((l.length / 2 ^ 16 : Nat)), b8 ((l.length / 2 ^ 24 : Nat))])) ++ l))).map B8) E45 := by rw [List.length_append, List.map_append]; exact ho49'
          refine sy (v := v46) (y_assign rfl) ?_
          refine sy (v := I ((0 : Nat) : Int)) (y_assign (v := I ((0 : Nat) : Int)) rfl) ?_
          refine c_nil ?_
          refine n_then ?_
          refine wp_ret ?_
          refine e_r2 Try.results28 (rv_t rfl) (rv_t rfl) ?_
          have hyes : sealOk lk fr to := by refine ⟨?_, ?_, ?_⟩ <;> first | omega | assumption | grind
          have H50 : St w [] [E45] w47 := H48.take 1 rfl
          exact ⟨_, rfl, _, _, by rw [sealEr, if_pos hyes, if_neg (by omega)]; rfl, by rw [sealL, if_pos ⟨hyes, by omega⟩]; exact ho49, H50⟩

end Go.Proofs.Ytdcmbcjkdhdohaa
