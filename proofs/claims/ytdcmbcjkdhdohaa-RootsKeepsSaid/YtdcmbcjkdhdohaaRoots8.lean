/- The walk of roots.Check. -/
import Derived.Test.YtdcmbcjkdhdohaaRoots7
namespace Go.Proofs.Ytdcmbcjkdhdohaa
open Go Go.RowKit
set_option linter.unusedSimpArgs false
set_option linter.unusedVariables false
attribute [local irreducible] wpList wpP Code.wp

attribute [local irreducible] leafH innerH topH rootH rootA sha

theorem stands_yes (root : List UInt8) (n fn : Int) (c : Cl) (pv : Value) (path : List (List UInt8)) (w : World) (hr : root.length = 32) (hn : n ≤ 9223372036854775807) (hC : CR [] w c) (hP : Rd [] w 32 pv path.length (path.flatten.map B8)) (hhp : H32 path) (hpl : path.length ≤ 1099511627776) (h : stands root n ⟨fn, c.c, path⟩) :
    Calls Try.prog 88 (([.agg (root.map B8).toArray, I n, .agg ([I fn, I c.c.k, .string (bst c.c.key), c.v, pv] : List Value).toArray] : List Value).toArray) w (fun e w' => ∃ v, e = .returned v ∧ v = .bool true ∧ Below w.heap.size w w') :=
  (stands_c root n fn c pv path w hr hn hC hP hhp hpl).mono fun e w' ⟨v, he, b, hv, hb, hB⟩ => ⟨v, he, by rw [hv, hb.2 h], hB⟩
theorem stands_no (root : List UInt8) (n fn : Int) (c : Cl) (pv : Value) (path : List (List UInt8)) (w : World) (hr : root.length = 32) (hn : n ≤ 9223372036854775807) (hC : CR [] w c) (hP : Rd [] w 32 pv path.length (path.flatten.map B8)) (hhp : H32 path) (hpl : path.length ≤ 1099511627776) (h : ¬ stands root n ⟨fn, c.c, path⟩) :
    Calls Try.prog 88 (([.agg (root.map B8).toArray, I n, .agg ([I fn, I c.c.k, .string (bst c.c.key), c.v, pv] : List Value).toArray] : List Value).toArray) w (fun e w' => ∃ v, e = .returned v ∧ v = .bool false ∧ Below w.heap.size w w') :=
  (stands_c root n fn c pv path w hr hn hC hP hhp hpl).mono fun e w' ⟨v, he, b, hv, hb, hB⟩ => ⟨v, he, by
    cases b with
    | false => exact hv
    | true => exact absurd (hb.1 rfl) h, hB⟩
theorem own_st {v v' : Value} {w w' : World} : v = v := rfl

set_option maxHeartbeats 4000000 in
set_option maxRecDepth 20000 in
theorem check_c (root : List UInt8) (kind : Int) (key : List UInt8) (n : Int) (lv : Value) (ls : List Lf) (w : World) (hr : root.length = 32) (hn : n ≤ 9223372036854775807) (hn2 : -9223372036854775808 ≤ n) (hL : LsR [] w lv ls) :
    Calls Try.prog 35 (([.agg (root.map B8).toArray, I (kind), .string (bst key), .agg ([I n, lv]).toArray] : List Value).toArray) w (fun e w' => ∃ v, e = .returned v ∧ ∃ (c' : Cl) (E : Part), v = .tuple #[.agg c'.cs.toArray, .bool (checkA root kind key n (PE ls)).2.isSome, I (((checkA root kind key n (PE ls)).1 : Nat) : Int)] ∧ c'.c = (checkA root kind key n (PE ls)).2.getD cz ∧ OS 5 1 c'.v c'.c.l.length (c'.c.l.map B8) E ∧ St w [] [E] w') := by
 have hle := hL.le
 refine calls_mk Try.func35 rfl 147 Try.ntmps35 rfl ?_
 have H0 : St w [] [] w := St.refl w
 refine c_seq ?_
 refine c_reg ?_
 refine st (ow_box (l := (root).map B8) H0 rfl rfl) ?_
 rintro _ w2 ⟨g1, rfl, H3⟩
 refine st (ow_box (l := [I (n), lv]) H3 rfl rfl) ?_
 rintro _ w5 ⟨g4, rfl, H6⟩
 refine st (ow_alloc (l := [I ((0 : Nat) : Int), .string (.empty), .slice none 0 0]) H6 zr48 rfl) ?_
 rintro _ w8 ⟨g7, rfl, H9⟩
 refine sy (v := .bool (false)) (y_assign (v := .bool (false)) rfl) ?_
 refine sy (v := I ((0 : Nat) : Int)) (y_assign (v := I ((0 : Nat) : Int)) rfl) ?_
 refine c_nil ?_
 refine n_then ?_
 refine c_seq ?_
 refine c_seq ?_
 refine c_reg ?_
 refine sy (v := I (kind)) (y_move rfl) ?_
 refine st (ow_call fn86 rfl (known_c (kind) _) ⟨rfl, trivial⟩) ?_
 rintro _ w10 ⟨rfl, hB11⟩
 have H12 : St w _ [_, _, _] w10 := H9.call hB11
 refine sy (v := .bool (decide (¬ (kMay kind)))) (y_notP rfl) ?_
 refine c_nil ?_
 refine n_then ?_
 refine c_if rfl (fun hc13 => ?_) (fun hc13 => ?_)
 ·
  refine c_seq ?_
  refine c_reg ?_
  refine sy (v := .agg ([I ((0 : Nat) : Int), .string .empty, .slice none 0 0]).toArray) (y_build (parts := []) (pv := []) (us := [I ((0 : Nat) : Int), .string (.empty), .slice none 0 0]) trivial (by kernel_rfl)) ?_
  refine s0 (ow_storeW (us := [I ((0 : Nat) : Int), .string (.empty), .slice none 0 0]) H12 sz48 rfl rfl rfl (by simp [Value.oneCell']) (by simp [*])) ?_
  rintro _ w14 H15'
  have H15 : St w _ [[(g7, Rw 48 ([I ((0 : Nat) : Int), .string (.empty), .slice none 0 0]))], _, _] w14 := H15'
  refine sy (v := .bool (false)) (y_assign (v := .bool (false)) rfl) ?_
  refine sy (v := I ((40 : Nat) : Int)) (y_assign (v := I ((40 : Nat) : Int)) rfl) ?_
  refine c_nil ?_
  refine n_then ?_
  refine wp_ret ?_
  refine r_then ?_
  refine e_r3 Try.results35 (rv_b H15 (i := 0) rfl ag48 sz48 rfl rfl) (rv_t rfl) (rv_t rfl) ?_
  have hck : checkA root kind key n (PE ls) = (40, none) := ck_kind (by assumption)
  rw [hck]
  exact ⟨_, rfl, ⟨cz, .slice none 0 0⟩, _, rfl, rfl, OS.nil 5 1, (H15.take 0 rfl).nilp⟩
 ·
  refine wp_skip ?_
  refine n_then ?_
  refine c_seq ?_
  refine drawS (.step 0 0 (.step 0 1 (.step 0 2 (.step 0 3 (.step 0 4 (.step 2 5 .nil)))))) mixed H12 (by kernel_rfl) (by kernel_rfl) (by kernel_rfl) ?_
  intro w16 H17
  refine pt (v := Ad (bs g4) (0 + 0)) rfl (fun wS HS => y_fld Try.underlying41 rfl rfl sz3 (by decide) rfl) ?_
  refine pt (v := I (n)) rfl (fun wS HS => y_load sc3 rfl (HS.cell 1 rfl rfl)) ?_
  refine pt (v := Ad (bs g4) (0 + 1)) rfl (fun wS HS => y_fld Try.underlying41 rfl rfl sz39 (by decide) rfl) ?_
  refine pt (v := lv) rfl (fun wS HS => y_load sc39 rfl (HS.cell 1 rfl rfl)) ?_
  refine pt (v := I (n)) rfl (fun wS HS => y_assign rfl) ?_
  refine tly (v := lv) rfl (y_assign rfl) ?_
  refine p_nil ?_
  refine n_then ?_
  refine c_seq ?_
  refine c_seq ?_
  by_cases hp20 : n < ((0 : Nat) : Int)
  ·
   refine drawS (.step 0 0 (.step 0 1 (.step 0 2 (.step 0 3 (.step 0 4 (.step 0 5 (.step 0 6 (.step 0 7 (.step 0 8 (.step 0 9 (.step 0 10 (.step 0 11 (.step 0 12 (.step 0 13 (.step 0 14 (.step 0 15 (.step 0 16 (.step 0 17 (.step 0 18 (.step 0 19 (.step 0 20 (.step 0 21 (.step 0 22 (.step 0 23 (.step 0 24 (.step 0 25 (.step 0 26 (.step 0 27 (.step 0 28 (.step 0 29 .nil)))))))))))))))))))))))))))))) mixed H17 (by kernel_rfl) (by kernel_rfl) (by kernel_rfl) ?_
   intro w23 H24
   refine pt (v := I (n)) rfl (fun wS HS => y_move rfl) ?_
   refine pt (v := .bool (decide (n < ((0 : Nat) : Int)))) rfl (fun wS HS => y_lss (i := n) (j := ((0 : Nat) : Int)) rfl rfl) ?_
   refine pt (v := .bool (decide (n < ((0 : Nat) : Int)))) rfl (fun wS HS => y_move rfl) ?_
   refine gpno rfl (gv_of (t := 27) rfl rfl rfl) (decide_eq_true hp20) ?_
   refine gpno rfl (gv_of (t := 27) rfl rfl rfl) (decide_eq_true hp20) ?_
   refine gpno rfl (gv_of (t := 27) rfl rfl rfl) (decide_eq_true hp20) ?_
   refine gpun rfl (gv_of (t := 30) rfl rfl rfl) ?_
   refine gpun rfl (gv_of (t := 30) rfl rfl rfl) ?_
   refine gpun rfl (gv_of (t := 30) rfl rfl rfl) ?_
   refine gpun rfl (gv_of (t := 30) rfl rfl rfl) ?_
   refine gpun rfl (gv_of (t := 34) rfl rfl rfl) ?_
   refine gpun rfl (gv_of (t := 34) rfl rfl rfl) ?_
   refine gpun rfl (gv_of (t := 34) rfl rfl rfl) ?_
   refine gpun rfl (gv_of (t := 30) rfl rfl rfl) ?_
   refine gpno rfl (gv_of (t := 27) rfl rfl rfl) (decide_eq_true hp20) ?_
   refine pt (v := .bool (true)) rfl (fun wS HS => y_pickT (v := .bool (true)) rfl (decide_eq_true hp20) rfl) ?_
   refine pt (v := .bool (true)) rfl (fun wS HS => y_move rfl) ?_
   refine gpno (t := true) (b := false) rfl (gv_of (t := 41) rfl rfl rfl) (rfl) ?_
   refine gpno (t := true) (b := false) rfl (gv_of (t := 41) rfl rfl rfl) (rfl) ?_
   refine gpno (t := true) (b := false) rfl (gv_of (t := 41) rfl rfl rfl) (rfl) ?_
   refine gpun rfl (gv_of (t := 44) rfl rfl rfl) ?_
   refine gpun rfl (gv_of (t := 44) rfl rfl rfl) ?_
   refine gpun rfl (gv_of (t := 44) rfl rfl rfl) ?_
   refine gpun rfl (gv_of (t := 44) rfl rfl rfl) ?_
   refine gpun rfl (gv_of (t := 48) rfl rfl rfl) ?_
   refine gpun rfl (gv_of (t := 48) rfl rfl rfl) ?_
   refine gpun rfl (gv_of (t := 48) rfl rfl rfl) ?_
   refine gpun rfl (gv_of (t := 44) rfl rfl rfl) ?_
   refine gpno (t := true) (b := false) rfl (gv_of (t := 41) rfl rfl rfl) (rfl) ?_
   refine pt (v := .bool (true)) rfl (fun wS HS => y_pickT (v := .bool (true)) rfl (rfl) rfl) ?_
   refine p_nil ?_
   refine n_then ?_
   refine c_t rfl rfl ?_
   refine c_seq ?_
   refine c_reg ?_
   refine sy (v := .agg ([I ((0 : Nat) : Int), .string .empty, .slice none 0 0]).toArray) (y_build (parts := []) (pv := []) (us := [I ((0 : Nat) : Int), .string (.empty), .slice none 0 0]) trivial (by kernel_rfl)) ?_
   refine s0 (ow_storeW (us := [I ((0 : Nat) : Int), .string (.empty), .slice none 0 0]) H24 sz48 rfl rfl rfl (by simp [Value.oneCell']) (by simp [*])) ?_
   rintro _ w25 H26'
   have H26 : St w _ [[(g7, Rw 48 ([I ((0 : Nat) : Int), .string (.empty), .slice none 0 0]))], _, _] w25 := H26'
   refine sy (v := .bool (false)) (y_assign (v := .bool (false)) rfl) ?_
   refine sy (v := I ((190 : Nat) : Int)) (y_assign (v := I ((190 : Nat) : Int)) rfl) ?_
   refine c_nil ?_
   refine n_then ?_
   refine wp_ret ?_
   refine r_then ?_
   refine e_r3 Try.results35 (rv_b H26 (i := 0) rfl ag48 sz48 rfl rfl) (rv_t rfl) (rv_t rfl) ?_
   have hck : checkA root kind key n (PE ls) = (190, none) := ck_no (by first | assumption | exact Decidable.not_not.1 (by assumption)) (by omega) (fun ⟨h1, h2, h3⟩ => by omega)
   rw [hck]
   exact ⟨_, rfl, ⟨cz, .slice none 0 0⟩, _, rfl, rfl, OS.nil 5 1, (H26.take 0 rfl).nilp⟩
  ·
   by_cases hp29 : n = ((0 : Nat) : Int)
   ·
    by_cases hp32 : 0 < ls.length
    ·
     refine drawS (.step 0 0 (.step 0 1 (.step 0 2 (.step 0 3 (.step 0 4 (.step 0 5 (.step 0 6 (.step 0 7 (.step 0 8 (.step 0 9 (.step 0 10 (.step 0 11 (.step 0 12 (.step 0 13 (.step 0 14 (.step 0 15 (.step 0 16 (.step 0 17 (.step 0 18 (.step 0 19 (.step 0 20 (.step 0 21 (.step 0 22 (.step 0 23 (.step 0 24 (.step 0 25 (.step 0 26 (.step 0 27 (.step 0 28 (.step 0 29 .nil)))))))))))))))))))))))))))))) mixed H17 (by kernel_rfl) (by kernel_rfl) (by kernel_rfl) ?_
     intro w35 H36
     refine pt (v := I (n)) rfl (fun wS HS => y_move rfl) ?_
     refine pt (v := .bool (decide (n < ((0 : Nat) : Int)))) rfl (fun wS HS => y_lss (i := n) (j := ((0 : Nat) : Int)) rfl rfl) ?_
     refine pt (v := .bool (decide (n < ((0 : Nat) : Int)))) rfl (fun wS HS => y_move rfl) ?_
     refine gpt (v := I (n)) rfl (gv_of (t := 27) rfl rfl rfl) (decide_eq_false hp20) (fun wS HS => y_move rfl) ?_
     refine gpt (v := .bool (decide (n = ((0 : Nat) : Int)))) rfl (gv_of (t := 27) rfl rfl rfl) (decide_eq_false hp20) (fun wS HS => y_eqlK (i := n) (j := ((0 : Nat) : Int)) rfl rfl) ?_
     refine gpt (v := .bool (decide (n = ((0 : Nat) : Int)))) rfl (gv_of (t := 27) rfl rfl rfl) (decide_eq_false hp20) (fun wS HS => y_move rfl) ?_
     refine gpt (v := lv) rfl (gv_of (t := 30) rfl rfl rfl) (decide_eq_true hp29) (fun wS HS => y_move rfl) ?_
     refine gpt (v := I ((ls.length : Nat) : Int)) rfl (gv_of (t := 30) rfl rfl rfl) (decide_eq_true hp29) (fun wS HS => y_lenR Try.underlying39 (hL.st HS).rd rfl) ?_
     refine gpt (v := .bool (decide (0 < ls.length))) rfl (gv_of (t := 30) rfl rfl rfl) (decide_eq_true hp29) (fun wS HS => n_gtr (a := ls.length) (b := 0) rfl rfl) ?_
     refine gpt (v := .bool (decide (0 < ls.length))) rfl (gv_of (t := 30) rfl rfl rfl) (decide_eq_true hp29) (fun wS HS => y_move rfl) ?_
     refine gpno rfl (gv_of (t := 34) rfl rfl rfl) (decide_eq_true hp32) ?_
     refine gpno rfl (gv_of (t := 34) rfl rfl rfl) (decide_eq_true hp32) ?_
     refine gpno rfl (gv_of (t := 34) rfl rfl rfl) (decide_eq_true hp32) ?_
     refine gpt (v := .bool (true)) rfl (gv_of (t := 30) rfl rfl rfl) (decide_eq_true hp29) (fun wS HS => y_pickT (v := .bool (true)) rfl (decide_eq_true hp32) rfl) ?_
     refine gpt (v := .bool (true)) rfl (gv_of (t := 27) rfl rfl rfl) (decide_eq_false hp20) (fun wS HS => y_pickT rfl (decide_eq_true hp29) rfl) ?_
     refine pt (v := .bool (true)) rfl (fun wS HS => y_pickF rfl (decide_eq_false hp20) rfl) ?_
     refine pt (v := .bool (true)) rfl (fun wS HS => y_move rfl) ?_
     refine gpno (t := true) (b := false) rfl (gv_of (t := 41) rfl rfl rfl) (rfl) ?_
     refine gpno (t := true) (b := false) rfl (gv_of (t := 41) rfl rfl rfl) (rfl) ?_
     refine gpno (t := true) (b := false) rfl (gv_of (t := 41) rfl rfl rfl) (rfl) ?_
     refine gpun rfl (gv_of (t := 44) rfl rfl rfl) ?_
     refine gpun rfl (gv_of (t := 44) rfl rfl rfl) ?_
     refine gpun rfl (gv_of (t := 44) rfl rfl rfl) ?_
     refine gpun rfl (gv_of (t := 44) rfl rfl rfl) ?_
     refine gpun rfl (gv_of (t := 48) rfl rfl rfl) ?_
     refine gpun rfl (gv_of (t := 48) rfl rfl rfl) ?_
     refine gpun rfl (gv_of (t := 48) rfl rfl rfl) ?_
     refine gpun rfl (gv_of (t := 44) rfl rfl rfl) ?_
     refine gpno (t := true) (b := false) rfl (gv_of (t := 41) rfl rfl rfl) (rfl) ?_
     refine pt (v := .bool (true)) rfl (fun wS HS => y_pickT (v := .bool (true)) rfl (rfl) rfl) ?_
     refine p_nil ?_
     refine n_then ?_
     refine c_t rfl rfl ?_
     refine c_seq ?_
     refine c_reg ?_
     refine sy (v := .agg ([I ((0 : Nat) : Int), .string .empty, .slice none 0 0]).toArray) (y_build (parts := []) (pv := []) (us := [I ((0 : Nat) : Int), .string (.empty), .slice none 0 0]) trivial (by kernel_rfl)) ?_
     refine s0 (ow_storeW (us := [I ((0 : Nat) : Int), .string (.empty), .slice none 0 0]) H36 sz48 rfl rfl rfl (by simp [Value.oneCell']) (by simp [*])) ?_
     rintro _ w37 H38'
     have H38 : St w _ [[(g7, Rw 48 ([I ((0 : Nat) : Int), .string (.empty), .slice none 0 0]))], _, _] w37 := H38'
     refine sy (v := .bool (false)) (y_assign (v := .bool (false)) rfl) ?_
     refine sy (v := I ((190 : Nat) : Int)) (y_assign (v := I ((190 : Nat) : Int)) rfl) ?_
     refine c_nil ?_
     refine n_then ?_
     refine wp_ret ?_
     refine r_then ?_
     refine e_r3 Try.results35 (rv_b H38 (i := 0) rfl ag48 sz48 rfl rfl) (rv_t rfl) (rv_t rfl) ?_
     have hck : checkA root kind key n (PE ls) = (190, none) := ck_no (by first | assumption | exact Decidable.not_not.1 (by assumption)) (by omega) (fun ⟨h1, h2, h3⟩ => by omega)
     rw [hck]
     exact ⟨_, rfl, ⟨cz, .slice none 0 0⟩, _, rfl, rfl, OS.nil 5 1, (H38.take 0 rfl).nilp⟩
    ·
     by_cases hp44 : (topH 0 ([] : List UInt8)) ≠ root
     ·
      refine drawS (.step 0 0 (.step 0 1 (.step 0 2 (.step 0 3 (.step 0 4 (.step 0 5 (.step 0 6 (.step 0 7 (.step 0 8 (.step 0 9 (.step 0 11 (.step 1 10 (.step 0 12 (.step 0 13 (.step 0 14 (.step 0 15 (.step 0 16 (.step 0 17 (.step 0 18 (.step 0 19 (.step 0 20 (.step 0 21 (.step 0 22 (.step 0 23 (.step 0 24 (.step 0 25 (.step 0 26 (.step 0 27 (.step 0 28 (.step 0 29 .nil)))))))))))))))))))))))))))))) mixed H17 (by kernel_rfl) (by kernel_rfl) (by kernel_rfl) ?_
      intro w45 H46
      refine pt (v := I (n)) rfl (fun wS HS => y_move rfl) ?_
      refine pt (v := .bool (decide (n < ((0 : Nat) : Int)))) rfl (fun wS HS => y_lss (i := n) (j := ((0 : Nat) : Int)) rfl rfl) ?_
      refine pt (v := .bool (decide (n < ((0 : Nat) : Int)))) rfl (fun wS HS => y_move rfl) ?_
      refine gpt (v := I (n)) rfl (gv_of (t := 27) rfl rfl rfl) (decide_eq_false hp20) (fun wS HS => y_move rfl) ?_
      refine gpt (v := .bool (decide (n = ((0 : Nat) : Int)))) rfl (gv_of (t := 27) rfl rfl rfl) (decide_eq_false hp20) (fun wS HS => y_eqlK (i := n) (j := ((0 : Nat) : Int)) rfl rfl) ?_
      refine gpt (v := .bool (decide (n = ((0 : Nat) : Int)))) rfl (gv_of (t := 27) rfl rfl rfl) (decide_eq_false hp20) (fun wS HS => y_move rfl) ?_
      refine gpt (v := lv) rfl (gv_of (t := 30) rfl rfl rfl) (decide_eq_true hp29) (fun wS HS => y_move rfl) ?_
      refine gpt (v := I ((ls.length : Nat) : Int)) rfl (gv_of (t := 30) rfl rfl rfl) (decide_eq_true hp29) (fun wS HS => y_lenR Try.underlying39 (hL.st HS).rd rfl) ?_
      refine gpt (v := .bool (decide (0 < ls.length))) rfl (gv_of (t := 30) rfl rfl rfl) (decide_eq_true hp29) (fun wS HS => n_gtr (a := ls.length) (b := 0) rfl rfl) ?_
      refine gpt (v := .bool (decide (0 < ls.length))) rfl (gv_of (t := 30) rfl rfl rfl) (decide_eq_true hp29) (fun wS HS => y_move rfl) ?_
      refine gpt (v := .agg (root.map B8).toArray) rfl (gv_of (t := 34) rfl rfl rfl) (decide_eq_false hp32) (fun wS HS => y_loadA (us := (root).map B8) ag26 sz26 ((List.length_map _).trans hr) rfl (fun j u hu => (HS.cell 2 rfl (by rw [Nat.zero_add]; exact hu)))) ?_
      refine gpl rfl (gv_of (t := 34) rfl rfl rfl) (decide_eq_false hp32) (ow_call fn87 rfl (top_c (0) (.slice none 0 0) (([] : List UInt8)) _ rd8_nil (by simp) (by omega)) ⟨rfl, rfl, trivial⟩) ?_
      rintro _ w47 ⟨rfl, hB48⟩
      have H49 : St w _ [_, _, _] w47 := H46.call hB48
      refine ⟨H49, ?_⟩
      refine gpt (v := .bool (decide ((topH 0 ([] : List UInt8)) ≠ root))) rfl (gv_of (t := 34) rfl rfl rfl) (decide_eq_false hp32) (fun wS HS => y_neqArr (l1 := topH 0 ([] : List UInt8)) (l2 := root) Try.underlying26 sz5 sc5 Try.underlying5 gt26 (topH_len 0 ([] : List UInt8)) hr rfl rfl) ?_
      refine gpt (v := .bool (decide ((topH 0 ([] : List UInt8)) ≠ root))) rfl (gv_of (t := 30) rfl rfl rfl) (decide_eq_true hp29) (fun wS HS => y_pickF rfl (decide_eq_false hp32) rfl) ?_
      refine gpt (v := .bool (decide ((topH 0 ([] : List UInt8)) ≠ root))) rfl (gv_of (t := 27) rfl rfl rfl) (decide_eq_false hp20) (fun wS HS => y_pickT rfl (decide_eq_true hp29) rfl) ?_
      refine pt (v := .bool (decide ((topH 0 ([] : List UInt8)) ≠ root))) rfl (fun wS HS => y_pickF rfl (decide_eq_false hp20) rfl) ?_
      refine pt (v := .bool (decide ((topH 0 ([] : List UInt8)) ≠ root))) rfl (fun wS HS => y_move rfl) ?_
      refine gpno rfl (gv_of (t := 41) rfl rfl rfl) (decide_eq_true hp44) ?_
      refine gpno rfl (gv_of (t := 41) rfl rfl rfl) (decide_eq_true hp44) ?_
      refine gpno rfl (gv_of (t := 41) rfl rfl rfl) (decide_eq_true hp44) ?_
      refine gpun rfl (gv_of (t := 44) rfl rfl rfl) ?_
      refine gpun rfl (gv_of (t := 44) rfl rfl rfl) ?_
      refine gpun rfl (gv_of (t := 44) rfl rfl rfl) ?_
      refine gpun rfl (gv_of (t := 44) rfl rfl rfl) ?_
      refine gpun rfl (gv_of (t := 48) rfl rfl rfl) ?_
      refine gpun rfl (gv_of (t := 48) rfl rfl rfl) ?_
      refine gpun rfl (gv_of (t := 48) rfl rfl rfl) ?_
      refine gpun rfl (gv_of (t := 44) rfl rfl rfl) ?_
      refine gpno rfl (gv_of (t := 41) rfl rfl rfl) (decide_eq_true hp44) ?_
      refine pt (v := .bool (true)) rfl (fun wS HS => y_pickT (v := .bool (true)) rfl (decide_eq_true hp44) rfl) ?_
      refine p_nil ?_
      refine n_then ?_
      refine c_t rfl rfl ?_
      refine c_seq ?_
      refine c_reg ?_
      refine sy (v := .agg ([I ((0 : Nat) : Int), .string .empty, .slice none 0 0]).toArray) (y_build (parts := []) (pv := []) (us := [I ((0 : Nat) : Int), .string (.empty), .slice none 0 0]) trivial (by kernel_rfl)) ?_
      refine s0 (ow_storeW (us := [I ((0 : Nat) : Int), .string (.empty), .slice none 0 0]) H49 sz48 rfl rfl rfl (by simp [Value.oneCell']) (by simp [*])) ?_
      rintro _ w50 H51'
      have H51 : St w _ [[(g7, Rw 48 ([I ((0 : Nat) : Int), .string (.empty), .slice none 0 0]))], _, _] w50 := H51'
      refine sy (v := .bool (false)) (y_assign (v := .bool (false)) rfl) ?_
      refine sy (v := I ((190 : Nat) : Int)) (y_assign (v := I ((190 : Nat) : Int)) rfl) ?_
      refine c_nil ?_
      refine n_then ?_
      refine wp_ret ?_
      refine r_then ?_
      refine e_r3 Try.results35 (rv_b H51 (i := 0) rfl ag48 sz48 rfl rfl) (rv_t rfl) (rv_t rfl) ?_
      have hck : checkA root kind key n (PE ls) = (190, none) := by
       rw [ck_top (by first | assumption | exact Decidable.not_not.1 (by assumption)) (by omega) (by omega), if_neg (by assumption)]
      rw [hck]
      exact ⟨_, rfl, ⟨cz, .slice none 0 0⟩, _, rfl, rfl, OS.nil 5 1, (H51.take 0 rfl).nilp⟩
     ·
      refine drawS (.step 0 0 (.step 0 1 (.step 0 2 (.step 0 3 (.step 0 4 (.step 0 5 (.step 0 6 (.step 0 7 (.step 0 8 (.step 0 9 (.step 0 11 (.step 1 10 (.step 0 12 (.step 0 13 (.step 0 14 (.step 0 15 (.step 0 16 (.step 0 17 (.step 0 18 (.step 0 19 (.step 0 20 (.step 0 21 (.step 0 22 (.step 0 23 (.step 0 24 (.step 0 25 (.step 0 26 (.step 0 27 (.step 0 28 (.step 0 29 .nil)))))))))))))))))))))))))))))) mixed H17 (by kernel_rfl) (by kernel_rfl) (by kernel_rfl) ?_
      intro w52 H53
      refine pt (v := I (n)) rfl (fun wS HS => y_move rfl) ?_
      refine pt (v := .bool (decide (n < ((0 : Nat) : Int)))) rfl (fun wS HS => y_lss (i := n) (j := ((0 : Nat) : Int)) rfl rfl) ?_
      refine pt (v := .bool (decide (n < ((0 : Nat) : Int)))) rfl (fun wS HS => y_move rfl) ?_
      refine gpt (v := I (n)) rfl (gv_of (t := 27) rfl rfl rfl) (decide_eq_false hp20) (fun wS HS => y_move rfl) ?_
      refine gpt (v := .bool (decide (n = ((0 : Nat) : Int)))) rfl (gv_of (t := 27) rfl rfl rfl) (decide_eq_false hp20) (fun wS HS => y_eqlK (i := n) (j := ((0 : Nat) : Int)) rfl rfl) ?_
      refine gpt (v := .bool (decide (n = ((0 : Nat) : Int)))) rfl (gv_of (t := 27) rfl rfl rfl) (decide_eq_false hp20) (fun wS HS => y_move rfl) ?_
      refine gpt (v := lv) rfl (gv_of (t := 30) rfl rfl rfl) (decide_eq_true hp29) (fun wS HS => y_move rfl) ?_
      refine gpt (v := I ((ls.length : Nat) : Int)) rfl (gv_of (t := 30) rfl rfl rfl) (decide_eq_true hp29) (fun wS HS => y_lenR Try.underlying39 (hL.st HS).rd rfl) ?_
      refine gpt (v := .bool (decide (0 < ls.length))) rfl (gv_of (t := 30) rfl rfl rfl) (decide_eq_true hp29) (fun wS HS => n_gtr (a := ls.length) (b := 0) rfl rfl) ?_
      refine gpt (v := .bool (decide (0 < ls.length))) rfl (gv_of (t := 30) rfl rfl rfl) (decide_eq_true hp29) (fun wS HS => y_move rfl) ?_
      refine gpt (v := .agg (root.map B8).toArray) rfl (gv_of (t := 34) rfl rfl rfl) (decide_eq_false hp32) (fun wS HS => y_loadA (us := (root).map B8) ag26 sz26 ((List.length_map _).trans hr) rfl (fun j u hu => (HS.cell 2 rfl (by rw [Nat.zero_add]; exact hu)))) ?_
      refine gpl rfl (gv_of (t := 34) rfl rfl rfl) (decide_eq_false hp32) (ow_call fn87 rfl (top_c (0) (.slice none 0 0) (([] : List UInt8)) _ rd8_nil (by simp) (by omega)) ⟨rfl, rfl, trivial⟩) ?_
      rintro _ w54 ⟨rfl, hB55⟩
      have H56 : St w _ [_, _, _] w54 := H53.call hB55
      refine ⟨H56, ?_⟩
      refine gpt (v := .bool (decide ((topH 0 ([] : List UInt8)) ≠ root))) rfl (gv_of (t := 34) rfl rfl rfl) (decide_eq_false hp32) (fun wS HS => y_neqArr (l1 := topH 0 ([] : List UInt8)) (l2 := root) Try.underlying26 sz5 sc5 Try.underlying5 gt26 (topH_len 0 ([] : List UInt8)) hr rfl rfl) ?_
      refine gpt (v := .bool (decide ((topH 0 ([] : List UInt8)) ≠ root))) rfl (gv_of (t := 30) rfl rfl rfl) (decide_eq_true hp29) (fun wS HS => y_pickF rfl (decide_eq_false hp32) rfl) ?_
      refine gpt (v := .bool (decide ((topH 0 ([] : List UInt8)) ≠ root))) rfl (gv_of (t := 27) rfl rfl rfl) (decide_eq_false hp20) (fun wS HS => y_pickT rfl (decide_eq_true hp29) rfl) ?_
      refine pt (v := .bool (decide ((topH 0 ([] : List UInt8)) ≠ root))) rfl (fun wS HS => y_pickF rfl (decide_eq_false hp20) rfl) ?_
      refine pt (v := .bool (decide ((topH 0 ([] : List UInt8)) ≠ root))) rfl (fun wS HS => y_move rfl) ?_
      refine gpt (v := I (n)) rfl (gv_of (t := 41) rfl rfl rfl) (decide_eq_false hp44) (fun wS HS => y_move rfl) ?_
      refine gpt (v := .bool (decide (((0 : Nat) : Int) < n))) rfl (gv_of (t := 41) rfl rfl rfl) (decide_eq_false hp44) (fun wS HS => y_gtr (i := n) (j := ((0 : Nat) : Int)) rfl rfl) ?_
      refine gpt (v := .bool (decide (((0 : Nat) : Int) < n))) rfl (gv_of (t := 41) rfl rfl rfl) (decide_eq_false hp44) (fun wS HS => y_move rfl) ?_
      have hq57 : ¬ (((0 : Nat) : Int) < n) := (by omega)
      refine gpno rfl (gv_of (t := 44) rfl rfl rfl) (decide_eq_false hq57) ?_
      refine gpno rfl (gv_of (t := 44) rfl rfl rfl) (decide_eq_false hq57) ?_
      refine gpno rfl (gv_of (t := 44) rfl rfl rfl) (decide_eq_false hq57) ?_
      refine gpno rfl (gv_of (t := 44) rfl rfl rfl) (decide_eq_false hq57) ?_
      refine gpun rfl (gv_of (t := 48) rfl rfl rfl) ?_
      refine gpun rfl (gv_of (t := 48) rfl rfl rfl) ?_
      refine gpun rfl (gv_of (t := 48) rfl rfl rfl) ?_
      refine gpno rfl (gv_of (t := 44) rfl rfl rfl) (decide_eq_false hq57) ?_
      refine gpt (v := .bool (false)) rfl (gv_of (t := 41) rfl rfl rfl) (decide_eq_false hp44) (fun wS HS => y_pickF (v := .bool (false)) rfl (decide_eq_false hq57) rfl) ?_
      refine pt (v := .bool (false)) rfl (fun wS HS => y_pickF rfl (decide_eq_false hp44) rfl) ?_
      refine p_nil ?_
      refine n_then ?_
      refine c_f rfl rfl ?_
      refine wp_skip ?_
      refine n_then ?_
      refine c_seq ?_
      refine c_seq ?_
      refine c_reg ?_
      refine sy (v := lv) (y_move rfl) ?_
      refine sy (v := I ((ls.length : Nat) : Int)) (y_lenR Try.underlying39 (hL.st H56).rd rfl) ?_
      refine sy (v := I ((0 : Nat) : Int)) (y_move (v := I ((0 : Nat) : Int)) rfl) ?_
      refine c_nil ?_
      refine n_then ?_
      refine wp_block ?_
      refine c_loop (fun (j : Nat) f58 w59 => f58 1 = I (kind) ∧ f58 2 = .string (bst key) ∧ f58 4 = Ad (bs g1) (0) ∧ f58 8 = Ad (bs g7) (0) ∧ f58 11 = I (n) ∧ f58 12 = lv ∧ f58 56 = lv ∧ f58 57 = I ((ls.length : Nat) : Int) ∧ f58 58 = I ((j : Nat) : Int) ∧ j ≤ ls.length ∧ (∀ q, q < j → stands root n (ls.getD q lf0).e) ∧ St w [] [[(g7, Rw 48 ([I ((0 : Nat) : Int), .string (.empty), .slice none 0 0]))], [(g4, Rw 41 ([I (n), lv]))], [(g1, Rw 26 ((root).map B8))]] w59) (fun j => ls.length - j) 0 ⟨rfl, rfl, rfl, rfl, rfl, rfl, rfl, rfl, rfl, (Nat.zero_le _), (fun q hq => absurd hq (by omega)), H56⟩ ?_
      rintro j f58 w59 ⟨s1_60, s2_60, s4_60, s8_60, s11_60, s12_60, s56_60, s57_60, s58_60, hj, hz, H60⟩
      refine c_seq ?_
      refine c_reg ?_
      refine sy (v := .bool (decide (j < ls.length))) (n_lss (a := j) (b := ls.length) s58_60 s57_60) ?_
      refine c_nil ?_
      refine n_then ?_
      refine c_seq ?_
      refine c_if rfl (fun hc61 => ?_) (fun hc61 => ?_)
      ·
       refine wp_skip ?_
       refine n_then ?_
       refine c_seq ?_
       refine wp_block ?_
       refine c_seq ?_
       refine c_reg ?_
       refine sy (v := Ad (sp (lv)) (j * 5)) (y_ixR (m := j) Try.underlying39 sz74 (hL.st H60).rd (by decide) s56_60 s58_60 rfl (by omega)) ?_
       refine sy (v := .agg ([I ((ls.getD j lf0).n), I (((ls.getD j lf0).cell).c.k), .string (bst (((ls.getD j lf0).cell).c.key)), ((ls.getD j lf0).cell).v, (ls.getD j lf0).pv]).toArray) (y_loadA (us := (ls.getD j lf0).cs) ag74 sz74 rfl rfl (fun j u hu => (hL.st H60).rd.cell _ _ (flat5_get (by omega) hu))) ?_
       refine st (ow_alloc (l := [I ((0 : Nat) : Int), I ((0 : Nat) : Int), .string (.empty), .slice none 0 0, .slice none 0 0]) H60 zr74 rfl) ?_
       rintro _ w63 ⟨g62, rfl, H64⟩
       refine s0 (ow_storeW (us := [I ((ls.getD j lf0).n), I (((ls.getD j lf0).cell).c.k), .string (bst (((ls.getD j lf0).cell).c.key)), ((ls.getD j lf0).cell).v, (ls.getD j lf0).pv]) H64 sz74 rfl rfl rfl (by intro u hu; simp only [List.mem_cons, List.not_mem_nil, or_false] at hu; rcases hu with rfl | rfl | rfl | rfl | rfl <;> first | rfl | exact Rd.one (((hL.at (d := lf0) (i := j) (by omega)).cell).1.st H64) | exact Rd.one ((hL.at (d := lf0) (i := j) (by omega)).rd.st H64)) (by simp [*])) ?_
       rintro _ w65 H66'
       have H66 : St w _ [[(g62, Rw 74 ([I ((ls.getD j lf0).n), I (((ls.getD j lf0).cell).c.k), .string (bst (((ls.getD j lf0).cell).c.key)), ((ls.getD j lf0).cell).v, (ls.getD j lf0).pv]))], _, _, _] w65 := H66'
       refine c_nil ?_
       refine n_then ?_
       refine c_seq ?_
       refine c_reg ?_
       refine sy (v := .agg (root.map B8).toArray) (y_loadA (us := (root).map B8) ag26 sz26 ((List.length_map _).trans hr) s4_60 (fun j u hu => (H66.cell 3 rfl (by rw [Nat.zero_add]; exact hu)))) ?_
       refine sy (v := I (n)) (y_move s11_60) ?_
       refine sy (v := .agg ([I ((ls.getD j lf0).n), I (((ls.getD j lf0).cell).c.k), .string (bst (((ls.getD j lf0).cell).c.key)), ((ls.getD j lf0).cell).v, (ls.getD j lf0).pv]).toArray) (y_loadA (us := [I ((ls.getD j lf0).n), I (((ls.getD j lf0).cell).c.k), .string (bst (((ls.getD j lf0).cell).c.key)), ((ls.getD j lf0).cell).v, (ls.getD j lf0).pv]) ag74 sz74 rfl rfl (fun j u hu => (H66.cell 0 rfl (by rw [Nat.zero_add]; exact hu)))) ?_
       by_cases hp67 : stands root n (ls.getD j lf0).e
       ·
        have hh70 := (LR.st (hL.at (d := lf0) (i := j) (by omega)) H66).nil
        refine st (ow_call fn88 rfl (stands_yes root n _ _ _ _ _ hr hn hh70.cell hh70.rd hh70.h32 hh70.le hp67) ⟨rfl, rfl, rfl, trivial⟩) ?_
        rintro _ w68 ⟨rfl, hB69⟩
        have H71 : St w _ [_, _, _, _] w68 := H66.call hB69
        refine sy (v := .bool (false)) (y_not (p := true) rfl) ?_
        refine c_nil ?_
        refine n_then ?_
        refine c_f rfl rfl ?_
        refine wp_skip ?_
        refine n_block (n_then ?_)
        refine c_reg ?_
        refine sy (v := I ((j + 1 : Nat) : Int)) (n_add (a := j) (b := 1) s58_60 rfl (by omega)) ?_
        refine sy (v := I ((j + 1 : Nat) : Int)) (y_move rfl) ?_
        refine c_nil ?_
        have H72 : St w _ [_, _, _, _] w68 := H71.foc 3 rfl rfl
        have H73 : St w _ [_, _, _, _] w68 := H72.foc 3 rfl rfl
        have H74 : St w _ [_, _, _, _] w68 := H73.foc 3 rfl rfl
        have H75 : St w _ [_, _, _] w68 := H74.take 3 rfl
        exact lp_next (j + 1) ⟨s1_60, s2_60, s4_60, s8_60, s11_60, s12_60, s56_60, s57_60, rfl, (by omega), (fun q hq => by
         by_cases e : q = j
         · rw [e]; assumption
         · exact hz q (by omega)), H75⟩ (by show _ < _; omega)
       ·
        have hh78 := (LR.st (hL.at (d := lf0) (i := j) (by omega)) H66).nil
        refine st (ow_call fn88 rfl (stands_no root n _ _ _ _ _ hr hn hh78.cell hh78.rd hh78.h32 hh78.le hp67) ⟨rfl, rfl, rfl, trivial⟩) ?_
        rintro _ w76 ⟨rfl, hB77⟩
        have H79 : St w _ [_, _, _, _] w76 := H66.call hB77
        refine sy (v := .bool (true)) (y_not (p := false) rfl) ?_
        refine c_nil ?_
        refine n_then ?_
        refine c_t rfl rfl ?_
        refine c_seq ?_
        refine c_reg ?_
        refine sy (v := .agg ([I ((0 : Nat) : Int), .string .empty, .slice none 0 0]).toArray) (y_build (parts := []) (pv := []) (us := [I ((0 : Nat) : Int), .string (.empty), .slice none 0 0]) trivial (by kernel_rfl)) ?_
        have H80 : St w _ [_, _, _, _] w76 := H79.foc 1 rfl rfl
        refine s0 (ow_storeW (us := [I ((0 : Nat) : Int), .string (.empty), .slice none 0 0]) H80 sz48 rfl s8_60 rfl (by simp [Value.oneCell']) (by simp [*])) ?_
        rintro _ w81 H82'
        have H82 : St w _ [[(g7, Rw 48 ([I ((0 : Nat) : Int), .string (.empty), .slice none 0 0]))], _, _, _] w81 := H82'
        refine sy (v := .bool (false)) (y_assign (v := .bool (false)) rfl) ?_
        refine sy (v := I ((190 : Nat) : Int)) (y_assign (v := I ((190 : Nat) : Int)) rfl) ?_
        refine c_nil ?_
        refine n_then ?_
        refine wp_ret ?_
        refine r_block (r_then (r_then (r_block (r_then ?_))))
        refine e_r3 Try.results35 (rv_b H82 (i := 0) rfl ag48 sz48 rfl s8_60) (rv_t rfl) (rv_t rfl) ?_
        have hck : checkA root kind key n (PE ls) = (190, none) := ck_no (by first | assumption | exact Decidable.not_not.1 (by assumption)) (by omega) (fun ⟨h1, h2, h3⟩ => absurd (h3 _ (pe_mem (j := j) (by omega))) (by assumption))
        rw [hck]
        exact ⟨_, rfl, ⟨cz, .slice none 0 0⟩, _, rfl, rfl, OS.nil 5 1, (H82.take 0 rfl).nilp⟩
      ·
       obtain rfl : j = ls.length := by omega
       have hal : ∀ f ∈ PE ls, stands root n f := pe_all hz
       have hk' : kMay kind := by first | assumption | exact Decidable.not_not.1 (by assumption)
       refine wp_exit ?_
       refine x_then (x_then (x_hit (n_then ?_)))
       refine c_seq ?_
       refine c_reg ?_
       refine sy (v := I (n)) (y_move s11_60) ?_
       refine sy (v := .bool (decide (n = ((0 : Nat) : Int)))) (y_eqlK (i := n) (j := ((0 : Nat) : Int)) rfl rfl) ?_
       refine sy (v := .bool (decide (n = ((0 : Nat) : Int)))) (y_assign rfl) ?_
       refine c_nil ?_
       refine n_then ?_
       refine c_seq ?_
       refine c_seq ?_
       refine c_reg ?_
       refine sy (v := lv) (y_move s12_60) ?_
       refine sy (v := I ((ls.length : Nat) : Int)) (y_lenR Try.underlying39 (hL.st H60).rd rfl) ?_
       refine c_nil ?_
       refine n_then ?_
       refine wp_block ?_
       refine c_seq ?_
       refine c_reg ?_
       refine sy (v := .bool (decide (ls.length = 1))) (n_eql (a := ls.length) (b := 1) rfl rfl) ?_
       refine sy (v := .bool (decide (ls.length = 1))) (y_assign rfl) ?_
       refine c_nil ?_
       refine n_then ?_
       have hq83 : ¬ (ls.length = 1) := (by omega)
       refine c_f rfl (decide_eq_false hq83) ?_
       refine c_seq ?_
       refine c_reg ?_
       refine sy (v := .bool (decide (ls.length = 2))) (n_eql (a := ls.length) (b := 2) rfl rfl) ?_
       refine sy (v := .bool (decide (ls.length = 2))) (y_assign rfl) ?_
       refine c_nil ?_
       refine n_then ?_
       have hq84 : ¬ (ls.length = 2) := (by omega)
       refine c_f rfl (decide_eq_false hq84) ?_
       refine wp_skip ?_
       refine n_block (n_then ?_)
       refine c_seq ?_
       refine c_seq ?_
       refine c_reg ?_
       refine sy (v := .bool (decide (n = ((0 : Nat) : Int)))) (y_move rfl) ?_
       refine sy (v := .bool (decide (¬ (n = ((0 : Nat) : Int))))) (y_notP rfl) ?_
       refine c_nil ?_
       refine n_then ?_
       refine c_f rfl (decide_eq_false (not_not_intro hp29)) ?_
       refine wp_skip ?_
       refine n_then ?_
       refine c_seq ?_
       refine c_reg ?_
       refine sy (v := .agg ([I ((0 : Nat) : Int), .string .empty, .slice none 0 0]).toArray) (y_build (parts := []) (pv := []) (us := [I ((0 : Nat) : Int), .string (.empty), .slice none 0 0]) trivial (by kernel_rfl)) ?_
       refine s0 (ow_storeW (us := [I ((0 : Nat) : Int), .string (.empty), .slice none 0 0]) H60 sz48 rfl s8_60 rfl (by simp [Value.oneCell']) (by simp [*])) ?_
       rintro _ w85 H86'
       have H86 : St w _ [[(g7, Rw 48 ([I ((0 : Nat) : Int), .string (.empty), .slice none 0 0]))], _, _] w85 := H86'
       refine sy (v := .bool (false)) (y_assign (v := .bool (false)) rfl) ?_
       refine sy (v := I ((0 : Nat) : Int)) (y_assign (v := I ((0 : Nat) : Int)) rfl) ?_
       refine c_nil ?_
       refine n_then ?_
       refine wp_ret ?_
       refine e_r3 Try.results35 (rv_b H86 (i := 0) rfl ag48 sz48 rfl s8_60) (rv_t rfl) (rv_t rfl) ?_
       have hck : checkA root kind key n (PE ls) = (0, none) := by
        rw [ck_top (by first | assumption | exact Decidable.not_not.1 (by assumption)) (by omega) (by omega), if_pos (by first | assumption | exact Decidable.not_not.1 (by assumption))]
       rw [hck]
       exact ⟨_, rfl, ⟨cz, .slice none 0 0⟩, _, rfl, rfl, OS.nil 5 1, (H86.take 0 rfl).nilp⟩
   ·
    by_cases hp92 : ls.length < 1
    ·
     refine drawS (.step 0 0 (.step 0 1 (.step 0 2 (.step 0 3 (.step 0 4 (.step 0 5 (.step 0 6 (.step 0 7 (.step 0 8 (.step 0 9 (.step 0 10 (.step 0 11 (.step 0 12 (.step 0 13 (.step 0 14 (.step 0 15 (.step 0 16 (.step 0 17 (.step 0 18 (.step 0 19 (.step 0 20 (.step 0 21 (.step 0 22 (.step 0 23 (.step 0 24 (.step 0 25 (.step 0 26 (.step 0 27 (.step 0 28 (.step 0 29 .nil)))))))))))))))))))))))))))))) mixed H17 (by kernel_rfl) (by kernel_rfl) (by kernel_rfl) ?_
     intro w95 H96
     refine pt (v := I (n)) rfl (fun wS HS => y_move rfl) ?_
     refine pt (v := .bool (decide (n < ((0 : Nat) : Int)))) rfl (fun wS HS => y_lss (i := n) (j := ((0 : Nat) : Int)) rfl rfl) ?_
     refine pt (v := .bool (decide (n < ((0 : Nat) : Int)))) rfl (fun wS HS => y_move rfl) ?_
     refine gpt (v := I (n)) rfl (gv_of (t := 27) rfl rfl rfl) (decide_eq_false hp20) (fun wS HS => y_move rfl) ?_
     refine gpt (v := .bool (decide (n = ((0 : Nat) : Int)))) rfl (gv_of (t := 27) rfl rfl rfl) (decide_eq_false hp20) (fun wS HS => y_eqlK (i := n) (j := ((0 : Nat) : Int)) rfl rfl) ?_
     refine gpt (v := .bool (decide (n = ((0 : Nat) : Int)))) rfl (gv_of (t := 27) rfl rfl rfl) (decide_eq_false hp20) (fun wS HS => y_move rfl) ?_
     refine gpno rfl (gv_of (t := 30) rfl rfl rfl) (decide_eq_false hp29) ?_
     refine gpno rfl (gv_of (t := 30) rfl rfl rfl) (decide_eq_false hp29) ?_
     refine gpno rfl (gv_of (t := 30) rfl rfl rfl) (decide_eq_false hp29) ?_
     refine gpno rfl (gv_of (t := 30) rfl rfl rfl) (decide_eq_false hp29) ?_
     refine gpun rfl (gv_of (t := 34) rfl rfl rfl) ?_
     refine gpun rfl (gv_of (t := 34) rfl rfl rfl) ?_
     refine gpun rfl (gv_of (t := 34) rfl rfl rfl) ?_
     refine gpno rfl (gv_of (t := 30) rfl rfl rfl) (decide_eq_false hp29) ?_
     refine gpt (v := .bool (false)) rfl (gv_of (t := 27) rfl rfl rfl) (decide_eq_false hp20) (fun wS HS => y_pickF (v := .bool (false)) rfl (decide_eq_false hp29) rfl) ?_
     refine pt (v := .bool (false)) rfl (fun wS HS => y_pickF rfl (decide_eq_false hp20) rfl) ?_
     refine pt (v := .bool (false)) rfl (fun wS HS => y_move rfl) ?_
     refine gpt (v := I (n)) rfl (gv_of (t := 41) rfl rfl rfl) (rfl) (fun wS HS => y_move rfl) ?_
     refine gpt (v := .bool (decide (((0 : Nat) : Int) < n))) rfl (gv_of (t := 41) rfl rfl rfl) (rfl) (fun wS HS => y_gtr (i := n) (j := ((0 : Nat) : Int)) rfl rfl) ?_
     refine gpt (v := .bool (decide (((0 : Nat) : Int) < n))) rfl (gv_of (t := 41) rfl rfl rfl) (rfl) (fun wS HS => y_move rfl) ?_
     have hq97 : ((0 : Nat) : Int) < n := (by omega)
     refine gpt (v := lv) rfl (gv_of (t := 44) rfl rfl rfl) (decide_eq_true hq97) (fun wS HS => y_move rfl) ?_
     refine gpt (v := I ((ls.length : Nat) : Int)) rfl (gv_of (t := 44) rfl rfl rfl) (decide_eq_true hq97) (fun wS HS => y_lenR Try.underlying39 (hL.st HS).rd rfl) ?_
     refine gpt (v := .bool (decide (ls.length < 1))) rfl (gv_of (t := 44) rfl rfl rfl) (decide_eq_true hq97) (fun wS HS => n_lss (a := ls.length) (b := 1) rfl rfl) ?_
     refine gpt (v := .bool (decide (ls.length < 1))) rfl (gv_of (t := 44) rfl rfl rfl) (decide_eq_true hq97) (fun wS HS => y_move rfl) ?_
     refine gpno rfl (gv_of (t := 48) rfl rfl rfl) (decide_eq_true hp92) ?_
     refine gpno rfl (gv_of (t := 48) rfl rfl rfl) (decide_eq_true hp92) ?_
     refine gpno rfl (gv_of (t := 48) rfl rfl rfl) (decide_eq_true hp92) ?_
     refine gpt (v := .bool (true)) rfl (gv_of (t := 44) rfl rfl rfl) (decide_eq_true hq97) (fun wS HS => y_pickT (v := .bool (true)) rfl (decide_eq_true hp92) rfl) ?_
     refine gpt (v := .bool (true)) rfl (gv_of (t := 41) rfl rfl rfl) (rfl) (fun wS HS => y_pickT rfl (decide_eq_true hq97) rfl) ?_
     refine pt (v := .bool (true)) rfl (fun wS HS => y_pickF rfl (rfl) rfl) ?_
     refine p_nil ?_
     refine n_then ?_
     refine c_t rfl rfl ?_
     refine c_seq ?_
     refine c_reg ?_
     refine sy (v := .agg ([I ((0 : Nat) : Int), .string .empty, .slice none 0 0]).toArray) (y_build (parts := []) (pv := []) (us := [I ((0 : Nat) : Int), .string (.empty), .slice none 0 0]) trivial (by kernel_rfl)) ?_
     refine s0 (ow_storeW (us := [I ((0 : Nat) : Int), .string (.empty), .slice none 0 0]) H96 sz48 rfl rfl rfl (by simp [Value.oneCell']) (by simp [*])) ?_
     rintro _ w98 H99'
     have H99 : St w _ [[(g7, Rw 48 ([I ((0 : Nat) : Int), .string (.empty), .slice none 0 0]))], _, _] w98 := H99'
     refine sy (v := .bool (false)) (y_assign (v := .bool (false)) rfl) ?_
     refine sy (v := I ((190 : Nat) : Int)) (y_assign (v := I ((190 : Nat) : Int)) rfl) ?_
     refine c_nil ?_
     refine n_then ?_
     refine wp_ret ?_
     refine r_then ?_
     refine e_r3 Try.results35 (rv_b H99 (i := 0) rfl ag48 sz48 rfl rfl) (rv_t rfl) (rv_t rfl) ?_
     have hck : checkA root kind key n (PE ls) = (190, none) := ck_no (by first | assumption | exact Decidable.not_not.1 (by assumption)) (by omega) (fun ⟨h1, h2, h3⟩ => by omega)
     rw [hck]
     exact ⟨_, rfl, ⟨cz, .slice none 0 0⟩, _, rfl, rfl, OS.nil 5 1, (H99.take 0 rfl).nilp⟩
    ·
     refine drawS (.step 0 0 (.step 0 1 (.step 0 2 (.step 0 3 (.step 0 4 (.step 0 5 (.step 0 6 (.step 0 7 (.step 0 8 (.step 0 9 (.step 0 10 (.step 0 11 (.step 0 12 (.step 0 13 (.step 0 14 (.step 0 15 (.step 0 16 (.step 0 17 (.step 0 18 (.step 0 19 (.step 0 20 (.step 0 21 (.step 0 22 (.step 0 23 (.step 0 24 (.step 0 25 (.step 0 26 (.step 0 27 (.step 0 28 (.step 0 29 .nil)))))))))))))))))))))))))))))) mixed H17 (by kernel_rfl) (by kernel_rfl) (by kernel_rfl) ?_
     intro w102 H103
     refine pt (v := I (n)) rfl (fun wS HS => y_move rfl) ?_
     refine pt (v := .bool (decide (n < ((0 : Nat) : Int)))) rfl (fun wS HS => y_lss (i := n) (j := ((0 : Nat) : Int)) rfl rfl) ?_
     refine pt (v := .bool (decide (n < ((0 : Nat) : Int)))) rfl (fun wS HS => y_move rfl) ?_
     refine gpt (v := I (n)) rfl (gv_of (t := 27) rfl rfl rfl) (decide_eq_false hp20) (fun wS HS => y_move rfl) ?_
     refine gpt (v := .bool (decide (n = ((0 : Nat) : Int)))) rfl (gv_of (t := 27) rfl rfl rfl) (decide_eq_false hp20) (fun wS HS => y_eqlK (i := n) (j := ((0 : Nat) : Int)) rfl rfl) ?_
     refine gpt (v := .bool (decide (n = ((0 : Nat) : Int)))) rfl (gv_of (t := 27) rfl rfl rfl) (decide_eq_false hp20) (fun wS HS => y_move rfl) ?_
     refine gpno rfl (gv_of (t := 30) rfl rfl rfl) (decide_eq_false hp29) ?_
     refine gpno rfl (gv_of (t := 30) rfl rfl rfl) (decide_eq_false hp29) ?_
     refine gpno rfl (gv_of (t := 30) rfl rfl rfl) (decide_eq_false hp29) ?_
     refine gpno rfl (gv_of (t := 30) rfl rfl rfl) (decide_eq_false hp29) ?_
     refine gpun rfl (gv_of (t := 34) rfl rfl rfl) ?_
     refine gpun rfl (gv_of (t := 34) rfl rfl rfl) ?_
     refine gpun rfl (gv_of (t := 34) rfl rfl rfl) ?_
     refine gpno rfl (gv_of (t := 30) rfl rfl rfl) (decide_eq_false hp29) ?_
     refine gpt (v := .bool (false)) rfl (gv_of (t := 27) rfl rfl rfl) (decide_eq_false hp20) (fun wS HS => y_pickF (v := .bool (false)) rfl (decide_eq_false hp29) rfl) ?_
     refine pt (v := .bool (false)) rfl (fun wS HS => y_pickF rfl (decide_eq_false hp20) rfl) ?_
     refine pt (v := .bool (false)) rfl (fun wS HS => y_move rfl) ?_
     refine gpt (v := I (n)) rfl (gv_of (t := 41) rfl rfl rfl) (rfl) (fun wS HS => y_move rfl) ?_
     refine gpt (v := .bool (decide (((0 : Nat) : Int) < n))) rfl (gv_of (t := 41) rfl rfl rfl) (rfl) (fun wS HS => y_gtr (i := n) (j := ((0 : Nat) : Int)) rfl rfl) ?_
     refine gpt (v := .bool (decide (((0 : Nat) : Int) < n))) rfl (gv_of (t := 41) rfl rfl rfl) (rfl) (fun wS HS => y_move rfl) ?_
     have hq104 : ((0 : Nat) : Int) < n := (by omega)
     refine gpt (v := lv) rfl (gv_of (t := 44) rfl rfl rfl) (decide_eq_true hq104) (fun wS HS => y_move rfl) ?_
     refine gpt (v := I ((ls.length : Nat) : Int)) rfl (gv_of (t := 44) rfl rfl rfl) (decide_eq_true hq104) (fun wS HS => y_lenR Try.underlying39 (hL.st HS).rd rfl) ?_
     refine gpt (v := .bool (decide (ls.length < 1))) rfl (gv_of (t := 44) rfl rfl rfl) (decide_eq_true hq104) (fun wS HS => n_lss (a := ls.length) (b := 1) rfl rfl) ?_
     refine gpt (v := .bool (decide (ls.length < 1))) rfl (gv_of (t := 44) rfl rfl rfl) (decide_eq_true hq104) (fun wS HS => y_move rfl) ?_
     refine gpt (v := lv) rfl (gv_of (t := 48) rfl rfl rfl) (decide_eq_false hp92) (fun wS HS => y_move rfl) ?_
     refine gpt (v := I ((ls.length : Nat) : Int)) rfl (gv_of (t := 48) rfl rfl rfl) (decide_eq_false hp92) (fun wS HS => y_lenR Try.underlying39 (hL.st HS).rd rfl) ?_
     refine gpt (v := .bool (decide (2 < ls.length))) rfl (gv_of (t := 48) rfl rfl rfl) (decide_eq_false hp92) (fun wS HS => n_gtr (a := ls.length) (b := 2) rfl rfl) ?_
     refine gpt (v := .bool (decide (2 < ls.length))) rfl (gv_of (t := 44) rfl rfl rfl) (decide_eq_true hq104) (fun wS HS => y_pickF rfl (decide_eq_false hp92) rfl) ?_
     refine gpt (v := .bool (decide (2 < ls.length))) rfl (gv_of (t := 41) rfl rfl rfl) (rfl) (fun wS HS => y_pickT rfl (decide_eq_true hq104) rfl) ?_
     refine pt (v := .bool (decide (2 < ls.length))) rfl (fun wS HS => y_pickF rfl (rfl) rfl) ?_
     refine p_nil ?_
     refine n_then ?_
     refine c_if rfl (fun hc105 => ?_) (fun hc105 => ?_)
     ·
      refine c_seq ?_
      refine c_reg ?_
      refine sy (v := .agg ([I ((0 : Nat) : Int), .string .empty, .slice none 0 0]).toArray) (y_build (parts := []) (pv := []) (us := [I ((0 : Nat) : Int), .string (.empty), .slice none 0 0]) trivial (by kernel_rfl)) ?_
      refine s0 (ow_storeW (us := [I ((0 : Nat) : Int), .string (.empty), .slice none 0 0]) H103 sz48 rfl rfl rfl (by simp [Value.oneCell']) (by simp [*])) ?_
      rintro _ w106 H107'
      have H107 : St w _ [[(g7, Rw 48 ([I ((0 : Nat) : Int), .string (.empty), .slice none 0 0]))], _, _] w106 := H107'
      refine sy (v := .bool (false)) (y_assign (v := .bool (false)) rfl) ?_
      refine sy (v := I ((190 : Nat) : Int)) (y_assign (v := I ((190 : Nat) : Int)) rfl) ?_
      refine c_nil ?_
      refine n_then ?_
      refine wp_ret ?_
      refine r_then ?_
      refine e_r3 Try.results35 (rv_b H107 (i := 0) rfl ag48 sz48 rfl rfl) (rv_t rfl) (rv_t rfl) ?_
      have hck : checkA root kind key n (PE ls) = (190, none) := ck_no (by first | assumption | exact Decidable.not_not.1 (by assumption)) (by omega) (fun ⟨h1, h2, h3⟩ => by omega)
      rw [hck]
      exact ⟨_, rfl, ⟨cz, .slice none 0 0⟩, _, rfl, rfl, OS.nil 5 1, (H107.take 0 rfl).nilp⟩
     ·
      refine wp_skip ?_
      refine n_then ?_
      refine c_seq ?_
      refine c_seq ?_
      refine c_reg ?_
      refine sy (v := lv) (y_move rfl) ?_
      refine sy (v := I ((ls.length : Nat) : Int)) (y_lenR Try.underlying39 (hL.st H103).rd rfl) ?_
      refine sy (v := I ((0 : Nat) : Int)) (y_move (v := I ((0 : Nat) : Int)) rfl) ?_
      refine c_nil ?_
      refine n_then ?_
      refine wp_block ?_
      refine c_loop (fun (j : Nat) f108 w109 => f108 1 = I (kind) ∧ f108 2 = .string (bst key) ∧ f108 4 = Ad (bs g1) (0) ∧ f108 8 = Ad (bs g7) (0) ∧ f108 11 = I (n) ∧ f108 12 = lv ∧ f108 56 = lv ∧ f108 57 = I ((ls.length : Nat) : Int) ∧ f108 58 = I ((j : Nat) : Int) ∧ j ≤ ls.length ∧ (∀ q, q < j → stands root n (ls.getD q lf0).e) ∧ St w [] [[(g7, Rw 48 ([I ((0 : Nat) : Int), .string (.empty), .slice none 0 0]))], [(g4, Rw 41 ([I (n), lv]))], [(g1, Rw 26 ((root).map B8))]] w109) (fun j => ls.length - j) 0 ⟨rfl, rfl, rfl, rfl, rfl, rfl, rfl, rfl, rfl, (Nat.zero_le _), (fun q hq => absurd hq (by omega)), H103⟩ ?_
      rintro j f108 w109 ⟨s1_110, s2_110, s4_110, s8_110, s11_110, s12_110, s56_110, s57_110, s58_110, hj, hz, H110⟩
      refine c_seq ?_
      refine c_reg ?_
      refine sy (v := .bool (decide (j < ls.length))) (n_lss (a := j) (b := ls.length) s58_110 s57_110) ?_
      refine c_nil ?_
      refine n_then ?_
      refine c_seq ?_
      refine c_if rfl (fun hc111 => ?_) (fun hc111 => ?_)
      ·
       refine wp_skip ?_
       refine n_then ?_
       refine c_seq ?_
       refine wp_block ?_
       refine c_seq ?_
       refine c_reg ?_
       refine sy (v := Ad (sp (lv)) (j * 5)) (y_ixR (m := j) Try.underlying39 sz74 (hL.st H110).rd (by decide) s56_110 s58_110 rfl (by omega)) ?_
       refine sy (v := .agg ([I ((ls.getD j lf0).n), I (((ls.getD j lf0).cell).c.k), .string (bst (((ls.getD j lf0).cell).c.key)), ((ls.getD j lf0).cell).v, (ls.getD j lf0).pv]).toArray) (y_loadA (us := (ls.getD j lf0).cs) ag74 sz74 rfl rfl (fun j u hu => (hL.st H110).rd.cell _ _ (flat5_get (by omega) hu))) ?_
       refine st (ow_alloc (l := [I ((0 : Nat) : Int), I ((0 : Nat) : Int), .string (.empty), .slice none 0 0, .slice none 0 0]) H110 zr74 rfl) ?_
       rintro _ w113 ⟨g112, rfl, H114⟩
       refine s0 (ow_storeW (us := [I ((ls.getD j lf0).n), I (((ls.getD j lf0).cell).c.k), .string (bst (((ls.getD j lf0).cell).c.key)), ((ls.getD j lf0).cell).v, (ls.getD j lf0).pv]) H114 sz74 rfl rfl rfl (by intro u hu; simp only [List.mem_cons, List.not_mem_nil, or_false] at hu; rcases hu with rfl | rfl | rfl | rfl | rfl <;> first | rfl | exact Rd.one (((hL.at (d := lf0) (i := j) (by omega)).cell).1.st H114) | exact Rd.one ((hL.at (d := lf0) (i := j) (by omega)).rd.st H114)) (by simp [*])) ?_
       rintro _ w115 H116'
       have H116 : St w _ [[(g112, Rw 74 ([I ((ls.getD j lf0).n), I (((ls.getD j lf0).cell).c.k), .string (bst (((ls.getD j lf0).cell).c.key)), ((ls.getD j lf0).cell).v, (ls.getD j lf0).pv]))], _, _, _] w115 := H116'
       refine c_nil ?_
       refine n_then ?_
       refine c_seq ?_
       refine c_reg ?_
       refine sy (v := .agg (root.map B8).toArray) (y_loadA (us := (root).map B8) ag26 sz26 ((List.length_map _).trans hr) s4_110 (fun j u hu => (H116.cell 3 rfl (by rw [Nat.zero_add]; exact hu)))) ?_
       refine sy (v := I (n)) (y_move s11_110) ?_
       refine sy (v := .agg ([I ((ls.getD j lf0).n), I (((ls.getD j lf0).cell).c.k), .string (bst (((ls.getD j lf0).cell).c.key)), ((ls.getD j lf0).cell).v, (ls.getD j lf0).pv]).toArray) (y_loadA (us := [I ((ls.getD j lf0).n), I (((ls.getD j lf0).cell).c.k), .string (bst (((ls.getD j lf0).cell).c.key)), ((ls.getD j lf0).cell).v, (ls.getD j lf0).pv]) ag74 sz74 rfl rfl (fun j u hu => (H116.cell 0 rfl (by rw [Nat.zero_add]; exact hu)))) ?_
       by_cases hp117 : stands root n (ls.getD j lf0).e
       ·
        have hh120 := (LR.st (hL.at (d := lf0) (i := j) (by omega)) H116).nil
        refine st (ow_call fn88 rfl (stands_yes root n _ _ _ _ _ hr hn hh120.cell hh120.rd hh120.h32 hh120.le hp117) ⟨rfl, rfl, rfl, trivial⟩) ?_
        rintro _ w118 ⟨rfl, hB119⟩
        have H121 : St w _ [_, _, _, _] w118 := H116.call hB119
        refine sy (v := .bool (false)) (y_not (p := true) rfl) ?_
        refine c_nil ?_
        refine n_then ?_
        refine c_f rfl rfl ?_
        refine wp_skip ?_
        refine n_block (n_then ?_)
        refine c_reg ?_
        refine sy (v := I ((j + 1 : Nat) : Int)) (n_add (a := j) (b := 1) s58_110 rfl (by omega)) ?_
        refine sy (v := I ((j + 1 : Nat) : Int)) (y_move rfl) ?_
        refine c_nil ?_
        have H122 : St w _ [_, _, _, _] w118 := H121.foc 3 rfl rfl
        have H123 : St w _ [_, _, _, _] w118 := H122.foc 3 rfl rfl
        have H124 : St w _ [_, _, _, _] w118 := H123.foc 3 rfl rfl
        have H125 : St w _ [_, _, _] w118 := H124.take 3 rfl
        exact lp_next (j + 1) ⟨s1_110, s2_110, s4_110, s8_110, s11_110, s12_110, s56_110, s57_110, rfl, (by omega), (fun q hq => by
         by_cases e : q = j
         · rw [e]; assumption
         · exact hz q (by omega)), H125⟩ (by show _ < _; omega)
       ·
        have hh128 := (LR.st (hL.at (d := lf0) (i := j) (by omega)) H116).nil
        refine st (ow_call fn88 rfl (stands_no root n _ _ _ _ _ hr hn hh128.cell hh128.rd hh128.h32 hh128.le hp117) ⟨rfl, rfl, rfl, trivial⟩) ?_
        rintro _ w126 ⟨rfl, hB127⟩
        have H129 : St w _ [_, _, _, _] w126 := H116.call hB127
        refine sy (v := .bool (true)) (y_not (p := false) rfl) ?_
        refine c_nil ?_
        refine n_then ?_
        refine c_t rfl rfl ?_
        refine c_seq ?_
        refine c_reg ?_
        refine sy (v := .agg ([I ((0 : Nat) : Int), .string .empty, .slice none 0 0]).toArray) (y_build (parts := []) (pv := []) (us := [I ((0 : Nat) : Int), .string (.empty), .slice none 0 0]) trivial (by kernel_rfl)) ?_
        have H130 : St w _ [_, _, _, _] w126 := H129.foc 1 rfl rfl
        refine s0 (ow_storeW (us := [I ((0 : Nat) : Int), .string (.empty), .slice none 0 0]) H130 sz48 rfl s8_110 rfl (by simp [Value.oneCell']) (by simp [*])) ?_
        rintro _ w131 H132'
        have H132 : St w _ [[(g7, Rw 48 ([I ((0 : Nat) : Int), .string (.empty), .slice none 0 0]))], _, _, _] w131 := H132'
        refine sy (v := .bool (false)) (y_assign (v := .bool (false)) rfl) ?_
        refine sy (v := I ((190 : Nat) : Int)) (y_assign (v := I ((190 : Nat) : Int)) rfl) ?_
        refine c_nil ?_
        refine n_then ?_
        refine wp_ret ?_
        refine r_block (r_then (r_then (r_block (r_then ?_))))
        refine e_r3 Try.results35 (rv_b H132 (i := 0) rfl ag48 sz48 rfl s8_110) (rv_t rfl) (rv_t rfl) ?_
        have hck : checkA root kind key n (PE ls) = (190, none) := ck_no (by first | assumption | exact Decidable.not_not.1 (by assumption)) (by omega) (fun ⟨h1, h2, h3⟩ => absurd (h3 _ (pe_mem (j := j) (by omega))) (by assumption))
        rw [hck]
        exact ⟨_, rfl, ⟨cz, .slice none 0 0⟩, _, rfl, rfl, OS.nil 5 1, (H132.take 0 rfl).nilp⟩
      ·
       obtain rfl : j = ls.length := by omega
       have hal : ∀ f ∈ PE ls, stands root n f := pe_all hz
       have hk' : kMay kind := by first | assumption | exact Decidable.not_not.1 (by assumption)
       refine wp_exit ?_
       refine x_then (x_then (x_hit (n_then ?_)))
       refine c_seq ?_
       refine c_reg ?_
       refine sy (v := I (n)) (y_move s11_110) ?_
       refine sy (v := .bool (decide (n = ((0 : Nat) : Int)))) (y_eqlK (i := n) (j := ((0 : Nat) : Int)) rfl rfl) ?_
       refine sy (v := .bool (decide (n = ((0 : Nat) : Int)))) (y_assign rfl) ?_
       refine c_nil ?_
       refine n_then ?_
       refine c_seq ?_
       refine c_seq ?_
       refine c_reg ?_
       refine sy (v := lv) (y_move s12_110) ?_
       refine sy (v := I ((ls.length : Nat) : Int)) (y_lenR Try.underlying39 (hL.st H110).rd rfl) ?_
       refine c_nil ?_
       refine n_then ?_
       refine wp_block ?_
       refine c_seq ?_
       refine c_reg ?_
       refine sy (v := .bool (decide (ls.length = 1))) (n_eql (a := ls.length) (b := 1) rfl rfl) ?_
       refine sy (v := .bool (decide (ls.length = 1))) (y_assign rfl) ?_
       refine c_nil ?_
       refine n_then ?_
       refine c_if rfl (fun hc133 => ?_) (fun hc133 => ?_)
       ·
        refine c_seq ?_
        have hs1 := (says_one (kind := kind) (key := key) (n := n) (ls := ls) (by omega)).1
        have hs2 := (says_one (kind := kind) (key := key) (n := n) (ls := ls) (by omega)).2
        have hb0 := (hz 0 (by omega)).2.2.1
        have hb1 := (hz 0 (by omega)).2.1
        refine c_reg ?_
        refine sy (v := lv) (y_move s12_110) ?_
        refine sy (v := Ad (sp (lv)) (0 * 5)) (y_ixR (m := 0) Try.underlying39 sz74 (hL.st H110).rd (by decide) rfl rfl rfl (by omega)) ?_
        refine sy (v := Ad (sp (lv)) ((0 * 5) + 1)) (y_fld Try.underlying74 rfl rfl sz48 (by decide) rfl) ?_
        refine sy (v := .agg ([I (((ls.getD 0 lf0).cell).c.k), .string (bst (((ls.getD 0 lf0).cell).c.key)), ((ls.getD 0 lf0).cell).v]).toArray) (y_loadA (us := (ls.getD 0 lf0).cell.cs) ag48 sz48 rfl rfl (fun j u hu => by rw [Nat.add_assoc]; exact (hL.st H110).rd.cell _ _ (flat5_get (i := 0) (by omega) (leaf_mid hu)))) ?_
        refine sy (v := I (kind)) (y_move s1_110) ?_
        refine sy (v := .string (bst key)) (y_move s2_110) ?_
        refine st (ow_call fn89 rfl (place_c (((ls.getD 0 lf0).cell).c.k) (((ls.getD 0 lf0).cell).c.key) (((ls.getD 0 lf0).cell).v) (Rd.one (((hL.at (d := lf0) (i := 0) (by omega)).cell).1.st H110)) (kind) (key) _) ⟨rfl, rfl, rfl, trivial⟩) ?_
        rintro _ w134 ⟨rfl, hB135⟩
        have H136 : St w _ [_, _, _] w134 := H110.call hB135
        refine sy (v := I (plcC (((ls.getD 0 lf0).cell).c.k) (((ls.getD 0 lf0).cell).c.key) kind key)) (y_assign rfl) ?_
        refine c_nil ?_
        refine n_then ?_
        refine c_seq ?_
        refine c_seq ?_
        refine c_reg ?_
        refine sy (v := I (plcC (((ls.getD 0 lf0).cell).c.k) (((ls.getD 0 lf0).cell).c.key) kind key)) (y_move rfl) ?_
        refine sy (v := .bool (decide ((plcC (((ls.getD 0 lf0).cell).c.k) (((ls.getD 0 lf0).cell).c.key) kind key) = ((0 : Nat) : Int)))) (y_eqlK (i := (plcC (((ls.getD 0 lf0).cell).c.k) (((ls.getD 0 lf0).cell).c.key) kind key)) (j := ((0 : Nat) : Int)) rfl rfl) ?_
        refine c_nil ?_
        refine n_then ?_
        refine c_if rfl (fun hc137 => ?_) (fun hc137 => ?_)
        ·
         refine c_seq ?_
         refine c_reg ?_
         refine sy (v := lv) (y_move s12_110) ?_
         refine sy (v := Ad (sp (lv)) (0 * 5)) (y_ixR (m := 0) Try.underlying39 sz74 (hL.st H136).rd (by decide) rfl rfl rfl (by omega)) ?_
         refine sy (v := Ad (sp (lv)) ((0 * 5) + 1)) (y_fld Try.underlying74 rfl rfl sz48 (by decide) rfl) ?_
         refine sy (v := .agg ([I (((ls.getD 0 lf0).cell).c.k), .string (bst (((ls.getD 0 lf0).cell).c.key)), ((ls.getD 0 lf0).cell).v]).toArray) (y_loadA (us := (ls.getD 0 lf0).cell.cs) ag48 sz48 rfl rfl (fun j u hu => by rw [Nat.add_assoc]; exact (hL.st H136).rd.cell _ _ (flat5_get (i := 0) (by omega) (leaf_mid hu)))) ?_
         refine st (ow_call fn90 rfl (own_c ((ls.getD 0 lf0).cell) _ (CR.st (hL.at (d := lf0) (i := 0) (by omega)).cell H136).nil) ⟨rfl, trivial⟩) ?_
         rintro _ w140 ⟨v138, E139, rfl, ho142, H141⟩
         have H143 : St w _ [_, _, _, _] w140 := H136.app H141
         have H144 : St w _ [_, _, _, _] w140 := H143.foc 1 rfl rfl
         refine s0 (ow_storeW (us := [I (((ls.getD 0 lf0).cell).c.k), .string (bst (((ls.getD 0 lf0).cell).c.key)), v138]) H144 sz48 rfl s8_110 rfl (by intro u hu; simp only [List.mem_cons, List.not_mem_nil, or_false] at hu; rcases hu with rfl | rfl | rfl <;> first | rfl | exact Rd.one (ho142.rd H144 1 rfl)) (by simp [*])) ?_
         rintro _ w145 H146'
         have H146 : St w _ [[(g7, Rw 48 ([I (((ls.getD 0 lf0).cell).c.k), .string (bst (((ls.getD 0 lf0).cell).c.key)), v138]))], _, _, _] w145 := H146'
         refine sy (v := .bool (true)) (y_assign (v := .bool (true)) rfl) ?_
         refine sy (v := I ((0 : Nat) : Int)) (y_assign (v := I ((0 : Nat) : Int)) rfl) ?_
         refine c_nil ?_
         refine n_then ?_
         refine wp_ret ?_
         refine r_then (r_block (r_then ?_))
         refine e_r3 Try.results35 (rv_b H146 (i := 0) rfl ag48 sz48 rfl s8_110) (rv_t rfl) (rv_t rfl) ?_
         have hsa : saysA kind key n (PE ls) = 1 := by
          rw [hs1]; repeat' split
          all_goals first | rfl | (exfalso; omega)
         have hck : checkA root kind key n (PE ls) = (0, some ((PE ls).getD 0 le0).c) := by
          rw [ck_say (by first | assumption | exact Decidable.not_not.1 (by assumption)) (by omega) (by omega) hal, if_pos hsa]
         have H147 : St w _ [_, _, _, _] w145 := H146.foc 1 rfl rfl
         have H148 : St w _ [_] w145 := H147.take 1 rfl
         rw [hs2] at hck
         rw [hck]
         exact ⟨_, rfl, ⟨(ls.getD 0 lf0).cell.c, v138⟩, _, rfl, rfl, ho142, H148⟩
        ·
         refine wp_skip ?_
         refine n_then ?_
         refine c_reg ?_
         refine sy (v := I (plcC (((ls.getD 0 lf0).cell).c.k) (((ls.getD 0 lf0).cell).c.key) kind key)) (y_move rfl) ?_
         refine sy (v := .bool (decide (((0 : Nat) : Int) < (plcC (((ls.getD 0 lf0).cell).c.k) (((ls.getD 0 lf0).cell).c.key) kind key)))) (y_gtr (i := (plcC (((ls.getD 0 lf0).cell).c.k) (((ls.getD 0 lf0).cell).c.key) kind key)) (j := ((0 : Nat) : Int)) rfl rfl) ?_
         refine sy (v := .bool (decide (((0 : Nat) : Int) < (plcC (((ls.getD 0 lf0).cell).c.k) (((ls.getD 0 lf0).cell).c.key) kind key)))) (y_move rfl) ?_
         by_cases hp149 : ((0 : Nat) : Int) < (plcC (((ls.getD 0 lf0).cell).c.k) (((ls.getD 0 lf0).cell).c.key) kind key)
         ·
          refine gsy (v := lv) (gv_of (t := 91) rfl rfl rfl) (decide_eq_true hp149) (y_move s12_110) ?_
          refine gsy (v := Ad (sp (lv)) (0 * 5)) (gv_of (t := 91) rfl rfl rfl) (decide_eq_true hp149) (y_ixR (m := 0) Try.underlying39 sz74 (hL.st H136).rd (by decide) rfl rfl rfl (by omega)) ?_
          refine gsy (v := Ad (sp (lv)) ((0 * 5) + 0)) (gv_of (t := 91) rfl rfl rfl) (decide_eq_true hp149) (y_fld Try.underlying74 rfl rfl sz3 (by decide) rfl) ?_
          refine gsy (v := I ((ls.getD 0 lf0).n)) (gv_of (t := 91) rfl rfl rfl) (decide_eq_true hp149) (y_load sc3 rfl (by first | exact (hL.st H136).rd.cell _ _ (flat5_get (i := 0) (j := 0) (d := lf0) (by omega) rfl) | (rw [Nat.add_assoc]; exact (hL.st H136).rd.cell _ _ (flat5_get (i := 0) (j := 0) (d := lf0) (by omega) rfl)))) ?_
          refine gsy (v := .bool (decide (((ls.getD 0 lf0).n) = ((0 : Nat) : Int)))) (gv_of (t := 91) rfl rfl rfl) (decide_eq_true hp149) (y_eqlK (i := ((ls.getD 0 lf0).n)) (j := ((0 : Nat) : Int)) rfl rfl) ?_
          refine sy (v := .bool (decide (((ls.getD 0 lf0).n) = ((0 : Nat) : Int)))) (y_pickT rfl (decide_eq_true hp149) rfl) ?_
          refine sy (v := .bool (decide (((ls.getD 0 lf0).n) = ((0 : Nat) : Int)))) (y_move rfl) ?_
          by_cases hp150 : ((ls.getD 0 lf0).n) = ((0 : Nat) : Int)
          ·
           refine gno (gv_of (t := 98) rfl rfl rfl) (decide_eq_true hp150) ?_
           refine gno (gv_of (t := 98) rfl rfl rfl) (decide_eq_true hp150) ?_
           refine gno (gv_of (t := 98) rfl rfl rfl) (decide_eq_true hp150) ?_
           refine gun (gv_of (t := 101) rfl rfl rfl) ?_
           refine gun (gv_of (t := 101) rfl rfl rfl) ?_
           refine gun (gv_of (t := 101) rfl rfl rfl) ?_
           refine gun (gv_of (t := 101) rfl rfl rfl) ?_
           refine gun (gv_of (t := 101) rfl rfl rfl) ?_
           refine gun (gv_of (t := 101) rfl rfl rfl) ?_
           refine gun (gv_of (t := 101) rfl rfl rfl) ?_
           refine gno (gv_of (t := 98) rfl rfl rfl) (decide_eq_true hp150) ?_
           refine sy (v := .bool (true)) (y_pickT (v := .bool (true)) rfl (decide_eq_true hp150) rfl) ?_
           refine sy (v := .bool (true)) (y_assign rfl) ?_
           refine c_nil ?_
           refine n_block (n_then ?_)
           refine c_seq ?_
           refine c_seq ?_
           refine c_reg ?_
           refine sy (v := .bool (true)) (y_move rfl) ?_
           refine sy (v := .bool (false)) (y_not (p := true) rfl) ?_
           refine c_nil ?_
           refine n_then ?_
           refine c_f rfl rfl ?_
           refine wp_skip ?_
           refine n_then ?_
           refine c_seq ?_
           refine c_reg ?_
           refine sy (v := .agg ([I ((0 : Nat) : Int), .string .empty, .slice none 0 0]).toArray) (y_build (parts := []) (pv := []) (us := [I ((0 : Nat) : Int), .string (.empty), .slice none 0 0]) trivial (by kernel_rfl)) ?_
           refine s0 (ow_storeW (us := [I ((0 : Nat) : Int), .string (.empty), .slice none 0 0]) H136 sz48 rfl s8_110 rfl (by simp [Value.oneCell']) (by simp [*])) ?_
           rintro _ w151 H152'
           have H152 : St w _ [[(g7, Rw 48 ([I ((0 : Nat) : Int), .string (.empty), .slice none 0 0]))], _, _] w151 := H152'
           refine sy (v := .bool (false)) (y_assign (v := .bool (false)) rfl) ?_
           refine sy (v := I ((0 : Nat) : Int)) (y_assign (v := I ((0 : Nat) : Int)) rfl) ?_
           refine c_nil ?_
           refine n_then ?_
           refine wp_ret ?_
           refine e_r3 Try.results35 (rv_b H152 (i := 0) rfl ag48 sz48 rfl s8_110) (rv_t rfl) (rv_t rfl) ?_
           have hsa : saysA kind key n (PE ls) = 0 := by
            rw [hs1]; repeat' split
            all_goals first | rfl | (exfalso; omega)
           have hck : checkA root kind key n (PE ls) = (0, none) := by
            rw [ck_say (by first | assumption | exact Decidable.not_not.1 (by assumption)) (by omega) (by omega) hal, if_neg (by omega), if_pos hsa]
           rw [hck]
           exact ⟨_, rfl, ⟨cz, .slice none 0 0⟩, _, rfl, rfl, OS.nil 5 1, (H152.take 0 rfl).nilp⟩
          ·
           refine gsy (v := I (plcC (((ls.getD 0 lf0).cell).c.k) (((ls.getD 0 lf0).cell).c.key) kind key)) (gv_of (t := 98) rfl rfl rfl) (decide_eq_false hp150) (y_move rfl) ?_
           refine gsy (v := .bool (decide ((plcC (((ls.getD 0 lf0).cell).c.k) (((ls.getD 0 lf0).cell).c.key) kind key) < ((0 : Nat) : Int)))) (gv_of (t := 98) rfl rfl rfl) (decide_eq_false hp150) (y_lss (i := (plcC (((ls.getD 0 lf0).cell).c.k) (((ls.getD 0 lf0).cell).c.key) kind key)) (j := ((0 : Nat) : Int)) rfl rfl) ?_
           refine gsy (v := .bool (decide ((plcC (((ls.getD 0 lf0).cell).c.k) (((ls.getD 0 lf0).cell).c.key) kind key) < ((0 : Nat) : Int)))) (gv_of (t := 98) rfl rfl rfl) (decide_eq_false hp150) (y_move rfl) ?_
           by_cases hp153 : (plcC (((ls.getD 0 lf0).cell).c.k) (((ls.getD 0 lf0).cell).c.key) kind key) < ((0 : Nat) : Int)
           ·
            refine gsy (v := lv) (gv_of (t := 101) rfl rfl rfl) (decide_eq_true hp153) (y_move s12_110) ?_
            refine gsy (v := Ad (sp (lv)) (0 * 5)) (gv_of (t := 101) rfl rfl rfl) (decide_eq_true hp153) (y_ixR (m := 0) Try.underlying39 sz74 (hL.st H136).rd (by decide) rfl rfl rfl (by omega)) ?_
            refine gsy (v := Ad (sp (lv)) ((0 * 5) + 0)) (gv_of (t := 101) rfl rfl rfl) (decide_eq_true hp153) (y_fld Try.underlying74 rfl rfl sz3 (by decide) rfl) ?_
            refine gsy (v := I ((ls.getD 0 lf0).n)) (gv_of (t := 101) rfl rfl rfl) (decide_eq_true hp153) (y_load sc3 rfl (by first | exact (hL.st H136).rd.cell _ _ (flat5_get (i := 0) (j := 0) (d := lf0) (by omega) rfl) | (rw [Nat.add_assoc]; exact (hL.st H136).rd.cell _ _ (flat5_get (i := 0) (j := 0) (d := lf0) (by omega) rfl)))) ?_
            refine gsy (v := I (n)) (gv_of (t := 101) rfl rfl rfl) (decide_eq_true hp153) (y_move s11_110) ?_
            refine gsy (v := I (n - ((1 : Nat) : Int))) (gv_of (t := 101) rfl rfl rfl) (decide_eq_true hp153) (y_sub (i := n) (j := ((1 : Nat) : Int)) rfl rfl (by omega)) ?_
            refine gsy (v := .bool (decide (((ls.getD 0 lf0).n) = (n - ((1 : Nat) : Int))))) (gv_of (t := 101) rfl rfl rfl) (decide_eq_true hp153) (y_eqlK (i := ((ls.getD 0 lf0).n)) (j := (n - ((1 : Nat) : Int))) rfl rfl) ?_
            refine gsy (v := .bool (decide (((ls.getD 0 lf0).n) = (n - ((1 : Nat) : Int))))) (gv_of (t := 98) rfl rfl rfl) (decide_eq_false hp150) (y_pickT rfl (decide_eq_true hp153) rfl) ?_
            refine sy (v := .bool (decide (((ls.getD 0 lf0).n) = (n - ((1 : Nat) : Int))))) (y_pickF rfl (decide_eq_false hp150) rfl) ?_
            refine sy (v := .bool (decide (((ls.getD 0 lf0).n) = (n - ((1 : Nat) : Int))))) (y_assign rfl) ?_
            refine c_nil ?_
            refine n_block (n_then ?_)
            refine c_seq ?_
            refine c_seq ?_
            refine c_reg ?_
            refine sy (v := .bool (decide (((ls.getD 0 lf0).n) = (n - ((1 : Nat) : Int))))) (y_move rfl) ?_
            refine sy (v := .bool (decide (¬ (((ls.getD 0 lf0).n) = (n - ((1 : Nat) : Int)))))) (y_notP rfl) ?_
            refine c_nil ?_
            refine n_then ?_
            refine c_if rfl (fun hc154 => ?_) (fun hc154 => ?_)
            ·
             refine c_seq ?_
             refine c_reg ?_
             refine sy (v := .agg ([I ((0 : Nat) : Int), .string .empty, .slice none 0 0]).toArray) (y_build (parts := []) (pv := []) (us := [I ((0 : Nat) : Int), .string (.empty), .slice none 0 0]) trivial (by kernel_rfl)) ?_
             refine s0 (ow_storeW (us := [I ((0 : Nat) : Int), .string (.empty), .slice none 0 0]) H136 sz48 rfl s8_110 rfl (by simp [Value.oneCell']) (by simp [*])) ?_
             rintro _ w155 H156'
             have H156 : St w _ [[(g7, Rw 48 ([I ((0 : Nat) : Int), .string (.empty), .slice none 0 0]))], _, _] w155 := H156'
             refine sy (v := .bool (false)) (y_assign (v := .bool (false)) rfl) ?_
             refine sy (v := I ((190 : Nat) : Int)) (y_assign (v := I ((190 : Nat) : Int)) rfl) ?_
             refine c_nil ?_
             refine n_then ?_
             refine wp_ret ?_
             refine r_then ?_
             refine e_r3 Try.results35 (rv_b H156 (i := 0) rfl ag48 sz48 rfl s8_110) (rv_t rfl) (rv_t rfl) ?_
             have hsa : saysA kind key n (PE ls) = -1 := by
              rw [hs1]; repeat' split
              all_goals first | rfl | (exfalso; omega)
             have hck : checkA root kind key n (PE ls) = (190, none) := by
              rw [ck_say (by first | assumption | exact Decidable.not_not.1 (by assumption)) (by omega) (by omega) hal, if_neg (by omega), if_neg (by omega)]
             rw [hck]
             exact ⟨_, rfl, ⟨cz, .slice none 0 0⟩, _, rfl, rfl, OS.nil 5 1, (H156.take 0 rfl).nilp⟩
            ·
             refine wp_skip ?_
             refine n_then ?_
             refine c_seq ?_
             refine c_reg ?_
             refine sy (v := .agg ([I ((0 : Nat) : Int), .string .empty, .slice none 0 0]).toArray) (y_build (parts := []) (pv := []) (us := [I ((0 : Nat) : Int), .string (.empty), .slice none 0 0]) trivial (by kernel_rfl)) ?_
             refine s0 (ow_storeW (us := [I ((0 : Nat) : Int), .string (.empty), .slice none 0 0]) H136 sz48 rfl s8_110 rfl (by simp [Value.oneCell']) (by simp [*])) ?_
             rintro _ w157 H158'
             have H158 : St w _ [[(g7, Rw 48 ([I ((0 : Nat) : Int), .string (.empty), .slice none 0 0]))], _, _] w157 := H158'
             refine sy (v := .bool (false)) (y_assign (v := .bool (false)) rfl) ?_
             refine sy (v := I ((0 : Nat) : Int)) (y_assign (v := I ((0 : Nat) : Int)) rfl) ?_
             refine c_nil ?_
             refine n_then ?_
             refine wp_ret ?_
             refine e_r3 Try.results35 (rv_b H158 (i := 0) rfl ag48 sz48 rfl s8_110) (rv_t rfl) (rv_t rfl) ?_
             have hsa : saysA kind key n (PE ls) = 0 := by
              rw [hs1]; repeat' split
              all_goals first | rfl | (exfalso; omega)
             have hck : checkA root kind key n (PE ls) = (0, none) := by
              rw [ck_say (by first | assumption | exact Decidable.not_not.1 (by assumption)) (by omega) (by omega) hal, if_neg (by omega), if_pos hsa]
             rw [hck]
             exact ⟨_, rfl, ⟨cz, .slice none 0 0⟩, _, rfl, rfl, OS.nil 5 1, (H158.take 0 rfl).nilp⟩
           ·
            refine gno (gv_of (t := 101) rfl rfl rfl) (decide_eq_false hp153) ?_
            refine gno (gv_of (t := 101) rfl rfl rfl) (decide_eq_false hp153) ?_
            refine gno (gv_of (t := 101) rfl rfl rfl) (decide_eq_false hp153) ?_
            refine gno (gv_of (t := 101) rfl rfl rfl) (decide_eq_false hp153) ?_
            refine gno (gv_of (t := 101) rfl rfl rfl) (decide_eq_false hp153) ?_
            refine gno (gv_of (t := 101) rfl rfl rfl) (decide_eq_false hp153) ?_
            refine gno (gv_of (t := 101) rfl rfl rfl) (decide_eq_false hp153) ?_
            refine gsy (v := .bool (false)) (gv_of (t := 98) rfl rfl rfl) (decide_eq_false hp150) (y_pickF (v := .bool (false)) rfl (decide_eq_false hp153) rfl) ?_
            refine sy (v := .bool (false)) (y_pickF rfl (decide_eq_false hp150) rfl) ?_
            refine sy (v := .bool (false)) (y_assign rfl) ?_
            refine c_nil ?_
            refine n_block (n_then ?_)
            refine c_seq ?_
            refine c_seq ?_
            refine c_reg ?_
            refine sy (v := .bool (false)) (y_move rfl) ?_
            refine sy (v := .bool (true)) (y_not (p := false) rfl) ?_
            refine c_nil ?_
            refine n_then ?_
            refine c_t rfl rfl ?_
            refine c_seq ?_
            refine c_reg ?_
            refine sy (v := .agg ([I ((0 : Nat) : Int), .string .empty, .slice none 0 0]).toArray) (y_build (parts := []) (pv := []) (us := [I ((0 : Nat) : Int), .string (.empty), .slice none 0 0]) trivial (by kernel_rfl)) ?_
            refine s0 (ow_storeW (us := [I ((0 : Nat) : Int), .string (.empty), .slice none 0 0]) H136 sz48 rfl s8_110 rfl (by simp [Value.oneCell']) (by simp [*])) ?_
            rintro _ w159 H160'
            have H160 : St w _ [[(g7, Rw 48 ([I ((0 : Nat) : Int), .string (.empty), .slice none 0 0]))], _, _] w159 := H160'
            refine sy (v := .bool (false)) (y_assign (v := .bool (false)) rfl) ?_
            refine sy (v := I ((190 : Nat) : Int)) (y_assign (v := I ((190 : Nat) : Int)) rfl) ?_
            refine c_nil ?_
            refine n_then ?_
            refine wp_ret ?_
            refine r_then ?_
            refine e_r3 Try.results35 (rv_b H160 (i := 0) rfl ag48 sz48 rfl s8_110) (rv_t rfl) (rv_t rfl) ?_
            have hsa : saysA kind key n (PE ls) = -1 := by
             rw [hs1]; repeat' split
             all_goals first | rfl | (exfalso; omega)
            have hck : checkA root kind key n (PE ls) = (190, none) := by
             rw [ck_say (by first | assumption | exact Decidable.not_not.1 (by assumption)) (by omega) (by omega) hal, if_neg (by omega), if_neg (by omega)]
            rw [hck]
            exact ⟨_, rfl, ⟨cz, .slice none 0 0⟩, _, rfl, rfl, OS.nil 5 1, (H160.take 0 rfl).nilp⟩
         ·
          refine gno (gv_of (t := 91) rfl rfl rfl) (decide_eq_false hp149) ?_
          refine gno (gv_of (t := 91) rfl rfl rfl) (decide_eq_false hp149) ?_
          refine gno (gv_of (t := 91) rfl rfl rfl) (decide_eq_false hp149) ?_
          refine gno (gv_of (t := 91) rfl rfl rfl) (decide_eq_false hp149) ?_
          refine gno (gv_of (t := 91) rfl rfl rfl) (decide_eq_false hp149) ?_
          refine sy (v := .bool (false)) (y_pickF (v := .bool (false)) rfl (decide_eq_false hp149) rfl) ?_
          refine sy (v := .bool (false)) (y_move rfl) ?_
          refine gsy (v := I (plcC (((ls.getD 0 lf0).cell).c.k) (((ls.getD 0 lf0).cell).c.key) kind key)) (gv_of (t := 98) rfl rfl rfl) (rfl) (y_move rfl) ?_
          refine gsy (v := .bool (decide ((plcC (((ls.getD 0 lf0).cell).c.k) (((ls.getD 0 lf0).cell).c.key) kind key) < ((0 : Nat) : Int)))) (gv_of (t := 98) rfl rfl rfl) (rfl) (y_lss (i := (plcC (((ls.getD 0 lf0).cell).c.k) (((ls.getD 0 lf0).cell).c.key) kind key)) (j := ((0 : Nat) : Int)) rfl rfl) ?_
          refine gsy (v := .bool (decide ((plcC (((ls.getD 0 lf0).cell).c.k) (((ls.getD 0 lf0).cell).c.key) kind key) < ((0 : Nat) : Int)))) (gv_of (t := 98) rfl rfl rfl) (rfl) (y_move rfl) ?_
          by_cases hp161 : (plcC (((ls.getD 0 lf0).cell).c.k) (((ls.getD 0 lf0).cell).c.key) kind key) < ((0 : Nat) : Int)
          ·
           refine gsy (v := lv) (gv_of (t := 101) rfl rfl rfl) (decide_eq_true hp161) (y_move s12_110) ?_
           refine gsy (v := Ad (sp (lv)) (0 * 5)) (gv_of (t := 101) rfl rfl rfl) (decide_eq_true hp161) (y_ixR (m := 0) Try.underlying39 sz74 (hL.st H136).rd (by decide) rfl rfl rfl (by omega)) ?_
           refine gsy (v := Ad (sp (lv)) ((0 * 5) + 0)) (gv_of (t := 101) rfl rfl rfl) (decide_eq_true hp161) (y_fld Try.underlying74 rfl rfl sz3 (by decide) rfl) ?_
           refine gsy (v := I ((ls.getD 0 lf0).n)) (gv_of (t := 101) rfl rfl rfl) (decide_eq_true hp161) (y_load sc3 rfl (by first | exact (hL.st H136).rd.cell _ _ (flat5_get (i := 0) (j := 0) (d := lf0) (by omega) rfl) | (rw [Nat.add_assoc]; exact (hL.st H136).rd.cell _ _ (flat5_get (i := 0) (j := 0) (d := lf0) (by omega) rfl)))) ?_
           refine gsy (v := I (n)) (gv_of (t := 101) rfl rfl rfl) (decide_eq_true hp161) (y_move s11_110) ?_
           refine gsy (v := I (n - ((1 : Nat) : Int))) (gv_of (t := 101) rfl rfl rfl) (decide_eq_true hp161) (y_sub (i := n) (j := ((1 : Nat) : Int)) rfl rfl (by omega)) ?_
           refine gsy (v := .bool (decide (((ls.getD 0 lf0).n) = (n - ((1 : Nat) : Int))))) (gv_of (t := 101) rfl rfl rfl) (decide_eq_true hp161) (y_eqlK (i := ((ls.getD 0 lf0).n)) (j := (n - ((1 : Nat) : Int))) rfl rfl) ?_
           refine gsy (v := .bool (decide (((ls.getD 0 lf0).n) = (n - ((1 : Nat) : Int))))) (gv_of (t := 98) rfl rfl rfl) (rfl) (y_pickT rfl (decide_eq_true hp161) rfl) ?_
           refine sy (v := .bool (decide (((ls.getD 0 lf0).n) = (n - ((1 : Nat) : Int))))) (y_pickF rfl (rfl) rfl) ?_
           refine sy (v := .bool (decide (((ls.getD 0 lf0).n) = (n - ((1 : Nat) : Int))))) (y_assign rfl) ?_
           refine c_nil ?_
           refine n_block (n_then ?_)
           refine c_seq ?_
           refine c_seq ?_
           refine c_reg ?_
           refine sy (v := .bool (decide (((ls.getD 0 lf0).n) = (n - ((1 : Nat) : Int))))) (y_move rfl) ?_
           refine sy (v := .bool (decide (¬ (((ls.getD 0 lf0).n) = (n - ((1 : Nat) : Int)))))) (y_notP rfl) ?_
           refine c_nil ?_
           refine n_then ?_
           refine c_if rfl (fun hc162 => ?_) (fun hc162 => ?_)
           ·
            refine c_seq ?_
            refine c_reg ?_
            refine sy (v := .agg ([I ((0 : Nat) : Int), .string .empty, .slice none 0 0]).toArray) (y_build (parts := []) (pv := []) (us := [I ((0 : Nat) : Int), .string (.empty), .slice none 0 0]) trivial (by kernel_rfl)) ?_
            refine s0 (ow_storeW (us := [I ((0 : Nat) : Int), .string (.empty), .slice none 0 0]) H136 sz48 rfl s8_110 rfl (by simp [Value.oneCell']) (by simp [*])) ?_
            rintro _ w163 H164'
            have H164 : St w _ [[(g7, Rw 48 ([I ((0 : Nat) : Int), .string (.empty), .slice none 0 0]))], _, _] w163 := H164'
            refine sy (v := .bool (false)) (y_assign (v := .bool (false)) rfl) ?_
            refine sy (v := I ((190 : Nat) : Int)) (y_assign (v := I ((190 : Nat) : Int)) rfl) ?_
            refine c_nil ?_
            refine n_then ?_
            refine wp_ret ?_
            refine r_then ?_
            refine e_r3 Try.results35 (rv_b H164 (i := 0) rfl ag48 sz48 rfl s8_110) (rv_t rfl) (rv_t rfl) ?_
            have hsa : saysA kind key n (PE ls) = -1 := by
             rw [hs1]; repeat' split
             all_goals first | rfl | (exfalso; omega)
            have hck : checkA root kind key n (PE ls) = (190, none) := by
             rw [ck_say (by first | assumption | exact Decidable.not_not.1 (by assumption)) (by omega) (by omega) hal, if_neg (by omega), if_neg (by omega)]
            rw [hck]
            exact ⟨_, rfl, ⟨cz, .slice none 0 0⟩, _, rfl, rfl, OS.nil 5 1, (H164.take 0 rfl).nilp⟩
           ·
            refine wp_skip ?_
            refine n_then ?_
            refine c_seq ?_
            refine c_reg ?_
            refine sy (v := .agg ([I ((0 : Nat) : Int), .string .empty, .slice none 0 0]).toArray) (y_build (parts := []) (pv := []) (us := [I ((0 : Nat) : Int), .string (.empty), .slice none 0 0]) trivial (by kernel_rfl)) ?_
            refine s0 (ow_storeW (us := [I ((0 : Nat) : Int), .string (.empty), .slice none 0 0]) H136 sz48 rfl s8_110 rfl (by simp [Value.oneCell']) (by simp [*])) ?_
            rintro _ w165 H166'
            have H166 : St w _ [[(g7, Rw 48 ([I ((0 : Nat) : Int), .string (.empty), .slice none 0 0]))], _, _] w165 := H166'
            refine sy (v := .bool (false)) (y_assign (v := .bool (false)) rfl) ?_
            refine sy (v := I ((0 : Nat) : Int)) (y_assign (v := I ((0 : Nat) : Int)) rfl) ?_
            refine c_nil ?_
            refine n_then ?_
            refine wp_ret ?_
            refine e_r3 Try.results35 (rv_b H166 (i := 0) rfl ag48 sz48 rfl s8_110) (rv_t rfl) (rv_t rfl) ?_
            have hsa : saysA kind key n (PE ls) = 0 := by
             rw [hs1]; repeat' split
             all_goals first | rfl | (exfalso; omega)
            have hck : checkA root kind key n (PE ls) = (0, none) := by
             rw [ck_say (by first | assumption | exact Decidable.not_not.1 (by assumption)) (by omega) (by omega) hal, if_neg (by omega), if_pos hsa]
            rw [hck]
            exact ⟨_, rfl, ⟨cz, .slice none 0 0⟩, _, rfl, rfl, OS.nil 5 1, (H166.take 0 rfl).nilp⟩
          ·
           refine gno (gv_of (t := 101) rfl rfl rfl) (decide_eq_false hp161) ?_
           refine gno (gv_of (t := 101) rfl rfl rfl) (decide_eq_false hp161) ?_
           refine gno (gv_of (t := 101) rfl rfl rfl) (decide_eq_false hp161) ?_
           refine gno (gv_of (t := 101) rfl rfl rfl) (decide_eq_false hp161) ?_
           refine gno (gv_of (t := 101) rfl rfl rfl) (decide_eq_false hp161) ?_
           refine gno (gv_of (t := 101) rfl rfl rfl) (decide_eq_false hp161) ?_
           refine gno (gv_of (t := 101) rfl rfl rfl) (decide_eq_false hp161) ?_
           refine gsy (v := .bool (false)) (gv_of (t := 98) rfl rfl rfl) (rfl) (y_pickF (v := .bool (false)) rfl (decide_eq_false hp161) rfl) ?_
           refine sy (v := .bool (false)) (y_pickF rfl (rfl) rfl) ?_
           refine sy (v := .bool (false)) (y_assign rfl) ?_
           refine c_nil ?_
           refine n_block (n_then ?_)
           refine c_seq ?_
           refine c_seq ?_
           refine c_reg ?_
           refine sy (v := .bool (false)) (y_move rfl) ?_
           refine sy (v := .bool (true)) (y_not (p := false) rfl) ?_
           refine c_nil ?_
           refine n_then ?_
           refine c_t rfl rfl ?_
           refine c_seq ?_
           refine c_reg ?_
           refine sy (v := .agg ([I ((0 : Nat) : Int), .string .empty, .slice none 0 0]).toArray) (y_build (parts := []) (pv := []) (us := [I ((0 : Nat) : Int), .string (.empty), .slice none 0 0]) trivial (by kernel_rfl)) ?_
           refine s0 (ow_storeW (us := [I ((0 : Nat) : Int), .string (.empty), .slice none 0 0]) H136 sz48 rfl s8_110 rfl (by simp [Value.oneCell']) (by simp [*])) ?_
           rintro _ w167 H168'
           have H168 : St w _ [[(g7, Rw 48 ([I ((0 : Nat) : Int), .string (.empty), .slice none 0 0]))], _, _] w167 := H168'
           refine sy (v := .bool (false)) (y_assign (v := .bool (false)) rfl) ?_
           refine sy (v := I ((190 : Nat) : Int)) (y_assign (v := I ((190 : Nat) : Int)) rfl) ?_
           refine c_nil ?_
           refine n_then ?_
           refine wp_ret ?_
           refine r_then ?_
           refine e_r3 Try.results35 (rv_b H168 (i := 0) rfl ag48 sz48 rfl s8_110) (rv_t rfl) (rv_t rfl) ?_
           have hsa : saysA kind key n (PE ls) = -1 := by
            rw [hs1]; repeat' split
            all_goals first | rfl | (exfalso; omega)
           have hck : checkA root kind key n (PE ls) = (190, none) := by
            rw [ck_say (by first | assumption | exact Decidable.not_not.1 (by assumption)) (by omega) (by omega) hal, if_neg (by omega), if_neg (by omega)]
           rw [hck]
           exact ⟨_, rfl, ⟨cz, .slice none 0 0⟩, _, rfl, rfl, OS.nil 5 1, (H168.take 0 rfl).nilp⟩
       ·
        refine c_seq ?_
        refine c_reg ?_
        refine sy (v := .bool (decide (ls.length = 2))) (n_eql (a := ls.length) (b := 2) rfl rfl) ?_
        refine sy (v := .bool (decide (ls.length = 2))) (y_assign rfl) ?_
        refine c_nil ?_
        refine n_then ?_
        have hq169 : ls.length = 2 := (by omega)
        refine c_t rfl (decide_eq_true hq169) ?_
        have hs1 := says_two (kind := kind) (key := key) (n := n) (ls := ls) (by omega)
        have hb0 : (ls.getD 0 lf0).n < n := (hz 0 (by omega)).2.2.1
        have hb1 : 0 ≤ (ls.getD 0 lf0).n := (hz 0 (by omega)).2.1
        by_cases hp172 : ((ls.getD 1 lf0).n) = (((ls.getD 0 lf0).n) + ((1 : Nat) : Int))
        ·
         by_cases hp178 : (plcC (((ls.getD 0 lf0).cell).c.k) (((ls.getD 0 lf0).cell).c.key) kind key) < ((0 : Nat) : Int)
         ·
          refine drawS (.step 0 0 (.step 0 1 (.step 0 2 (.step 0 3 (.step 0 4 (.step 0 5 (.step 0 6 (.step 0 7 (.step 0 8 (.step 0 9 (.step 0 10 (.step 0 11 (.step 0 12 (.step 0 13 (.step 0 14 (.step 0 15 (.step 0 16 (.step 1 17 (.step 0 18 (.step 0 19 (.step 0 20 (.step 0 21 (.step 0 22 (.step 0 23 (.step 0 24 (.step 0 25 (.step 0 26 (.step 1 27 (.step 0 28 (.step 0 29 (.step 2 30 .nil))))))))))))))))))))))))))))))) mixed H110 (by kernel_rfl) (by kernel_rfl) (by kernel_rfl) ?_
          intro w179 H180
          refine pt (v := lv) rfl (fun wS HS => y_move s12_110) ?_
          refine pt (v := Ad (sp (lv)) (1 * 5)) rfl (fun wS HS => y_ixR (m := 1) Try.underlying39 sz74 (hL.st HS).rd (by decide) rfl rfl rfl (by omega)) ?_
          refine pt (v := Ad (sp (lv)) ((1 * 5) + 0)) rfl (fun wS HS => y_fld Try.underlying74 rfl rfl sz3 (by decide) rfl) ?_
          refine pt (v := I ((ls.getD 1 lf0).n)) rfl (fun wS HS => y_load sc3 rfl (by first | exact (hL.st HS).rd.cell _ _ (flat5_get (i := 1) (j := 0) (d := lf0) (by omega) rfl) | (rw [Nat.add_assoc]; exact (hL.st HS).rd.cell _ _ (flat5_get (i := 1) (j := 0) (d := lf0) (by omega) rfl)))) ?_
          refine pt (v := lv) rfl (fun wS HS => y_move s12_110) ?_
          refine pt (v := Ad (sp (lv)) (0 * 5)) rfl (fun wS HS => y_ixR (m := 0) Try.underlying39 sz74 (hL.st HS).rd (by decide) rfl rfl rfl (by omega)) ?_
          refine pt (v := Ad (sp (lv)) ((0 * 5) + 0)) rfl (fun wS HS => y_fld Try.underlying74 rfl rfl sz3 (by decide) rfl) ?_
          refine pt (v := I ((ls.getD 0 lf0).n)) rfl (fun wS HS => y_load sc3 rfl (by first | exact (hL.st HS).rd.cell _ _ (flat5_get (i := 0) (j := 0) (d := lf0) (by omega) rfl) | (rw [Nat.add_assoc]; exact (hL.st HS).rd.cell _ _ (flat5_get (i := 0) (j := 0) (d := lf0) (by omega) rfl)))) ?_
          refine pt (v := I (((ls.getD 0 lf0).n) + ((1 : Nat) : Int))) rfl (fun wS HS => y_add (i := ((ls.getD 0 lf0).n)) (j := ((1 : Nat) : Int)) rfl rfl (by omega)) ?_
          refine pt (v := .bool (decide (((ls.getD 1 lf0).n) = (((ls.getD 0 lf0).n) + ((1 : Nat) : Int))))) rfl (fun wS HS => y_eqlK (i := ((ls.getD 1 lf0).n)) (j := (((ls.getD 0 lf0).n) + ((1 : Nat) : Int))) rfl rfl) ?_
          refine pt (v := .bool (decide (((ls.getD 1 lf0).n) = (((ls.getD 0 lf0).n) + ((1 : Nat) : Int))))) rfl (fun wS HS => y_move rfl) ?_
          refine gpt (v := lv) rfl (gv_of (t := 123) rfl rfl rfl) (decide_eq_true hp172) (fun wS HS => y_move s12_110) ?_
          refine gpt (v := Ad (sp (lv)) (0 * 5)) rfl (gv_of (t := 123) rfl rfl rfl) (decide_eq_true hp172) (fun wS HS => y_ixR (m := 0) Try.underlying39 sz74 (hL.st HS).rd (by decide) rfl rfl rfl (by omega)) ?_
          refine gpt (v := Ad (sp (lv)) ((0 * 5) + 1)) rfl (gv_of (t := 123) rfl rfl rfl) (decide_eq_true hp172) (fun wS HS => y_fld Try.underlying74 rfl rfl sz48 (by decide) rfl) ?_
          refine gpt (v := .agg ([I (((ls.getD 0 lf0).cell).c.k), .string (bst (((ls.getD 0 lf0).cell).c.key)), ((ls.getD 0 lf0).cell).v]).toArray) rfl (gv_of (t := 123) rfl rfl rfl) (decide_eq_true hp172) (fun wS HS => y_loadA (us := (ls.getD 0 lf0).cell.cs) ag48 sz48 rfl rfl (fun j u hu => by rw [Nat.add_assoc]; exact (hL.st HS).rd.cell _ _ (flat5_get (i := 0) (by omega) (leaf_mid hu)))) ?_
          refine gpt (v := I (kind)) rfl (gv_of (t := 123) rfl rfl rfl) (decide_eq_true hp172) (fun wS HS => y_move s1_110) ?_
          refine gpt (v := .string (bst key)) rfl (gv_of (t := 123) rfl rfl rfl) (decide_eq_true hp172) (fun wS HS => y_move s2_110) ?_
          refine gpl rfl (gv_of (t := 123) rfl rfl rfl) (decide_eq_true hp172) (ow_call fn89 rfl (place_c (((ls.getD 0 lf0).cell).c.k) (((ls.getD 0 lf0).cell).c.key) (((ls.getD 0 lf0).cell).v) (Rd.one (((hL.at (d := lf0) (i := 0) (by omega)).cell).1.st H180)) (kind) (key) _) ⟨rfl, rfl, rfl, trivial⟩) ?_
          rintro _ w181 ⟨rfl, hB182⟩
          have H183 : St w _ [_, _, _] w181 := H180.call hB182
          refine ⟨H183, ?_⟩
          refine gpt (v := .bool (decide ((plcC (((ls.getD 0 lf0).cell).c.k) (((ls.getD 0 lf0).cell).c.key) kind key) < ((0 : Nat) : Int)))) rfl (gv_of (t := 123) rfl rfl rfl) (decide_eq_true hp172) (fun wS HS => y_lss (i := (plcC (((ls.getD 0 lf0).cell).c.k) (((ls.getD 0 lf0).cell).c.key) kind key)) (j := ((0 : Nat) : Int)) rfl rfl) ?_
          refine pt (v := .bool (decide ((plcC (((ls.getD 0 lf0).cell).c.k) (((ls.getD 0 lf0).cell).c.key) kind key) < ((0 : Nat) : Int)))) rfl (fun wS HS => y_pickT rfl (decide_eq_true hp172) rfl) ?_
          refine pt (v := .bool (decide ((plcC (((ls.getD 0 lf0).cell).c.k) (((ls.getD 0 lf0).cell).c.key) kind key) < ((0 : Nat) : Int)))) rfl (fun wS HS => y_move rfl) ?_
          refine gpt (v := lv) rfl (gv_of (t := 133) rfl rfl rfl) (decide_eq_true hp178) (fun wS HS => y_move s12_110) ?_
          refine gpt (v := Ad (sp (lv)) (1 * 5)) rfl (gv_of (t := 133) rfl rfl rfl) (decide_eq_true hp178) (fun wS HS => y_ixR (m := 1) Try.underlying39 sz74 (hL.st HS).rd (by decide) rfl rfl rfl (by omega)) ?_
          refine gpt (v := Ad (sp (lv)) ((1 * 5) + 1)) rfl (gv_of (t := 133) rfl rfl rfl) (decide_eq_true hp178) (fun wS HS => y_fld Try.underlying74 rfl rfl sz48 (by decide) rfl) ?_
          refine gpt (v := .agg ([I (((ls.getD 1 lf0).cell).c.k), .string (bst (((ls.getD 1 lf0).cell).c.key)), ((ls.getD 1 lf0).cell).v]).toArray) rfl (gv_of (t := 133) rfl rfl rfl) (decide_eq_true hp178) (fun wS HS => y_loadA (us := (ls.getD 1 lf0).cell.cs) ag48 sz48 rfl rfl (fun j u hu => by rw [Nat.add_assoc]; exact (hL.st HS).rd.cell _ _ (flat5_get (i := 1) (by omega) (leaf_mid hu)))) ?_
          refine gpt (v := I (kind)) rfl (gv_of (t := 133) rfl rfl rfl) (decide_eq_true hp178) (fun wS HS => y_move s1_110) ?_
          refine gpt (v := .string (bst key)) rfl (gv_of (t := 133) rfl rfl rfl) (decide_eq_true hp178) (fun wS HS => y_move s2_110) ?_
          refine gpl rfl (gv_of (t := 133) rfl rfl rfl) (decide_eq_true hp178) (ow_call fn89 rfl (place_c (((ls.getD 1 lf0).cell).c.k) (((ls.getD 1 lf0).cell).c.key) (((ls.getD 1 lf0).cell).v) (Rd.one (((hL.at (d := lf0) (i := 1) (by omega)).cell).1.st H183)) (kind) (key) _) ⟨rfl, rfl, rfl, trivial⟩) ?_
          rintro _ w184 ⟨rfl, hB185⟩
          have H186 : St w _ [_, _, _] w184 := H183.call hB185
          refine ⟨H186, ?_⟩
          refine gpt (v := .bool (decide (((0 : Nat) : Int) < (plcC (((ls.getD 1 lf0).cell).c.k) (((ls.getD 1 lf0).cell).c.key) kind key)))) rfl (gv_of (t := 133) rfl rfl rfl) (decide_eq_true hp178) (fun wS HS => y_gtr (i := (plcC (((ls.getD 1 lf0).cell).c.k) (((ls.getD 1 lf0).cell).c.key) kind key)) (j := ((0 : Nat) : Int)) rfl rfl) ?_
          refine pt (v := .bool (decide (((0 : Nat) : Int) < (plcC (((ls.getD 1 lf0).cell).c.k) (((ls.getD 1 lf0).cell).c.key) kind key)))) rfl (fun wS HS => y_pickT rfl (decide_eq_true hp178) rfl) ?_
          refine tly (v := .bool (decide (((0 : Nat) : Int) < (plcC (((ls.getD 1 lf0).cell).c.k) (((ls.getD 1 lf0).cell).c.key) kind key)))) rfl (y_assign rfl) ?_
          refine p_nil ?_
          refine n_block (n_then ?_)
          refine c_seq ?_
          refine c_seq ?_
          refine c_reg ?_
          refine sy (v := .bool (decide (((0 : Nat) : Int) < (plcC (((ls.getD 1 lf0).cell).c.k) (((ls.getD 1 lf0).cell).c.key) kind key)))) (y_move rfl) ?_
          refine sy (v := .bool (decide (¬ (((0 : Nat) : Int) < (plcC (((ls.getD 1 lf0).cell).c.k) (((ls.getD 1 lf0).cell).c.key) kind key))))) (y_notP rfl) ?_
          refine c_nil ?_
          refine n_then ?_
          refine c_if rfl (fun hc187 => ?_) (fun hc187 => ?_)
          ·
           refine c_seq ?_
           refine c_reg ?_
           refine sy (v := .agg ([I ((0 : Nat) : Int), .string .empty, .slice none 0 0]).toArray) (y_build (parts := []) (pv := []) (us := [I ((0 : Nat) : Int), .string (.empty), .slice none 0 0]) trivial (by kernel_rfl)) ?_
           refine s0 (ow_storeW (us := [I ((0 : Nat) : Int), .string (.empty), .slice none 0 0]) H186 sz48 rfl s8_110 rfl (by simp [Value.oneCell']) (by simp [*])) ?_
           rintro _ w188 H189'
           have H189 : St w _ [[(g7, Rw 48 ([I ((0 : Nat) : Int), .string (.empty), .slice none 0 0]))], _, _] w188 := H189'
           refine sy (v := .bool (false)) (y_assign (v := .bool (false)) rfl) ?_
           refine sy (v := I ((190 : Nat) : Int)) (y_assign (v := I ((190 : Nat) : Int)) rfl) ?_
           refine c_nil ?_
           refine n_then ?_
           refine wp_ret ?_
           refine r_then ?_
           refine e_r3 Try.results35 (rv_b H189 (i := 0) rfl ag48 sz48 rfl s8_110) (rv_t rfl) (rv_t rfl) ?_
           have hsa : saysA kind key n (PE ls) = -1 := by
            rw [hs1]; repeat' split
            all_goals first | rfl | (exfalso; omega)
           have hck : checkA root kind key n (PE ls) = (190, none) := by
            rw [ck_say (by first | assumption | exact Decidable.not_not.1 (by assumption)) (by omega) (by omega) hal, if_neg (by omega), if_neg (by omega)]
           rw [hck]
           exact ⟨_, rfl, ⟨cz, .slice none 0 0⟩, _, rfl, rfl, OS.nil 5 1, (H189.take 0 rfl).nilp⟩
          ·
           refine wp_skip ?_
           refine n_then ?_
           refine c_seq ?_
           refine c_reg ?_
           refine sy (v := .agg ([I ((0 : Nat) : Int), .string .empty, .slice none 0 0]).toArray) (y_build (parts := []) (pv := []) (us := [I ((0 : Nat) : Int), .string (.empty), .slice none 0 0]) trivial (by kernel_rfl)) ?_
           refine s0 (ow_storeW (us := [I ((0 : Nat) : Int), .string (.empty), .slice none 0 0]) H186 sz48 rfl s8_110 rfl (by simp [Value.oneCell']) (by simp [*])) ?_
           rintro _ w190 H191'
           have H191 : St w _ [[(g7, Rw 48 ([I ((0 : Nat) : Int), .string (.empty), .slice none 0 0]))], _, _] w190 := H191'
           refine sy (v := .bool (false)) (y_assign (v := .bool (false)) rfl) ?_
           refine sy (v := I ((0 : Nat) : Int)) (y_assign (v := I ((0 : Nat) : Int)) rfl) ?_
           refine c_nil ?_
           refine n_then ?_
           refine wp_ret ?_
           refine e_r3 Try.results35 (rv_b H191 (i := 0) rfl ag48 sz48 rfl s8_110) (rv_t rfl) (rv_t rfl) ?_
           have hsa : saysA kind key n (PE ls) = 0 := by
            rw [hs1]; repeat' split
            all_goals first | rfl | (exfalso; omega)
           have hck : checkA root kind key n (PE ls) = (0, none) := by
            rw [ck_say (by first | assumption | exact Decidable.not_not.1 (by assumption)) (by omega) (by omega) hal, if_neg (by omega), if_pos hsa]
           rw [hck]
           exact ⟨_, rfl, ⟨cz, .slice none 0 0⟩, _, rfl, rfl, OS.nil 5 1, (H191.take 0 rfl).nilp⟩
         ·
          refine drawS (.step 0 0 (.step 0 1 (.step 0 2 (.step 0 3 (.step 0 4 (.step 0 5 (.step 0 6 (.step 0 7 (.step 0 8 (.step 0 9 (.step 0 10 (.step 0 11 (.step 0 12 (.step 0 13 (.step 0 14 (.step 0 15 (.step 0 16 (.step 1 17 (.step 0 18 (.step 0 19 (.step 0 20 (.step 0 21 (.step 0 22 (.step 0 23 (.step 0 24 (.step 0 25 (.step 0 26 (.step 0 27 (.step 0 28 (.step 0 29 (.step 2 30 .nil))))))))))))))))))))))))))))))) mixed H110 (by kernel_rfl) (by kernel_rfl) (by kernel_rfl) ?_
          intro w197 H198
          refine pt (v := lv) rfl (fun wS HS => y_move s12_110) ?_
          refine pt (v := Ad (sp (lv)) (1 * 5)) rfl (fun wS HS => y_ixR (m := 1) Try.underlying39 sz74 (hL.st HS).rd (by decide) rfl rfl rfl (by omega)) ?_
          refine pt (v := Ad (sp (lv)) ((1 * 5) + 0)) rfl (fun wS HS => y_fld Try.underlying74 rfl rfl sz3 (by decide) rfl) ?_
          refine pt (v := I ((ls.getD 1 lf0).n)) rfl (fun wS HS => y_load sc3 rfl (by first | exact (hL.st HS).rd.cell _ _ (flat5_get (i := 1) (j := 0) (d := lf0) (by omega) rfl) | (rw [Nat.add_assoc]; exact (hL.st HS).rd.cell _ _ (flat5_get (i := 1) (j := 0) (d := lf0) (by omega) rfl)))) ?_
          refine pt (v := lv) rfl (fun wS HS => y_move s12_110) ?_
          refine pt (v := Ad (sp (lv)) (0 * 5)) rfl (fun wS HS => y_ixR (m := 0) Try.underlying39 sz74 (hL.st HS).rd (by decide) rfl rfl rfl (by omega)) ?_
          refine pt (v := Ad (sp (lv)) ((0 * 5) + 0)) rfl (fun wS HS => y_fld Try.underlying74 rfl rfl sz3 (by decide) rfl) ?_
          refine pt (v := I ((ls.getD 0 lf0).n)) rfl (fun wS HS => y_load sc3 rfl (by first | exact (hL.st HS).rd.cell _ _ (flat5_get (i := 0) (j := 0) (d := lf0) (by omega) rfl) | (rw [Nat.add_assoc]; exact (hL.st HS).rd.cell _ _ (flat5_get (i := 0) (j := 0) (d := lf0) (by omega) rfl)))) ?_
          refine pt (v := I (((ls.getD 0 lf0).n) + ((1 : Nat) : Int))) rfl (fun wS HS => y_add (i := ((ls.getD 0 lf0).n)) (j := ((1 : Nat) : Int)) rfl rfl (by omega)) ?_
          refine pt (v := .bool (decide (((ls.getD 1 lf0).n) = (((ls.getD 0 lf0).n) + ((1 : Nat) : Int))))) rfl (fun wS HS => y_eqlK (i := ((ls.getD 1 lf0).n)) (j := (((ls.getD 0 lf0).n) + ((1 : Nat) : Int))) rfl rfl) ?_
          refine pt (v := .bool (decide (((ls.getD 1 lf0).n) = (((ls.getD 0 lf0).n) + ((1 : Nat) : Int))))) rfl (fun wS HS => y_move rfl) ?_
          refine gpt (v := lv) rfl (gv_of (t := 123) rfl rfl rfl) (decide_eq_true hp172) (fun wS HS => y_move s12_110) ?_
          refine gpt (v := Ad (sp (lv)) (0 * 5)) rfl (gv_of (t := 123) rfl rfl rfl) (decide_eq_true hp172) (fun wS HS => y_ixR (m := 0) Try.underlying39 sz74 (hL.st HS).rd (by decide) rfl rfl rfl (by omega)) ?_
          refine gpt (v := Ad (sp (lv)) ((0 * 5) + 1)) rfl (gv_of (t := 123) rfl rfl rfl) (decide_eq_true hp172) (fun wS HS => y_fld Try.underlying74 rfl rfl sz48 (by decide) rfl) ?_
          refine gpt (v := .agg ([I (((ls.getD 0 lf0).cell).c.k), .string (bst (((ls.getD 0 lf0).cell).c.key)), ((ls.getD 0 lf0).cell).v]).toArray) rfl (gv_of (t := 123) rfl rfl rfl) (decide_eq_true hp172) (fun wS HS => y_loadA (us := (ls.getD 0 lf0).cell.cs) ag48 sz48 rfl rfl (fun j u hu => by rw [Nat.add_assoc]; exact (hL.st HS).rd.cell _ _ (flat5_get (i := 0) (by omega) (leaf_mid hu)))) ?_
          refine gpt (v := I (kind)) rfl (gv_of (t := 123) rfl rfl rfl) (decide_eq_true hp172) (fun wS HS => y_move s1_110) ?_
          refine gpt (v := .string (bst key)) rfl (gv_of (t := 123) rfl rfl rfl) (decide_eq_true hp172) (fun wS HS => y_move s2_110) ?_
          refine gpl rfl (gv_of (t := 123) rfl rfl rfl) (decide_eq_true hp172) (ow_call fn89 rfl (place_c (((ls.getD 0 lf0).cell).c.k) (((ls.getD 0 lf0).cell).c.key) (((ls.getD 0 lf0).cell).v) (Rd.one (((hL.at (d := lf0) (i := 0) (by omega)).cell).1.st H198)) (kind) (key) _) ⟨rfl, rfl, rfl, trivial⟩) ?_
          rintro _ w199 ⟨rfl, hB200⟩
          have H201 : St w _ [_, _, _] w199 := H198.call hB200
          refine ⟨H201, ?_⟩
          refine gpt (v := .bool (decide ((plcC (((ls.getD 0 lf0).cell).c.k) (((ls.getD 0 lf0).cell).c.key) kind key) < ((0 : Nat) : Int)))) rfl (gv_of (t := 123) rfl rfl rfl) (decide_eq_true hp172) (fun wS HS => y_lss (i := (plcC (((ls.getD 0 lf0).cell).c.k) (((ls.getD 0 lf0).cell).c.key) kind key)) (j := ((0 : Nat) : Int)) rfl rfl) ?_
          refine pt (v := .bool (decide ((plcC (((ls.getD 0 lf0).cell).c.k) (((ls.getD 0 lf0).cell).c.key) kind key) < ((0 : Nat) : Int)))) rfl (fun wS HS => y_pickT rfl (decide_eq_true hp172) rfl) ?_
          refine pt (v := .bool (decide ((plcC (((ls.getD 0 lf0).cell).c.k) (((ls.getD 0 lf0).cell).c.key) kind key) < ((0 : Nat) : Int)))) rfl (fun wS HS => y_move rfl) ?_
          refine gpno rfl (gv_of (t := 133) rfl rfl rfl) (decide_eq_false hp178) ?_
          refine gpno rfl (gv_of (t := 133) rfl rfl rfl) (decide_eq_false hp178) ?_
          refine gpno rfl (gv_of (t := 133) rfl rfl rfl) (decide_eq_false hp178) ?_
          refine gpno rfl (gv_of (t := 133) rfl rfl rfl) (decide_eq_false hp178) ?_
          refine gpno rfl (gv_of (t := 133) rfl rfl rfl) (decide_eq_false hp178) ?_
          refine gpno rfl (gv_of (t := 133) rfl rfl rfl) (decide_eq_false hp178) ?_
          refine gpno rfl (gv_of (t := 133) rfl rfl rfl) (decide_eq_false hp178) ?_
          refine gpno rfl (gv_of (t := 133) rfl rfl rfl) (decide_eq_false hp178) ?_
          refine pt (v := .bool (false)) rfl (fun wS HS => y_pickF (v := .bool (false)) rfl (decide_eq_false hp178) rfl) ?_
          refine tly (v := .bool (false)) rfl (y_assign rfl) ?_
          refine p_nil ?_
          refine n_block (n_then ?_)
          refine c_seq ?_
          refine c_seq ?_
          refine c_reg ?_
          refine sy (v := .bool (false)) (y_move rfl) ?_
          refine sy (v := .bool (true)) (y_not (p := false) rfl) ?_
          refine c_nil ?_
          refine n_then ?_
          refine c_t rfl rfl ?_
          refine c_seq ?_
          refine c_reg ?_
          refine sy (v := .agg ([I ((0 : Nat) : Int), .string .empty, .slice none 0 0]).toArray) (y_build (parts := []) (pv := []) (us := [I ((0 : Nat) : Int), .string (.empty), .slice none 0 0]) trivial (by kernel_rfl)) ?_
          refine s0 (ow_storeW (us := [I ((0 : Nat) : Int), .string (.empty), .slice none 0 0]) H201 sz48 rfl s8_110 rfl (by simp [Value.oneCell']) (by simp [*])) ?_
          rintro _ w202 H203'
          have H203 : St w _ [[(g7, Rw 48 ([I ((0 : Nat) : Int), .string (.empty), .slice none 0 0]))], _, _] w202 := H203'
          refine sy (v := .bool (false)) (y_assign (v := .bool (false)) rfl) ?_
          refine sy (v := I ((190 : Nat) : Int)) (y_assign (v := I ((190 : Nat) : Int)) rfl) ?_
          refine c_nil ?_
          refine n_then ?_
          refine wp_ret ?_
          refine r_then ?_
          refine e_r3 Try.results35 (rv_b H203 (i := 0) rfl ag48 sz48 rfl s8_110) (rv_t rfl) (rv_t rfl) ?_
          have hsa : saysA kind key n (PE ls) = -1 := by
           rw [hs1]; repeat' split
           all_goals first | rfl | (exfalso; omega)
          have hck : checkA root kind key n (PE ls) = (190, none) := by
           rw [ck_say (by first | assumption | exact Decidable.not_not.1 (by assumption)) (by omega) (by omega) hal, if_neg (by omega), if_neg (by omega)]
          rw [hck]
          exact ⟨_, rfl, ⟨cz, .slice none 0 0⟩, _, rfl, rfl, OS.nil 5 1, (H203.take 0 rfl).nilp⟩
        ·
         refine drawS (.step 0 0 (.step 0 1 (.step 0 2 (.step 0 3 (.step 0 4 (.step 0 5 (.step 0 6 (.step 0 7 (.step 0 8 (.step 0 9 (.step 0 10 (.step 0 11 (.step 0 12 (.step 0 13 (.step 0 14 (.step 0 15 (.step 0 16 (.step 0 17 (.step 0 18 (.step 0 19 (.step 0 20 (.step 0 21 (.step 0 22 (.step 0 23 (.step 0 24 (.step 0 25 (.step 0 26 (.step 0 27 (.step 0 28 (.step 0 29 (.step 2 30 .nil))))))))))))))))))))))))))))))) mixed H110 (by kernel_rfl) (by kernel_rfl) (by kernel_rfl) ?_
         intro w208 H209
         refine pt (v := lv) rfl (fun wS HS => y_move s12_110) ?_
         refine pt (v := Ad (sp (lv)) (1 * 5)) rfl (fun wS HS => y_ixR (m := 1) Try.underlying39 sz74 (hL.st HS).rd (by decide) rfl rfl rfl (by omega)) ?_
         refine pt (v := Ad (sp (lv)) ((1 * 5) + 0)) rfl (fun wS HS => y_fld Try.underlying74 rfl rfl sz3 (by decide) rfl) ?_
         refine pt (v := I ((ls.getD 1 lf0).n)) rfl (fun wS HS => y_load sc3 rfl (by first | exact (hL.st HS).rd.cell _ _ (flat5_get (i := 1) (j := 0) (d := lf0) (by omega) rfl) | (rw [Nat.add_assoc]; exact (hL.st HS).rd.cell _ _ (flat5_get (i := 1) (j := 0) (d := lf0) (by omega) rfl)))) ?_
         refine pt (v := lv) rfl (fun wS HS => y_move s12_110) ?_
         refine pt (v := Ad (sp (lv)) (0 * 5)) rfl (fun wS HS => y_ixR (m := 0) Try.underlying39 sz74 (hL.st HS).rd (by decide) rfl rfl rfl (by omega)) ?_
         refine pt (v := Ad (sp (lv)) ((0 * 5) + 0)) rfl (fun wS HS => y_fld Try.underlying74 rfl rfl sz3 (by decide) rfl) ?_
         refine pt (v := I ((ls.getD 0 lf0).n)) rfl (fun wS HS => y_load sc3 rfl (by first | exact (hL.st HS).rd.cell _ _ (flat5_get (i := 0) (j := 0) (d := lf0) (by omega) rfl) | (rw [Nat.add_assoc]; exact (hL.st HS).rd.cell _ _ (flat5_get (i := 0) (j := 0) (d := lf0) (by omega) rfl)))) ?_
         refine pt (v := I (((ls.getD 0 lf0).n) + ((1 : Nat) : Int))) rfl (fun wS HS => y_add (i := ((ls.getD 0 lf0).n)) (j := ((1 : Nat) : Int)) rfl rfl (by omega)) ?_
         refine pt (v := .bool (decide (((ls.getD 1 lf0).n) = (((ls.getD 0 lf0).n) + ((1 : Nat) : Int))))) rfl (fun wS HS => y_eqlK (i := ((ls.getD 1 lf0).n)) (j := (((ls.getD 0 lf0).n) + ((1 : Nat) : Int))) rfl rfl) ?_
         refine pt (v := .bool (decide (((ls.getD 1 lf0).n) = (((ls.getD 0 lf0).n) + ((1 : Nat) : Int))))) rfl (fun wS HS => y_move rfl) ?_
         refine gpno rfl (gv_of (t := 123) rfl rfl rfl) (decide_eq_false hp172) ?_
         refine gpno rfl (gv_of (t := 123) rfl rfl rfl) (decide_eq_false hp172) ?_
         refine gpno rfl (gv_of (t := 123) rfl rfl rfl) (decide_eq_false hp172) ?_
         refine gpno rfl (gv_of (t := 123) rfl rfl rfl) (decide_eq_false hp172) ?_
         refine gpno rfl (gv_of (t := 123) rfl rfl rfl) (decide_eq_false hp172) ?_
         refine gpno rfl (gv_of (t := 123) rfl rfl rfl) (decide_eq_false hp172) ?_
         refine gpno rfl (gv_of (t := 123) rfl rfl rfl) (decide_eq_false hp172) ?_
         refine gpno rfl (gv_of (t := 123) rfl rfl rfl) (decide_eq_false hp172) ?_
         refine pt (v := .bool (false)) rfl (fun wS HS => y_pickF (v := .bool (false)) rfl (decide_eq_false hp172) rfl) ?_
         refine pt (v := .bool (false)) rfl (fun wS HS => y_move rfl) ?_
         refine gpno (t := false) (b := true) rfl (gv_of (t := 133) rfl rfl rfl) (rfl) ?_
         refine gpno (t := false) (b := true) rfl (gv_of (t := 133) rfl rfl rfl) (rfl) ?_
         refine gpno (t := false) (b := true) rfl (gv_of (t := 133) rfl rfl rfl) (rfl) ?_
         refine gpno (t := false) (b := true) rfl (gv_of (t := 133) rfl rfl rfl) (rfl) ?_
         refine gpno (t := false) (b := true) rfl (gv_of (t := 133) rfl rfl rfl) (rfl) ?_
         refine gpno (t := false) (b := true) rfl (gv_of (t := 133) rfl rfl rfl) (rfl) ?_
         refine gpno (t := false) (b := true) rfl (gv_of (t := 133) rfl rfl rfl) (rfl) ?_
         refine gpno (t := false) (b := true) rfl (gv_of (t := 133) rfl rfl rfl) (rfl) ?_
         refine pt (v := .bool (false)) rfl (fun wS HS => y_pickF (v := .bool (false)) rfl (rfl) rfl) ?_
         refine tly (v := .bool (false)) rfl (y_assign rfl) ?_
         refine p_nil ?_
         refine n_block (n_then ?_)
         refine c_seq ?_
         refine c_seq ?_
         refine c_reg ?_
         refine sy (v := .bool (false)) (y_move rfl) ?_
         refine sy (v := .bool (true)) (y_not (p := false) rfl) ?_
         refine c_nil ?_
         refine n_then ?_
         refine c_t rfl rfl ?_
         refine c_seq ?_
         refine c_reg ?_
         refine sy (v := .agg ([I ((0 : Nat) : Int), .string .empty, .slice none 0 0]).toArray) (y_build (parts := []) (pv := []) (us := [I ((0 : Nat) : Int), .string (.empty), .slice none 0 0]) trivial (by kernel_rfl)) ?_
         refine s0 (ow_storeW (us := [I ((0 : Nat) : Int), .string (.empty), .slice none 0 0]) H209 sz48 rfl s8_110 rfl (by simp [Value.oneCell']) (by simp [*])) ?_
         rintro _ w210 H211'
         have H211 : St w _ [[(g7, Rw 48 ([I ((0 : Nat) : Int), .string (.empty), .slice none 0 0]))], _, _] w210 := H211'
         refine sy (v := .bool (false)) (y_assign (v := .bool (false)) rfl) ?_
         refine sy (v := I ((190 : Nat) : Int)) (y_assign (v := I ((190 : Nat) : Int)) rfl) ?_
         refine c_nil ?_
         refine n_then ?_
         refine wp_ret ?_
         refine r_then ?_
         refine e_r3 Try.results35 (rv_b H211 (i := 0) rfl ag48 sz48 rfl s8_110) (rv_t rfl) (rv_t rfl) ?_
         have hsa : saysA kind key n (PE ls) = -1 := by
          rw [hs1]; repeat' split
          all_goals first | rfl | (exfalso; omega)
         have hck : checkA root kind key n (PE ls) = (190, none) := by
          rw [ck_say (by first | assumption | exact Decidable.not_not.1 (by assumption)) (by omega) (by omega) hal, if_neg (by omega), if_neg (by omega)]
         rw [hck]
         exact ⟨_, rfl, ⟨cz, .slice none 0 0⟩, _, rfl, rfl, OS.nil 5 1, (H211.take 0 rfl).nilp⟩

end Go.Proofs.Ytdcmbcjkdhdohaa
