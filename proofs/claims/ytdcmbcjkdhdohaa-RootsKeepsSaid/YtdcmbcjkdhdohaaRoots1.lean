/- Walks: the order of cells (roots.known, place, right and what they call). -/
import Derived.Test.YtdcmbcjkdhdohaaRootsL
namespace Go.Proofs.Ytdcmbcjkdhdohaa
open Go Go.RowKit
set_option linter.unusedSimpArgs false
set_option linter.unusedVariables false
attribute [local irreducible] wpList wpP Code.wp

def orI (a b : Int) : Int := if a ≠ 0 then a else b
theorem plc_or (k : Int) (key : List UInt8) (k2 : Int) (key2 : List UInt8) : plcC k key k2 key2 = orI (cmpI k k2) (cmpS key key2) := rfl
theorem wrong_40 {l : List Ce} (h : ¬ kinds l) : wrong l = 40 := by unfold wrong; rw [if_neg h]
theorem wrong_130 {l : List Ce} (h : kinds l) (h2 : ¬ ordered l) : wrong l = 130 := by unfold wrong; rw [if_pos h, if_neg h2]
theorem wrong_0 {l : List Ce} (h : kinds l) (h2 : ordered l) : wrong l = 0 := by unfold wrong; rw [if_pos h, if_pos h2]
theorem pl_get {cs : List Cl} {i : Nat} (h : i < cs.length) : (cs.map (·.c))[i]? = some (cs.getD i c0).c := by
  rw [List.getElem?_map, List.getElem?_eq_getElem h, List.getD_eq_getElem?_getD, List.getElem?_eq_getElem h]; rfl
theorem not_ord {cs : List Cl} {i : Nat} (h0 : 0 < i) (h : i < cs.length) (hn : ¬ ahead (cs.getD (i - 1) c0).c.k (cs.getD (i - 1) c0).c.key (cs.getD i c0).c.k (cs.getD i c0).c.key) : ¬ ordered (cs.map (·.c)) := fun ho => hn (ho (i - 1) _ _ (pl_get (by omega)) (by rw [Nat.sub_add_cancel h0]; exact pl_get h))
theorem is_ord {cs : List Cl} (h : ∀ j, j + 1 < cs.length → ahead (cs.getD j c0).c.k (cs.getD j c0).c.key (cs.getD (j + 1) c0).c.k (cs.getD (j + 1) c0).c.key) : ordered (cs.map (·.c)) := by
  intro i a b ha hb
  have h1 := (List.getElem?_eq_some_iff.1 hb).1
  rw [List.length_map] at h1
  rw [pl_get (by omega)] at ha hb
  obtain rfl := Option.some.inj ha
  obtain rfl := Option.some.inj hb
  exact h i h1
theorem not_kinds {cs : List Cl} {i : Nat} (h : i < cs.length) (hn : ¬ kMay (cs.getD i c0).c.k) : ¬ kinds (cs.map (·.c)) := fun hk => hn (hk _ (List.mem_of_getElem? (pl_get h)))
theorem is_kinds {cs : List Cl} (h : ∀ j, j < cs.length → kMay (cs.getD j c0).c.k) : kinds (cs.map (·.c)) := by
  intro c hc
  obtain ⟨i, hi⟩ := List.getElem?_of_mem hc
  have h1 := (List.getElem?_eq_some_iff.1 hi).1
  rw [List.length_map] at h1
  rw [pl_get h1] at hi
  obtain rfl := Option.some.inj hi
  exact h i h1

theorem known_c (k : Int) (w : World) :
    Calls Try.prog 86 (([I (k)] : List Value).toArray) w (fun e w' => ∃ v, e = .returned v ∧ v = .bool (decide (kMay k)) ∧ Below w.heap.size w w') := by
 refine calls_mk Try.func86 rfl 9 Try.ntmps86 rfl ?_
 have H0 : St w [] [] w := St.refl w
 refine c_seq ?_
 refine c_reg ?_
 refine sy (v := .bool (false)) (y_assign (v := .bool (false)) rfl) ?_
 refine c_nil ?_
 refine n_then ?_
 refine c_seq ?_
 refine c_reg ?_
 refine sy (v := I (k)) (y_move rfl) ?_
 refine sy (v := .bool (decide (((1 : Nat) : Int) ≤ k))) (y_geq (i := k) (j := ((1 : Nat) : Int)) rfl rfl) ?_
 refine sy (v := .bool (decide (((1 : Nat) : Int) ≤ k))) (y_move rfl) ?_
 by_cases hp1 : ((1 : Nat) : Int) ≤ k
 ·
  refine gsy (v := I (k)) (gv_of (t := 5) rfl rfl rfl) (decide_eq_true hp1) (y_move rfl) ?_
  refine gsy (v := .bool (decide (k ≤ ((4 : Nat) : Int)))) (gv_of (t := 5) rfl rfl rfl) (decide_eq_true hp1) (y_leq (i := k) (j := ((4 : Nat) : Int)) rfl rfl) ?_
  refine sy (v := .bool (decide (k ≤ ((4 : Nat) : Int)))) (y_pickT rfl (decide_eq_true hp1) rfl) ?_
  refine sy (v := .bool (decide (k ≤ ((4 : Nat) : Int)))) (y_assign rfl) ?_
  refine c_nil ?_
  refine n_then ?_
  refine wp_ret ?_
  refine e_r1 Try.results86 (rv_t rfl) ?_
  refine ⟨_, rfl, congrArg Value.bool ?_, H0.below⟩
  unfold kMay; first | (apply decide_eq_decide.2; omega) | (symm; apply decide_eq_false; omega) | (symm; apply decide_eq_true; omega)
 ·
  refine gno (gv_of (t := 5) rfl rfl rfl) (decide_eq_false hp1) ?_
  refine gno (gv_of (t := 5) rfl rfl rfl) (decide_eq_false hp1) ?_
  refine sy (v := .bool (false)) (y_pickF (v := .bool (false)) rfl (decide_eq_false hp1) rfl) ?_
  refine sy (v := .bool (false)) (y_assign rfl) ?_
  refine c_nil ?_
  refine n_then ?_
  refine wp_ret ?_
  refine e_r1 Try.results86 (rv_t rfl) ?_
  refine ⟨_, rfl, congrArg Value.bool ?_, H0.below⟩
  unfold kMay; first | (apply decide_eq_decide.2; omega) | (symm; apply decide_eq_false; omega) | (symm; apply decide_eq_true; omega)

theorem kindMay_c (k : Int) (w : World) :
    Calls Try.prog 83 (([I (k)] : List Value).toArray) w (fun e w' => ∃ v, e = .returned v ∧ v = .bool (decide (kMay k)) ∧ Below w.heap.size w w') := by
 refine calls_mk Try.func83 rfl 9 Try.ntmps83 rfl ?_
 have H0 : St w [] [] w := St.refl w
 refine c_seq ?_
 refine c_reg ?_
 refine sy (v := .bool (false)) (y_assign (v := .bool (false)) rfl) ?_
 refine c_nil ?_
 refine n_then ?_
 refine c_seq ?_
 refine c_reg ?_
 refine sy (v := I (k)) (y_move rfl) ?_
 refine sy (v := .bool (decide (((1 : Nat) : Int) ≤ k))) (y_geq (i := k) (j := ((1 : Nat) : Int)) rfl rfl) ?_
 refine sy (v := .bool (decide (((1 : Nat) : Int) ≤ k))) (y_move rfl) ?_
 by_cases hp1 : ((1 : Nat) : Int) ≤ k
 ·
  refine gsy (v := I (k)) (gv_of (t := 5) rfl rfl rfl) (decide_eq_true hp1) (y_move rfl) ?_
  refine gsy (v := .bool (decide (k ≤ ((4 : Nat) : Int)))) (gv_of (t := 5) rfl rfl rfl) (decide_eq_true hp1) (y_leq (i := k) (j := ((4 : Nat) : Int)) rfl rfl) ?_
  refine sy (v := .bool (decide (k ≤ ((4 : Nat) : Int)))) (y_pickT rfl (decide_eq_true hp1) rfl) ?_
  refine sy (v := .bool (decide (k ≤ ((4 : Nat) : Int)))) (y_assign rfl) ?_
  refine c_nil ?_
  refine n_then ?_
  refine wp_ret ?_
  refine e_r1 Try.results83 (rv_t rfl) ?_
  refine ⟨_, rfl, congrArg Value.bool ?_, H0.below⟩
  unfold kMay; first | (apply decide_eq_decide.2; omega) | (symm; apply decide_eq_false; omega) | (symm; apply decide_eq_true; omega)
 ·
  refine gno (gv_of (t := 5) rfl rfl rfl) (decide_eq_false hp1) ?_
  refine gno (gv_of (t := 5) rfl rfl rfl) (decide_eq_false hp1) ?_
  refine sy (v := .bool (false)) (y_pickF (v := .bool (false)) rfl (decide_eq_false hp1) rfl) ?_
  refine sy (v := .bool (false)) (y_assign rfl) ?_
  refine c_nil ?_
  refine n_then ?_
  refine wp_ret ?_
  refine e_r1 Try.results83 (rv_t rfl) ?_
  refine ⟨_, rfl, congrArg Value.bool ?_, H0.below⟩
  unfold kMay; first | (apply decide_eq_decide.2; omega) | (symm; apply decide_eq_false; omega) | (symm; apply decide_eq_true; omega)

theorem nanI_c (k : Int) (w : World) :
    Calls Try.prog 146 (([I (k)] : List Value).toArray) w (fun e w' => ∃ v, e = .returned v ∧ v = .bool false ∧ Below w.heap.size w w') := by
 refine calls_mk Try.func146 rfl 6 Try.ntmps146 rfl ?_
 have H0 : St w [] [] w := St.refl w
 refine c_seq ?_
 refine c_reg ?_
 refine sy (v := .bool (false)) (y_assign (v := .bool (false)) rfl) ?_
 refine c_nil ?_
 refine n_then ?_
 refine c_seq ?_
 refine c_reg ?_
 refine sy (v := I (k)) (y_move rfl) ?_
 refine sy (v := I (k)) (y_move rfl) ?_
 refine sy (v := .bool (decide (k ≠ k))) (y_neqK (i := k) (j := k) rfl rfl) ?_
 refine sy (v := .bool (decide (k ≠ k))) (y_assign rfl) ?_
 refine c_nil ?_
 refine n_then ?_
 refine wp_ret ?_
 refine e_r1 Try.results146 (rv_t rfl) ?_
 exact ⟨_, rfl, congrArg Value.bool (decide_eq_false (fun h => h rfl)), H0.below⟩

theorem nanS_c (a : List UInt8) (w : World) :
    Calls Try.prog 147 (([.string (bst a)] : List Value).toArray) w (fun e w' => ∃ v, e = .returned v ∧ v = .bool false ∧ Below w.heap.size w w') := by
 refine calls_mk Try.func147 rfl 6 Try.ntmps147 rfl ?_
 have H0 : St w [] [] w := St.refl w
 refine c_seq ?_
 refine c_reg ?_
 refine sy (v := .bool (false)) (y_assign (v := .bool (false)) rfl) ?_
 refine c_nil ?_
 refine n_then ?_
 refine c_seq ?_
 refine c_reg ?_
 refine sy (v := .string (bst a)) (y_move rfl) ?_
 refine sy (v := .string (bst a)) (y_move rfl) ?_
 refine sy (v := .bool (decide (a ≠ a))) (y_neqS (a := a) (b := a) rfl rfl) ?_
 refine sy (v := .bool (decide (a ≠ a))) (y_assign rfl) ?_
 refine c_nil ?_
 refine n_then ?_
 refine wp_ret ?_
 refine e_r1 Try.results147 (rv_t rfl) ?_
 exact ⟨_, rfl, congrArg Value.bool (decide_eq_false (fun h => h rfl)), H0.below⟩

theorem cmpI_c (a b : Int) (w : World) :
    Calls Try.prog 125 (([I (a), I (b)] : List Value).toArray) w (fun e w' => ∃ v, e = .returned v ∧ v = I (cmpI a b) ∧ Below w.heap.size w w') := by
 refine calls_mk Try.func125 rfl 20 Try.ntmps125 rfl ?_
 have H0 : St w [] [] w := St.refl w
 refine c_seq ?_
 refine c_reg ?_
 refine sy (v := I ((0 : Nat) : Int)) (y_assign (v := I ((0 : Nat) : Int)) rfl) ?_
 refine c_nil ?_
 refine n_then ?_
 refine c_seq ?_
 refine c_reg ?_
 refine sy (v := I (a)) (y_move rfl) ?_
 refine st (ow_call fn146 rfl (nanI_c (a) _) ⟨rfl, trivial⟩) ?_
 rintro _ w1 ⟨rfl, hB2⟩
 have H3 : St w _ [] w1 := H0.call hB2
 refine sy (v := .bool (false)) (y_assign rfl) ?_
 refine c_nil ?_
 refine n_then ?_
 refine c_seq ?_
 refine c_reg ?_
 refine sy (v := I (b)) (y_move rfl) ?_
 refine st (ow_call fn146 rfl (nanI_c (b) _) ⟨rfl, trivial⟩) ?_
 rintro _ w4 ⟨rfl, hB5⟩
 have H6 : St w _ [] w4 := H3.call hB5
 refine sy (v := .bool (false)) (y_assign rfl) ?_
 refine c_nil ?_
 refine n_then ?_
 refine c_seq ?_
 refine c_seq ?_
 refine c_reg ?_
 refine sy (v := .bool (false)) (y_move rfl) ?_
 refine c_nil ?_
 refine n_then ?_
 refine c_f rfl rfl ?_
 refine wp_skip ?_
 refine n_then ?_
 refine c_seq ?_
 refine c_seq ?_
 refine c_reg ?_
 refine sy (v := .bool (false)) (y_move rfl) ?_
 refine c_nil ?_
 refine n_then ?_
 refine c_f rfl rfl ?_
 refine wp_skip ?_
 refine n_then ?_
 refine c_seq ?_
 refine c_seq ?_
 refine c_reg ?_
 refine sy (v := I (a)) (y_move rfl) ?_
 refine sy (v := I (b)) (y_move rfl) ?_
 refine sy (v := .bool (decide (a < b))) (y_lss (i := a) (j := b) rfl rfl) ?_
 refine c_nil ?_
 refine n_then ?_
 refine c_if rfl (fun hc7 => ?_) (fun hc7 => ?_)
 ·
  refine c_seq ?_
  refine c_reg ?_
  refine sy (v := I (-1)) (y_assign (v := I (-1)) rfl) ?_
  refine c_nil ?_
  refine n_then ?_
  refine wp_ret ?_
  refine r_then ?_
  refine e_r1 Try.results125 (rv_t rfl) ?_
  refine ⟨_, rfl, congrArg I ?_, H6.below⟩
  unfold cmpI; (repeat' split) <;> omega
 ·
  refine wp_skip ?_
  refine n_then ?_
  refine c_seq ?_
  refine c_seq ?_
  refine c_reg ?_
  refine sy (v := I (a)) (y_move rfl) ?_
  refine sy (v := I (b)) (y_move rfl) ?_
  refine sy (v := .bool (decide (b < a))) (y_gtr (i := a) (j := b) rfl rfl) ?_
  refine c_nil ?_
  refine n_then ?_
  refine c_if rfl (fun hc8 => ?_) (fun hc8 => ?_)
  ·
   refine c_seq ?_
   refine c_reg ?_
   refine sy (v := I ((1 : Nat) : Int)) (y_assign (v := I ((1 : Nat) : Int)) rfl) ?_
   refine c_nil ?_
   refine n_then ?_
   refine wp_ret ?_
   refine r_then ?_
   refine e_r1 Try.results125 (rv_t rfl) ?_
   refine ⟨_, rfl, congrArg I ?_, H6.below⟩
   unfold cmpI; (repeat' split) <;> omega
  ·
   refine wp_skip ?_
   refine n_then ?_
   refine c_seq ?_
   refine c_reg ?_
   refine sy (v := I ((0 : Nat) : Int)) (y_assign (v := I ((0 : Nat) : Int)) rfl) ?_
   refine c_nil ?_
   refine n_then ?_
   refine wp_ret ?_
   refine e_r1 Try.results125 (rv_t rfl) ?_
   refine ⟨_, rfl, congrArg I ?_, H6.below⟩
   unfold cmpI; (repeat' split) <;> omega

theorem cmpS_c (a b : List UInt8) (w : World) :
    Calls Try.prog 126 (([.string (bst a), .string (bst b)] : List Value).toArray) w (fun e w' => ∃ v, e = .returned v ∧ v = I (cmpS a b) ∧ Below w.heap.size w w') := by
 refine calls_mk Try.func126 rfl 20 Try.ntmps126 rfl ?_
 have H0 : St w [] [] w := St.refl w
 refine c_seq ?_
 refine c_reg ?_
 refine sy (v := I ((0 : Nat) : Int)) (y_assign (v := I ((0 : Nat) : Int)) rfl) ?_
 refine c_nil ?_
 refine n_then ?_
 refine c_seq ?_
 refine c_reg ?_
 refine sy (v := .string (bst a)) (y_move rfl) ?_
 refine st (ow_call fn147 rfl (nanS_c (a) _) ⟨rfl, trivial⟩) ?_
 rintro _ w1 ⟨rfl, hB2⟩
 have H3 : St w _ [] w1 := H0.call hB2
 refine sy (v := .bool (false)) (y_assign rfl) ?_
 refine c_nil ?_
 refine n_then ?_
 refine c_seq ?_
 refine c_reg ?_
 refine sy (v := .string (bst b)) (y_move rfl) ?_
 refine st (ow_call fn147 rfl (nanS_c (b) _) ⟨rfl, trivial⟩) ?_
 rintro _ w4 ⟨rfl, hB5⟩
 have H6 : St w _ [] w4 := H3.call hB5
 refine sy (v := .bool (false)) (y_assign rfl) ?_
 refine c_nil ?_
 refine n_then ?_
 refine c_seq ?_
 refine c_seq ?_
 refine c_reg ?_
 refine sy (v := .bool (false)) (y_move rfl) ?_
 refine c_nil ?_
 refine n_then ?_
 refine c_f rfl rfl ?_
 refine wp_skip ?_
 refine n_then ?_
 refine c_seq ?_
 refine c_seq ?_
 refine c_reg ?_
 refine sy (v := .bool (false)) (y_move rfl) ?_
 refine c_nil ?_
 refine n_then ?_
 refine c_f rfl rfl ?_
 refine wp_skip ?_
 refine n_then ?_
 refine c_seq ?_
 refine c_seq ?_
 refine c_reg ?_
 refine sy (v := .string (bst a)) (y_move rfl) ?_
 refine sy (v := .string (bst b)) (y_move rfl) ?_
 refine sy (v := .bool (decide (slt a b))) (y_lssS (a := a) (b := b) rfl rfl) ?_
 refine c_nil ?_
 refine n_then ?_
 refine c_if rfl (fun hc7 => ?_) (fun hc7 => ?_)
 ·
  refine c_seq ?_
  refine c_reg ?_
  refine sy (v := I (-1)) (y_assign (v := I (-1)) rfl) ?_
  refine c_nil ?_
  refine n_then ?_
  refine wp_ret ?_
  refine r_then ?_
  refine e_r1 Try.results126 (rv_t rfl) ?_
  refine ⟨_, rfl, congrArg I ?_, H6.below⟩
  unfold cmpS; (repeat' split) <;> simp_all
 ·
  refine wp_skip ?_
  refine n_then ?_
  refine c_seq ?_
  refine c_seq ?_
  refine c_reg ?_
  refine sy (v := .string (bst a)) (y_move rfl) ?_
  refine sy (v := .string (bst b)) (y_move rfl) ?_
  refine sy (v := .bool (decide (¬ (slt a b ∨ a = b)))) (y_gtrS (a := a) (b := b) rfl rfl) ?_
  refine c_nil ?_
  refine n_then ?_
  refine c_if rfl (fun hc8 => ?_) (fun hc8 => ?_)
  ·
   refine c_seq ?_
   refine c_reg ?_
   refine sy (v := I ((1 : Nat) : Int)) (y_assign (v := I ((1 : Nat) : Int)) rfl) ?_
   refine c_nil ?_
   refine n_then ?_
   refine wp_ret ?_
   refine r_then ?_
   refine e_r1 Try.results126 (rv_t rfl) ?_
   refine ⟨_, rfl, congrArg I ?_, H6.below⟩
   unfold cmpS; (repeat' split) <;> simp_all
  ·
   refine wp_skip ?_
   refine n_then ?_
   refine c_seq ?_
   refine c_reg ?_
   refine sy (v := I ((0 : Nat) : Int)) (y_assign (v := I ((0 : Nat) : Int)) rfl) ?_
   refine c_nil ?_
   refine n_then ?_
   refine wp_ret ?_
   refine e_r1 Try.results126 (rv_t rfl) ?_
   refine ⟨_, rfl, congrArg I ?_, H6.below⟩
   unfold cmpS; (repeat' split) <;> simp_all

theorem or_c (v0 : Value) (a b : Int) (w : World) (hv : Rd [] w 1 v0 2 [I a, I b]) :
    Calls Try.prog 124 (([v0] : List Value).toArray) w (fun e w' => ∃ v, e = .returned v ∧ v = I (orI a b) ∧ Below w.heap.size w w') := by
 refine calls_mk Try.func124 rfl 18 Try.ntmps124 rfl ?_
 have H0 : St w [] [] w := St.refl w
 refine c_seq ?_
 refine c_reg ?_
 refine sy (v := I ((0 : Nat) : Int)) (y_assign (v := I ((0 : Nat) : Int)) rfl) ?_
 refine c_nil ?_
 refine n_then ?_
 refine c_seq ?_
 refine c_reg ?_
 refine sy (v := I ((0 : Nat) : Int)) (y_assign (v := I ((0 : Nat) : Int)) rfl) ?_
 refine c_nil ?_
 refine n_then ?_
 refine c_seq ?_
 refine c_seq ?_
 refine c_reg ?_
 refine sy (v := v0) (y_move rfl) ?_
 refine sy (v := I ((2 : Nat) : Int)) (y_lenR Try.underlying60 (hv.st H0) rfl) ?_
 refine sy (v := I ((0 : Nat) : Int)) (y_move (v := I ((0 : Nat) : Int)) rfl) ?_
 refine c_nil ?_
 refine n_then ?_
 refine wp_block ?_
 refine c_loop (fun (i : Nat) f1 w2 => f1 3 = I ((0 : Nat) : Int) ∧ f1 6 = v0 ∧ f1 7 = I ((2 : Nat) : Int) ∧ f1 8 = I ((i : Nat) : Int) ∧ i ≤ 2 ∧ (∀ j, j < i → ([a, b] : List Int).getD j 0 = 0) ∧ St w [] [] w2) (fun i => 2 - i) 0 ⟨rfl, rfl, rfl, rfl, (by omega), (fun j hj => absurd hj (by omega)), H0⟩ ?_
 rintro i f1 w2 ⟨s3_3, s6_3, s7_3, s8_3, hi, hz, H3⟩
 refine c_seq ?_
 refine c_reg ?_
 refine sy (v := .bool (decide (i < 2))) (n_lss (a := i) (b := 2) s8_3 s7_3) ?_
 refine c_nil ?_
 refine n_then ?_
 refine c_seq ?_
 refine c_if rfl (fun hc4 => ?_) (fun hc4 => ?_)
 ·
  refine wp_skip ?_
  refine n_then ?_
  refine c_seq ?_
  refine wp_block ?_
  refine c_seq ?_
  refine c_reg ?_
  refine sy (v := Ad (sp (v0)) (i * 1)) (y_ixR (m := i) Try.underlying60 sz3 (hv.st H3) (by decide) s6_3 s8_3 rfl (by omega)) ?_
  refine sy (v := I (([a, b] : List Int).getD i 0)) (y_load sc3 rfl ((hv.st H3).cell _ _ (by rw [Nat.mul_one]; exact map_get I (l := ([a, b] : List Int)) (k := i) 0 (by simp; omega)))) ?_
  refine sy (v := I (([a, b] : List Int).getD i 0)) (y_assign rfl) ?_
  refine c_nil ?_
  refine n_then ?_
  refine c_seq ?_
  refine c_reg ?_
  refine sy (v := I (([a, b] : List Int).getD i 0)) (y_move rfl) ?_
  refine sy (v := I ((0 : Nat) : Int)) (y_move s3_3) ?_
  refine sy (v := .bool (decide ((([a, b] : List Int).getD i 0) ≠ ((0 : Nat) : Int)))) (y_neqK (i := (([a, b] : List Int).getD i 0)) (j := ((0 : Nat) : Int)) rfl rfl) ?_
  refine c_nil ?_
  refine n_then ?_
  refine c_if rfl (fun hc5 => ?_) (fun hc5 => ?_)
  ·
   refine c_seq ?_
   refine c_reg ?_
   refine sy (v := I (([a, b] : List Int).getD i 0)) (y_move rfl) ?_
   refine sy (v := I (([a, b] : List Int).getD i 0)) (y_assign rfl) ?_
   refine c_nil ?_
   refine n_then ?_
   refine wp_ret ?_
   refine r_block (r_then (r_then (r_block (r_then ?_))))
   refine e_r1 Try.results124 (rv_t rfl) ?_
   refine ⟨_, rfl, congrArg I ?_, H3.below⟩
   obtain rfl | rfl : i = 0 ∨ i = 1 := by omega
   · unfold orI; rw [if_pos (by assumption)]; rfl
   · have h0 : a = 0 := hz 0 (by omega)
     subst h0; rfl
  ·
   refine wp_skip ?_
   refine n_block (n_then ?_)
   refine c_reg ?_
   refine sy (v := I ((i + 1 : Nat) : Int)) (n_add (a := i) (b := 1) s8_3 rfl (by omega)) ?_
   refine sy (v := I ((i + 1 : Nat) : Int)) (y_move rfl) ?_
   refine c_nil ?_
   exact lp_next (i + 1) ⟨s3_3, s6_3, s7_3, rfl, (by omega), (fun j hj => by
    by_cases e : j = i
    · rw [e]; omega
    · exact hz j (by omega)), H3⟩ (by show _ < _; omega)
 ·
  obtain rfl : i = 2 := by omega
  refine wp_exit ?_
  refine x_then (x_then (x_hit (n_then ?_)))
  refine c_seq ?_
  refine c_reg ?_
  refine sy (v := I ((0 : Nat) : Int)) (y_move s3_3) ?_
  refine sy (v := I ((0 : Nat) : Int)) (y_assign rfl) ?_
  refine c_nil ?_
  refine n_then ?_
  refine wp_ret ?_
  refine e_r1 Try.results124 (rv_t rfl) ?_
  refine ⟨_, rfl, congrArg I ?_, H3.below⟩
  have h0 : a = 0 := hz 0 (by omega)
  have h1 : b = 0 := hz 1 (by omega)
  subst h0 h1; rfl

theorem place_c (k : Int) (key : List UInt8) (bv : Value) (hone : bv.oneCell' = true) (k2 : Int) (key2 : List UInt8) (w : World) :
    Calls Try.prog 89 (([.agg ([I k, .string (bst key), bv]).toArray, I (k2), .string (bst key2)] : List Value).toArray) w (fun e w' => ∃ v, e = .returned v ∧ v = I (plcC k key k2 key2) ∧ Below w.heap.size w w') := by
 refine calls_mk Try.func89 rfl 17 Try.ntmps89 rfl ?_
 have H0 : St w [] [] w := St.refl w
 refine c_seq ?_
 refine c_reg ?_
 refine st (ow_box (l := [I (k), .string (bst key), bv]) H0 rfl rfl) ?_
 rintro _ w2 ⟨g1, rfl, H3⟩
 refine sy (v := I ((0 : Nat) : Int)) (y_assign (v := I ((0 : Nat) : Int)) rfl) ?_
 refine c_nil ?_
 refine n_then ?_
 refine c_seq ?_
 refine drawS (.step 0 0 (.step 0 1 (.step 0 2 (.step 0 4 (.step 0 5 (.step 0 6 (.step 1 3 (.step 1 7 (.step 1 8 (.step 1 9 (.step 2 10 .nil))))))))))) mixed H3 (by kernel_rfl) (by kernel_rfl) (by kernel_rfl) ?_
 intro w4 H5
 refine pt (v := Ad (bs g1) (0 + 0)) rfl (fun wS HS => y_fld Try.underlying48 rfl rfl sz3 (by decide) rfl) ?_
 refine pt (v := I (k)) rfl (fun wS HS => y_load sc3 rfl (HS.cell 0 rfl rfl)) ?_
 refine pt (v := I (k2)) rfl (fun wS HS => y_move rfl) ?_
 refine pt (v := Ad (bs g1) (0 + 1)) rfl (fun wS HS => y_fld Try.underlying48 rfl rfl sz9 (by decide) rfl) ?_
 refine pt (v := .string (bst key)) rfl (fun wS HS => y_load sc9 rfl (HS.cell 0 rfl rfl)) ?_
 refine pt (v := .string (bst key2)) rfl (fun wS HS => y_move rfl) ?_
 refine pl rfl (ow_call fn125 rfl (cmpI_c (k) (k2) _) ⟨rfl, rfl, trivial⟩) ?_
 rintro _ w6 ⟨rfl, hB7⟩
 have H8 : St w _ [_] w6 := H5.call hB7
 refine ⟨H8, ?_⟩
 refine pl rfl (ow_call fn126 rfl (cmpS_c (key) (key2) _) ⟨rfl, rfl, trivial⟩) ?_
 rintro _ w9 ⟨rfl, hB10⟩
 have H11 : St w _ [_] w9 := H8.call hB10
 refine ⟨H11, ?_⟩
 refine pl rfl (ow_buildSlice (pv := [(0, I (cmpI k k2)), (1, I (cmpS key key2))]) (us := [I (cmpI k k2), I (cmpS key key2)]) Try.underlying60 sz3 zr3 H11 ⟨⟨rfl, rfl⟩, ⟨rfl, rfl⟩, trivial⟩ (by decide) (fill2 rfl rfl)) ?_
 rintro _ w13 ⟨g12, rfl, H14⟩
 have H15 : St w _ [_, _] w13 := H14.foc 1 rfl rfl
 have H16 : St w _ [_] w13 := H15.take 1 rfl
 refine ⟨H16, ?_⟩
 refine pl rfl (ow_call fn124 rfl (or_c (.slice (some (bs g12)) 2 2) (cmpI k k2) (cmpS key key2) _ (rd_lit H14 0 rfl rfl (by simp [maxLen]))) ⟨rfl, trivial⟩) ?_
 rintro _ w17 ⟨rfl, hB18⟩
 have H19 : St w _ [_, _] w17 := H14.call hB18
 have H20 : St w _ [_, _] w17 := H19.foc 1 rfl rfl
 have H21 : St w _ [_] w17 := H20.take 1 rfl
 refine ⟨H21, ?_⟩
 refine tly (v := I (orI (cmpI k k2) (cmpS key key2))) rfl (y_assign rfl) ?_
 refine p_nil ?_
 refine n_then ?_
 refine wp_ret ?_
 refine e_r1 Try.results89 (rv_t rfl) ?_
 exact ⟨_, rfl, rfl, H19.below⟩

theorem right1_c (k : Int) (key : List UInt8) (bv : Value) (hone : bv.oneCell' = true) (w : World) :
    Calls Try.prog 119 (([.agg ([I k, .string (bst key), bv]).toArray] : List Value).toArray) w (fun e w' => ∃ v, e = .returned v ∧ v = .bool (decide (¬ kMay k)) ∧ Below w.heap.size w w') := by
 refine calls_mk Try.func119 rfl 7 Try.ntmps119 rfl ?_
 have H0 : St w [] [] w := St.refl w
 refine c_seq ?_
 refine c_reg ?_
 refine st (ow_box (l := [I (k), .string (bst key), bv]) H0 rfl rfl) ?_
 rintro _ w2 ⟨g1, rfl, H3⟩
 refine sy (v := .bool (false)) (y_assign (v := .bool (false)) rfl) ?_
 refine c_nil ?_
 refine n_then ?_
 refine c_seq ?_
 refine c_reg ?_
 refine sy (v := Ad (bs g1) (0 + 0)) (y_fld Try.underlying48 rfl rfl sz3 (by decide) rfl) ?_
 refine sy (v := I (k)) (y_load sc3 rfl (H3.cell 0 rfl rfl)) ?_
 refine st (ow_call fn86 rfl (known_c (k) _) ⟨rfl, trivial⟩) ?_
 rintro _ w4 ⟨rfl, hB5⟩
 have H6 : St w _ [_] w4 := H3.call hB5
 refine sy (v := .bool (decide (¬ (kMay k)))) (y_notP rfl) ?_
 refine sy (v := .bool (decide (¬ (kMay k)))) (y_assign rfl) ?_
 refine c_nil ?_
 refine n_then ?_
 refine wp_ret ?_
 refine e_r1 Try.results119 (rv_t rfl) ?_
 exact ⟨_, rfl, rfl, H6.below⟩

theorem index_c (v0 : Value) (cs : List Cl) (w : World) (hC : CsR [] w v0 cs) :
    Calls Try.prog 138 (([v0, .func (.func 119) #[] #[]] : List Value).toArray) w (fun e w' => ∃ v, e = .returned v ∧ ∃ i : Int, v = I i ∧ (0 ≤ i ↔ ¬ kinds (cs.map (·.c))) ∧ Below w.heap.size w w') := by
 have hle := hC.le
 refine calls_mk Try.func138 rfl 19 Try.ntmps138 rfl ?_
 have H0 : St w [] [] w := St.refl w
 refine c_seq ?_
 refine c_reg ?_
 refine sy (v := I ((0 : Nat) : Int)) (y_assign (v := I ((0 : Nat) : Int)) rfl) ?_
 refine c_nil ?_
 refine n_then ?_
 refine c_seq ?_
 refine c_seq ?_
 refine c_reg ?_
 refine sy (v := v0) (y_move rfl) ?_
 refine sy (v := I ((cs.length : Nat) : Int)) (y_lenR Try.underlying38 (hC.st H0).rd rfl) ?_
 refine sy (v := I ((0 : Nat) : Int)) (y_move (v := I ((0 : Nat) : Int)) rfl) ?_
 refine c_nil ?_
 refine n_then ?_
 refine wp_block ?_
 refine c_loop (fun (i : Nat) f1 w2 => f1 0 = v0 ∧ f1 1 = .func (.func 119) #[] #[] ∧ f1 7 = I ((cs.length : Nat) : Int) ∧ f1 8 = I ((i : Nat) : Int) ∧ i ≤ cs.length ∧ (∀ j, j < i → kMay (cs.getD j c0).c.k) ∧ St w [] [] w2) (fun i => cs.length - i) 0 ⟨rfl, rfl, rfl, rfl, (Nat.zero_le _), (fun j hj => absurd hj (by omega)), H0⟩ ?_
 rintro i f1 w2 ⟨s0_3, s1_3, s7_3, s8_3, hi, hz, H3⟩
 refine c_seq ?_
 refine c_reg ?_
 refine sy (v := .bool (decide (i < cs.length))) (n_lss (a := i) (b := cs.length) s8_3 s7_3) ?_
 refine c_nil ?_
 refine n_then ?_
 refine c_seq ?_
 refine c_if rfl (fun hc4 => ?_) (fun hc4 => ?_)
 ·
  refine wp_skip ?_
  refine n_then ?_
  refine c_seq ?_
  refine wp_block ?_
  refine c_seq ?_
  refine c_reg ?_
  refine sy (v := I ((i : Nat) : Int)) (y_move s8_3) ?_
  refine sy (v := I ((i : Nat) : Int)) (y_assign rfl) ?_
  refine c_nil ?_
  refine n_then ?_
  refine c_seq ?_
  refine c_reg ?_
  refine sy (v := .func (.func 119) #[] #[]) (y_move s1_3) ?_
  refine sy (v := v0) (y_move s0_3) ?_
  refine sy (v := I ((i : Nat) : Int)) (y_move rfl) ?_
  refine sy (v := Ad (sp (v0)) (i * 3)) (y_ixR (m := i) Try.underlying38 sz48 (hC.st H3).rd (by decide) rfl rfl rfl (by omega)) ?_
  refine sy (v := .agg ([I ((cs.getD i c0).c.k), .string (bst ((cs.getD i c0).c.key)), (cs.getD i c0).v]).toArray) (y_loadA (us := (cs.getD i c0).cs) ag48 sz48 rfl rfl (fun j u hu => (hC.st H3).rd.cell _ _ (flat3_get (by omega) hu))) ?_
  refine st (ow_call fn119 rfl (right1_c ((cs.getD i c0).c.k) ((cs.getD i c0).c.key) ((cs.getD i c0).v) (Rd.one ((hC.at (d := c0) (i := i) (by omega)).1.st H3)) _) ⟨rfl, trivial⟩) ?_
  rintro _ w5 ⟨rfl, hB6⟩
  have H7 : St w _ [] w5 := H3.call hB6
  refine c_nil ?_
  refine n_then ?_
  refine c_if rfl (fun hc8 => ?_) (fun hc8 => ?_)
  ·
   refine c_seq ?_
   refine c_reg ?_
   refine sy (v := I ((i : Nat) : Int)) (y_move rfl) ?_
   refine sy (v := I ((i : Nat) : Int)) (y_assign rfl) ?_
   refine c_nil ?_
   refine n_then ?_
   refine wp_ret ?_
   refine r_block (r_then (r_then (r_block (r_then ?_))))
   refine e_r1 Try.results138 (rv_t rfl) ?_
   exact ⟨_, rfl, _, rfl, ⟨fun _ => not_kinds (i := i) (by omega) (by assumption), fun _ => by omega⟩, H7.below⟩
  ·
   refine wp_skip ?_
   refine n_block (n_then ?_)
   refine c_reg ?_
   refine sy (v := I ((i + 1 : Nat) : Int)) (n_add (a := i) (b := 1) s8_3 rfl (by omega)) ?_
   refine sy (v := I ((i + 1 : Nat) : Int)) (y_move rfl) ?_
   refine c_nil ?_
   exact lp_next (i + 1) ⟨s0_3, s1_3, s7_3, rfl, (by omega), (fun j hj => by
    by_cases e : j = i
    · rw [e]; exact Decidable.not_not.1 (by assumption)
    · exact hz j (by omega)), H7⟩ (by show _ < _; omega)
 ·
  refine wp_exit ?_
  refine x_then (x_then (x_hit (n_then ?_)))
  refine c_seq ?_
  refine c_reg ?_
  refine sy (v := I (-1)) (y_assign (v := I (-1)) rfl) ?_
  refine c_nil ?_
  refine n_then ?_
  refine wp_ret ?_
  refine e_r1 Try.results138 (rv_t rfl) ?_
  have hk : kinds (cs.map (·.c)) := is_kinds fun j hj => hz j (by omega)
  exact ⟨_, rfl, -1, rfl, ⟨fun h => absurd h (by omega), fun h => absurd hk h⟩, H3.below⟩

theorem contains_c (v0 : Value) (cs : List Cl) (w : World) (hC : CsR [] w v0 cs) :
    Calls Try.prog 118 (([v0, .func (.func 119) #[] #[]] : List Value).toArray) w (fun e w' => ∃ v, e = .returned v ∧ ∃ b : Bool, v = .bool b ∧ (b = true ↔ ¬ kinds (cs.map (·.c))) ∧ Below w.heap.size w w') := by
 have hle := hC.le
 refine calls_mk Try.func118 rfl 9 Try.ntmps118 rfl ?_
 have H0 : St w [] [] w := St.refl w
 refine c_seq ?_
 refine c_reg ?_
 refine sy (v := .bool (false)) (y_assign (v := .bool (false)) rfl) ?_
 refine c_nil ?_
 refine n_then ?_
 refine c_seq ?_
 refine c_reg ?_
 refine sy (v := v0) (y_move rfl) ?_
 refine sy (v := .func (.func 119) #[] #[]) (y_move rfl) ?_
 refine st (ow_call fn138 rfl (index_c (v0) (cs) _ (hC.st H0).nil) ⟨rfl, rfl, trivial⟩) ?_
 rintro _ w2 ⟨x1, rfl, hx4, hB3⟩
 have H5 : St w _ [] w2 := H0.call hB3
 refine sy (v := .bool (decide (((0 : Nat) : Int) ≤ x1))) (y_geq (i := x1) (j := ((0 : Nat) : Int)) rfl rfl) ?_
 refine sy (v := .bool (decide (((0 : Nat) : Int) ≤ x1))) (y_assign rfl) ?_
 refine c_nil ?_
 refine n_then ?_
 refine wp_ret ?_
 refine e_r1 Try.results118 (rv_t rfl) ?_
 exact ⟨_, rfl, _, rfl, (decide_eq_true_iff.trans hx4), H5.below⟩

theorem right_c19 (v0 : Value) (cs : List Cl) (w : World) (hC : CsR [] w v0 cs) :
    Calls Try.prog 81 (([v0] : List Value).toArray) w (fun e w' => ∃ v, e = .returned v ∧ v = I ((wrong (cs.map (·.c)) : Nat) : Int) ∧ Below w.heap.size w w') := by
 have hle := hC.le
 refine calls_mk Try.func81 rfl 29 Try.ntmps81 rfl ?_
 have H0 : St w [] [] w := St.refl w
 refine c_seq ?_
 refine c_reg ?_
 refine sy (v := I ((0 : Nat) : Int)) (y_assign (v := I ((0 : Nat) : Int)) rfl) ?_
 refine c_nil ?_
 refine n_then ?_
 refine c_seq ?_
 refine c_seq ?_
 refine c_reg ?_
 refine sy (v := v0) (y_move rfl) ?_
 refine st (ow_call fn118 rfl (contains_c (v0) (cs) _ (hC.st H0).nil) ⟨rfl, rfl, trivial⟩) ?_
 rintro _ w2 ⟨b1, rfl, hxk, hB3⟩
 have H4 : St w _ [] w2 := H0.call hB3
 refine c_nil ?_
 refine n_then ?_
 refine c_cond rfl (fun hc5 => ?_) (fun hc5 => ?_)
 ·
  have hkk : ¬ kinds (cs.map (·.c)) := hxk.1 hc5
  refine c_seq ?_
  refine c_reg ?_
  refine sy (v := I ((40 : Nat) : Int)) (y_assign (v := I ((40 : Nat) : Int)) rfl) ?_
  refine c_nil ?_
  refine n_then ?_
  refine wp_ret ?_
  refine r_then ?_
  refine e_r1 Try.results81 (rv_t rfl) ?_
  have hw := wrong_40 hkk
  exact ⟨_, rfl, by rw [hw]; rfl, H4.below⟩
 ·
  have hkk : kinds (cs.map (·.c)) := Classical.byContradiction fun hn => by rw [hxk.2 hn] at hc5; cases hc5
  refine wp_skip ?_
  refine n_then ?_
  refine c_seq ?_
  refine c_seq ?_
  refine c_reg ?_
  refine sy (v := I ((1 : Nat) : Int)) (y_assign (v := I ((1 : Nat) : Int)) rfl) ?_
  refine c_nil ?_
  refine n_then ?_
  refine wp_block ?_
  refine c_loop (fun (i : Nat) f6 w7 => f6 0 = v0 ∧ f6 3 = I ((i : Nat) : Int) ∧ 1 ≤ i ∧ i ≤ cs.length + 1 ∧ (∀ j, j + 1 < i → j + 1 < cs.length → ahead (cs.getD (j) c0).c.k (cs.getD (j) c0).c.key (cs.getD (j + 1) c0).c.k (cs.getD (j + 1) c0).c.key) ∧ St w [] [] w7) (fun i => cs.length + 1 - i) 1 ⟨rfl, rfl, (by omega), (by omega), (fun j hj => absurd hj (by omega)), H4⟩ ?_
  rintro i f6 w7 ⟨s0_8, s3_8, hi1, hi, hz, H8⟩
  refine c_seq ?_
  refine c_seq ?_
  refine c_reg ?_
  refine sy (v := I ((i : Nat) : Int)) (y_move s3_8) ?_
  refine sy (v := v0) (y_move s0_8) ?_
  refine sy (v := I ((cs.length : Nat) : Int)) (y_lenR Try.underlying38 (hC.st H8).rd rfl) ?_
  refine sy (v := .bool (decide (i < cs.length))) (n_lss (a := i) (b := cs.length) rfl rfl) ?_
  refine c_nil ?_
  refine n_then ?_
  refine c_if rfl (fun hc9 => ?_) (fun hc9 => ?_)
  ·
   refine wp_skip ?_
   refine n_then ?_
   refine c_seq ?_
   refine wp_block ?_
   refine c_seq ?_
   refine drawS (.step 0 0 (.step 0 1 (.step 0 2 (.step 0 3 (.step 0 4 (.step 0 5 (.step 0 6 (.step 0 7 (.step 0 8 (.step 0 9 (.step 0 10 (.step 0 11 (.step 0 12 (.step 0 13 (.step 0 14 (.step 1 15 (.step 0 16 .nil))))))))))))))))) mixed H8 (by kernel_rfl) (by kernel_rfl) (by kernel_rfl) ?_
   intro w10 H11
   refine pt (v := v0) rfl (fun wS HS => y_move s0_8) ?_
   refine pt (v := I ((i : Nat) : Int)) rfl (fun wS HS => y_move s3_8) ?_
   refine pt (v := I ((i - 1 : Nat) : Int)) rfl (fun wS HS => n_sub (a := i) (b := 1) rfl rfl (by omega) (by omega)) ?_
   refine pt (v := Ad (sp (v0)) ((i - 1) * 3)) rfl (fun wS HS => y_ixR (m := i - 1) Try.underlying38 sz48 (hC.st HS).rd (by decide) rfl rfl rfl (by omega)) ?_
   refine pt (v := .agg ([I ((cs.getD (i - 1) c0).c.k), .string (bst ((cs.getD (i - 1) c0).c.key)), (cs.getD (i - 1) c0).v]).toArray) rfl (fun wS HS => y_loadA (us := (cs.getD (i - 1) c0).cs) ag48 sz48 rfl rfl (fun j u hu => (hC.st HS).rd.cell _ _ (flat3_get (by omega) hu))) ?_
   refine pt (v := v0) rfl (fun wS HS => y_move s0_8) ?_
   refine pt (v := I ((i : Nat) : Int)) rfl (fun wS HS => y_move s3_8) ?_
   refine pt (v := Ad (sp (v0)) (i * 3)) rfl (fun wS HS => y_ixR (m := i) Try.underlying38 sz48 (hC.st HS).rd (by decide) rfl rfl rfl (by omega)) ?_
   refine pt (v := Ad (sp (v0)) ((i * 3) + 0)) rfl (fun wS HS => y_fld Try.underlying48 rfl rfl sz3 (by decide) rfl) ?_
   refine pt (v := I ((cs.getD i c0).c.k)) rfl (fun wS HS => y_load sc3 rfl ((hC.st HS).rd.cell _ _ (flat3_get (i := i) (j := 0) (d := c0) (by omega) rfl))) ?_
   refine pt (v := v0) rfl (fun wS HS => y_move s0_8) ?_
   refine pt (v := I ((i : Nat) : Int)) rfl (fun wS HS => y_move s3_8) ?_
   refine pt (v := Ad (sp (v0)) (i * 3)) rfl (fun wS HS => y_ixR (m := i) Try.underlying38 sz48 (hC.st HS).rd (by decide) rfl rfl rfl (by omega)) ?_
   refine pt (v := Ad (sp (v0)) ((i * 3) + 1)) rfl (fun wS HS => y_fld Try.underlying48 rfl rfl sz9 (by decide) rfl) ?_
   refine pt (v := .string (bst ((cs.getD i c0).c.key))) rfl (fun wS HS => y_load sc9 rfl ((hC.st HS).rd.cell _ _ (flat3_get (i := i) (j := 1) (d := c0) (by omega) rfl))) ?_
   refine pl rfl (ow_call fn89 rfl (place_c ((cs.getD (i - 1) c0).c.k) ((cs.getD (i - 1) c0).c.key) ((cs.getD (i - 1) c0).v) (Rd.one ((hC.at (d := c0) (i := i - 1) (by omega)).1.st H11)) ((cs.getD i c0).c.k) ((cs.getD i c0).c.key) _) ⟨rfl, rfl, rfl, trivial⟩) ?_
   rintro _ w12 ⟨rfl, hB13⟩
   have H14 : St w _ [] w12 := H11.call hB13
   refine ⟨H14, ?_⟩
   refine pt (v := .bool (decide (((0 : Nat) : Int) ≤ (plcC ((cs.getD (i - 1) c0).c.k) ((cs.getD (i - 1) c0).c.key) ((cs.getD i c0).c.k) ((cs.getD i c0).c.key))))) rfl (fun wS HS => y_geq (i := (plcC ((cs.getD (i - 1) c0).c.k) ((cs.getD (i - 1) c0).c.key) ((cs.getD i c0).c.k) ((cs.getD i c0).c.key))) (j := ((0 : Nat) : Int)) rfl rfl) ?_
   refine p_nil ?_
   refine n_then ?_
   refine c_if rfl (fun hc15 => ?_) (fun hc15 => ?_)
   ·
    refine c_seq ?_
    refine c_reg ?_
    refine sy (v := I ((130 : Nat) : Int)) (y_assign (v := I ((130 : Nat) : Int)) rfl) ?_
    refine c_nil ?_
    refine n_then ?_
    refine wp_ret ?_
    refine r_block (r_then (r_then (r_block (r_then ?_))))
    refine e_r1 Try.results81 (rv_t rfl) ?_
    have hw := wrong_130 hkk (not_ord (i := i) (by omega) (by omega) (fun h => absurd (plc_neg.2 h) (Int.not_lt.2 (by assumption))))
    exact ⟨_, rfl, by rw [hw]; rfl, H14.below⟩
   ·
    refine wp_skip ?_
    refine n_block (n_then ?_)
    refine c_reg ?_
    refine sy (v := I ((i : Nat) : Int)) (y_move s3_8) ?_
    refine sy (v := I ((i + 1 : Nat) : Int)) (n_add (a := i) (b := 1) rfl rfl (by omega)) ?_
    refine sy (v := I ((i + 1 : Nat) : Int)) (y_assign rfl) ?_
    refine c_nil ?_
    exact lp_next (i + 1) ⟨s0_8, rfl, (by omega), (by omega), (fun j hj hj2 => by
     by_cases e : j + 1 = i
     · have hq := plc_neg.1 (show plcC _ _ _ _ < 0 from Int.not_le.1 (by assumption))
       rw [show i - 1 = j by omega, ← e] at hq; exact hq
     · exact hz j (by omega) hj2), H14⟩ (by show _ < _; omega)
  ·
   refine wp_exit ?_
   refine x_then (x_then (x_hit (n_then ?_)))
   refine c_seq ?_
   refine c_reg ?_
   refine sy (v := I ((0 : Nat) : Int)) (y_assign (v := I ((0 : Nat) : Int)) rfl) ?_
   refine c_nil ?_
   refine n_then ?_
   refine wp_ret ?_
   refine e_r1 Try.results81 (rv_t rfl) ?_
   have hw := wrong_0 hkk (is_ord fun j hj => hz j (by omega) hj)
   exact ⟨_, rfl, by rw [hw]; rfl, H8.below⟩

end Go.Proofs.Ytdcmbcjkdhdohaa
