/- The walk of RootsChecks. -/
import Derived.Test.YtdcmbcjkdhdohaaRoots10
namespace Go.Proofs.Ytdcmbcjkdhdohaa
open Go Go.RowKit
set_option linter.unusedSimpArgs false
set_option linter.unusedVariables false
attribute [local irreducible] wpList wpP Code.wp

theorem get_l {α : Type} {a b : List α} {j : Nat} {u : α} (h : a[j]? = some u) : (a ++ b)[j]? = some u := by
  rw [List.getElem?_append_left (List.getElem?_eq_some_iff.1 h).1]; exact h
theorem get_r {α : Type} {a b : List α} {k j : Nat} {u : α} (hk : a.length = k) (h : b[j]? = some u) : (a ++ b)[k + j]? = some u := by
  rw [List.getElem?_append_right (by omega), show k + j - a.length = j by omega]; exact h
theorem ck_small {root : List UInt8} {kind : Int} {key : List UInt8} {n : Int} {w : World} {lv : Value} {ls : List Lf} (hL : LsR [] w lv ls) : small ((checkA root kind key n (PE ls)).2.getD cz) := by
  have hz : small cz := by unfold small cz; simp
  unfold checkA
  split
  · exact hz
  · split
    · split <;> exact hz
    · split
      · rename_i h
        split
        · have h0 : 0 < ls.length := by have := h.2.1; rw [List.length_map] at this; omega
          have := (hL.at (d := lf0) h0).cell.2
          match ls, h0, this with
          | f :: ls', _, this => exact this
        · split <;> exact hz
      · exact hz

attribute [local irreducible] leafH innerH topH rootH rootA sha checkA

set_option maxHeartbeats 2000000 in
set_option maxRecDepth 20000 in
theorem rootsChecks_c (root : List UInt8) (kind : Int) (key : List UInt8) (n : Int) (lv : Value) (ls : List Lf) (w : World) (hr : root.length = 32) (hn2 : -9223372036854775808 ≤ n) (hn : n ≤ 9223372036854775807) (hL : LsR [] w lv ls) :
    Calls Try.prog 19 (([.agg (root.map B8 ++ [I kind, .string (bst key), I n, lv]).toArray] : List Value).toArray) w (fun e w' => ∃ v, e = .returned v ∧ v = .bool true ∧ Below w.heap.size w w') := by
 refine calls_mk Try.func19 rfl 51 Try.ntmps19 rfl ?_
 have H0 : St w [] [] w := St.refl w
 refine c_seq ?_
 refine c_reg ?_
 refine st (ow_box (l := root.map B8 ++ [I kind, .string (bst key), I n, lv]) H0 rfl rfl) ?_
 rintro _ w2 ⟨g1, rfl, H3⟩
 refine sy (v := .bool (false)) (y_assign (v := .bool (false)) rfl) ?_
 refine c_nil ?_
 refine n_then ?_
 refine c_seq ?_
 refine c_reg ?_
 refine sy (v := Ad (bs g1) (0 + 0)) (y_fld Try.underlying95 rfl rfl sz26 (by decide) rfl) ?_
 refine sy (v := .agg (root.map B8).toArray) (y_loadA (us := root.map B8) ag26 sz26 ((List.length_map _).trans hr) rfl (fun j u hu => (H3.cell 0 rfl (by rw [show 0 + 0 + j = j by omega]; exact get_l hu)))) ?_
 refine sy (v := Ad (bs g1) (0 + 32)) (y_fld Try.underlying95 rfl rfl sz3 (by decide) rfl) ?_
 refine sy (v := I (kind)) (y_load sc3 rfl (H3.cell 0 rfl (by rw [show 0 + 32 = 32 + 0 from rfl]; exact get_r ((List.length_map _).trans hr) rfl))) ?_
 refine sy (v := Ad (bs g1) (0 + 33)) (y_fld Try.underlying95 rfl rfl sz9 (by decide) rfl) ?_
 refine sy (v := .string (bst key)) (y_load sc9 rfl (H3.cell 0 rfl (by rw [show 0 + 33 = 32 + 1 from rfl]; exact get_r ((List.length_map _).trans hr) rfl))) ?_
 refine sy (v := Ad (bs g1) (0 + 34)) (y_fld Try.underlying95 rfl rfl sz41 (by decide) rfl) ?_
 refine sy (v := .agg ([I n, lv]).toArray) (y_loadA (us := [I n, lv]) ag41 sz41 rfl rfl (fun j u hu => (H3.cell 0 rfl (by rw [show 0 + 34 + j = 32 + (2 + j) by omega]; exact get_r ((List.length_map _).trans hr) (get_r (a := [I kind, .string (bst key)]) rfl hu))))) ?_
 refine st (ow_call fn35 rfl (check_c root kind key n lv ls _ hr (by omega) (by omega) (hL.st H3).nil) ⟨rfl, rfl, rfl, rfl, trivial⟩) ?_
 rintro _ w6 ⟨cc4, E5, rfl, hc8, ho9, H7⟩
 have H10 : St w _ [_, _] w6 := H3.app H7
 have hsmho9 : small cc4.c := by rw [hc8]; exact ck_small (hL.st H10)
 refine sy (v := .tuple #[.agg ([I cc4.c.k, .string (bst cc4.c.key), cc4.v]).toArray, .bool ((checkA root kind key n (PE ls)).2.isSome), I (((checkA root kind key n (PE ls)).1 : Nat) : Int)]) (y_move rfl) ?_
 refine sy (v := .agg ([I cc4.c.k, .string (bst cc4.c.key), cc4.v]).toArray) (y_extract (i := 0) rfl rfl) ?_
 refine sy (v := .bool ((checkA root kind key n (PE ls)).2.isSome)) (y_extract (i := 1) rfl rfl) ?_
 refine sy (v := I (((checkA root kind key n (PE ls)).1 : Nat) : Int)) (y_extract (i := 2) rfl rfl) ?_
 refine st (ow_alloc (l := [I ((0 : Nat) : Int), .string (.empty), .slice none 0 0]) H10 zr48 rfl) ?_
 rintro _ w12 ⟨g11, rfl, H13⟩
 refine s0 (ow_storeW (us := [I (cc4.c.k), .string (bst cc4.c.key), cc4.v]) H13 sz48 rfl rfl rfl (by intro u hu; simp only [List.mem_cons, List.not_mem_nil, or_false] at hu; rcases hu with rfl | rfl | rfl <;> first | rfl | exact Rd.one (ho9.rd H13 1 rfl)) (by simp [*])) ?_
 rintro _ w14 H15'
 have H15 : St w _ [[(g11, Rw 48 ([I (cc4.c.k), .string (bst cc4.c.key), cc4.v]))], _, _] w14 := H15'
 refine sy (v := .bool ((checkA root kind key n (PE ls)).2.isSome)) (y_assign rfl) ?_
 refine sy (v := I (((checkA root kind key n (PE ls)).1 : Nat) : Int)) (y_assign rfl) ?_
 refine c_nil ?_
 refine n_then ?_
 refine c_seq ?_
 refine c_reg ?_
 refine sy (v := Ad (bs g1) (0 + 0)) (y_fld Try.underlying95 rfl rfl sz26 (by decide) rfl) ?_
 refine sy (v := .agg (root.map B8).toArray) (y_loadA (us := root.map B8) ag26 sz26 ((List.length_map _).trans hr) rfl (fun j u hu => (H15.cell 2 rfl (by rw [show 0 + 0 + j = j by omega]; exact get_l hu)))) ?_
 refine sy (v := Ad (bs g1) (0 + 32)) (y_fld Try.underlying95 rfl rfl sz3 (by decide) rfl) ?_
 refine sy (v := I (kind)) (y_load sc3 rfl (H15.cell 2 rfl (by rw [show 0 + 32 = 32 + 0 from rfl]; exact get_r ((List.length_map _).trans hr) rfl))) ?_
 refine sy (v := Ad (bs g1) (0 + 33)) (y_fld Try.underlying95 rfl rfl sz9 (by decide) rfl) ?_
 refine sy (v := .string (bst key)) (y_load sc9 rfl (H15.cell 2 rfl (by rw [show 0 + 33 = 32 + 1 from rfl]; exact get_r ((List.length_map _).trans hr) rfl))) ?_
 refine sy (v := Ad (bs g1) (0 + 34)) (y_fld Try.underlying95 rfl rfl sz41 (by decide) rfl) ?_
 refine sy (v := .agg ([I n, lv]).toArray) (y_loadA (us := [I n, lv]) ag41 sz41 rfl rfl (fun j u hu => (H15.cell 2 rfl (by rw [show 0 + 34 + j = 32 + (2 + j) by omega]; exact get_r ((List.length_map _).trans hr) (get_r (a := [I kind, .string (bst key)]) rfl hu))))) ?_
 refine st (ow_call fn72 rfl (rcheck_c root kind key n lv ls _ hr hn hn2 (hL.st H15).nil) ⟨rfl, rfl, rfl, rfl, trivial⟩) ?_
 rintro _ w17 ⟨cr16, rfl, hc19, hC20', hB18⟩
 have H21 : St w _ [_, _, _] w17 := H15.call hB18
 have hC20 : CR [] w cr16 := hC20'.cr hL
 refine sy (v := .tuple #[.agg ([I cr16.c.k, .string (bst cr16.c.key), cr16.v]).toArray, .bool ((checkA root kind key n (PE ls)).2.isSome), I (((checkA root kind key n (PE ls)).1 : Nat) : Int)]) (y_move rfl) ?_
 refine sy (v := .agg ([I cr16.c.k, .string (bst cr16.c.key), cr16.v]).toArray) (y_extract (i := 0) rfl rfl) ?_
 refine sy (v := .bool ((checkA root kind key n (PE ls)).2.isSome)) (y_extract (i := 1) rfl rfl) ?_
 refine sy (v := I (((checkA root kind key n (PE ls)).1 : Nat) : Int)) (y_extract (i := 2) rfl rfl) ?_
 refine st (ow_alloc (l := [I ((0 : Nat) : Int), .string (.empty), .slice none 0 0]) H21 zr48 rfl) ?_
 rintro _ w23 ⟨g22, rfl, H24⟩
 refine s0 (ow_storeW (us := [I (cr16.c.k), .string (bst cr16.c.key), cr16.v]) H24 sz48 rfl rfl rfl (by intro u hu; simp only [List.mem_cons, List.not_mem_nil, or_false] at hu; rcases hu with rfl | rfl | rfl <;> first | rfl | exact Rd.one (hC20.1.st H24)) (by simp [*])) ?_
 rintro _ w25 H26'
 have H26 : St w _ [[(g22, Rw 48 ([I (cr16.c.k), .string (bst cr16.c.key), cr16.v]))], _, _, _] w25 := H26'
 refine sy (v := .bool ((checkA root kind key n (PE ls)).2.isSome)) (y_assign rfl) ?_
 refine sy (v := I (((checkA root kind key n (PE ls)).1 : Nat) : Int)) (y_assign rfl) ?_
 refine c_nil ?_
 refine n_then ?_
 refine c_seq ?_
 refine c_reg ?_
 refine sy (v := .agg ([I cc4.c.k, .string (bst cc4.c.key), cc4.v]).toArray) (y_loadA (us := [I (cc4.c.k), .string (bst cc4.c.key), cc4.v]) ag48 sz48 rfl rfl (fun j u hu => (H26.cell 1 rfl (by rw [Nat.zero_add]; exact hu)))) ?_
 refine sy (v := .agg ([I cr16.c.k, .string (bst cr16.c.key), cr16.v]).toArray) (y_loadA (us := [I (cr16.c.k), .string (bst cr16.c.key), cr16.v]) ag48 sz48 rfl rfl (fun j u hu => (H26.cell 0 rfl (by rw [Nat.zero_add]; exact hu)))) ?_
 refine st (ow_call fn36 rfl (same_c cc4 cr16 _ ⟨ho9.rd H26 2 rfl, hsmho9⟩ (CR.st hC20 H26).nil) ⟨rfl, rfl, trivial⟩) ?_
 rintro _ w27 ⟨rfl, hB28⟩
 have H29 : St w _ [_, _, _, _] w27 := H26.call hB28
 refine sy (v := .bool (decide (sameC cc4.c cr16.c))) (y_move rfl) ?_
 have hq30 : sameC cc4.c cr16.c := (by rw [hc8, hc19]; exact ⟨rfl, rfl, rfl⟩)
 refine gsy (v := .bool ((checkA root kind key n (PE ls)).2.isSome)) (gv_of (t := 38) rfl rfl rfl) (decide_eq_true hq30) (y_move rfl) ?_
 refine gsy (v := .bool ((checkA root kind key n (PE ls)).2.isSome)) (gv_of (t := 38) rfl rfl rfl) (decide_eq_true hq30) (y_move rfl) ?_
 have e31 : (((checkA root kind key n (PE ls)).2.isSome) == ((checkA root kind key n (PE ls)).2.isSome)) = true := beq_self_eq_true _
 refine gsy (v := .bool (true)) (gv_of (t := 38) rfl rfl rfl) (decide_eq_true hq30) ((e31 ▸ y_eqlB (p := (checkA root kind key n (PE ls)).2.isSome) (q := (checkA root kind key n (PE ls)).2.isSome) rfl rfl Try.underlying4)) ?_
 refine sy (v := .bool (true)) (y_pickT rfl (decide_eq_true hq30) rfl) ?_
 refine sy (v := .bool (true)) (y_move rfl) ?_
 refine gsy (v := I (((checkA root kind key n (PE ls)).1 : Nat) : Int)) (gv_of (t := 43) rfl rfl rfl) (rfl) (y_move rfl) ?_
 refine gsy (v := I (((checkA root kind key n (PE ls)).1 : Nat) : Int)) (gv_of (t := 43) rfl rfl rfl) (rfl) (y_move rfl) ?_
 refine gsy (v := .bool (decide (((checkA root kind key n (PE ls)).1) = ((checkA root kind key n (PE ls)).1)))) (gv_of (t := 43) rfl rfl rfl) (rfl) (n_eql (a := (checkA root kind key n (PE ls)).1) (b := (checkA root kind key n (PE ls)).1) rfl rfl) ?_
 refine sy (v := .bool (decide (((checkA root kind key n (PE ls)).1) = ((checkA root kind key n (PE ls)).1)))) (y_pickT rfl (rfl) rfl) ?_
 refine sy (v := .bool (decide (((checkA root kind key n (PE ls)).1) = ((checkA root kind key n (PE ls)).1)))) (y_move rfl) ?_
 have hq32 : ((checkA root kind key n (PE ls)).1) = ((checkA root kind key n (PE ls)).1) := rfl
 refine gst (gv_of (t := 48) rfl rfl rfl) (decide_eq_true hq32) (ow_call fn34 rfl (fixed19_c _) trivial) ?_
 rintro _ w33 ⟨rfl, hB34⟩
 have H35 : St w _ [_, _, _, _] w33 := H29.call hB34
 refine sy (v := .bool (true)) (y_pickT rfl (decide_eq_true hq32) rfl) ?_
 refine sy (v := .bool (true)) (y_assign rfl) ?_
 refine c_nil ?_
 refine n_then ?_
 refine wp_ret ?_
 refine e_r1 Try.results19 (rv_t rfl) ?_
 exact ⟨_, rfl, rfl, H35.below⟩

end Go.Proofs.Ytdcmbcjkdhdohaa
