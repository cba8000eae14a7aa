/- The walk of RootsTrue. -/
import Derived.Test.YtdcmbcjkdhdohaaRootsTrueC
import Derived.Test.YtdcmbcjkdhdohaaRootsTellsW
namespace Go.Proofs.Ytdcmbcjkdhdohaa
open Go Go.RowKit
set_option linter.unusedSimpArgs false
set_option linter.unusedVariables false
attribute [local irreducible] wpList wpP Code.wp

theorem clash_yes {v0 : Value} {cs : List Cl} {root : List UInt8} {kind : Int} {key : List UInt8} {n : Int} {lv : Value} {ls : List Lf} {w : World} (hC : CsR [] w v0 cs) (hcs : cs.length ≤ 1073741824) (hr : root.length = 32) (hn2 : -9223372036854775808 ≤ n) (hn : n ≤ 9223372036854775807) (hL : LsR [] w lv ls) (hc0 : (checkA root kind key n (PE ls)).1 = 0) (ht : twiceP (rowsR (PL cs) ++ rowsW n (PE ls))) :
    Calls Try.prog 40 (([v0, .agg (root.map B8).toArray, I kind, .string (bst key), .agg ([I n, lv] : List Value).toArray] : List Value).toArray) w (fun e w' => ∃ v, e = .returned v ∧ v = .bool true ∧ Below w.heap.size w w') :=
  (clash_c v0 cs root kind key n lv ls w hC hcs hr hn2 hn hL hc0).mono fun e w' ⟨v, he, b, hv, hb, hB⟩ => ⟨v, he, by rw [hv, hb.2 ht], hB⟩
theorem ck_kmay {root : List UInt8} {kind : Int} {key : List UInt8} {n : Int} {ls : List Le} (h : (checkA root kind key n ls).1 = 0) : kMay kind := by
  unfold checkA at h
  split at h
  · simp at h
  · rename_i hk; exact Classical.not_not.1 hk

attribute [local irreducible] leafH innerH topH rootH rootA sha checkA

set_option maxHeartbeats 4000000 in
set_option maxRecDepth 20000 in
theorem rootsTrue_c (v0 : Value) (cs : List Cl) (kind : Int) (key : List UInt8) (n : Int) (lv : Value) (ls : List Lf) (w : World) (hC : CsR [] w v0 cs) (hL : LsR [] w lv ls) (hcs : cs.length ≤ 1048576) (hna : -9223372036854775808 ≤ n) (hnb : n ≤ 9223372036854775807) :
    Calls Try.prog 7 (([.agg ([v0, I kind, .string (bst key), I n, lv]).toArray] : List Value).toArray) w (fun e w' => ∃ v, e = .returned v ∧ v = .bool true ∧ Below w.heap.size w w') := by
 have hle := hC.le
 refine calls_mk Try.func7 rfl 107 Try.ntmps7 rfl ?_
 have H0 : St w [] [] w := St.refl w
 refine c_seq ?_
 refine c_reg ?_
 refine st (ow_box (l := [v0, I (kind), .string (bst key), I (n), lv]) H0 rfl rfl) ?_
 rintro _ w2 ⟨g1, rfl, H3⟩
 refine sy (v := .bool (false)) (y_assign (v := .bool (false)) rfl) ?_
 refine c_nil ?_
 refine n_then ?_
 refine c_seq ?_
 refine c_reg ?_
 refine sy (v := Ad (bs g1) (0 + 0)) (y_fld Try.underlying43 rfl rfl sz38 (by decide) rfl) ?_
 refine sy (v := v0) (y_load sc38 rfl (H3.cell 0 rfl rfl)) ?_
 refine st (ow_call fn32 rfl (Root_c (v0) (cs) _ (hC.st H3).nil) ⟨rfl, trivial⟩) ?_
 rintro _ w4 ⟨rfl, hB5⟩
 have H6 : St w _ [_] w4 := H3.call hB5
 refine sy (v := .tuple #[.agg ((rootA (cs.map (fun q : Cl => q.c))).map B8).toArray, I ((wrong (cs.map (fun q : Cl => q.c)) : Nat) : Int)]) (y_move rfl) ?_
 refine sy (v := .agg ((rootA (cs.map (fun q : Cl => q.c))).map B8).toArray) (y_extract (i := 0) rfl rfl) ?_
 refine sy (v := I ((wrong (cs.map (fun q : Cl => q.c)) : Nat) : Int)) (y_extract (i := 1) rfl rfl) ?_
 refine st (ow_alloc (l := (List.replicate 32 0).map B8) H6 zr26 (by simp [Value.cells])) ?_
 rintro _ w8 ⟨g7, rfl, H9⟩
 refine s0 (ow_storeW (us := (rootA (cs.map (fun q : Cl => q.c))).map B8) H9 sz26 ((List.length_map _).trans (rootA_len (cs.map (fun q : Cl => q.c)))) rfl rfl (map_one (F := B8) (fun _ => rfl) _) ((List.length_map _).trans List.length_replicate)) ?_
 rintro _ w10 H11'
 have H11 : St w _ [[(g7, Rw 26 ((rootA (cs.map (fun q : Cl => q.c))).map B8))], _] w10 := H11'
 refine sy (v := I ((wrong (cs.map (fun q : Cl => q.c)) : Nat) : Int)) (y_assign rfl) ?_
 refine c_nil ?_
 refine n_then ?_
 refine c_seq ?_
 refine c_seq ?_
 refine c_reg ?_
 refine sy (v := I ((wrong (cs.map (fun q : Cl => q.c)) : Nat) : Int)) (y_move rfl) ?_
 refine sy (v := .bool (decide ((wrong (cs.map (fun q : Cl => q.c))) ≠ 0))) (n_neq (a := wrong (cs.map (fun q : Cl => q.c))) (b := 0) rfl rfl) ?_
 refine c_nil ?_
 refine n_then ?_
 refine c_if rfl (fun hc12 => ?_) (fun hc12 => ?_)
 ·
  refine c_seq ?_
  refine c_reg ?_
  refine sy (v := Ad (bs g1) (0 + 0)) (y_fld Try.underlying43 rfl rfl sz38 (by decide) rfl) ?_
  refine sy (v := v0) (y_load sc38 rfl (H11.cell 1 rfl rfl)) ?_
  refine st (ow_call fn33 rfl (Wrong_c (v0) (cs) _ (hC.st H11).nil) ⟨rfl, trivial⟩) ?_
  rintro _ w13 ⟨rfl, hB14⟩
  have H15 : St w _ [_, _] w13 := H11.call hB14
  refine sy (v := .bool (decide ((wrong (cs.map (fun q : Cl => q.c))) ≠ 0))) (n_neq (a := wrong (cs.map (fun q : Cl => q.c))) (b := 0) rfl rfl) ?_
  refine sy (v := .bool (decide ((wrong (cs.map (fun q : Cl => q.c))) ≠ 0))) (y_move rfl) ?_
  refine gst (gv_of (t := 24) rfl rfl rfl) (decide_eq_true hc12) (ow_call fn34 rfl (fixed19_c _) trivial) ?_
  rintro _ w16 ⟨rfl, hB17⟩
  have H18 : St w _ [_, _] w16 := H15.call hB17
  refine sy (v := .bool (true)) (y_pickT rfl (decide_eq_true hc12) rfl) ?_
  refine sy (v := .bool (true)) (y_assign rfl) ?_
  refine c_nil ?_
  refine n_then ?_
  refine wp_ret ?_
  refine r_then ?_
  refine e_r1 Try.results7 (rv_t rfl) ?_
  exact ⟨_, rfl, rfl, H18.below⟩
 ·
  refine wp_skip ?_
  refine n_then ?_
  refine c_seq ?_
  refine c_seq ?_
  refine c_reg ?_
  refine sy (v := Ad (bs g1) (0 + 0)) (y_fld Try.underlying43 rfl rfl sz38 (by decide) rfl) ?_
  refine sy (v := v0) (y_load sc38 rfl (H11.cell 1 rfl rfl)) ?_
  refine st (ow_call fn33 rfl (Wrong_c (v0) (cs) _ (hC.st H11).nil) ⟨rfl, trivial⟩) ?_
  rintro _ w19 ⟨rfl, hB20⟩
  have H21 : St w _ [_, _] w19 := H11.call hB20
  refine sy (v := .bool (decide ((wrong (cs.map (fun q : Cl => q.c))) ≠ 0))) (n_neq (a := wrong (cs.map (fun q : Cl => q.c))) (b := 0) rfl rfl) ?_
  refine c_nil ?_
  refine n_then ?_
  refine c_f rfl (decide_eq_false hc12) ?_
  refine wp_skip ?_
  refine n_then ?_
  refine c_seq ?_
  refine c_reg ?_
  refine sy (v := .agg ((rootA (cs.map (fun q : Cl => q.c))).map B8).toArray) (y_loadA (us := (rootA (cs.map (fun q : Cl => q.c))).map B8) ag26 sz26 ((List.length_map _).trans (rootA_len (cs.map (fun q : Cl => q.c)))) rfl (fun j u hu => (H21.cell 0 rfl (by rw [Nat.zero_add]; exact hu)))) ?_
  refine sy (v := Ad (bs g1) (0 + 1)) (y_fld Try.underlying43 rfl rfl sz3 (by decide) rfl) ?_
  refine sy (v := I (kind)) (y_load sc3 rfl (H21.cell 1 rfl rfl)) ?_
  refine sy (v := Ad (bs g1) (0 + 2)) (y_fld Try.underlying43 rfl rfl sz9 (by decide) rfl) ?_
  refine sy (v := .string (bst key)) (y_load sc9 rfl (H21.cell 1 rfl rfl)) ?_
  refine sy (v := Ad (bs g1) (0 + 3)) (y_fld Try.underlying43 rfl rfl sz41 (by decide) rfl) ?_
  refine sy (v := .agg ([I n, lv]).toArray) (y_loadA (us := [I (n), lv]) ag41 sz41 rfl rfl (fun j u hu => (H21.cell 1 rfl (mid_get (us := [I (n), lv]) rfl hu)))) ?_
  refine st (ow_call fn35 rfl (check_c (rootA (PL cs)) kind key n lv ls _ (rootA_len (cs.map (fun q : Cl => q.c))) (by omega) (by omega) (hL.st H21).nil.nil) ⟨rfl, rfl, rfl, rfl, trivial⟩) ?_
  rintro _ w24 ⟨cc22, E23, rfl, hc26, ho27, H25⟩
  have H28 : St w _ [_, _, _] w24 := H21.app H25
  have hsmho27 : small cc22.c := by rw [hc26]; exact ck_small (hL.st H28).nil
  refine sy (v := .tuple #[.agg ([I cc22.c.k, .string (bst cc22.c.key), cc22.v]).toArray, .bool ((checkA (rootA (PL cs)) kind key n (PE ls)).2.isSome), I (((checkA (rootA (PL cs)) kind key n (PE ls)).1 : Nat) : Int)]) (y_move rfl) ?_
  refine sy (v := .agg ([I cc22.c.k, .string (bst cc22.c.key), cc22.v]).toArray) (y_extract (i := 0) rfl rfl) ?_
  refine sy (v := .bool ((checkA (rootA (PL cs)) kind key n (PE ls)).2.isSome)) (y_extract (i := 1) rfl rfl) ?_
  refine sy (v := I (((checkA (rootA (PL cs)) kind key n (PE ls)).1 : Nat) : Int)) (y_extract (i := 2) rfl rfl) ?_
  refine st (ow_alloc (l := [I ((0 : Nat) : Int), .string (.empty), .slice none 0 0]) H28 zr48 rfl) ?_
  rintro _ w30 ⟨g29, rfl, H31⟩
  refine s0 (ow_storeW (us := [I (cc22.c.k), .string (bst cc22.c.key), cc22.v]) H31 sz48 rfl rfl rfl (by intro u hu; simp only [List.mem_cons, List.not_mem_nil, or_false] at hu; rcases hu with rfl | rfl | rfl <;> first | rfl | exact Rd.one (ho27.rd H31 1 rfl)) (by simp [*])) ?_
  rintro _ w32 H33'
  have H33 : St w _ [[(g29, Rw 48 ([I (cc22.c.k), .string (bst cc22.c.key), cc22.v]))], _, _, _] w32 := H33'
  refine sy (v := .bool ((checkA (rootA (PL cs)) kind key n (PE ls)).2.isSome)) (y_assign rfl) ?_
  refine sy (v := I (((checkA (rootA (PL cs)) kind key n (PE ls)).1 : Nat) : Int)) (y_assign rfl) ?_
  refine c_nil ?_
  refine n_then ?_
  refine c_seq ?_
  refine c_seq ?_
  refine c_reg ?_
  refine sy (v := I (((checkA (rootA (PL cs)) kind key n (PE ls)).1 : Nat) : Int)) (y_move rfl) ?_
  refine sy (v := .bool (decide (((checkA (rootA (PL cs)) kind key n (PE ls)).1) ≠ 0))) (n_neq (a := (checkA (rootA (PL cs)) kind key n (PE ls)).1) (b := 0) rfl rfl) ?_
  refine c_nil ?_
  refine n_then ?_
  refine c_if rfl (fun hc34 => ?_) (fun hc34 => ?_)
  ·
   refine c_seq ?_
   have hno : (checkA (rootA (PL cs)) kind key n (PE ls)).2 = none := ck_none (show (checkA (rootA (PL cs)) kind key n (PE ls)).1 ≠ 0 by assumption)
   have hns : (checkA (rootA (PL cs)) kind key n (PE ls)).2.isSome = false := by rw [hno]; rfl
   refine c_reg ?_
   refine sy (v := .bool (false)) (y_move ((show ev _ _ (.tmp 6) = .bool ((checkA (rootA (PL cs)) kind key n (PE ls)).2.isSome) from rfl).trans (congrArg Value.bool hns))) ?_
   refine sy (v := .bool (true)) (y_not (p := false) rfl) ?_
   refine sy (v := .bool (true)) (y_move rfl) ?_
   refine gsy (v := .agg ([I cc22.c.k, .string (bst cc22.c.key), cc22.v]).toArray) (gv_of (t := 47) rfl rfl rfl) (rfl) (y_loadA (us := [I (cc22.c.k), .string (bst cc22.c.key), cc22.v]) ag48 sz48 rfl rfl (fun j u hu => (H33.cell 0 rfl (by rw [Nat.zero_add]; exact hu)))) ?_
   refine gsy (v := .agg ([I ((0 : Nat) : Int), .string .empty, .slice none 0 0]).toArray) (gv_of (t := 47) rfl rfl rfl) (rfl) (y_build (parts := []) (pv := []) (us := [I ((0 : Nat) : Int), .string (.empty), .slice none 0 0]) trivial (by kernel_rfl)) ?_
   refine gst (gv_of (t := 47) rfl rfl rfl) (rfl) (ow_call fn36 rfl (same_c cc22 c0 _ ⟨ho27.rd H33 1 rfl, hsmho27⟩ cr0) ⟨rfl, rfl, trivial⟩) ?_
   rintro _ w35 ⟨rfl, hB36⟩
   have H37 : St w _ [_, _, _, _] w35 := H33.call hB36
   refine sy (v := .bool (decide (sameC cc22.c c0.c))) (y_pickT rfl (rfl) rfl) ?_
   refine sy (v := .bool (decide (sameC cc22.c c0.c))) (y_move rfl) ?_
   have hq38 : sameC cc22.c c0.c := (by rw [hc26, hno]; exact ⟨rfl, rfl, rfl⟩)
   refine gst (gv_of (t := 52) rfl rfl rfl) (decide_eq_true hq38) (ow_call fn34 rfl (fixed19_c _) trivial) ?_
   rintro _ w39 ⟨rfl, hB40⟩
   have H41 : St w _ [_, _, _, _] w39 := H37.call hB40
   refine sy (v := .bool (true)) (y_pickT rfl (decide_eq_true hq38) rfl) ?_
   refine sy (v := .bool (true)) (y_assign rfl) ?_
   refine c_nil ?_
   refine n_then ?_
   refine wp_ret ?_
   refine r_then ?_
   refine e_r1 Try.results7 (rv_t rfl) ?_
   exact ⟨_, rfl, rfl, H41.below⟩
  ·
   refine wp_skip ?_
   refine n_then ?_
   refine c_seq ?_
   have hc0 : (checkA (rootA (PL cs)) kind key n (PE ls)).1 = 0 := by first | assumption | exact Decidable.not_not.1 (by assumption)
   have hkm : kMay kind := ck_kmay hc0
   have hwr : wrong (PL cs) = 0 := Decidable.not_not.1 (show ¬ ¬ (wrong (PL cs) = 0) by assumption)
   refine c_reg ?_
   refine sy (v := Ad (bs g1) (0 + 0)) (y_fld Try.underlying43 rfl rfl sz38 (by decide) rfl) ?_
   refine sy (v := v0) (y_load sc38 rfl (H33.cell 3 rfl rfl)) ?_
   refine sy (v := Ad (bs g1) (0 + 1)) (y_fld Try.underlying43 rfl rfl sz3 (by decide) rfl) ?_
   refine sy (v := I (kind)) (y_load sc3 rfl (H33.cell 3 rfl rfl)) ?_
   refine sy (v := Ad (bs g1) (0 + 2)) (y_fld Try.underlying43 rfl rfl sz9 (by decide) rfl) ?_
   refine sy (v := .string (bst key)) (y_load sc9 rfl (H33.cell 3 rfl rfl)) ?_
   refine st (ow_call fn37 rfl (find_c (kind) (key) (v0) cs _ (hC.st H33).nil) ⟨rfl, rfl, rfl, trivial⟩) ?_
   rintro _ w47 ⟨n42, lv43, ls44, err45, EB46, rfl, hF49, hP50, H48⟩
   have H51 : St w _ [_, _, _, _, _] w47 := H33.app H48
   refine sy (v := .tuple #[.agg ([I ((n42 : Nat) : Int), lv43]).toArray, I ((err45 : Nat) : Int)]) (y_move rfl) ?_
   refine sy (v := .agg ([I ((n42 : Nat) : Int), lv43]).toArray) (y_extract (i := 0) rfl rfl) ?_
   refine sy (v := I ((err45 : Nat) : Int)) (y_extract (i := 1) rfl rfl) ?_
   refine st (ow_alloc (l := [I ((0 : Nat) : Int), .slice none 0 0]) H51 zr41 rfl) ?_
   rintro _ w53 ⟨g52, rfl, H54⟩
   refine s0 (ow_storeW (us := [I ((n42 : Nat) : Int), lv43]) H54 sz41 rfl rfl rfl (by intro u hu; simp only [List.mem_cons, List.not_mem_nil, or_false] at hu; rcases hu with rfl | rfl <;> first | rfl | exact Rd.one (LsP.rd hP50 H54 1 rfl).rd) (by simp [*])) ?_
   rintro _ w55 H56'
   have H56 : St w _ [[(g52, Rw 41 ([I ((n42 : Nat) : Int), lv43]))], _, _, _, _, _] w55 := H56'
   refine sy (v := I ((err45 : Nat) : Int)) (y_assign rfl) ?_
   refine c_nil ?_
   refine n_then ?_
   refine c_seq ?_
   refine c_reg ?_
   refine sy (v := Ad (bs g1) (0 + 0)) (y_fld Try.underlying43 rfl rfl sz38 (by decide) rfl) ?_
   refine sy (v := v0) (y_load sc38 rfl (H56.cell 5 rfl rfl)) ?_
   refine sy (v := Ad (bs g1) (0 + 1)) (y_fld Try.underlying43 rfl rfl sz3 (by decide) rfl) ?_
   refine sy (v := I (kind)) (y_load sc3 rfl (H56.cell 5 rfl rfl)) ?_
   refine sy (v := Ad (bs g1) (0 + 2)) (y_fld Try.underlying43 rfl rfl sz9 (by decide) rfl) ?_
   refine sy (v := .string (bst key)) (y_load sc9 rfl (H56.cell 5 rfl rfl)) ?_
   refine st (ow_call fn38 rfl (standsL_c kind key v0 cs _ (hC.st H56).nil) ⟨rfl, rfl, rfl, trivial⟩) ?_
   rintro _ w59 ⟨cs57, b58, rfl, hS61, hB60⟩
   have H63 : St w _ [_, _, _, _, _, _] w59 := H56.call hB60
   have hCs62 : CR [] w cs57 := hS61.cr hC
   refine sy (v := .tuple #[.agg ([I cs57.c.k, .string (bst cs57.c.key), cs57.v]).toArray, .bool (b58)]) (y_move rfl) ?_
   refine sy (v := .agg ([I cs57.c.k, .string (bst cs57.c.key), cs57.v]).toArray) (y_extract (i := 0) rfl rfl) ?_
   refine sy (v := .bool (b58)) (y_extract (i := 1) rfl rfl) ?_
   refine st (ow_alloc (l := [I ((0 : Nat) : Int), .string (.empty), .slice none 0 0]) H63 zr48 rfl) ?_
   rintro _ w65 ⟨g64, rfl, H66⟩
   refine s0 (ow_storeW (us := [I (cs57.c.k), .string (bst cs57.c.key), cs57.v]) H66 sz48 rfl rfl rfl (by intro u hu; simp only [List.mem_cons, List.not_mem_nil, or_false] at hu; rcases hu with rfl | rfl | rfl <;> first | rfl | exact Rd.one (hCs62.1.st H66)) (by simp [*])) ?_
   rintro _ w67 H68'
   have H68 : St w _ [[(g64, Rw 48 ([I (cs57.c.k), .string (bst cs57.c.key), cs57.v]))], _, _, _, _, _, _] w67 := H68'
   refine sy (v := .bool (b58)) (y_assign rfl) ?_
   refine c_nil ?_
   refine n_then ?_
   refine c_seq ?_
   refine c_seq ?_
   obtain ⟨hn1, he1, p, hIs, hls⟩ := FindsA.good hF49 hkm hwr
   rw [List.length_map] at hn1
   obtain ⟨hst1, hst2⟩ := hS61.tells hwr hIs
   refine c_reg ?_
   by_cases hp69 : n = (cs.length : Int) ∧ ∃ p, IsP kind key (PL cs) p ∧ PE ls = leavesAt kind key (PL cs) p
   ·
    refine sy (v := I ((err45 : Nat) : Int)) (y_move rfl) ?_
    refine sy (v := .bool (decide (err45 = 0))) (n_eql (a := err45) (b := 0) rfl rfl) ?_
    refine sy (v := .bool (decide (err45 = 0))) (y_move rfl) ?_
    have hq70 : err45 = 0 := he1
    refine gsy (v := .bool ((checkA (rootA (PL cs)) kind key n (PE ls)).2.isSome)) (gv_of (t := 77) rfl rfl rfl) (decide_eq_true hq70) (y_move rfl) ?_
    refine gsy (v := .bool (b58)) (gv_of (t := 77) rfl rfl rfl) (decide_eq_true hq70) (y_move rfl) ?_
    obtain ⟨hn2', p', hIs', hls'⟩ := hp69
    obtain rfl := hIs.uniq hIs'
    have hck : checkA (rootA (PL cs)) kind key n (PE ls) = (0, tellsA kind key (PL cs) p) := by
     rw [hls', hn2', ← List.length_map (f := fun q : Cl => q.c)]; exact check_found hkm hwr hIs
    have e71 : (((checkA (rootA (PL cs)) kind key n (PE ls)).2.isSome) == (b58)) = true := beq_iff_eq.2 (by rw [hck]; exact hst1)
    refine gsy (v := .bool (true)) (gv_of (t := 77) rfl rfl rfl) (decide_eq_true hq70) ((e71 ▸ y_eqlB (p := (checkA (rootA (PL cs)) kind key n (PE ls)).2.isSome) (q := b58) rfl rfl Try.underlying4)) ?_
    refine sy (v := .bool (true)) (y_pickT rfl (decide_eq_true hq70) rfl) ?_
    refine sy (v := .bool (true)) (y_move rfl) ?_
    refine gsy (v := .agg ([I cc22.c.k, .string (bst cc22.c.key), cc22.v]).toArray) (gv_of (t := 82) rfl rfl rfl) (rfl) (y_loadA (us := [I (cc22.c.k), .string (bst cc22.c.key), cc22.v]) ag48 sz48 rfl rfl (fun j u hu => (H68.cell 3 rfl (by rw [Nat.zero_add]; exact hu)))) ?_
    refine gsy (v := .agg ([I cs57.c.k, .string (bst cs57.c.key), cs57.v]).toArray) (gv_of (t := 82) rfl rfl rfl) (rfl) (y_loadA (us := [I (cs57.c.k), .string (bst cs57.c.key), cs57.v]) ag48 sz48 rfl rfl (fun j u hu => (H68.cell 0 rfl (by rw [Nat.zero_add]; exact hu)))) ?_
    refine gst (gv_of (t := 82) rfl rfl rfl) (rfl) (ow_call fn36 rfl (same_c cc22 cs57 _ ⟨ho27.rd H68 4 rfl, hsmho27⟩ (CR.st hCs62 H68).nil) ⟨rfl, rfl, trivial⟩) ?_
    rintro _ w72 ⟨rfl, hB73⟩
    have H74 : St w _ [_, _, _, _, _, _, _] w72 := H68.call hB73
    refine sy (v := .bool (decide (sameC cc22.c cs57.c))) (y_pickT rfl (rfl) rfl) ?_
    refine sy (v := .bool (decide (sameC cc22.c cs57.c))) (y_move rfl) ?_
    have hq75 : sameC cc22.c cs57.c := (by rw [hc26, hck, ← hst2]; exact ⟨rfl, rfl, rfl⟩)
    refine gsy (v := .agg ([I ((n42 : Nat) : Int), lv43]).toArray) (gv_of (t := 87) rfl rfl rfl) (decide_eq_true hq75) (y_loadA (us := [I ((n42 : Nat) : Int), lv43]) ag41 sz41 rfl rfl (fun j u hu => (H74.cell 1 rfl (by rw [Nat.zero_add]; exact hu)))) ?_
    refine gsy (v := Ad (bs g1) (0 + 3)) (gv_of (t := 87) rfl rfl rfl) (decide_eq_true hq75) (y_fld Try.underlying43 rfl rfl sz41 (by decide) rfl) ?_
    refine gsy (v := .agg ([I n, lv]).toArray) (gv_of (t := 87) rfl rfl rfl) (decide_eq_true hq75) (y_loadA (us := [I (n), lv]) ag41 sz41 rfl rfl (fun j u hu => (H74.cell 6 rfl (mid_get (us := [I (n), lv]) rfl hu)))) ?_
    refine gst (gv_of (t := 87) rfl rfl rfl) (decide_eq_true hq75) (ow_call fn39 rfl (samew_yes (n := ((n42 : Nat) : Int)) (m := n) (ls := ls44) (ks := ls) (LsP.rd hP50 H74 2 rfl) (hL.st H74).nil ⟨by rw [hn1, hn2'], by rw [hls, hls']⟩) ⟨rfl, rfl, trivial⟩) ?_
    rintro _ w76 ⟨rfl, hB77⟩
    have H78 : St w _ [_, _, _, _, _, _, _] w76 := H74.call hB77
    refine sy (v := .bool (true)) (y_pickT rfl (decide_eq_true hq75) rfl) ?_
    refine c_nil ?_
    refine n_then ?_
    refine c_t rfl rfl ?_
    refine c_seq ?_
    refine c_reg ?_
    refine st (ow_call fn34 rfl (fixed19_c _) trivial) ?_
    rintro _ w79 ⟨rfl, hB80⟩
    have H81 : St w _ [_, _, _, _, _, _, _] w79 := H78.call hB80
    refine sy (v := .bool (true)) (y_assign rfl) ?_
    refine c_nil ?_
    refine n_then ?_
    refine wp_ret ?_
    refine r_then ?_
    refine e_r1 Try.results7 (rv_t rfl) ?_
    exact ⟨_, rfl, rfl, H81.below⟩
   ·
    refine sy (v := I ((err45 : Nat) : Int)) (y_move rfl) ?_
    refine sy (v := .bool (decide (err45 = 0))) (n_eql (a := err45) (b := 0) rfl rfl) ?_
    refine sy (v := .bool (decide (err45 = 0))) (y_move rfl) ?_
    have hq82 : err45 = 0 := he1
    refine gsy (v := .bool ((checkA (rootA (PL cs)) kind key n (PE ls)).2.isSome)) (gv_of (t := 77) rfl rfl rfl) (decide_eq_true hq82) (y_move rfl) ?_
    refine gsy (v := .bool (b58)) (gv_of (t := 77) rfl rfl rfl) (decide_eq_true hq82) (y_move rfl) ?_
    by_cases hp83 : (checkA (rootA (PL cs)) kind key n (PE ls)).2.isSome = b58
    ·
     have e84 : (((checkA (rootA (PL cs)) kind key n (PE ls)).2.isSome) == (b58)) = true := beq_iff_eq.2 hp83
     refine gsy (v := .bool (true)) (gv_of (t := 77) rfl rfl rfl) (decide_eq_true hq82) ((e84 ▸ y_eqlB (p := (checkA (rootA (PL cs)) kind key n (PE ls)).2.isSome) (q := b58) rfl rfl Try.underlying4)) ?_
     refine sy (v := .bool (true)) (y_pickT rfl (decide_eq_true hq82) rfl) ?_
     refine sy (v := .bool (true)) (y_move rfl) ?_
     refine gsy (v := .agg ([I cc22.c.k, .string (bst cc22.c.key), cc22.v]).toArray) (gv_of (t := 82) rfl rfl rfl) (rfl) (y_loadA (us := [I (cc22.c.k), .string (bst cc22.c.key), cc22.v]) ag48 sz48 rfl rfl (fun j u hu => (H68.cell 3 rfl (by rw [Nat.zero_add]; exact hu)))) ?_
     refine gsy (v := .agg ([I cs57.c.k, .string (bst cs57.c.key), cs57.v]).toArray) (gv_of (t := 82) rfl rfl rfl) (rfl) (y_loadA (us := [I (cs57.c.k), .string (bst cs57.c.key), cs57.v]) ag48 sz48 rfl rfl (fun j u hu => (H68.cell 0 rfl (by rw [Nat.zero_add]; exact hu)))) ?_
     refine gst (gv_of (t := 82) rfl rfl rfl) (rfl) (ow_call fn36 rfl (same_c cc22 cs57 _ ⟨ho27.rd H68 4 rfl, hsmho27⟩ (CR.st hCs62 H68).nil) ⟨rfl, rfl, trivial⟩) ?_
     rintro _ w85 ⟨rfl, hB86⟩
     have H87 : St w _ [_, _, _, _, _, _, _] w85 := H68.call hB86
     refine sy (v := .bool (decide (sameC cc22.c cs57.c))) (y_pickT rfl (rfl) rfl) ?_
     refine sy (v := .bool (decide (sameC cc22.c cs57.c))) (y_move rfl) ?_
     by_cases hp88 : sameC cc22.c cs57.c
     ·
      refine gsy (v := .agg ([I ((n42 : Nat) : Int), lv43]).toArray) (gv_of (t := 87) rfl rfl rfl) (decide_eq_true hp88) (y_loadA (us := [I ((n42 : Nat) : Int), lv43]) ag41 sz41 rfl rfl (fun j u hu => (H87.cell 1 rfl (by rw [Nat.zero_add]; exact hu)))) ?_
      refine gsy (v := Ad (bs g1) (0 + 3)) (gv_of (t := 87) rfl rfl rfl) (decide_eq_true hp88) (y_fld Try.underlying43 rfl rfl sz41 (by decide) rfl) ?_
      refine gsy (v := .agg ([I n, lv]).toArray) (gv_of (t := 87) rfl rfl rfl) (decide_eq_true hp88) (y_loadA (us := [I (n), lv]) ag41 sz41 rfl rfl (fun j u hu => (H87.cell 6 rfl (mid_get (us := [I (n), lv]) rfl hu)))) ?_
      refine gst (gv_of (t := 87) rfl rfl rfl) (decide_eq_true hp88) (ow_call fn39 rfl (samew_c (((n42 : Nat) : Int)) (n) lv43 lv ls44 ls _ (LsP.rd hP50 H87 2 rfl) (hL.st H87).nil) ⟨rfl, rfl, trivial⟩) ?_
      rintro _ w90 ⟨b89, rfl, hx92, hB91⟩
      have H93 : St w _ [_, _, _, _, _, _, _] w90 := H87.call hB91
      refine sy (v := .bool (b89)) (y_pickT rfl (decide_eq_true hp88) rfl) ?_
      refine c_nil ?_
      refine n_then ?_
      refine c_cond rfl (fun hc94 => ?_) (fun hc94 => ?_)
      ·
       refine c_seq ?_
       refine c_reg ?_
       refine st (ow_call fn34 rfl (fixed19_c _) trivial) ?_
       rintro _ w95 ⟨rfl, hB96⟩
       have H97 : St w _ [_, _, _, _, _, _, _] w95 := H93.call hB96
       refine sy (v := .bool (true)) (y_assign rfl) ?_
       refine c_nil ?_
       refine n_then ?_
       refine wp_ret ?_
       refine r_then ?_
       refine e_r1 Try.results7 (rv_t rfl) ?_
       exact ⟨_, rfl, rfl, H97.below⟩
      ·
       refine wp_skip ?_
       refine n_then ?_
       refine c_seq ?_
       have htw := (check_sound hkm hwr (by omega) (by omega) hc0).resolve_right (show ¬ (n = (cs.length : Int) ∧ ∃ p, IsP kind key (PL cs) p ∧ PE ls = leavesAt kind key (PL cs) p) by assumption)
       refine c_reg ?_
       refine sy (v := Ad (bs g1) (0 + 0)) (y_fld Try.underlying43 rfl rfl sz38 (by decide) rfl) ?_
       refine sy (v := v0) (y_load sc38 rfl (H93.cell 6 rfl rfl)) ?_
       refine sy (v := .agg ((rootA (cs.map (fun q : Cl => q.c))).map B8).toArray) (y_loadA (us := (rootA (cs.map (fun q : Cl => q.c))).map B8) ag26 sz26 ((List.length_map _).trans (rootA_len (cs.map (fun q : Cl => q.c)))) rfl (fun j u hu => (H93.cell 5 rfl (by rw [Nat.zero_add]; exact hu)))) ?_
       refine sy (v := Ad (bs g1) (0 + 1)) (y_fld Try.underlying43 rfl rfl sz3 (by decide) rfl) ?_
       refine sy (v := I (kind)) (y_load sc3 rfl (H93.cell 6 rfl rfl)) ?_
       refine sy (v := Ad (bs g1) (0 + 2)) (y_fld Try.underlying43 rfl rfl sz9 (by decide) rfl) ?_
       refine sy (v := .string (bst key)) (y_load sc9 rfl (H93.cell 6 rfl rfl)) ?_
       refine sy (v := Ad (bs g1) (0 + 3)) (y_fld Try.underlying43 rfl rfl sz41 (by decide) rfl) ?_
       refine sy (v := .agg ([I n, lv]).toArray) (y_loadA (us := [I (n), lv]) ag41 sz41 rfl rfl (fun j u hu => (H93.cell 6 rfl (mid_get (us := [I (n), lv]) rfl hu)))) ?_
       refine st (ow_call fn40 rfl (clash_yes (hC.st H93).nil (by omega) (rootA_len (cs.map (fun q : Cl => q.c))) (by omega) (by omega) (hL.st H93).nil hc0 htw) ⟨rfl, rfl, rfl, rfl, rfl, trivial⟩) ?_
       rintro _ w98 ⟨rfl, hB99⟩
       have H100 : St w _ [_, _, _, _, _, _, _] w98 := H93.call hB99
       refine sy (v := .bool (true)) (y_move rfl) ?_
       refine gst (gv_of (t := 104) rfl rfl rfl) (rfl) (ow_call fn34 rfl (fixed19_c _) trivial) ?_
       rintro _ w101 ⟨rfl, hB102⟩
       have H103 : St w _ [_, _, _, _, _, _, _] w101 := H100.call hB102
       refine sy (v := .bool (true)) (y_pickT rfl (rfl) rfl) ?_
       refine sy (v := .bool (true)) (y_assign rfl) ?_
       refine c_nil ?_
       refine n_then ?_
       refine wp_ret ?_
       refine e_r1 Try.results7 (rv_t rfl) ?_
       exact ⟨_, rfl, rfl, H103.below⟩
     ·
      refine gno (gv_of (t := 87) rfl rfl rfl) (decide_eq_false hp88) ?_
      refine gno (gv_of (t := 87) rfl rfl rfl) (decide_eq_false hp88) ?_
      refine gno (gv_of (t := 87) rfl rfl rfl) (decide_eq_false hp88) ?_
      refine gno (gv_of (t := 87) rfl rfl rfl) (decide_eq_false hp88) ?_
      refine sy (v := .bool (false)) (y_pickF (v := .bool (false)) rfl (decide_eq_false hp88) rfl) ?_
      refine c_nil ?_
      refine n_then ?_
      refine c_f rfl rfl ?_
      refine wp_skip ?_
      refine n_then ?_
      refine c_seq ?_
      have htw := (check_sound hkm hwr (by omega) (by omega) hc0).resolve_right (show ¬ (n = (cs.length : Int) ∧ ∃ p, IsP kind key (PL cs) p ∧ PE ls = leavesAt kind key (PL cs) p) by assumption)
      refine c_reg ?_
      refine sy (v := Ad (bs g1) (0 + 0)) (y_fld Try.underlying43 rfl rfl sz38 (by decide) rfl) ?_
      refine sy (v := v0) (y_load sc38 rfl (H87.cell 6 rfl rfl)) ?_
      refine sy (v := .agg ((rootA (cs.map (fun q : Cl => q.c))).map B8).toArray) (y_loadA (us := (rootA (cs.map (fun q : Cl => q.c))).map B8) ag26 sz26 ((List.length_map _).trans (rootA_len (cs.map (fun q : Cl => q.c)))) rfl (fun j u hu => (H87.cell 5 rfl (by rw [Nat.zero_add]; exact hu)))) ?_
      refine sy (v := Ad (bs g1) (0 + 1)) (y_fld Try.underlying43 rfl rfl sz3 (by decide) rfl) ?_
      refine sy (v := I (kind)) (y_load sc3 rfl (H87.cell 6 rfl rfl)) ?_
      refine sy (v := Ad (bs g1) (0 + 2)) (y_fld Try.underlying43 rfl rfl sz9 (by decide) rfl) ?_
      refine sy (v := .string (bst key)) (y_load sc9 rfl (H87.cell 6 rfl rfl)) ?_
      refine sy (v := Ad (bs g1) (0 + 3)) (y_fld Try.underlying43 rfl rfl sz41 (by decide) rfl) ?_
      refine sy (v := .agg ([I n, lv]).toArray) (y_loadA (us := [I (n), lv]) ag41 sz41 rfl rfl (fun j u hu => (H87.cell 6 rfl (mid_get (us := [I (n), lv]) rfl hu)))) ?_
      refine st (ow_call fn40 rfl (clash_yes (hC.st H87).nil (by omega) (rootA_len (cs.map (fun q : Cl => q.c))) (by omega) (by omega) (hL.st H87).nil hc0 htw) ⟨rfl, rfl, rfl, rfl, rfl, trivial⟩) ?_
      rintro _ w104 ⟨rfl, hB105⟩
      have H106 : St w _ [_, _, _, _, _, _, _] w104 := H87.call hB105
      refine sy (v := .bool (true)) (y_move rfl) ?_
      refine gst (gv_of (t := 104) rfl rfl rfl) (rfl) (ow_call fn34 rfl (fixed19_c _) trivial) ?_
      rintro _ w107 ⟨rfl, hB108⟩
      have H109 : St w _ [_, _, _, _, _, _, _] w107 := H106.call hB108
      refine sy (v := .bool (true)) (y_pickT rfl (rfl) rfl) ?_
      refine sy (v := .bool (true)) (y_assign rfl) ?_
      refine c_nil ?_
      refine n_then ?_
      refine wp_ret ?_
      refine e_r1 Try.results7 (rv_t rfl) ?_
      exact ⟨_, rfl, rfl, H109.below⟩
    ·
     have e110 : (((checkA (rootA (PL cs)) kind key n (PE ls)).2.isSome) == (b58)) = false := Bool.eq_false_iff.2 (fun h => hp83 (beq_iff_eq.1 h))
     refine gsy (v := .bool (false)) (gv_of (t := 77) rfl rfl rfl) (decide_eq_true hq82) ((e110 ▸ y_eqlB (p := (checkA (rootA (PL cs)) kind key n (PE ls)).2.isSome) (q := b58) rfl rfl Try.underlying4)) ?_
     refine sy (v := .bool (false)) (y_pickT rfl (decide_eq_true hq82) rfl) ?_
     refine sy (v := .bool (false)) (y_move rfl) ?_
     refine gno (t := false) (b := true) (gv_of (t := 82) rfl rfl rfl) (rfl) ?_
     refine gno (t := false) (b := true) (gv_of (t := 82) rfl rfl rfl) (rfl) ?_
     refine gno (t := false) (b := true) (gv_of (t := 82) rfl rfl rfl) (rfl) ?_
     refine sy (v := .bool (false)) (y_pickF (v := .bool (false)) rfl (rfl) rfl) ?_
     refine sy (v := .bool (false)) (y_move rfl) ?_
     refine gno (t := false) (b := true) (gv_of (t := 87) rfl rfl rfl) (rfl) ?_
     refine gno (t := false) (b := true) (gv_of (t := 87) rfl rfl rfl) (rfl) ?_
     refine gno (t := false) (b := true) (gv_of (t := 87) rfl rfl rfl) (rfl) ?_
     refine gno (t := false) (b := true) (gv_of (t := 87) rfl rfl rfl) (rfl) ?_
     refine sy (v := .bool (false)) (y_pickF (v := .bool (false)) rfl (rfl) rfl) ?_
     refine c_nil ?_
     refine n_then ?_
     refine c_f rfl rfl ?_
     refine wp_skip ?_
     refine n_then ?_
     refine c_seq ?_
     have htw := (check_sound hkm hwr (by omega) (by omega) hc0).resolve_right (show ¬ (n = (cs.length : Int) ∧ ∃ p, IsP kind key (PL cs) p ∧ PE ls = leavesAt kind key (PL cs) p) by assumption)
     refine c_reg ?_
     refine sy (v := Ad (bs g1) (0 + 0)) (y_fld Try.underlying43 rfl rfl sz38 (by decide) rfl) ?_
     refine sy (v := v0) (y_load sc38 rfl (H68.cell 6 rfl rfl)) ?_
     refine sy (v := .agg ((rootA (cs.map (fun q : Cl => q.c))).map B8).toArray) (y_loadA (us := (rootA (cs.map (fun q : Cl => q.c))).map B8) ag26 sz26 ((List.length_map _).trans (rootA_len (cs.map (fun q : Cl => q.c)))) rfl (fun j u hu => (H68.cell 5 rfl (by rw [Nat.zero_add]; exact hu)))) ?_
     refine sy (v := Ad (bs g1) (0 + 1)) (y_fld Try.underlying43 rfl rfl sz3 (by decide) rfl) ?_
     refine sy (v := I (kind)) (y_load sc3 rfl (H68.cell 6 rfl rfl)) ?_
     refine sy (v := Ad (bs g1) (0 + 2)) (y_fld Try.underlying43 rfl rfl sz9 (by decide) rfl) ?_
     refine sy (v := .string (bst key)) (y_load sc9 rfl (H68.cell 6 rfl rfl)) ?_
     refine sy (v := Ad (bs g1) (0 + 3)) (y_fld Try.underlying43 rfl rfl sz41 (by decide) rfl) ?_
     refine sy (v := .agg ([I n, lv]).toArray) (y_loadA (us := [I (n), lv]) ag41 sz41 rfl rfl (fun j u hu => (H68.cell 6 rfl (mid_get (us := [I (n), lv]) rfl hu)))) ?_
     refine st (ow_call fn40 rfl (clash_yes (hC.st H68).nil (by omega) (rootA_len (cs.map (fun q : Cl => q.c))) (by omega) (by omega) (hL.st H68).nil hc0 htw) ⟨rfl, rfl, rfl, rfl, rfl, trivial⟩) ?_
     rintro _ w111 ⟨rfl, hB112⟩
     have H113 : St w _ [_, _, _, _, _, _, _] w111 := H68.call hB112
     refine sy (v := .bool (true)) (y_move rfl) ?_
     refine gst (gv_of (t := 104) rfl rfl rfl) (rfl) (ow_call fn34 rfl (fixed19_c _) trivial) ?_
     rintro _ w114 ⟨rfl, hB115⟩
     have H116 : St w _ [_, _, _, _, _, _, _] w114 := H113.call hB115
     refine sy (v := .bool (true)) (y_pickT rfl (rfl) rfl) ?_
     refine sy (v := .bool (true)) (y_assign rfl) ?_
     refine c_nil ?_
     refine n_then ?_
     refine wp_ret ?_
     refine e_r1 Try.results7 (rv_t rfl) ?_
     exact ⟨_, rfl, rfl, H116.below⟩

end Go.Proofs.Ytdcmbcjkdhdohaa
