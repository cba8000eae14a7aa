/- The walk of RootsFinds. -/
import Derived.Test.YtdcmbcjkdhdohaaRoots15
namespace Go.Proofs.Ytdcmbcjkdhdohaa
open Go Go.RowKit
set_option linter.unusedSimpArgs false
set_option linter.unusedVariables false
attribute [local irreducible] wpList wpP Code.wp

theorem samew_yes {n m : Int} {lv lw : Value} {ls ks : List Lf} {w : World} (hL : LsR [] w lv ls) (hM : LsR [] w lw ks) (h : n = m ∧ PE ls = PE ks) :
    Calls Try.prog 39 (([.agg ([I n, lv] : List Value).toArray, .agg ([I m, lw] : List Value).toArray] : List Value).toArray) w (fun e w' => ∃ v, e = .returned v ∧ v = .bool true ∧ Below w.heap.size w w') :=
  (samew_c n m lv lw ls ks w hL hM).mono fun e w' ⟨v, he, b, hv, hb, hB⟩ => ⟨v, he, by rw [hv, hb.2 h], hB⟩

attribute [local irreducible] leafH innerH topH rootH rootA sha checkA

set_option maxHeartbeats 2000000 in
set_option maxRecDepth 20000 in
theorem rootsFinds_c (v0 : Value) (cs : List Cl) (kind : Int) (key : List UInt8) (w : World) (hC : CsR [] w v0 cs) :
    Calls Try.prog 18 (([v0, I (kind), .string (bst key)] : List Value).toArray) w (fun e w' => ∃ v, e = .returned v ∧ v = .bool true ∧ Below w.heap.size w w') := by
 refine calls_mk Try.func18 rfl 60 Try.ntmps18 rfl ?_
 have H0 : St w [] [] w := St.refl w
 refine c_seq ?_
 refine c_reg ?_
 refine sy (v := .bool (false)) (y_assign (v := .bool (false)) rfl) ?_
 refine c_nil ?_
 refine n_then ?_
 refine c_seq ?_
 refine c_reg ?_
 refine sy (v := v0) (y_move rfl) ?_
 refine st (ow_call fn32 rfl (Root_c (v0) (cs) _ (hC.st H0).nil) ⟨rfl, trivial⟩) ?_
 rintro _ w1 ⟨rfl, hB2⟩
 have H3 : St w _ [] w1 := H0.call hB2
 refine sy (v := .tuple #[.agg ((rootA (cs.map (fun q : Cl => q.c))).map B8).toArray, I ((wrong (cs.map (fun q : Cl => q.c)) : Nat) : Int)]) (y_move rfl) ?_
 refine sy (v := .agg ((rootA (cs.map (fun q : Cl => q.c))).map B8).toArray) (y_extract (i := 0) rfl rfl) ?_
 refine sy (v := I ((wrong (cs.map (fun q : Cl => q.c)) : Nat) : Int)) (y_extract (i := 1) rfl rfl) ?_
 refine st (ow_alloc (l := (List.replicate 32 0).map B8) H3 zr26 (by simp [Value.cells])) ?_
 rintro _ w5 ⟨g4, rfl, H6⟩
 refine s0 (ow_storeW (us := (rootA (cs.map (fun q : Cl => q.c))).map B8) H6 sz26 ((List.length_map _).trans (rootA_len (cs.map (fun q : Cl => q.c)))) rfl rfl (map_one (F := B8) (fun _ => rfl) _) ((List.length_map _).trans List.length_replicate)) ?_
 rintro _ w7 H8'
 have H8 : St w _ [[(g4, Rw 26 ((rootA (cs.map (fun q : Cl => q.c))).map B8))]] w7 := H8'
 refine sy (v := I ((wrong (cs.map (fun q : Cl => q.c)) : Nat) : Int)) (y_assign rfl) ?_
 refine c_nil ?_
 refine n_then ?_
 refine c_seq ?_
 refine c_reg ?_
 refine sy (v := v0) (y_move rfl) ?_
 refine st (ow_call fn53 rfl (rRoot_c (v0) (cs) _ (hC.st H8).nil) ⟨rfl, trivial⟩) ?_
 rintro _ w9 ⟨rfl, hB10⟩
 have H11 : St w _ [_] w9 := H8.call hB10
 refine sy (v := .tuple #[.agg ((rootA (cs.map (fun q : Cl => q.c))).map B8).toArray, I ((wrong (cs.map (fun q : Cl => q.c)) : Nat) : Int)]) (y_move rfl) ?_
 refine sy (v := .agg ((rootA (cs.map (fun q : Cl => q.c))).map B8).toArray) (y_extract (i := 0) rfl rfl) ?_
 refine sy (v := I ((wrong (cs.map (fun q : Cl => q.c)) : Nat) : Int)) (y_extract (i := 1) rfl rfl) ?_
 refine st (ow_alloc (l := (List.replicate 32 0).map B8) H11 zr26 (by simp [Value.cells])) ?_
 rintro _ w13 ⟨g12, rfl, H14⟩
 refine s0 (ow_storeW (us := (rootA (cs.map (fun q : Cl => q.c))).map B8) H14 sz26 ((List.length_map _).trans (rootA_len (cs.map (fun q : Cl => q.c)))) rfl rfl (map_one (F := B8) (fun _ => rfl) _) ((List.length_map _).trans List.length_replicate)) ?_
 rintro _ w15 H16'
 have H16 : St w _ [[(g12, Rw 26 ((rootA (cs.map (fun q : Cl => q.c))).map B8))], _] w15 := H16'
 refine sy (v := I ((wrong (cs.map (fun q : Cl => q.c)) : Nat) : Int)) (y_assign rfl) ?_
 refine c_nil ?_
 refine n_then ?_
 refine c_seq ?_
 refine c_reg ?_
 refine sy (v := v0) (y_move rfl) ?_
 refine sy (v := I (kind)) (y_move rfl) ?_
 refine sy (v := .string (bst key)) (y_move rfl) ?_
 refine st (ow_call fn37 rfl (find_c (kind) (key) (v0) cs _ (hC.st H16).nil) ⟨rfl, rfl, rfl, trivial⟩) ?_
 rintro _ w22 ⟨n17, lv18, ls19, err20, EB21, rfl, hF24, hP25, H23⟩
 have H26 : St w _ [_, _, _] w22 := H16.app H23
 refine sy (v := .tuple #[.agg ([I ((n17 : Nat) : Int), lv18]).toArray, I ((err20 : Nat) : Int)]) (y_move rfl) ?_
 refine sy (v := .agg ([I ((n17 : Nat) : Int), lv18]).toArray) (y_extract (i := 0) rfl rfl) ?_
 refine sy (v := I ((err20 : Nat) : Int)) (y_extract (i := 1) rfl rfl) ?_
 refine st (ow_alloc (l := [I ((0 : Nat) : Int), .slice none 0 0]) H26 zr41 rfl) ?_
 rintro _ w28 ⟨g27, rfl, H29⟩
 refine s0 (ow_storeW (us := [I ((n17 : Nat) : Int), lv18]) H29 sz41 rfl rfl rfl (by intro u hu; simp only [List.mem_cons, List.not_mem_nil, or_false] at hu; rcases hu with rfl | rfl <;> first | rfl | exact Rd.one (LsP.rd hP25 H29 1 rfl).rd) (by simp [*])) ?_
 rintro _ w30 H31'
 have H31 : St w _ [[(g27, Rw 41 ([I ((n17 : Nat) : Int), lv18]))], _, _, _] w30 := H31'
 refine sy (v := I ((err20 : Nat) : Int)) (y_assign rfl) ?_
 refine c_nil ?_
 refine n_then ?_
 refine c_seq ?_
 refine c_reg ?_
 refine sy (v := v0) (y_move rfl) ?_
 refine sy (v := I (kind)) (y_move rfl) ?_
 refine sy (v := .string (bst key)) (y_move rfl) ?_
 refine st (ow_call fn46 rfl (rfind_c (kind) (key) (v0) cs _ (hC.st H31).nil) ⟨rfl, rfl, rfl, trivial⟩) ?_
 rintro _ w37 ⟨n32, lv33, ls34, err35, EB36, rfl, hF39, hP40, H38⟩
 have H41 : St w _ [_, _, _, _, _] w37 := H31.app H38
 refine sy (v := .tuple #[.agg ([I ((n32 : Nat) : Int), lv33]).toArray, I ((err35 : Nat) : Int)]) (y_move rfl) ?_
 refine sy (v := .agg ([I ((n32 : Nat) : Int), lv33]).toArray) (y_extract (i := 0) rfl rfl) ?_
 refine sy (v := I ((err35 : Nat) : Int)) (y_extract (i := 1) rfl rfl) ?_
 refine st (ow_alloc (l := [I ((0 : Nat) : Int), .slice none 0 0]) H41 zr41 rfl) ?_
 rintro _ w43 ⟨g42, rfl, H44⟩
 refine s0 (ow_storeW (us := [I ((n32 : Nat) : Int), lv33]) H44 sz41 rfl rfl rfl (by intro u hu; simp only [List.mem_cons, List.not_mem_nil, or_false] at hu; rcases hu with rfl | rfl <;> first | rfl | exact Rd.one (LsP.rd hP40 H44 1 rfl).rd) (by simp [*])) ?_
 rintro _ w45 H46'
 have H46 : St w _ [[(g42, Rw 41 ([I ((n32 : Nat) : Int), lv33]))], _, _, _, _, _] w45 := H46'
 refine sy (v := I ((err35 : Nat) : Int)) (y_assign rfl) ?_
 refine c_nil ?_
 refine n_then ?_
 refine c_seq ?_
 refine c_reg ?_
 refine sy (v := .agg ((rootA (cs.map (fun q : Cl => q.c))).map B8).toArray) (y_loadA (us := (rootA (cs.map (fun q : Cl => q.c))).map B8) ag26 sz26 ((List.length_map _).trans (rootA_len (cs.map (fun q : Cl => q.c)))) rfl (fun j u hu => (H46.cell 5 rfl (by rw [Nat.zero_add]; exact hu)))) ?_
 refine sy (v := .agg ((rootA (cs.map (fun q : Cl => q.c))).map B8).toArray) (y_loadA (us := (rootA (cs.map (fun q : Cl => q.c))).map B8) ag26 sz26 ((List.length_map _).trans (rootA_len (cs.map (fun q : Cl => q.c)))) rfl (fun j u hu => (H46.cell 4 rfl (by rw [Nat.zero_add]; exact hu)))) ?_
 refine sy (v := .bool (decide ((rootA (cs.map (fun q : Cl => q.c))) = (rootA (cs.map (fun q : Cl => q.c)))))) (y_eqlArr (l1 := rootA (cs.map (fun q : Cl => q.c))) (l2 := rootA (cs.map (fun q : Cl => q.c))) Try.underlying26 sz5 sc5 Try.underlying5 gt26 (rootA_len (cs.map (fun q : Cl => q.c))) (rootA_len (cs.map (fun q : Cl => q.c))) rfl rfl) ?_
 refine sy (v := .bool (decide ((rootA (cs.map (fun q : Cl => q.c))) = (rootA (cs.map (fun q : Cl => q.c)))))) (y_move rfl) ?_
 have hq47 : (rootA (cs.map (fun q : Cl => q.c))) = (rootA (cs.map (fun q : Cl => q.c))) := rfl
 refine gsy (v := I ((wrong (cs.map (fun q : Cl => q.c)) : Nat) : Int)) (gv_of (t := 42) rfl rfl rfl) (decide_eq_true hq47) (y_move rfl) ?_
 refine gsy (v := I ((wrong (cs.map (fun q : Cl => q.c)) : Nat) : Int)) (gv_of (t := 42) rfl rfl rfl) (decide_eq_true hq47) (y_move rfl) ?_
 refine gsy (v := .bool (decide ((wrong (cs.map (fun q : Cl => q.c))) = (wrong (cs.map (fun q : Cl => q.c)))))) (gv_of (t := 42) rfl rfl rfl) (decide_eq_true hq47) (n_eql (a := wrong (cs.map (fun q : Cl => q.c))) (b := wrong (cs.map (fun q : Cl => q.c))) rfl rfl) ?_
 refine sy (v := .bool (decide ((wrong (cs.map (fun q : Cl => q.c))) = (wrong (cs.map (fun q : Cl => q.c)))))) (y_pickT rfl (decide_eq_true hq47) rfl) ?_
 refine sy (v := .bool (decide ((wrong (cs.map (fun q : Cl => q.c))) = (wrong (cs.map (fun q : Cl => q.c)))))) (y_move rfl) ?_
 have hq48 : (wrong (cs.map (fun q : Cl => q.c))) = (wrong (cs.map (fun q : Cl => q.c))) := rfl
 refine gsy (v := I ((err20 : Nat) : Int)) (gv_of (t := 47) rfl rfl rfl) (decide_eq_true hq48) (y_move rfl) ?_
 refine gsy (v := I ((err35 : Nat) : Int)) (gv_of (t := 47) rfl rfl rfl) (decide_eq_true hq48) (y_move rfl) ?_
 refine gsy (v := .bool (decide (err20 = err35))) (gv_of (t := 47) rfl rfl rfl) (decide_eq_true hq48) (n_eql (a := err20) (b := err35) rfl rfl) ?_
 refine sy (v := .bool (decide (err20 = err35))) (y_pickT rfl (decide_eq_true hq48) rfl) ?_
 refine sy (v := .bool (decide (err20 = err35))) (y_move rfl) ?_
 have hq49 : err20 = err35 := (FindsA.uniq hF24 hF39).2.2
 refine gsy (v := .agg ([I ((n17 : Nat) : Int), lv18]).toArray) (gv_of (t := 52) rfl rfl rfl) (decide_eq_true hq49) (y_loadA (us := [I ((n17 : Nat) : Int), lv18]) ag41 sz41 rfl rfl (fun j u hu => (H46.cell 2 rfl (by rw [Nat.zero_add]; exact hu)))) ?_
 refine gsy (v := .agg ([I ((n32 : Nat) : Int), lv33]).toArray) (gv_of (t := 52) rfl rfl rfl) (decide_eq_true hq49) (y_loadA (us := [I ((n32 : Nat) : Int), lv33]) ag41 sz41 rfl rfl (fun j u hu => (H46.cell 0 rfl (by rw [Nat.zero_add]; exact hu)))) ?_
 refine gst (gv_of (t := 52) rfl rfl rfl) (decide_eq_true hq49) (ow_call fn39 rfl (samew_yes (n := ((n17 : Nat) : Int)) (m := ((n32 : Nat) : Int)) (ls := ls19) (ks := ls34) (LsP.rd hP25 H46 3 rfl) (LsP.rd hP40 H46 1 rfl) ⟨by rw [(FindsA.uniq hF24 hF39).1], (FindsA.uniq hF24 hF39).2.1⟩) ⟨rfl, rfl, trivial⟩) ?_
 rintro _ w50 ⟨rfl, hB51⟩
 have H52 : St w _ [_, _, _, _, _, _] w50 := H46.call hB51
 refine sy (v := .bool (true)) (y_pickT rfl (decide_eq_true hq49) rfl) ?_
 refine sy (v := .bool (true)) (y_move rfl) ?_
 refine gst (gv_of (t := 57) rfl rfl rfl) (rfl) (ow_call fn34 rfl (fixed19_c _) trivial) ?_
 rintro _ w53 ⟨rfl, hB54⟩
 have H55 : St w _ [_, _, _, _, _, _] w53 := H52.call hB54
 refine sy (v := .bool (true)) (y_pickT rfl (rfl) rfl) ?_
 refine sy (v := .bool (true)) (y_assign rfl) ?_
 refine c_nil ?_
 refine n_then ?_
 refine wp_ret ?_
 refine e_r1 Try.results18 (rv_t rfl) ?_
 exact ⟨_, rfl, rfl, H55.below⟩

end Go.Proofs.Ytdcmbcjkdhdohaa
