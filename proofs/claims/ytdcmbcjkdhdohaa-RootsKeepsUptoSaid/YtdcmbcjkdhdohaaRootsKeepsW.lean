/- The walk of RootsKeeps. -/
import Derived.Test.YtdcmbcjkdhdohaaRootsKeepsP
namespace Go.Proofs.Ytdcmbcjkdhdohaa
open Go Go.RowKit
set_option linter.unusedSimpArgs false
set_option linter.unusedVariables false
attribute [local irreducible] wpList wpP Code.wp

attribute [local irreducible] leafH innerH topH rootH rootA sha checkA

set_option maxHeartbeats 4000000 in
set_option maxRecDepth 20000 in
theorem rootsKeeps_c (v0 : Value) (cs : List Cl) (kind : Int) (key : List UInt8) (n : Int) (lv : Value) (ls : List Lf) (w : World) (hC : CsR [] w v0 cs) (hL : LsR [] w lv ls) (hcs : cs.length ≤ 1048576) (hvals : ∀ c ∈ cs, c.c.l.length ≤ 1048576) :
    Calls Try.prog 9 (([.agg ([v0, I kind, .string (bst key), I n, lv]).toArray] : List Value).toArray) w (fun e w' => ∃ v, e = .returned v ∧ v = .bool true ∧ Below w.heap.size w w') := by
 have hle := hC.le
 refine calls_mk Try.func9 rfl 246 Try.ntmps9 rfl ?_
 have H0 : St w [] [] w := St.refl w
 refine c_seq ?_
 refine c_reg ?_
 refine st (ow_box (l := [v0, I (kind), .string (bst key), I (n), lv]) H0 rfl rfl) ?_
 rintro _ w2 ⟨g1, rfl, H3⟩
 refine sy (v := .bool (false)) (y_assign (v := .bool (false)) rfl) ?_
 refine c_nil ?_
 refine n_then ?_
 refine c_seq ?_
 refine c_seq ?_
 refine c_reg ?_
 refine sy (v := Ad (bs g1) (0 + 0)) (y_fld Try.underlying43 rfl rfl sz38 (by decide) rfl) ?_
 refine sy (v := v0) (y_load sc38 rfl (H3.cell 0 rfl rfl)) ?_
 refine st (ow_call fn44 rfl (few_c (v0) cs _ (hC.st H3).nil) ⟨rfl, trivial⟩) ?_
 rintro _ w5 ⟨b4, rfl, hB6⟩
 have H7 : St w _ [_] w5 := H3.call hB6
 refine sy (v := .bool (!b4)) (y_not (p := b4) rfl) ?_
 refine c_nil ?_
 refine n_then ?_
 refine c_cond rfl (fun hc8 => ?_) (fun hc8 => ?_)
 ·
  refine c_seq ?_
  refine c_reg ?_
  refine st (ow_call fn34 rfl (fixed19_c _) trivial) ?_
  rintro _ w9 ⟨rfl, hB10⟩
  have H11 : St w _ [_] w9 := H7.call hB10
  refine sy (v := .bool (true)) (y_assign rfl) ?_
  refine c_nil ?_
  refine n_then ?_
  refine wp_ret ?_
  refine r_then ?_
  refine e_r1 Try.results9 (rv_t rfl) ?_
  exact ⟨_, rfl, rfl, H11.below⟩
 ·
  refine wp_skip ?_
  refine n_then ?_
  refine c_seq ?_
  refine c_reg ?_
  refine sy (v := Ad (bs g1) (0 + 0)) (y_fld Try.underlying43 rfl rfl sz38 (by decide) rfl) ?_
  refine sy (v := v0) (y_load sc38 rfl (H7.cell 0 rfl rfl)) ?_
  refine st (ow_call fn45 rfl (wide_c (v0) cs _ (hC.st H7).nil (by omega)) ⟨rfl, trivial⟩) ?_
  rintro v12 w14 ⟨ds, EW13, hWC, hpl, H15⟩
  have H16 : St w _ [_, _] w14 := H7.app H15
  have hdc : ds.length = cs.length := by have := congrArg List.length hpl; rwa [List.length_map, List.length_map] at this
  have hPL : PL ds = PL cs := hpl
  refine sy (v := v12) (y_assign rfl) ?_
  refine c_nil ?_
  refine n_then ?_
  refine c_seq ?_
  refine c_reg ?_
  refine sy (v := v12) (y_move rfl) ?_
  refine st (ow_call fn32 rfl (Root_c (v12) ds _ (WCs.csr hWC H16 0 rfl)) ⟨rfl, trivial⟩) ?_
  rintro _ w17 ⟨rfl, hB18⟩
  have H19 : St w _ [_, _] w17 := H16.call hB18
  refine sy (v := .tuple #[.agg ((rootA (ds.map (fun q : Cl => q.c))).map B8).toArray, I ((wrong (ds.map (fun q : Cl => q.c)) : Nat) : Int)]) (y_move rfl) ?_
  refine sy (v := .agg ((rootA (ds.map (fun q : Cl => q.c))).map B8).toArray) (y_extract (i := 0) rfl rfl) ?_
  refine sy (v := I ((wrong (ds.map (fun q : Cl => q.c)) : Nat) : Int)) (y_extract (i := 1) rfl rfl) ?_
  refine st (ow_alloc (l := (List.replicate 32 0).map B8) H19 zr26 (by simp [Value.cells])) ?_
  rintro _ w21 ⟨g20, rfl, H22⟩
  refine s0 (ow_storeW (us := (rootA (ds.map (fun q : Cl => q.c))).map B8) H22 sz26 ((List.length_map _).trans (rootA_len (ds.map (fun q : Cl => q.c)))) rfl rfl (map_one (F := B8) (fun _ => rfl) _) ((List.length_map _).trans List.length_replicate)) ?_
  rintro _ w23 H24'
  have H24 : St w _ [[(g20, Rw 26 ((rootA (ds.map (fun q : Cl => q.c))).map B8))], _, _] w23 := H24'
  refine sy (v := I ((wrong (ds.map (fun q : Cl => q.c)) : Nat) : Int)) (y_assign rfl) ?_
  refine c_nil ?_
  refine n_then ?_
  refine c_seq ?_
  refine c_reg ?_
  refine sy (v := v12) (y_move rfl) ?_
  refine sy (v := Ad (bs g1) (0 + 1)) (y_fld Try.underlying43 rfl rfl sz3 (by decide) rfl) ?_
  refine sy (v := I (kind)) (y_load sc3 rfl (H24.cell 2 rfl rfl)) ?_
  refine sy (v := Ad (bs g1) (0 + 2)) (y_fld Try.underlying43 rfl rfl sz9 (by decide) rfl) ?_
  refine sy (v := .string (bst key)) (y_load sc9 rfl (H24.cell 2 rfl rfl)) ?_
  refine st (ow_call fn37 rfl (find_c (kind) (key) (v12) ds _ (WCs.csr hWC H24 1 rfl)) ⟨rfl, rfl, rfl, trivial⟩) ?_
  rintro _ w30 ⟨n25, lv26, ls27, err28, EB29, rfl, hF32, hP33, H31⟩
  have H34 : St w _ [_, _, _, _] w30 := H24.app H31
  refine sy (v := .tuple #[.agg ([I ((n25 : Nat) : Int), lv26]).toArray, I ((err28 : Nat) : Int)]) (y_move rfl) ?_
  refine sy (v := .agg ([I ((n25 : Nat) : Int), lv26]).toArray) (y_extract (i := 0) rfl rfl) ?_
  refine sy (v := I ((err28 : Nat) : Int)) (y_extract (i := 1) rfl rfl) ?_
  refine st (ow_alloc (l := [I ((0 : Nat) : Int), .slice none 0 0]) H34 zr41 rfl) ?_
  rintro _ w36 ⟨g35, rfl, H37⟩
  refine s0 (ow_storeW (us := [I ((n25 : Nat) : Int), lv26]) H37 sz41 rfl rfl rfl (by intro u hu; simp only [List.mem_cons, List.not_mem_nil, or_false] at hu; rcases hu with rfl | rfl <;> first | rfl | exact Rd.one (LsP.rd hP33 H37 1 rfl).rd) (by simp [*])) ?_
  rintro _ w38 H39'
  have H39 : St w _ [[(g35, Rw 41 ([I ((n25 : Nat) : Int), lv26]))], _, _, _, _] w38 := H39'
  refine sy (v := I ((err28 : Nat) : Int)) (y_assign rfl) ?_
  refine c_nil ?_
  refine n_then ?_
  refine c_seq ?_
  refine c_reg ?_
  refine sy (v := v12) (y_move rfl) ?_
  refine sy (v := Ad (bs g1) (0 + 1)) (y_fld Try.underlying43 rfl rfl sz3 (by decide) rfl) ?_
  refine sy (v := I (kind)) (y_load sc3 rfl (H39.cell 4 rfl rfl)) ?_
  refine sy (v := Ad (bs g1) (0 + 2)) (y_fld Try.underlying43 rfl rfl sz9 (by decide) rfl) ?_
  refine sy (v := .string (bst key)) (y_load sc9 rfl (H39.cell 4 rfl rfl)) ?_
  refine st (ow_call fn37 rfl (find_c (kind) (key) (v12) ds _ (WCs.csr hWC H39 3 rfl)) ⟨rfl, rfl, rfl, trivial⟩) ?_
  rintro _ w45 ⟨n40, lv41, ls42, err43, EB44, rfl, hF47, hP48, H46⟩
  have H49 : St w _ [_, _, _, _, _, _] w45 := H39.app H46
  refine sy (v := .tuple #[.agg ([I ((n40 : Nat) : Int), lv41]).toArray, I ((err43 : Nat) : Int)]) (y_move rfl) ?_
  refine sy (v := .agg ([I ((n40 : Nat) : Int), lv41]).toArray) (y_extract (i := 0) rfl rfl) ?_
  refine sy (v := I ((err43 : Nat) : Int)) (y_extract (i := 1) rfl rfl) ?_
  refine st (ow_alloc (l := [I ((0 : Nat) : Int), .slice none 0 0]) H49 zr41 rfl) ?_
  rintro _ w51 ⟨g50, rfl, H52⟩
  refine s0 (ow_storeW (us := [I ((n40 : Nat) : Int), lv41]) H52 sz41 rfl rfl rfl (by intro u hu; simp only [List.mem_cons, List.not_mem_nil, or_false] at hu; rcases hu with rfl | rfl <;> first | rfl | exact Rd.one (LsP.rd hP48 H52 1 rfl).rd) (by simp [*])) ?_
  rintro _ w53 H54'
  have H54 : St w _ [[(g50, Rw 41 ([I ((n40 : Nat) : Int), lv41]))], _, _, _, _, _, _] w53 := H54'
  refine sy (v := I ((err43 : Nat) : Int)) (y_assign rfl) ?_
  refine c_nil ?_
  refine n_then ?_
  refine c_seq ?_
  refine c_reg ?_
  refine sy (v := Ad (bs g1) (0 + 0)) (y_fld Try.underlying43 rfl rfl sz38 (by decide) rfl) ?_
  refine sy (v := v0) (y_load sc38 rfl (H54.cell 6 rfl rfl)) ?_
  refine sy (v := Ad (bs g1) (0 + 1)) (y_fld Try.underlying43 rfl rfl sz3 (by decide) rfl) ?_
  refine sy (v := I (kind)) (y_load sc3 rfl (H54.cell 6 rfl rfl)) ?_
  refine sy (v := Ad (bs g1) (0 + 2)) (y_fld Try.underlying43 rfl rfl sz9 (by decide) rfl) ?_
  refine sy (v := .string (bst key)) (y_load sc9 rfl (H54.cell 6 rfl rfl)) ?_
  refine st (ow_call fn46 rfl (rfind_c (kind) (key) (v0) cs _ (hC.st H54).nil) ⟨rfl, rfl, rfl, trivial⟩) ?_
  rintro _ w60 ⟨n55, lv56, ls57, err58, EB59, rfl, hF62, hP63, H61⟩
  have H64 : St w _ [_, _, _, _, _, _, _, _] w60 := H54.app H61
  refine sy (v := .tuple #[.agg ([I ((n55 : Nat) : Int), lv56]).toArray, I ((err58 : Nat) : Int)]) (y_move rfl) ?_
  refine sy (v := .agg ([I ((n55 : Nat) : Int), lv56]).toArray) (y_extract (i := 0) rfl rfl) ?_
  refine sy (v := I ((err58 : Nat) : Int)) (y_extract (i := 1) rfl rfl) ?_
  refine st (ow_alloc (l := [I ((0 : Nat) : Int), .slice none 0 0]) H64 zr41 rfl) ?_
  rintro _ w66 ⟨g65, rfl, H67⟩
  refine s0 (ow_storeW (us := [I ((n55 : Nat) : Int), lv56]) H67 sz41 rfl rfl rfl (by intro u hu; simp only [List.mem_cons, List.not_mem_nil, or_false] at hu; rcases hu with rfl | rfl <;> first | rfl | exact Rd.one (LsP.rd hP63 H67 1 rfl).rd) (by simp [*])) ?_
  rintro _ w68 H69'
  have H69 : St w _ [[(g65, Rw 41 ([I ((n55 : Nat) : Int), lv56]))], _, _, _, _, _, _, _, _] w68 := H69'
  refine sy (v := I ((err58 : Nat) : Int)) (y_assign rfl) ?_
  refine c_nil ?_
  refine n_then ?_
  refine c_seq ?_
  refine c_seq ?_
  have hu1 := FindsA.uniq (by rw [← hPL]; exact hF32) hF62
  have hu2 := FindsA.uniq (by rw [← hPL]; exact hF47) hF62
  refine c_reg ?_
  refine sy (v := I ((err28 : Nat) : Int)) (y_move rfl) ?_
  refine sy (v := I ((err58 : Nat) : Int)) (y_move rfl) ?_
  refine sy (v := .bool (decide (err28 ≠ err58))) (n_neq (a := err28) (b := err58) rfl rfl) ?_
  refine sy (v := .bool (decide (err28 ≠ err58))) (y_move rfl) ?_
  have hq70 : ¬ (err28 ≠ err58) := (not_not_intro hu1.2.2)
  refine gsy (v := .agg ([I ((n25 : Nat) : Int), lv26]).toArray) (gv_of (t := 74) rfl rfl rfl) (decide_eq_false hq70) (y_loadA (us := [I ((n25 : Nat) : Int), lv26]) ag41 sz41 rfl rfl (fun j u hu => (H69.cell 4 rfl (by rw [Nat.zero_add]; exact hu)))) ?_
  refine gsy (v := .agg ([I ((n55 : Nat) : Int), lv56]).toArray) (gv_of (t := 74) rfl rfl rfl) (decide_eq_false hq70) (y_loadA (us := [I ((n55 : Nat) : Int), lv56]) ag41 sz41 rfl rfl (fun j u hu => (H69.cell 0 rfl (by rw [Nat.zero_add]; exact hu)))) ?_
  refine gst (gv_of (t := 74) rfl rfl rfl) (decide_eq_false hq70) (ow_call fn39 rfl (samew_yes2 (n := ((n25 : Nat) : Int)) (m := ((n55 : Nat) : Int)) (ls := ls27) (ks := ls57) (LsP.rd hP33 H69 5 rfl) (LsP.rd hP63 H69 1 rfl) ⟨congrArg (fun q : Nat => (q : Int)) hu1.1, hu1.2.1⟩) ⟨rfl, rfl, trivial⟩) ?_
  rintro _ w71 ⟨rfl, hB72⟩
  have H73 : St w _ [_, _, _, _, _, _, _, _, _] w71 := H69.call hB72
  refine gsy (v := .bool (false)) (gv_of (t := 74) rfl rfl rfl) (decide_eq_false hq70) (y_not (p := true) rfl) ?_
  refine sy (v := .bool (false)) (y_pickF rfl (decide_eq_false hq70) rfl) ?_
  refine sy (v := .bool (false)) (y_move rfl) ?_
  refine gsy (v := v12) (gv_of (t := 80) rfl rfl rfl) (rfl) (y_move rfl) ?_
  refine gsy (v := Ad (bs g1) (0 + 0)) (gv_of (t := 80) rfl rfl rfl) (rfl) (y_fld Try.underlying43 rfl rfl sz38 (by decide) rfl) ?_
  refine gsy (v := v0) (gv_of (t := 80) rfl rfl rfl) (rfl) (y_load sc38 rfl (H73.cell 8 rfl rfl)) ?_
  refine gst (gv_of (t := 80) rfl rfl rfl) (rfl) (ow_call fn47 rfl (keptW_c (WCs.kr hWC H73 7 rfl) (hC.st H73).nil hpl) ⟨rfl, rfl, trivial⟩) ?_
  rintro _ w74 ⟨rfl, hB75⟩
  have H76 : St w _ [_, _, _, _, _, _, _, _, _] w74 := H73.call hB75
  refine gsy (v := .bool (false)) (gv_of (t := 80) rfl rfl rfl) (rfl) (y_not (p := true) rfl) ?_
  refine sy (v := .bool (false)) (y_pickF rfl (rfl) rfl) ?_
  refine c_nil ?_
  refine n_then ?_
  refine c_f rfl rfl ?_
  refine wp_skip ?_
  refine n_then ?_
  refine c_seq ?_
  refine c_seq ?_
  refine c_reg ?_
  refine sy (v := .agg ([I ((n25 : Nat) : Int), lv26]).toArray) (y_loadA (us := [I ((n25 : Nat) : Int), lv26]) ag41 sz41 rfl rfl (fun j u hu => (H76.cell 4 rfl (by rw [Nat.zero_add]; exact hu)))) ?_
  have H77 : St w _ [_, _, _, _, _, _, _, _, _] w74 := H76.foc 5 rfl rfl
  have hsm80 := FindsA.small (cs := cs) (by rw [← hPL]; exact hF32) hvals
  refine st (ow_call fn48 rfl (spoil_c (((n25 : Nat) : Int)) (lv26) ls27 EB29 _ hP33 (fun p hp => H77.own _ List.mem_cons_self p hp) hsm80.1 hsm80.2) ⟨rfl, trivial⟩) ?_
  rintro _ w78 ⟨rfl, H79⟩
  have H81 : St w _ [_, _, _, _, _, _, _, _] w78 := H77.appE H79
  refine sy (v := .bool (false)) (y_not (p := true) rfl) ?_
  refine sy (v := .bool (false)) (y_move rfl) ?_
  refine gsy (v := .agg ([I ((n40 : Nat) : Int), lv41]).toArray) (gv_of (t := 90) rfl rfl rfl) (rfl) (y_loadA (us := [I ((n40 : Nat) : Int), lv41]) ag41 sz41 rfl rfl (fun j u hu => (H81.cell 2 rfl (by rw [Nat.zero_add]; exact hu)))) ?_
  refine gsy (v := .agg ([I ((n55 : Nat) : Int), lv56]).toArray) (gv_of (t := 90) rfl rfl rfl) (rfl) (y_loadA (us := [I ((n55 : Nat) : Int), lv56]) ag41 sz41 rfl rfl (fun j u hu => (H81.cell 0 rfl (by rw [Nat.zero_add]; exact hu)))) ?_
  refine gst (gv_of (t := 90) rfl rfl rfl) (rfl) (ow_call fn39 rfl (samew_yes2 (n := ((n40 : Nat) : Int)) (m := ((n55 : Nat) : Int)) (ls := ls42) (ks := ls57) (LsP.rd hP48 H81 3 rfl) (LsP.rd hP63 H81 1 rfl) ⟨congrArg (fun q : Nat => (q : Int)) hu2.1, hu2.2.1⟩) ⟨rfl, rfl, trivial⟩) ?_
  rintro _ w82 ⟨rfl, hB83⟩
  have H84 : St w _ [_, _, _, _, _, _, _, _] w82 := H81.call hB83
  refine gsy (v := .bool (false)) (gv_of (t := 90) rfl rfl rfl) (rfl) (y_not (p := true) rfl) ?_
  refine sy (v := .bool (false)) (y_pickF rfl (rfl) rfl) ?_
  refine sy (v := .bool (false)) (y_move rfl) ?_
  refine gsy (v := v12) (gv_of (t := 96) rfl rfl rfl) (rfl) (y_move rfl) ?_
  refine gsy (v := Ad (bs g1) (0 + 0)) (gv_of (t := 96) rfl rfl rfl) (rfl) (y_fld Try.underlying43 rfl rfl sz38 (by decide) rfl) ?_
  refine gsy (v := v0) (gv_of (t := 96) rfl rfl rfl) (rfl) (y_load sc38 rfl (H84.cell 7 rfl rfl)) ?_
  refine gst (gv_of (t := 96) rfl rfl rfl) (rfl) (ow_call fn47 rfl (keptW_c (WCs.kr hWC H84 6 rfl) (hC.st H84).nil hpl) ⟨rfl, rfl, trivial⟩) ?_
  rintro _ w85 ⟨rfl, hB86⟩
  have H87 : St w _ [_, _, _, _, _, _, _, _] w85 := H84.call hB86
  refine gsy (v := .bool (false)) (gv_of (t := 96) rfl rfl rfl) (rfl) (y_not (p := true) rfl) ?_
  refine sy (v := .bool (false)) (y_pickF rfl (rfl) rfl) ?_
  refine c_nil ?_
  refine n_then ?_
  refine c_f rfl rfl ?_
  refine wp_skip ?_
  refine n_then ?_
  refine c_seq ?_
  refine c_reg ?_
  refine sy (v := .agg ([I ((n55 : Nat) : Int), lv56]).toArray) (y_loadA (us := [I ((n55 : Nat) : Int), lv56]) ag41 sz41 rfl rfl (fun j u hu => (H87.cell 0 rfl (by rw [Nat.zero_add]; exact hu)))) ?_
  refine st (ow_call fn49 rfl (copied_c (((n55 : Nat) : Int)) (lv56) ls57 _ (LsP.rd hP63 H87 1 rfl)) ⟨rfl, trivial⟩) ?_
  rintro _ w91 ⟨v88, ks89, EC90, rfl, hLC93, hpe94, H92⟩
  have H95 : St w _ [_, _, _, _, _, _, _, _, _] w91 := H87.app H92
  refine st (ow_alloc (l := [I ((0 : Nat) : Int), .slice none 0 0]) H95 zr41 rfl) ?_
  rintro _ w97 ⟨g96, rfl, H98⟩
  refine s0 (ow_storeW (us := [I (((n55 : Nat) : Int)), v88]) H98 sz41 rfl rfl rfl (by intro u hu; simp only [List.mem_cons, List.not_mem_nil, or_false] at hu; rcases hu with rfl | rfl <;> first | rfl | exact Rd.one (LsC.ls hLC93 H98 1 rfl).rd) (by simp [*])) ?_
  rintro _ w99 H100'
  have H100 : St w _ [[(g96, Rw 41 ([I (((n55 : Nat) : Int)), v88]))], _, _, _, _, _, _, _, _, _] w99 := H100'
  refine c_nil ?_
  refine n_then ?_
  refine c_seq ?_
  have hn3 := FindsA.n_le hF62
  refine c_reg ?_
  refine sy (v := .agg ((rootA (ds.map (fun q : Cl => q.c))).map B8).toArray) (y_loadA (us := (rootA (ds.map (fun q : Cl => q.c))).map B8) ag26 sz26 ((List.length_map _).trans (rootA_len (ds.map (fun q : Cl => q.c)))) rfl (fun j u hu => (H100.cell 7 rfl (by rw [Nat.zero_add]; exact hu)))) ?_
  refine sy (v := Ad (bs g1) (0 + 1)) (y_fld Try.underlying43 rfl rfl sz3 (by decide) rfl) ?_
  refine sy (v := I (kind)) (y_load sc3 rfl (H100.cell 9 rfl rfl)) ?_
  refine sy (v := Ad (bs g1) (0 + 2)) (y_fld Try.underlying43 rfl rfl sz9 (by decide) rfl) ?_
  refine sy (v := .string (bst key)) (y_load sc9 rfl (H100.cell 9 rfl rfl)) ?_
  refine sy (v := .agg ([I (((n55 : Nat) : Int)), v88]).toArray) (y_loadA (us := [I (((n55 : Nat) : Int)), v88]) ag41 sz41 rfl rfl (fun j u hu => (H100.cell 0 rfl (by rw [Nat.zero_add]; exact hu)))) ?_
  refine st (ow_call fn35 rfl (check_c (rootA (PL ds)) kind key ((n55 : Nat) : Int) v88 ks89 _ (rootA_len (ds.map (fun q : Cl => q.c))) (by omega) (by omega) (LsC.ls hLC93 H100 1 rfl).nil) ⟨rfl, rfl, rfl, rfl, trivial⟩) ?_
  rintro _ w103 ⟨cc101, E102, rfl, hc105, ho106, H104⟩
  have H107 : St w _ [_, _, _, _, _, _, _, _, _, _, _] w103 := H100.app H104
  have hsmho106 : small cc101.c := by rw [hc105]; exact ck_small (LsC.ls hLC93 H107 2 rfl)
  refine sy (v := .tuple #[.agg ([I cc101.c.k, .string (bst cc101.c.key), cc101.v]).toArray, .bool ((checkA (rootA (PL ds)) kind key ((n55 : Nat) : Int) (PE ks89)).2.isSome), I (((checkA (rootA (PL ds)) kind key ((n55 : Nat) : Int) (PE ks89)).1 : Nat) : Int)]) (y_move rfl) ?_
  refine sy (v := .agg ([I cc101.c.k, .string (bst cc101.c.key), cc101.v]).toArray) (y_extract (i := 0) rfl rfl) ?_
  refine sy (v := .bool ((checkA (rootA (PL ds)) kind key ((n55 : Nat) : Int) (PE ks89)).2.isSome)) (y_extract (i := 1) rfl rfl) ?_
  refine sy (v := I (((checkA (rootA (PL ds)) kind key ((n55 : Nat) : Int) (PE ks89)).1 : Nat) : Int)) (y_extract (i := 2) rfl rfl) ?_
  refine st (ow_alloc (l := [I ((0 : Nat) : Int), .string (.empty), .slice none 0 0]) H107 zr48 rfl) ?_
  rintro _ w109 ⟨g108, rfl, H110⟩
  refine s0 (ow_storeW (us := [I (cc101.c.k), .string (bst cc101.c.key), cc101.v]) H110 sz48 rfl rfl rfl (by intro u hu; simp only [List.mem_cons, List.not_mem_nil, or_false] at hu; rcases hu with rfl | rfl | rfl <;> first | rfl | exact Rd.one (ho106.rd H110 1 rfl)) (by simp [*])) ?_
  rintro _ w111 H112'
  have H112 : St w _ [[(g108, Rw 48 ([I (cc101.c.k), .string (bst cc101.c.key), cc101.v]))], _, _, _, _, _, _, _, _, _, _, _] w111 := H112'
  refine sy (v := .bool ((checkA (rootA (PL ds)) kind key ((n55 : Nat) : Int) (PE ks89)).2.isSome)) (y_assign rfl) ?_
  refine sy (v := I (((checkA (rootA (PL ds)) kind key ((n55 : Nat) : Int) (PE ks89)).1 : Nat) : Int)) (y_assign rfl) ?_
  refine c_nil ?_
  refine n_then ?_
  refine c_seq ?_
  refine c_reg ?_
  refine sy (v := .agg ((rootA (ds.map (fun q : Cl => q.c))).map B8).toArray) (y_loadA (us := (rootA (ds.map (fun q : Cl => q.c))).map B8) ag26 sz26 ((List.length_map _).trans (rootA_len (ds.map (fun q : Cl => q.c)))) rfl (fun j u hu => (H112.cell 9 rfl (by rw [Nat.zero_add]; exact hu)))) ?_
  refine sy (v := Ad (bs g1) (0 + 1)) (y_fld Try.underlying43 rfl rfl sz3 (by decide) rfl) ?_
  refine sy (v := I (kind)) (y_load sc3 rfl (H112.cell 11 rfl rfl)) ?_
  refine sy (v := Ad (bs g1) (0 + 2)) (y_fld Try.underlying43 rfl rfl sz9 (by decide) rfl) ?_
  refine sy (v := .string (bst key)) (y_load sc9 rfl (H112.cell 11 rfl rfl)) ?_
  refine sy (v := .agg ([I (((n55 : Nat) : Int)), v88]).toArray) (y_loadA (us := [I (((n55 : Nat) : Int)), v88]) ag41 sz41 rfl rfl (fun j u hu => (H112.cell 2 rfl (by rw [Nat.zero_add]; exact hu)))) ?_
  refine st (ow_call fn35 rfl (check_c (rootA (PL ds)) kind key ((n55 : Nat) : Int) v88 ks89 _ (rootA_len (ds.map (fun q : Cl => q.c))) (by omega) (by omega) (LsC.ls hLC93 H112 3 rfl).nil) ⟨rfl, rfl, rfl, rfl, trivial⟩) ?_
  rintro _ w115 ⟨cc113, E114, rfl, hc117, ho118, H116⟩
  have H119 : St w _ [_, _, _, _, _, _, _, _, _, _, _, _, _] w115 := H112.app H116
  have hsmho118 : small cc113.c := by rw [hc117]; exact ck_small (LsC.ls hLC93 H119 4 rfl)
  refine sy (v := .tuple #[.agg ([I cc113.c.k, .string (bst cc113.c.key), cc113.v]).toArray, .bool ((checkA (rootA (PL ds)) kind key ((n55 : Nat) : Int) (PE ks89)).2.isSome), I (((checkA (rootA (PL ds)) kind key ((n55 : Nat) : Int) (PE ks89)).1 : Nat) : Int)]) (y_move rfl) ?_
  refine sy (v := .agg ([I cc113.c.k, .string (bst cc113.c.key), cc113.v]).toArray) (y_extract (i := 0) rfl rfl) ?_
  refine sy (v := .bool ((checkA (rootA (PL ds)) kind key ((n55 : Nat) : Int) (PE ks89)).2.isSome)) (y_extract (i := 1) rfl rfl) ?_
  refine sy (v := I (((checkA (rootA (PL ds)) kind key ((n55 : Nat) : Int) (PE ks89)).1 : Nat) : Int)) (y_extract (i := 2) rfl rfl) ?_
  refine st (ow_alloc (l := [I ((0 : Nat) : Int), .string (.empty), .slice none 0 0]) H119 zr48 rfl) ?_
  rintro _ w121 ⟨g120, rfl, H122⟩
  refine s0 (ow_storeW (us := [I (cc113.c.k), .string (bst cc113.c.key), cc113.v]) H122 sz48 rfl rfl rfl (by intro u hu; simp only [List.mem_cons, List.not_mem_nil, or_false] at hu; rcases hu with rfl | rfl | rfl <;> first | rfl | exact Rd.one (ho118.rd H122 1 rfl)) (by simp [*])) ?_
  rintro _ w123 H124'
  have H124 : St w _ [[(g120, Rw 48 ([I (cc113.c.k), .string (bst cc113.c.key), cc113.v]))], _, _, _, _, _, _, _, _, _, _, _, _, _] w123 := H124'
  refine sy (v := .bool ((checkA (rootA (PL ds)) kind key ((n55 : Nat) : Int) (PE ks89)).2.isSome)) (y_assign rfl) ?_
  refine sy (v := I (((checkA (rootA (PL ds)) kind key ((n55 : Nat) : Int) (PE ks89)).1 : Nat) : Int)) (y_assign rfl) ?_
  refine c_nil ?_
  refine n_then ?_
  refine c_seq ?_
  refine c_seq ?_
  refine c_reg ?_
  refine sy (v := .agg ([I (((n55 : Nat) : Int)), v88]).toArray) (y_loadA (us := [I (((n55 : Nat) : Int)), v88]) ag41 sz41 rfl rfl (fun j u hu => (H124.cell 4 rfl (by rw [Nat.zero_add]; exact hu)))) ?_
  refine sy (v := .agg ([I ((n55 : Nat) : Int), lv56]).toArray) (y_loadA (us := [I ((n55 : Nat) : Int), lv56]) ag41 sz41 rfl rfl (fun j u hu => (H124.cell 6 rfl (by rw [Nat.zero_add]; exact hu)))) ?_
  refine st (ow_call fn50 rfl (stays_c (LsC.rd hLC93 H124 5 rfl) (LsP.rd hP63 H124 7 rfl) ⟨rfl, hpe94⟩) ⟨rfl, rfl, trivial⟩) ?_
  rintro _ w125 ⟨rfl, hB126⟩
  have H127 : St w _ [_, _, _, _, _, _, _, _, _, _, _, _, _, _] w125 := H124.call hB126
  refine sy (v := .bool (false)) (y_not (p := true) rfl) ?_
  refine c_nil ?_
  refine n_then ?_
  refine c_f rfl rfl ?_
  refine wp_skip ?_
  refine n_then ?_
  refine c_seq ?_
  refine c_reg ?_
  refine sy (v := .agg ([.slice none 0 0, .slice none 0 0, I ((0 : Nat) : Int), .bool false]).toArray) (y_build (parts := []) (pv := []) (us := [.slice none 0 0, .slice none 0 0, I ((0 : Nat) : Int), .bool (false)]) trivial (by kernel_rfl)) ?_
  refine st (ow_box (l := [.slice none 0 0, .slice none 0 0, I ((0 : Nat) : Int), .bool (false)]) H127 rfl rfl) ?_
  rintro _ w129 ⟨g128, rfl, H130⟩
  refine sy (v := Ad (bs g128) (0)) (y_assign rfl) ?_
  refine c_nil ?_
  refine n_then ?_
  refine c_seq ?_
  have hccl : cc101.c.l.length ≤ 1048576 := by rw [hc105]; exact ck_prop (P := fun c => c.l.length ≤ 1048576) (by simp [cz]) (pe_all2 (P := fun c => c.l.length ≤ 1048576) hpe94 (FindsA.small (cs := cs) hF62 hvals).2)
  refine c_reg ?_
  refine sy (v := Ad (bs g128) (0)) (y_move rfl) ?_
  refine sy (v := Ad (bs g108) (0 + 2)) (y_fld Try.underlying48 rfl rfl sz23 (by decide) rfl) ?_
  refine sy (v := cc101.v) (y_load sc23 rfl (H130.cell 3 rfl rfl)) ?_
  have H131 : St w _ [_, _, _, _, _, _, _, _, _, _, _, _, _, _, _] w129 := H130.foc 14 rfl rfl
  have H132 : St w _ [_, _, _, _, _, _, _, _, _, _, _, _, _, _, _] w129 := H131.foc 14 rfl rfl
  have H133 : St w _ [_, _, _, _, _, _, _, _, _, _, _, _, _, _, _] w129 := H132.foc 14 rfl rfl
  have H134 : St w _ [_, _, _, _, _, _, _, _, _, _, _, _, _, _, _] w129 := H133.foc 14 rfl rfl
  have H135 : St w _ [_, _, _, _, _, _, _, _, _, _, _, _, _, _, _] w129 := H134.foc 14 rfl rfl
  have H136 : St w _ [_, _, _, _, _, _, _, _, _, _, _, _, _, _, _] w129 := H135.foc 14 rfl rfl
  have H137 : St w _ [_, _, _, _, _, _, _, _, _, _, _, _, _, _, _] w129 := H136.foc 14 rfl rfl
  have H138 : St w _ [_, _, _, _, _, _, _, _, _, _, _, _, _, _, _] w129 := H137.foc 14 rfl rfl
  have H139 : St w _ [_, _, _, _, _, _, _, _, _, _, _, _, _, _, _] w129 := H138.foc 14 rfl rfl
  have H140 : St w _ [_, _, _, _, _, _, _, _, _, _, _, _, _, _, _] w129 := H139.foc 14 rfl rfl
  have H141 : St w _ [_, _, _, _, _, _, _, _, _, _, _, _, _, _, _] w129 := H140.foc 13 rfl rfl
  have H142 : St w _ [_, _, _, _, _, _, _, _, _, _, _, _, _, _, _] w129 := H141.foc 13 rfl rfl
  have H143 : St w _ [_, _, _, _, _, _, _, _, _, _, _, _, _, _, _] w129 := H142.foc 13 rfl rfl
  have H144 : St w _ [_, _, _, _, _, _, _, _, _, _, _, _, _, _, _] w129 := H143.foc 13 rfl rfl
  have H145 : St w _ [_, _, _, _, _, _, _, _, _, _, _, _, _, _, _] w129 := H144.foc 14 rfl rfl
  obtain ⟨H146, hd147⟩ := H145.join
  refine st (ow_call fn51 rfl (add_c g128 0 ([] : List Value) ([] : List Value) [(g128, Rw 71 [.slice none 0 0, .slice none 0 0, I ((0 : Nat) : Int), .bool false])] E102 (cc101.v) cc101.c.l _ (booka_new g128) ho106 hd147 (fun p hp => H146.own _ List.mem_cons_self p hp) (by first | omega | (simp only [List.length_nil]; omega)) (by omega)) ⟨rfl, rfl, trivial⟩) ?_
  rintro _ w150 ⟨rfl, u148, EB149, hB152, H151⟩
  have H153 : St w _ [_, _, _, _, _, _, _, _, _, _, _, _, _, _] w150 := H146.appE H151
  refine c_nil ?_
  refine n_then ?_
  refine c_seq ?_
  refine c_seq ?_
  refine c_reg ?_
  refine sy (v := .bool ((checkA (rootA (PL ds)) kind key ((n55 : Nat) : Int) (PE ks89)).2.isSome)) (y_move rfl) ?_
  refine c_nil ?_
  refine n_then ?_
  refine c_cut (n := 246) (fun f154 w155 => f154 1 = Ad (bs g1) (0) ∧ f154 3 = v12 ∧ f154 8 = Ad (bs g50) (0) ∧ f154 10 = Ad (bs g65) (0) ∧ f154 14 = .bool ((checkA (rootA (PL ds)) kind key ((n55 : Nat) : Int) (PE ks89)).2.isSome) ∧ f154 15 = I (((checkA (rootA (PL ds)) kind key ((n55 : Nat) : Int) (PE ks89)).1 : Nat) : Int) ∧ f154 16 = Ad (bs g120) (0) ∧ f154 19 = Ad (bs g128) (0) ∧ St w [] [EB149, [(g120, Rw 48 ([I (cc113.c.k), .string (bst cc113.c.key), cc113.v]))], E114, [(g108, Rw 48 ([I (cc101.c.k), .string (bst cc101.c.key), cc101.v]))], [(g96, Rw 41 ([I (((n55 : Nat) : Int)), v88]))], [(g65, Rw 41 ([I ((n55 : Nat) : Int), lv56]))], EB59, [(g50, Rw 41 ([I ((n40 : Nat) : Int), lv41]))], EB44, [(g35, Rw 41 ([I ((n25 : Nat) : Int), lv26]))], [(g20, Rw 26 ((rootA (ds.map (fun q : Cl => q.c))).map B8))], EW13, [(g1, Rw 43 ([v0, I (kind), .string (bst key), I (n), lv]))]] w155) ?_ ?_
  ·
   refine c_cond rfl (fun hc156 => ?_) (fun hc156 => ?_)
   ·
    obtain ⟨hk0, hkc⟩ := ck_some hc156
    have H157 : St w _ [_, _, _, _, _, _, _, _, _, _, _, _, _, _] w150 := H153.foc 5 rfl rfl
    obtain ⟨EL, Ev, Er, hbeh, hwv, H158⟩ := lsc_open hLC93 hk0 H157
    have hvs : (ks89.getD 0 lf0).cell.c.l.length ≤ 1048576 := by
     have h := pe_all2 (P := fun c => c.l.length ≤ 1048576) hpe94 (FindsA.small (cs := cs) hF62 hvals).2 (ks89.getD 0 lf0) (by rw [List.getD_eq_getElem?_getD, List.getElem?_eq_getElem hk0]; exact List.getElem_mem hk0)
     exact h
    refine drawSub (.step 0 0 (.step 0 1 (.step 0 2 (.step 0 3 (.step 0 4 (.step 0 5 (.step 0 6 (.step 0 7 (.step 1 8 (.step 1 9 (.step 2 10 (.step 2 11 (.step 2 12 (.step 2 13 .nil)))))))))))))) mixed H158 (fun _ h => h.drop) (by kernel_rfl) (by kernel_rfl) (by kernel_rfl) ?_
    intro w159 H160
    refine pt (v := Ad (bs g96) (0 + 1)) rfl (fun wS HS => y_fld Try.underlying41 rfl rfl sz39 (by decide) rfl) ?_
    refine pt (v := v88) rfl (fun wS HS => y_load sc39 rfl (HS.cell 6 rfl rfl)) ?_
    refine pt (v := Ad (bs g96) (0 + 1)) rfl (fun wS HS => y_fld Try.underlying41 rfl rfl sz39 (by decide) rfl) ?_
    refine pt (v := v88) rfl (fun wS HS => y_load sc39 rfl (HS.cell 6 rfl rfl)) ?_
    refine pt (v := Ad (sp (v88)) (0 * 5)) rfl (fun wS HS => y_ixR (m := 0) Try.underlying39 sz74 (hbeh.os.rd HS 0 rfl) (by decide) rfl rfl rfl (by omega)) ?_
    refine pt (v := Ad (sp (v88)) ((0 * 5) + 1)) rfl (fun wS HS => y_fld Try.underlying74 rfl rfl sz48 (by decide) rfl) ?_
    refine pt (v := Ad (sp (v88)) (((0 * 5) + 1) + 2)) rfl (fun wS HS => y_fld Try.underlying48 rfl rfl sz23 (by decide) rfl) ?_
    refine pt (v := (ks89.getD 0 lf0).cell.v) rfl (fun wS HS => y_load sc23 rfl ((hbeh.os.rd HS 0 rfl).cell _ _ (by rw [List.take_left' (by rw [flat5_len])]; exact flat5_get (i := 0) (j := 3) (d := lf0) hk0 rfl))) ?_
    refine pl rfl (ow_buildSlice (pv := [(0, B8 (49))]) (us := [B8 (49)]) Try.underlying23 sz5 zr5 H160 ⟨⟨rfl, rfl⟩, trivial⟩ (by decide) (fill1 rfl)) ?_
    rintro _ w162 ⟨g161, rfl, H163⟩
    have H164 : St w _ [_, _, _, _, _, _, _, _, _, _, _, _, _, _, _, _, _] w162 := H163.foc 16 rfl rfl
    have H165 : St w _ [_, _, _, _, _, _, _, _, _, _, _, _, _, _, _, _, _] w162 := H164.foc 16 rfl rfl
    have H166 : St w _ [_, _, _, _, _, _, _, _, _, _, _, _, _, _, _, _, _] w162 := H165.foc 16 rfl rfl
    have H167 : St w _ [_, _, _, _, _, _, _, _, _, _, _, _, _, _, _, _, _] w162 := H166.foc 16 rfl rfl
    have H168 : St w _ [_, _, _, _, _, _, _, _, _, _, _, _, _, _, _, _, _] w162 := H167.foc 16 rfl rfl
    have H169 : St w _ [_, _, _, _, _, _, _, _, _, _, _, _, _, _, _, _, _] w162 := H168.foc 16 rfl rfl
    have H170 : St w _ [_, _, _, _, _, _, _, _, _, _, _, _, _, _, _, _, _] w162 := H169.foc 16 rfl rfl
    have H171 : St w _ [_, _, _, _, _, _, _, _, _, _, _, _, _, _, _, _, _] w162 := H170.foc 16 rfl rfl
    have H172 : St w _ [_, _, _, _, _, _, _, _, _, _, _, _, _, _, _, _, _] w162 := H171.foc 16 rfl rfl
    have H173 : St w _ [_, _, _, _, _, _, _, _, _, _, _, _, _, _, _, _, _] w162 := H172.foc 16 rfl rfl
    have H174 : St w _ [_, _, _, _, _, _, _, _, _, _, _, _, _, _, _, _, _] w162 := H173.foc 16 rfl rfl
    have H175 : St w _ [_, _, _, _, _, _, _, _, _, _, _, _, _, _, _, _, _] w162 := H174.foc 16 rfl rfl
    have H176 : St w _ [_, _, _, _, _, _, _, _, _, _, _, _, _, _, _, _, _] w162 := H175.foc 16 rfl rfl
    have H177 : St w _ [_, _, _, _, _, _, _, _, _, _, _, _, _, _, _, _, _] w162 := H176.foc 16 rfl rfl
    have H178 : St w _ [_, _, _, _, _, _, _, _, _, _, _, _, _, _, _, _, _] w162 := H177.foc 16 rfl rfl
    have H179 : St w _ [_, _, _, _, _, _, _, _, _, _, _, _, _, _, _] w162 := H178.take 15 rfl
    refine ⟨H179, ?_⟩
    have H180 : St w _ [_, _, _, _, _, _, _, _, _, _, _, _, _, _, _, _, _] w162 := H163.foc 1 rfl rfl
    refine pl rfl (ow_append Try.underlying23 sz5 zr5 bt5 rfl (WideP.os hwv) H180 rfl rfl ((rd_lit (k := 1) (us := [B8 (49)]) H163 0 rfl rfl (by simp [maxLen])).src Try.underlying23 (by simp [Value.oneCell'])) (by first | omega | (simp only [List.length_append, List.length_cons, List.length_nil, List.length_take, List.length_drop, hmac_length, sha_length, List.length_replicate]; omega)) (by first | omega | (simp only [List.length_append, List.length_cons, List.length_nil, List.length_take, List.length_drop, hmac_length, sha_length, List.length_replicate]; omega))) ?_
    rintro v182 w183 ⟨E181, ho185', H184⟩
    have ho185 : OS 5 1 v182 (((ks89.getD 0 lf0).cell.c.l) ++ ([49])).length ((((ks89.getD 0 lf0).cell.c.l) ++ ([49])).map B8) E181 := by rw [List.length_append, List.map_append]; exact ho185'
    have H186 : St w _ [_, _, _, _, _, _, _, _, _, _, _, _, _, _, _, _, _] w183 := H184.foc 16 rfl rfl
    have H187 : St w _ [_, _, _, _, _, _, _, _, _, _, _, _, _, _, _, _, _] w183 := H186.foc 16 rfl rfl
    have H188 : St w _ [_, _, _, _, _, _, _, _, _, _, _, _, _, _, _, _, _] w183 := H187.foc 16 rfl rfl
    have H189 : St w _ [_, _, _, _, _, _, _, _, _, _, _, _, _, _, _, _, _] w183 := H188.foc 16 rfl rfl
    have H190 : St w _ [_, _, _, _, _, _, _, _, _, _, _, _, _, _, _, _, _] w183 := H189.foc 16 rfl rfl
    have H191 : St w _ [_, _, _, _, _, _, _, _, _, _, _, _, _, _, _, _, _] w183 := H190.foc 16 rfl rfl
    have H192 : St w _ [_, _, _, _, _, _, _, _, _, _, _, _, _, _, _, _, _] w183 := H191.foc 16 rfl rfl
    have H193 : St w _ [_, _, _, _, _, _, _, _, _, _, _, _, _, _, _, _, _] w183 := H192.foc 16 rfl rfl
    have H194 : St w _ [_, _, _, _, _, _, _, _, _, _, _, _, _, _, _, _, _] w183 := H193.foc 16 rfl rfl
    have H195 : St w _ [_, _, _, _, _, _, _, _, _, _, _, _, _, _, _, _, _] w183 := H194.foc 16 rfl rfl
    have H196 : St w _ [_, _, _, _, _, _, _, _, _, _, _, _, _, _, _, _, _] w183 := H195.foc 16 rfl rfl
    have H197 : St w _ [_, _, _, _, _, _, _, _, _, _, _, _, _, _, _, _, _] w183 := H196.foc 16 rfl rfl
    have H198 : St w _ [_, _, _, _, _, _, _, _, _, _, _, _, _, _, _, _, _] w183 := H197.foc 16 rfl rfl
    have H199 : St w _ [_, _, _, _, _, _, _, _, _, _, _, _, _, _, _, _, _] w183 := H198.foc 16 rfl rfl
    have H200 : St w _ [_, _, _, _, _, _, _, _, _, _, _, _, _, _, _, _, _] w183 := H199.foc 16 rfl rfl
    have H201 : St w _ [_, _, _, _, _, _, _, _, _, _, _, _, _, _, _] w183 := H200.take 15 rfl
    refine ⟨H201, ?_⟩
    refine tly (v := Ad (sp (v88)) (0 * 5)) rfl (y_ixR (m := 0) Try.underlying39 sz74 (hbeh.os.rd H184 2 rfl) (by decide) rfl rfl rfl (by omega)) ?_
    refine tly (v := Ad (sp (v88)) ((0 * 5) + 1)) rfl (y_fld Try.underlying74 rfl rfl sz48 (by decide) rfl) ?_
    refine tly (v := Ad (sp (v88)) (((0 * 5) + 1) + 2)) rfl (y_fld Try.underlying48 rfl rfl sz23 (by decide) rfl) ?_
    have H206 : St w _ [_, _, _, _, _, _, _, _, _, _, _, _, _, _, _, _, _] w183 := H184.foc 2 rfl rfl
    refine t0 rfl (ow_storeOX1 (k := 3) ⟨_, hbeh.os⟩ H206 sz23 rfl rfl (Rd.one (ho185.rd H206 1 rfl)) (by omega)) ?_
    rintro _ w203 ⟨E202, ho205, H204⟩
    refine p_nil ?_
    have H207 : St w _ [_, _, _, _, _, _, _, _, _, _, _, _, _, _, _, _, _] w203 := H204.foc 16 rfl rfl
    have H208 : St w _ [_, _, _, _, _, _, _, _, _, _, _, _, _, _, _, _, _] w203 := H207.foc 16 rfl rfl
    have H209 : St w _ [_, _, _, _, _, _, _, _, _, _, _, _, _, _, _, _, _] w203 := H208.foc 16 rfl rfl
    have H210 : St w _ [_, _, _, _, _, _, _, _, _, _, _, _, _, _, _, _, _] w203 := H209.foc 16 rfl rfl
    have H211 : St w _ [_, _, _, _, _, _, _, _, _, _, _, _, _, _, _, _, _] w203 := H210.foc 16 rfl rfl
    have H212 : St w _ [_, _, _, _, _, _, _, _, _, _, _, _, _, _, _, _, _] w203 := H211.foc 16 rfl rfl
    have H213 : St w _ [_, _, _, _, _, _, _, _, _, _, _, _, _, _, _, _, _] w203 := H212.foc 16 rfl rfl
    have H214 : St w _ [_, _, _, _, _, _, _, _, _, _, _, _, _, _, _, _, _] w203 := H213.foc 16 rfl rfl
    have H215 : St w _ [_, _, _, _, _, _, _, _, _, _, _, _, _, _, _, _, _] w203 := H214.foc 16 rfl rfl
    have H216 : St w _ [_, _, _, _, _, _, _, _, _, _, _, _, _, _, _, _, _] w203 := H215.foc 16 rfl rfl
    have H217 : St w _ [_, _, _, _, _, _, _, _, _, _, _, _, _, _, _, _, _] w203 := H216.foc 16 rfl rfl
    have H218 : St w _ [_, _, _, _, _, _, _, _, _, _, _, _, _, _, _, _, _] w203 := H217.foc 16 rfl rfl
    have H219 : St w _ [_, _, _, _, _, _, _, _, _, _, _, _, _, _, _, _, _] w203 := H218.foc 16 rfl rfl
    have H220 : St w _ [_, _, _, _, _, _, _, _, _, _, _, _, _] w203 := H219.take 13 rfl
    exact qj_n ⟨rfl, rfl, rfl, rfl, rfl, rfl, rfl, rfl, H220⟩
   ·
    refine wp_skip ?_
    have H221 : St w _ [_, _, _, _, _, _, _, _, _, _, _, _, _, _] w150 := H153.foc 13 rfl rfl
    have H222 : St w _ [_, _, _, _, _, _, _, _, _, _, _, _, _, _] w150 := H221.foc 13 rfl rfl
    have H223 : St w _ [_, _, _, _, _, _, _, _, _, _, _, _, _, _] w150 := H222.foc 13 rfl rfl
    have H224 : St w _ [_, _, _, _, _, _, _, _, _, _, _, _, _, _] w150 := H223.foc 13 rfl rfl
    have H225 : St w _ [_, _, _, _, _, _, _, _, _, _, _, _, _, _] w150 := H224.foc 13 rfl rfl
    have H226 : St w _ [_, _, _, _, _, _, _, _, _, _, _, _, _, _] w150 := H225.foc 13 rfl rfl
    have H227 : St w _ [_, _, _, _, _, _, _, _, _, _, _, _, _, _] w150 := H226.foc 13 rfl rfl
    have H228 : St w _ [_, _, _, _, _, _, _, _, _, _, _, _, _, _] w150 := H227.foc 13 rfl rfl
    have H229 : St w _ [_, _, _, _, _, _, _, _, _, _, _, _, _, _] w150 := H228.foc 12 rfl rfl
    have H230 : St w _ [_, _, _, _, _, _, _, _, _, _, _, _, _, _] w150 := H229.foc 12 rfl rfl
    have H231 : St w _ [_, _, _, _, _, _, _, _, _, _, _, _, _, _] w150 := H230.foc 12 rfl rfl
    have H232 : St w _ [_, _, _, _, _, _, _, _, _, _, _, _, _, _] w150 := H231.foc 12 rfl rfl
    have H233 : St w _ [_, _, _, _, _, _, _, _, _, _, _, _, _, _] w150 := H232.foc 12 rfl rfl
    have H234 : St w _ [_, _, _, _, _, _, _, _, _, _, _, _, _] w150 := H233.take 13 rfl
    exact qj_n ⟨rfl, rfl, rfl, rfl, rfl, rfl, rfl, rfl, H234⟩
  ·
   rintro f154 w155 ⟨s1_235, s3_235, s8_235, s10_235, s14_235, s15_235, s16_235, s19_235, H235⟩
   refine n_then ?_
   refine c_seq ?_
   refine c_seq ?_
   refine c_cut (n := 246) (fun f236 w237 => f236 1 = Ad (bs g1) (0) ∧ f236 3 = v12 ∧ f236 8 = Ad (bs g50) (0) ∧ f236 10 = Ad (bs g65) (0) ∧ f236 170 = .bool (false) ∧ St w [] [EB149, [(g120, Rw 48 ([I (cc113.c.k), .string (bst cc113.c.key), cc113.v]))], E114, [(g108, Rw 48 ([I (cc101.c.k), .string (bst cc101.c.key), cc101.v]))], [(g96, Rw 41 ([I (((n55 : Nat) : Int)), v88]))], [(g65, Rw 41 ([I ((n55 : Nat) : Int), lv56]))], EB59, [(g50, Rw 41 ([I ((n40 : Nat) : Int), lv41]))], EB44, [(g35, Rw 41 ([I ((n25 : Nat) : Int), lv26]))], [(g20, Rw 26 ((rootA (ds.map (fun q : Cl => q.c))).map B8))], EW13, [(g1, Rw 43 ([v0, I (kind), .string (bst key), I (n), lv]))]] w237) ?_ ?_
   ·
    rcases Bool.eq_false_or_eq_true ((checkA (rootA (PL ds)) kind key ((n55 : Nat) : Int) (PE ks89)).2.isSome) with hi238 | hi238
    ·
     have hs239 := s14_235.trans (congrArg Value.bool hi238)
     obtain ⟨hk0, hkc⟩ := ck_some hi238
     have hl0 : 0 < ls57.length := by have := (pe_get hpe94).1; omega
     have hsame21 : sameC cc113.c (ls57.getD 0 lf0).cell.c := by
      rw [hc117, hkc]; exact (le_iff.1 ((pe_get hpe94).2 0 hk0)).2.1
     by_cases hp242 : ((checkA (rootA (PL ds)) kind key ((n55 : Nat) : Int) (PE ks89)).1) = 0
     ·
      refine drawS (.step 0 0 (.step 0 1 (.step 0 2 (.step 0 3 (.step 0 4 (.step 0 5 (.step 0 6 (.step 1 7 (.step 0 8 (.step 0 9 (.step 0 10 (.step 0 11 (.step 0 12 (.step 0 13 (.step 0 14 (.step 0 15 (.step 1 16 (.step 0 17 (.step 0 18 (.step 0 19 .nil)))))))))))))))))))) mixed H235 (by kernel_rfl) (by kernel_rfl) (by kernel_rfl) ?_
      intro w243 H244
      refine pt (v := I (((checkA (rootA (PL ds)) kind key ((n55 : Nat) : Int) (PE ks89)).1 : Nat) : Int)) rfl (fun wS HS => y_move s15_235) ?_
      refine pt (v := .bool (decide (((checkA (rootA (PL ds)) kind key ((n55 : Nat) : Int) (PE ks89)).1) = 0))) rfl (fun wS HS => n_eql (a := (checkA (rootA (PL ds)) kind key ((n55 : Nat) : Int) (PE ks89)).1) (b := 0) rfl rfl) ?_
      refine pt (v := .bool (decide (((checkA (rootA (PL ds)) kind key ((n55 : Nat) : Int) (PE ks89)).1) = 0))) rfl (fun wS HS => y_move rfl) ?_
      refine gpt (v := .bool (true)) rfl (gv_of (t := 153) rfl rfl rfl) (decide_eq_true hp242) (fun wS HS => y_move hs239) ?_
      refine pt (v := .bool (true)) rfl (fun wS HS => y_pickT rfl (decide_eq_true hp242) rfl) ?_
      refine pt (v := .bool (true)) rfl (fun wS HS => y_move rfl) ?_
      refine gpt (v := Ad (bs g128) (0)) rfl (gv_of (t := 156) rfl rfl rfl) (rfl) (fun wS HS => y_move s19_235) ?_
      obtain ⟨s247, s248, hr249⟩ := hB152.rd H244 0 rfl
      refine gpl rfl (gv_of (t := 156) rfl rfl rfl) (rfl) (ow_call fn52 rfl (stays_bc g128 (0 + cc101.c.l.length) s247 s248 (([] : List Value) ++ [cc101.v]) (([] : List Value) ++ [u148]) _ hr249 (by first | omega | simp)) ⟨rfl, trivial⟩) ?_
      rintro _ w245 ⟨rfl, hB246⟩
      have H250 : St w _ [_, _, _, _, _, _, _, _, _, _, _, _, _] w245 := H244.call hB246
      refine ⟨H250, ?_⟩
      refine gpt (v := .bool (false)) rfl (gv_of (t := 156) rfl rfl rfl) (rfl) (fun wS HS => y_not (p := true) rfl) ?_
      refine gpt (v := .bool (false)) rfl (gv_of (t := 156) rfl rfl rfl) (rfl) (fun wS HS => y_move rfl) ?_
      refine gpt (v := .agg ([I cc113.c.k, .string (bst cc113.c.key), cc113.v]).toArray) rfl (gv_of (t := 160) rfl rfl rfl) (rfl) (fun wS HS => y_loadA (us := [I (cc113.c.k), .string (bst cc113.c.key), cc113.v]) ag48 sz48 rfl s16_235 (fun j u hu => (HS.cell 1 rfl (by rw [Nat.zero_add]; exact hu)))) ?_
      refine gpt (v := Ad (bs g65) (0 + 1)) rfl (gv_of (t := 160) rfl rfl rfl) (rfl) (fun wS HS => y_fld Try.underlying41 rfl rfl sz39 (by decide) s10_235) ?_
      refine gpt (v := lv56) rfl (gv_of (t := 160) rfl rfl rfl) (rfl) (fun wS HS => y_load sc39 rfl (HS.cell 5 rfl rfl)) ?_
      refine gpt (v := Ad (sp (lv56)) (0 * 5)) rfl (gv_of (t := 160) rfl rfl rfl) (rfl) (fun wS HS => y_ixR (m := 0) Try.underlying39 sz74 (LsP.rd hP63 HS 6 rfl).rd (by decide) rfl rfl rfl (by omega)) ?_
      refine gpt (v := Ad (sp (lv56)) ((0 * 5) + 1)) rfl (gv_of (t := 160) rfl rfl rfl) (rfl) (fun wS HS => y_fld Try.underlying74 rfl rfl sz48 (by decide) rfl) ?_
      refine gpt (v := .agg ([I ((ls57.getD 0 lf0).cell.c.k), .string (bst ((ls57.getD 0 lf0).cell.c.key)), (ls57.getD 0 lf0).cell.v]).toArray) rfl (gv_of (t := 160) rfl rfl rfl) (rfl) (fun wS HS => y_loadA (us := (ls57.getD 0 lf0).cell.cs) ag48 sz48 rfl rfl (fun j u hu => by rw [Nat.add_assoc]; exact (LsP.rd hP63 HS 6 rfl).rd.cell _ _ (flat5_get (i := 0) (by omega) (leaf_mid hu)))) ?_
      refine gpl rfl (gv_of (t := 160) rfl rfl rfl) (rfl) (ow_call fn36 rfl (same_c cc113 ((ls57.getD 0 lf0).cell) _ ⟨ho118.rd H250 2 rfl, hsmho118⟩ ((LsP.rd hP63 H250 6 rfl).at (d := lf0) (i := 0) (by omega)).cell) ⟨rfl, rfl, trivial⟩) ?_
      rintro _ w251 ⟨rfl, hB252⟩
      have H253 : St w _ [_, _, _, _, _, _, _, _, _, _, _, _, _] w251 := H250.call hB252
      refine ⟨H253, ?_⟩
      refine gpt (v := .bool (decide (¬ (sameC cc113.c ((ls57.getD 0 lf0).cell).c)))) rfl (gv_of (t := 160) rfl rfl rfl) (rfl) (fun wS HS => y_notP rfl) ?_
      refine gpt (v := .bool (decide (¬ (sameC cc113.c ((ls57.getD 0 lf0).cell).c)))) rfl (gv_of (t := 156) rfl rfl rfl) (rfl) (fun wS HS => y_pickF rfl (rfl) rfl) ?_
      refine pt (v := .bool (decide (¬ (sameC cc113.c ((ls57.getD 0 lf0).cell).c)))) rfl (fun wS HS => y_pickT rfl (rfl) rfl) ?_
      refine p_nil ?_
      have hq254 : sameC cc113.c ((ls57.getD 0 lf0).cell).c := hsame21
      exact qj_n ⟨s1_235, s3_235, s8_235, s10_235, (Eq.trans (b := .bool (decide (¬ (sameC cc113.c ((ls57.getD 0 lf0).cell).c)))) rfl (congrArg Value.bool (decide_eq_false (not_not_intro hq254)))), H253⟩
     ·
      refine drawS (.step 0 0 (.step 0 1 (.step 0 2 (.step 0 3 (.step 0 4 (.step 0 5 (.step 0 6 (.step 0 7 (.step 0 8 (.step 0 9 (.step 0 10 (.step 0 11 (.step 0 12 (.step 0 13 (.step 0 14 (.step 0 15 (.step 0 16 (.step 0 17 (.step 0 18 (.step 0 19 .nil)))))))))))))))))))) mixed H235 (by kernel_rfl) (by kernel_rfl) (by kernel_rfl) ?_
      intro w259 H260
      refine pt (v := I (((checkA (rootA (PL ds)) kind key ((n55 : Nat) : Int) (PE ks89)).1 : Nat) : Int)) rfl (fun wS HS => y_move s15_235) ?_
      refine pt (v := .bool (decide (((checkA (rootA (PL ds)) kind key ((n55 : Nat) : Int) (PE ks89)).1) = 0))) rfl (fun wS HS => n_eql (a := (checkA (rootA (PL ds)) kind key ((n55 : Nat) : Int) (PE ks89)).1) (b := 0) rfl rfl) ?_
      refine pt (v := .bool (decide (((checkA (rootA (PL ds)) kind key ((n55 : Nat) : Int) (PE ks89)).1) = 0))) rfl (fun wS HS => y_move rfl) ?_
      refine gpno rfl (gv_of (t := 153) rfl rfl rfl) (decide_eq_false hp242) ?_
      refine pt (v := .bool (false)) rfl (fun wS HS => y_pickF (v := .bool (false)) rfl (decide_eq_false hp242) rfl) ?_
      refine pt (v := .bool (false)) rfl (fun wS HS => y_move rfl) ?_
      refine gpno (t := false) (b := true) rfl (gv_of (t := 156) rfl rfl rfl) (rfl) ?_
      refine gpno (t := false) (b := true) rfl (gv_of (t := 156) rfl rfl rfl) (rfl) ?_
      refine gpno (t := false) (b := true) rfl (gv_of (t := 156) rfl rfl rfl) (rfl) ?_
      refine gpno (t := false) (b := true) rfl (gv_of (t := 156) rfl rfl rfl) (rfl) ?_
      refine gpun rfl (gv_of (t := 160) rfl rfl rfl) ?_
      refine gpun rfl (gv_of (t := 160) rfl rfl rfl) ?_
      refine gpun rfl (gv_of (t := 160) rfl rfl rfl) ?_
      refine gpun rfl (gv_of (t := 160) rfl rfl rfl) ?_
      refine gpun rfl (gv_of (t := 160) rfl rfl rfl) ?_
      refine gpun rfl (gv_of (t := 160) rfl rfl rfl) ?_
      refine gpun rfl (gv_of (t := 160) rfl rfl rfl) ?_
      refine gpun rfl (gv_of (t := 160) rfl rfl rfl) ?_
      refine gpno (t := false) (b := true) rfl (gv_of (t := 156) rfl rfl rfl) (rfl) ?_
      refine pt (v := .bool (false)) rfl (fun wS HS => y_pickF (v := .bool (false)) rfl (rfl) rfl) ?_
      refine p_nil ?_
      exact qj_n ⟨s1_235, s3_235, s8_235, s10_235, rfl, H260⟩
    ·
     have hs261 := s14_235.trans (congrArg Value.bool hi238)
     by_cases hp264 : ((checkA (rootA (PL ds)) kind key ((n55 : Nat) : Int) (PE ks89)).1) = 0
     ·
      refine drawS (.step 0 0 (.step 0 1 (.step 0 2 (.step 0 3 (.step 0 4 (.step 0 5 (.step 0 6 (.step 0 7 (.step 0 8 (.step 0 9 (.step 0 10 (.step 0 11 (.step 0 12 (.step 0 13 (.step 0 14 (.step 0 15 (.step 0 16 (.step 0 17 (.step 0 18 (.step 0 19 .nil)))))))))))))))))))) mixed H235 (by kernel_rfl) (by kernel_rfl) (by kernel_rfl) ?_
      intro w269 H270
      refine pt (v := I (((checkA (rootA (PL ds)) kind key ((n55 : Nat) : Int) (PE ks89)).1 : Nat) : Int)) rfl (fun wS HS => y_move s15_235) ?_
      refine pt (v := .bool (decide (((checkA (rootA (PL ds)) kind key ((n55 : Nat) : Int) (PE ks89)).1) = 0))) rfl (fun wS HS => n_eql (a := (checkA (rootA (PL ds)) kind key ((n55 : Nat) : Int) (PE ks89)).1) (b := 0) rfl rfl) ?_
      refine pt (v := .bool (decide (((checkA (rootA (PL ds)) kind key ((n55 : Nat) : Int) (PE ks89)).1) = 0))) rfl (fun wS HS => y_move rfl) ?_
      refine gpt (v := .bool (false)) rfl (gv_of (t := 153) rfl rfl rfl) (decide_eq_true hp264) (fun wS HS => y_move hs261) ?_
      refine pt (v := .bool (false)) rfl (fun wS HS => y_pickT rfl (decide_eq_true hp264) rfl) ?_
      refine pt (v := .bool (false)) rfl (fun wS HS => y_move rfl) ?_
      refine gpno (t := false) (b := true) rfl (gv_of (t := 156) rfl rfl rfl) (rfl) ?_
      refine gpno (t := false) (b := true) rfl (gv_of (t := 156) rfl rfl rfl) (rfl) ?_
      refine gpno (t := false) (b := true) rfl (gv_of (t := 156) rfl rfl rfl) (rfl) ?_
      refine gpno (t := false) (b := true) rfl (gv_of (t := 156) rfl rfl rfl) (rfl) ?_
      refine gpun rfl (gv_of (t := 160) rfl rfl rfl) ?_
      refine gpun rfl (gv_of (t := 160) rfl rfl rfl) ?_
      refine gpun rfl (gv_of (t := 160) rfl rfl rfl) ?_
      refine gpun rfl (gv_of (t := 160) rfl rfl rfl) ?_
      refine gpun rfl (gv_of (t := 160) rfl rfl rfl) ?_
      refine gpun rfl (gv_of (t := 160) rfl rfl rfl) ?_
      refine gpun rfl (gv_of (t := 160) rfl rfl rfl) ?_
      refine gpun rfl (gv_of (t := 160) rfl rfl rfl) ?_
      refine gpno (t := false) (b := true) rfl (gv_of (t := 156) rfl rfl rfl) (rfl) ?_
      refine pt (v := .bool (false)) rfl (fun wS HS => y_pickF (v := .bool (false)) rfl (rfl) rfl) ?_
      refine p_nil ?_
      exact qj_n ⟨s1_235, s3_235, s8_235, s10_235, rfl, H270⟩
     ·
      refine drawS (.step 0 0 (.step 0 1 (.step 0 2 (.step 0 3 (.step 0 4 (.step 0 5 (.step 0 6 (.step 0 7 (.step 0 8 (.step 0 9 (.step 0 10 (.step 0 11 (.step 0 12 (.step 0 13 (.step 0 14 (.step 0 15 (.step 0 16 (.step 0 17 (.step 0 18 (.step 0 19 .nil)))))))))))))))))))) mixed H235 (by kernel_rfl) (by kernel_rfl) (by kernel_rfl) ?_
      intro w275 H276
      refine pt (v := I (((checkA (rootA (PL ds)) kind key ((n55 : Nat) : Int) (PE ks89)).1 : Nat) : Int)) rfl (fun wS HS => y_move s15_235) ?_
      refine pt (v := .bool (decide (((checkA (rootA (PL ds)) kind key ((n55 : Nat) : Int) (PE ks89)).1) = 0))) rfl (fun wS HS => n_eql (a := (checkA (rootA (PL ds)) kind key ((n55 : Nat) : Int) (PE ks89)).1) (b := 0) rfl rfl) ?_
      refine pt (v := .bool (decide (((checkA (rootA (PL ds)) kind key ((n55 : Nat) : Int) (PE ks89)).1) = 0))) rfl (fun wS HS => y_move rfl) ?_
      refine gpno rfl (gv_of (t := 153) rfl rfl rfl) (decide_eq_false hp264) ?_
      refine pt (v := .bool (false)) rfl (fun wS HS => y_pickF (v := .bool (false)) rfl (decide_eq_false hp264) rfl) ?_
      refine pt (v := .bool (false)) rfl (fun wS HS => y_move rfl) ?_
      refine gpno (t := false) (b := true) rfl (gv_of (t := 156) rfl rfl rfl) (rfl) ?_
      refine gpno (t := false) (b := true) rfl (gv_of (t := 156) rfl rfl rfl) (rfl) ?_
      refine gpno (t := false) (b := true) rfl (gv_of (t := 156) rfl rfl rfl) (rfl) ?_
      refine gpno (t := false) (b := true) rfl (gv_of (t := 156) rfl rfl rfl) (rfl) ?_
      refine gpun rfl (gv_of (t := 160) rfl rfl rfl) ?_
      refine gpun rfl (gv_of (t := 160) rfl rfl rfl) ?_
      refine gpun rfl (gv_of (t := 160) rfl rfl rfl) ?_
      refine gpun rfl (gv_of (t := 160) rfl rfl rfl) ?_
      refine gpun rfl (gv_of (t := 160) rfl rfl rfl) ?_
      refine gpun rfl (gv_of (t := 160) rfl rfl rfl) ?_
      refine gpun rfl (gv_of (t := 160) rfl rfl rfl) ?_
      refine gpun rfl (gv_of (t := 160) rfl rfl rfl) ?_
      refine gpno (t := false) (b := true) rfl (gv_of (t := 156) rfl rfl rfl) (rfl) ?_
      refine pt (v := .bool (false)) rfl (fun wS HS => y_pickF (v := .bool (false)) rfl (rfl) rfl) ?_
      refine p_nil ?_
      exact qj_n ⟨s1_235, s3_235, s8_235, s10_235, rfl, H276⟩
   ·
    rintro f236 w237 ⟨s1_277, s3_277, s8_277, s10_277, s170_277, H277⟩
    refine n_then ?_
    refine c_f s170_277 rfl ?_
    refine wp_skip ?_
    refine n_then ?_
    refine c_seq ?_
    refine c_seq ?_
    have H278 : St w _ [_, _, _, _, _, _, _, _, _, _, _, _, _] w237 := H277.foc 11 rfl rfl
    obtain ⟨EWs, FW, rfl, hWS, hFW, hdw, hlw⟩ := hWC
    have H279 := H278.split hdw
    refine c_reg ?_
    refine sy (v := I ((0 : Nat) : Int)) (y_assign (v := I ((0 : Nat) : Int)) rfl) ?_
    refine c_nil ?_
    refine n_then ?_
    refine wp_block ?_
    refine c_loop (fun (ix : Nat) f280 w281 => ∃ (dz : List Cl), ∃ (Fz : Part), f280 1 = Ad (bs g1) (0) ∧ f280 3 = v12 ∧ f280 8 = Ad (bs g50) (0) ∧ f280 10 = Ad (bs g65) (0) ∧ f280 20 = I ((ix : Nat) : Int) ∧ ix ≤ dz.length ∧ WSl v12 dz EWs ∧ CellsW dz Fz ∧ dz.length = ds.length ∧ St w [] [Fz, EWs, EB149, [(g120, Rw 48 ([I (cc113.c.k), .string (bst cc113.c.key), cc113.v]))], E114, [(g108, Rw 48 ([I (cc101.c.k), .string (bst cc101.c.key), cc101.v]))], [(g96, Rw 41 ([I (((n55 : Nat) : Int)), v88]))], [(g65, Rw 41 ([I ((n55 : Nat) : Int), lv56]))], EB59, [(g50, Rw 41 ([I ((n40 : Nat) : Int), lv41]))], EB44, [(g35, Rw 41 ([I ((n25 : Nat) : Int), lv26]))], [(g20, Rw 26 ((rootA (ds.map (fun q : Cl => q.c))).map B8))], [(g1, Rw 43 ([v0, I (kind), .string (bst key), I (n), lv]))]] w281) (fun ix => ds.length - ix) 0 ⟨_, _, s1_277, s3_277, s8_277, s10_277, rfl, (Nat.zero_le _), hWS, hFW, rfl, H279⟩ ?_
    rintro ix f280 w281 ⟨dz, Fz, s1_282, s3_282, s8_282, s10_282, s20_282, hix, hWSz, hFz, hdz, H282⟩
    refine c_seq ?_
    refine c_seq ?_
    refine c_reg ?_
    refine sy (v := I ((ix : Nat) : Int)) (y_move s20_282) ?_
    refine sy (v := v12) (y_move s3_282) ?_
    refine sy (v := I ((dz.length : Nat) : Int)) (y_lenR Try.underlying38 (WSl.rd3 hWSz H282 1 rfl) rfl) ?_
    refine sy (v := .bool (decide (ix < dz.length))) (n_lss (a := ix) (b := dz.length) rfl rfl) ?_
    refine c_nil ?_
    refine n_then ?_
    refine c_if rfl (fun hc283 => ?_) (fun hc283 => ?_)
    ·
     refine wp_skip ?_
     refine n_then ?_
     refine c_seq ?_
     refine wp_block ?_
     refine c_seq ?_
     obtain ⟨Fa, Fi, Fb, H284, hWi, hsm, hFa, hFb⟩ := CellsW.out (i := ix) hFz (by omega) H282
     have hsm2 := hsm.2
     refine c_reg ?_
     refine sy (v := I ((0 : Nat) : Int)) (y_assign (v := I ((0 : Nat) : Int)) rfl) ?_
     refine c_nil ?_
     refine n_then ?_
     refine wp_block ?_
     refine c_loop (fun (jx : Nat) f285 w286 => ∃ (lz : List UInt8), ∃ (Ez : Part), f285 1 = Ad (bs g1) (0) ∧ f285 3 = v12 ∧ f285 8 = Ad (bs g50) (0) ∧ f285 10 = Ad (bs g65) (0) ∧ f285 20 = I ((ix : Nat) : Int) ∧ f285 21 = I ((jx : Nat) : Int) ∧ jx ≤ (dz.getD ix c0).c.l.length ∧ WideP (dz.getD ix c0).v lz Ez ∧ lz.length = (dz.getD ix c0).c.l.length ∧ St w [] [Ez, Fa, Fb, EWs, EB149, [(g120, Rw 48 ([I (cc113.c.k), .string (bst cc113.c.key), cc113.v]))], E114, [(g108, Rw 48 ([I (cc101.c.k), .string (bst cc101.c.key), cc101.v]))], [(g96, Rw 41 ([I (((n55 : Nat) : Int)), v88]))], [(g65, Rw 41 ([I ((n55 : Nat) : Int), lv56]))], EB59, [(g50, Rw 41 ([I ((n40 : Nat) : Int), lv41]))], EB44, [(g35, Rw 41 ([I ((n25 : Nat) : Int), lv26]))], [(g20, Rw 26 ((rootA (ds.map (fun q : Cl => q.c))).map B8))], [(g1, Rw 43 ([v0, I (kind), .string (bst key), I (n), lv]))]] w286) (fun jx => (dz.getD ix c0).c.l.length - jx) 0 ⟨_, _, s1_282, s3_282, s8_282, s10_282, s20_282, rfl, (Nat.zero_le _), hWi, rfl, H284⟩ ?_
     rintro jx f285 w286 ⟨lz, Ez, s1_287, s3_287, s8_287, s10_287, s20_287, s21_287, hjx, hWz, hlz, H287⟩
     refine c_seq ?_
     refine c_seq ?_
     refine c_reg ?_
     refine sy (v := I ((jx : Nat) : Int)) (y_move s21_287) ?_
     refine sy (v := v12) (y_move s3_287) ?_
     refine sy (v := I ((ix : Nat) : Int)) (y_move s20_287) ?_
     refine sy (v := Ad (sp (v12)) (ix * 3)) (y_ixR (m := ix) Try.underlying38 sz48 (WSl.rd3 hWSz H287 3 rfl) (by decide) rfl rfl rfl (by omega)) ?_
     refine sy (v := Ad (sp (v12)) ((ix * 3) + 2)) (y_fld Try.underlying48 rfl rfl sz23 (by decide) rfl) ?_
     refine sy (v := (dz.getD ix c0).v) (y_load sc23 rfl ((WSl.rd3 hWSz H287 3 rfl).cell _ _ (flat3_get (i := ix) (j := 2) (d := c0) (by omega) rfl))) ?_
     refine sy (v := I ((lz.length : Nat) : Int)) (y_lenR Try.underlying23 ((WideP.os hWz).rd H287 0 rfl) rfl) ?_
     refine sy (v := .bool (decide (jx < lz.length))) (n_lss (a := jx) (b := lz.length) rfl rfl) ?_
     refine c_nil ?_
     refine n_then ?_
     refine c_if rfl (fun hc288 => ?_) (fun hc288 => ?_)
     ·
      refine wp_skip ?_
      refine n_then ?_
      refine c_seq ?_
      refine wp_block ?_
      refine c_reg ?_
      refine sy (v := v12) (y_move s3_287) ?_
      refine sy (v := I ((ix : Nat) : Int)) (y_move s20_287) ?_
      refine sy (v := Ad (sp (v12)) (ix * 3)) (y_ixR (m := ix) Try.underlying38 sz48 (WSl.rd3 hWSz H287 3 rfl) (by decide) rfl rfl rfl (by omega)) ?_
      refine sy (v := Ad (sp (v12)) ((ix * 3) + 2)) (y_fld Try.underlying48 rfl rfl sz23 (by decide) rfl) ?_
      refine sy (v := (dz.getD ix c0).v) (y_load sc23 rfl ((WSl.rd3 hWSz H287 3 rfl).cell _ _ (flat3_get (i := ix) (j := 2) (d := c0) (by omega) rfl))) ?_
      refine sy (v := I ((jx : Nat) : Int)) (y_move s21_287) ?_
      refine sy (v := Ad (sp ((dz.getD ix c0).v)) (jx * 1)) (y_ixR (m := jx) Try.underlying23 sz5 ((WideP.os hWz).rd H287 0 rfl) (by decide) rfl rfl rfl (by omega)) ?_
      refine sy (v := B8 (lz.getD jx 0)) (y_load sc5 rfl (((WideP.os hWz).rd H287 0 rfl).cell _ _ (by rw [Nat.mul_one]; exact map_get B8 (l := lz) (k := jx) 0 (by omega)))) ?_
      refine sy (v := B8 ((lz.getD jx 0) ^^^ 1)) (y_xor8 (a := lz.getD jx 0) (b := 1) rfl rfl) ?_
      refine sy (v := Ad (sp ((dz.getD ix c0).v)) (jx * 1)) (y_ixR (m := jx) Try.underlying23 sz5 ((WideP.os hWz).rd H287 0 rfl) (by decide) rfl rfl rfl (by omega)) ?_
      refine s0 (ow_storeW7 (j := jx) hWz H287 sz5 rfl rfl (Nat.mul_one _) (by omega)) ?_
      rintro _ w290 ⟨E289, ho292, H291⟩
      refine c_nil ?_
      refine n_block (n_then ?_)
      refine c_reg ?_
      refine sy (v := I ((jx : Nat) : Int)) (y_move s21_287) ?_
      refine sy (v := I ((jx + 1 : Nat) : Int)) (n_add (a := jx) (b := 1) rfl rfl (by omega)) ?_
      refine sy (v := I ((jx + 1 : Nat) : Int)) (y_assign rfl) ?_
      refine c_nil ?_
      exact lp_next (jx + 1) ⟨(lz.set jx ((lz.getD jx 0) ^^^ 1)), E289, s1_287, s3_287, s8_287, s10_287, s20_287, rfl, (by omega), ho292, (by rw [List.length_set]; exact hlz), H291⟩ (by show _ < _; omega)
     ·
      refine wp_exit ?_
      refine x_then (x_then (x_hit (n_block (n_then ?_))))
      obtain ⟨Fy, hFy, H293⟩ := CellsW.back (i := ix) (c := ⟨⟨(dz.getD ix c0).c.k, (dz.getD ix c0).c.key, lz⟩, (dz.getD ix c0).v⟩) (by omega) hWz ⟨hsm.1, by show lz.length ≤ 1099511627776; omega⟩ hFa hFb H287
      refine c_reg ?_
      refine sy (v := I ((ix : Nat) : Int)) (y_move s20_287) ?_
      refine sy (v := I ((ix + 1 : Nat) : Int)) (n_add (a := ix) (b := 1) rfl rfl (by omega)) ?_
      refine sy (v := I ((ix + 1 : Nat) : Int)) (y_assign rfl) ?_
      refine c_nil ?_
      exact lp_next (ix + 1) ⟨(dz.set ix ⟨⟨(dz.getD ix c0).c.k, (dz.getD ix c0).c.key, lz⟩, (dz.getD ix c0).v⟩), Fy, s1_287, s3_287, s8_287, s10_287, rfl, (by rw [List.length_set]; omega), (hWSz.setl (i := ix) (by omega)), hFy, (by rw [List.length_set]; exact hdz), H293⟩ (by show _ < _; omega)
    ·
     refine wp_exit ?_
     refine x_then (x_then (x_hit (n_then ?_)))
     refine c_seq ?_
     refine c_reg ?_
     refine sy (v := v12) (y_move s3_282) ?_
     refine st (ow_call fn32 rfl (Root_c (v12) dz _ (ws_csr hWSz hFz (by omega) H282 1 0 rfl rfl)) ⟨rfl, trivial⟩) ?_
     rintro _ w294 ⟨rfl, hB295⟩
     have H296 : St w _ [_, _, _, _, _, _, _, _, _, _, _, _, _, _] w294 := H282.call hB295
     refine sy (v := .tuple #[.agg ((rootA (dz.map (fun q : Cl => q.c))).map B8).toArray, I ((wrong (dz.map (fun q : Cl => q.c)) : Nat) : Int)]) (y_move rfl) ?_
     refine sy (v := .agg ((rootA (dz.map (fun q : Cl => q.c))).map B8).toArray) (y_extract (i := 0) rfl rfl) ?_
     refine sy (v := I ((wrong (dz.map (fun q : Cl => q.c)) : Nat) : Int)) (y_extract (i := 1) rfl rfl) ?_
     refine st (ow_alloc (l := (List.replicate 32 0).map B8) H296 zr26 (by simp [Value.cells])) ?_
     rintro _ w298 ⟨g297, rfl, H299⟩
     refine s0 (ow_storeW (us := (rootA (dz.map (fun q : Cl => q.c))).map B8) H299 sz26 ((List.length_map _).trans (rootA_len (dz.map (fun q : Cl => q.c)))) rfl rfl (map_one (F := B8) (fun _ => rfl) _) ((List.length_map _).trans List.length_replicate)) ?_
     rintro _ w300 H301'
     have H301 : St w _ [[(g297, Rw 26 ((rootA (dz.map (fun q : Cl => q.c))).map B8))], _, _, _, _, _, _, _, _, _, _, _, _, _, _] w300 := H301'
     refine sy (v := I ((wrong (dz.map (fun q : Cl => q.c)) : Nat) : Int)) (y_assign rfl) ?_
     refine c_nil ?_
     refine n_then ?_
     refine c_seq ?_
     refine c_reg ?_
     refine sy (v := v12) (y_move s3_282) ?_
     refine st (ow_call fn53 rfl (rRoot_c (v12) dz _ (ws_csr hWSz hFz (by omega) H301 2 1 rfl rfl)) ⟨rfl, trivial⟩) ?_
     rintro _ w302 ⟨rfl, hB303⟩
     have H304 : St w _ [_, _, _, _, _, _, _, _, _, _, _, _, _, _, _] w302 := H301.call hB303
     refine sy (v := .tuple #[.agg ((rootA (dz.map (fun q : Cl => q.c))).map B8).toArray, I ((wrong (dz.map (fun q : Cl => q.c)) : Nat) : Int)]) (y_move rfl) ?_
     refine sy (v := .agg ((rootA (dz.map (fun q : Cl => q.c))).map B8).toArray) (y_extract (i := 0) rfl rfl) ?_
     refine sy (v := I ((wrong (dz.map (fun q : Cl => q.c)) : Nat) : Int)) (y_extract (i := 1) rfl rfl) ?_
     refine st (ow_alloc (l := (List.replicate 32 0).map B8) H304 zr26 (by simp [Value.cells])) ?_
     rintro _ w306 ⟨g305, rfl, H307⟩
     refine s0 (ow_storeW (us := (rootA (dz.map (fun q : Cl => q.c))).map B8) H307 sz26 ((List.length_map _).trans (rootA_len (dz.map (fun q : Cl => q.c)))) rfl rfl (map_one (F := B8) (fun _ => rfl) _) ((List.length_map _).trans List.length_replicate)) ?_
     rintro _ w308 H309'
     have H309 : St w _ [[(g305, Rw 26 ((rootA (dz.map (fun q : Cl => q.c))).map B8))], _, _, _, _, _, _, _, _, _, _, _, _, _, _, _] w308 := H309'
     refine sy (v := I ((wrong (dz.map (fun q : Cl => q.c)) : Nat) : Int)) (y_assign rfl) ?_
     refine c_nil ?_
     refine n_then ?_
     refine c_seq ?_
     refine c_reg ?_
     refine sy (v := v12) (y_move s3_282) ?_
     refine sy (v := Ad (bs g1) (0 + 1)) (y_fld Try.underlying43 rfl rfl sz3 (by decide) s1_282) ?_
     refine sy (v := I (kind)) (y_load sc3 rfl (H309.cell 15 rfl rfl)) ?_
     refine sy (v := Ad (bs g1) (0 + 2)) (y_fld Try.underlying43 rfl rfl sz9 (by decide) s1_282) ?_
     refine sy (v := .string (bst key)) (y_load sc9 rfl (H309.cell 15 rfl rfl)) ?_
     refine st (ow_call fn37 rfl (find_c (kind) (key) (v12) dz _ (ws_csr hWSz hFz (by omega) H309 3 2 rfl rfl)) ⟨rfl, rfl, rfl, trivial⟩) ?_
     rintro _ w315 ⟨n310, lv311, ls312, err313, EB314, rfl, hF317, hP318, H316⟩
     have H319 : St w _ [_, _, _, _, _, _, _, _, _, _, _, _, _, _, _, _, _] w315 := H309.app H316
     refine sy (v := .tuple #[.agg ([I ((n310 : Nat) : Int), lv311]).toArray, I ((err313 : Nat) : Int)]) (y_move rfl) ?_
     refine sy (v := .agg ([I ((n310 : Nat) : Int), lv311]).toArray) (y_extract (i := 0) rfl rfl) ?_
     refine sy (v := I ((err313 : Nat) : Int)) (y_extract (i := 1) rfl rfl) ?_
     refine st (ow_alloc (l := [I ((0 : Nat) : Int), .slice none 0 0]) H319 zr41 rfl) ?_
     rintro _ w321 ⟨g320, rfl, H322⟩
     refine s0 (ow_storeW (us := [I ((n310 : Nat) : Int), lv311]) H322 sz41 rfl rfl rfl (by intro u hu; simp only [List.mem_cons, List.not_mem_nil, or_false] at hu; rcases hu with rfl | rfl <;> first | rfl | exact Rd.one (LsP.rd hP318 H322 1 rfl).rd) (by simp [*])) ?_
     rintro _ w323 H324'
     have H324 : St w _ [[(g320, Rw 41 ([I ((n310 : Nat) : Int), lv311]))], _, _, _, _, _, _, _, _, _, _, _, _, _, _, _, _, _] w323 := H324'
     refine sy (v := I ((err313 : Nat) : Int)) (y_assign rfl) ?_
     refine c_nil ?_
     refine n_then ?_
     refine c_seq ?_
     refine c_reg ?_
     refine sy (v := v12) (y_move s3_282) ?_
     refine sy (v := Ad (bs g1) (0 + 1)) (y_fld Try.underlying43 rfl rfl sz3 (by decide) s1_282) ?_
     refine sy (v := I (kind)) (y_load sc3 rfl (H324.cell 17 rfl rfl)) ?_
     refine sy (v := Ad (bs g1) (0 + 2)) (y_fld Try.underlying43 rfl rfl sz9 (by decide) s1_282) ?_
     refine sy (v := .string (bst key)) (y_load sc9 rfl (H324.cell 17 rfl rfl)) ?_
     refine st (ow_call fn46 rfl (rfind_c (kind) (key) (v12) dz _ (ws_csr hWSz hFz (by omega) H324 5 4 rfl rfl)) ⟨rfl, rfl, rfl, trivial⟩) ?_
     rintro _ w330 ⟨n325, lv326, ls327, err328, EB329, rfl, hF332, hP333, H331⟩
     have H334 : St w _ [_, _, _, _, _, _, _, _, _, _, _, _, _, _, _, _, _, _, _] w330 := H324.app H331
     refine sy (v := .tuple #[.agg ([I ((n325 : Nat) : Int), lv326]).toArray, I ((err328 : Nat) : Int)]) (y_move rfl) ?_
     refine sy (v := .agg ([I ((n325 : Nat) : Int), lv326]).toArray) (y_extract (i := 0) rfl rfl) ?_
     refine sy (v := I ((err328 : Nat) : Int)) (y_extract (i := 1) rfl rfl) ?_
     refine st (ow_alloc (l := [I ((0 : Nat) : Int), .slice none 0 0]) H334 zr41 rfl) ?_
     rintro _ w336 ⟨g335, rfl, H337⟩
     refine s0 (ow_storeW (us := [I ((n325 : Nat) : Int), lv326]) H337 sz41 rfl rfl rfl (by intro u hu; simp only [List.mem_cons, List.not_mem_nil, or_false] at hu; rcases hu with rfl | rfl <;> first | rfl | exact Rd.one (LsP.rd hP333 H337 1 rfl).rd) (by simp [*])) ?_
     rintro _ w338 H339'
     have H339 : St w _ [[(g335, Rw 41 ([I ((n325 : Nat) : Int), lv326]))], _, _, _, _, _, _, _, _, _, _, _, _, _, _, _, _, _, _, _] w338 := H339'
     refine sy (v := I ((err328 : Nat) : Int)) (y_assign rfl) ?_
     refine c_nil ?_
     refine n_then ?_
     refine c_seq ?_
     have hu3 := FindsA.uniq hF317 hF332
     refine c_reg ?_
     refine sy (v := .agg ((rootA (dz.map (fun q : Cl => q.c))).map B8).toArray) (y_loadA (us := (rootA (dz.map (fun q : Cl => q.c))).map B8) ag26 sz26 ((List.length_map _).trans (rootA_len (dz.map (fun q : Cl => q.c)))) rfl (fun j u hu => (H339.cell 5 rfl (by rw [Nat.zero_add]; exact hu)))) ?_
     refine sy (v := .agg ((rootA (dz.map (fun q : Cl => q.c))).map B8).toArray) (y_loadA (us := (rootA (dz.map (fun q : Cl => q.c))).map B8) ag26 sz26 ((List.length_map _).trans (rootA_len (dz.map (fun q : Cl => q.c)))) rfl (fun j u hu => (H339.cell 4 rfl (by rw [Nat.zero_add]; exact hu)))) ?_
     refine sy (v := .bool (decide ((rootA (dz.map (fun q : Cl => q.c))) = (rootA (dz.map (fun q : Cl => q.c)))))) (y_eqlArr (l1 := rootA (dz.map (fun q : Cl => q.c))) (l2 := rootA (dz.map (fun q : Cl => q.c))) Try.underlying26 sz5 sc5 Try.underlying5 gt26 (rootA_len (dz.map (fun q : Cl => q.c))) (rootA_len (dz.map (fun q : Cl => q.c))) rfl rfl) ?_
     refine sy (v := .bool (decide ((rootA (dz.map (fun q : Cl => q.c))) = (rootA (dz.map (fun q : Cl => q.c)))))) (y_move rfl) ?_
     have hq340 : (rootA (dz.map (fun q : Cl => q.c))) = (rootA (dz.map (fun q : Cl => q.c))) := rfl
     refine gsy (v := I ((wrong (dz.map (fun q : Cl => q.c)) : Nat) : Int)) (gv_of (t := 228) rfl rfl rfl) (decide_eq_true hq340) (y_move rfl) ?_
     refine gsy (v := I ((wrong (dz.map (fun q : Cl => q.c)) : Nat) : Int)) (gv_of (t := 228) rfl rfl rfl) (decide_eq_true hq340) (y_move rfl) ?_
     refine gsy (v := .bool (decide ((wrong (dz.map (fun q : Cl => q.c))) = (wrong (dz.map (fun q : Cl => q.c)))))) (gv_of (t := 228) rfl rfl rfl) (decide_eq_true hq340) (n_eql (a := wrong (dz.map (fun q : Cl => q.c))) (b := wrong (dz.map (fun q : Cl => q.c))) rfl rfl) ?_
     refine sy (v := .bool (decide ((wrong (dz.map (fun q : Cl => q.c))) = (wrong (dz.map (fun q : Cl => q.c)))))) (y_pickT rfl (decide_eq_true hq340) rfl) ?_
     refine sy (v := .bool (decide ((wrong (dz.map (fun q : Cl => q.c))) = (wrong (dz.map (fun q : Cl => q.c)))))) (y_move rfl) ?_
     have hq341 : (wrong (dz.map (fun q : Cl => q.c))) = (wrong (dz.map (fun q : Cl => q.c))) := rfl
     refine gsy (v := .agg ([I ((n310 : Nat) : Int), lv311]).toArray) (gv_of (t := 233) rfl rfl rfl) (decide_eq_true hq341) (y_loadA (us := [I ((n310 : Nat) : Int), lv311]) ag41 sz41 rfl rfl (fun j u hu => (H339.cell 2 rfl (by rw [Nat.zero_add]; exact hu)))) ?_
     refine gsy (v := .agg ([I ((n325 : Nat) : Int), lv326]).toArray) (gv_of (t := 233) rfl rfl rfl) (decide_eq_true hq341) (y_loadA (us := [I ((n325 : Nat) : Int), lv326]) ag41 sz41 rfl rfl (fun j u hu => (H339.cell 0 rfl (by rw [Nat.zero_add]; exact hu)))) ?_
     refine gst (gv_of (t := 233) rfl rfl rfl) (decide_eq_true hq341) (ow_call fn39 rfl (samew_yes2 (n := ((n310 : Nat) : Int)) (m := ((n325 : Nat) : Int)) (ls := ls312) (ks := ls327) (LsP.rd hP318 H339 3 rfl) (LsP.rd hP333 H339 1 rfl) ⟨congrArg (fun q : Nat => (q : Int)) hu3.1, hu3.2.1⟩) ⟨rfl, rfl, trivial⟩) ?_
     rintro _ w342 ⟨rfl, hB343⟩
     have H344 : St w _ [_, _, _, _, _, _, _, _, _, _, _, _, _, _, _, _, _, _, _, _] w342 := H339.call hB343
     refine sy (v := .bool (true)) (y_pickT rfl (decide_eq_true hq341) rfl) ?_
     refine sy (v := .bool (true)) (y_move rfl) ?_
     refine gsy (v := .agg ([I ((n40 : Nat) : Int), lv41]).toArray) (gv_of (t := 238) rfl rfl rfl) (rfl) (y_loadA (us := [I ((n40 : Nat) : Int), lv41]) ag41 sz41 rfl s8_282 (fun j u hu => (H344.cell 15 rfl (by rw [Nat.zero_add]; exact hu)))) ?_
     refine gsy (v := .agg ([I ((n55 : Nat) : Int), lv56]).toArray) (gv_of (t := 238) rfl rfl rfl) (rfl) (y_loadA (us := [I ((n55 : Nat) : Int), lv56]) ag41 sz41 rfl s10_282 (fun j u hu => (H344.cell 13 rfl (by rw [Nat.zero_add]; exact hu)))) ?_
     refine gst (gv_of (t := 238) rfl rfl rfl) (rfl) (ow_call fn39 rfl (samew_yes2 (n := ((n40 : Nat) : Int)) (m := ((n55 : Nat) : Int)) (ls := ls42) (ks := ls57) (LsP.rd hP48 H344 16 rfl) (LsP.rd hP63 H344 14 rfl) ⟨congrArg (fun q : Nat => (q : Int)) hu2.1, hu2.2.1⟩) ⟨rfl, rfl, trivial⟩) ?_
     rintro _ w345 ⟨rfl, hB346⟩
     have H347 : St w _ [_, _, _, _, _, _, _, _, _, _, _, _, _, _, _, _, _, _, _, _] w345 := H344.call hB346
     refine sy (v := .bool (true)) (y_pickT rfl (rfl) rfl) ?_
     refine sy (v := .bool (true)) (y_move rfl) ?_
     refine gst (gv_of (t := 243) rfl rfl rfl) (rfl) (ow_call fn34 rfl (fixed19_c _) trivial) ?_
     rintro _ w348 ⟨rfl, hB349⟩
     have H350 : St w _ [_, _, _, _, _, _, _, _, _, _, _, _, _, _, _, _, _, _, _, _] w348 := H347.call hB349
     refine sy (v := .bool (true)) (y_pickT rfl (rfl) rfl) ?_
     refine sy (v := .bool (true)) (y_assign rfl) ?_
     refine c_nil ?_
     refine n_then ?_
     refine wp_ret ?_
     refine e_r1 Try.results9 (rv_t rfl) ?_
     exact ⟨_, rfl, rfl, H350.below⟩

end Go.Proofs.Ytdcmbcjkdhdohaa
