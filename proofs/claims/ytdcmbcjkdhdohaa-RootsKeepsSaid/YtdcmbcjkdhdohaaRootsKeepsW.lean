/- The walk of RootsKeeps. -/
import Derived.Test.YtdcmbcjkdhdohaaRootsKeepsP
import Derived.Test.YtdcmbcjkdhdohaaArgQ
namespace Go.Proofs.Ytdcmbcjkdhdohaa
open Go Go.RowKit
set_option linter.unusedSimpArgs false
set_option linter.unusedVariables false
attribute [local irreducible] wpList wpP Code.wp

attribute [local irreducible] leafH innerH topH rootH rootA sha checkA

theorem few2_c (v0 : Value) (cs : List Cl) (w : World) (hQ : CsQ w v0 cs) :
    Calls Try.prog 44 (([v0] : List Value).toArray) w (fun e w' => ∃ v, e = .returned v ∧ ∃ b : Bool, v = .bool b ∧ (b = true → fewS cs cs.length ≤ 134217728) ∧ Below w.heap.size w w') := by
 have hle := hQ.le
 refine calls_mk Try.func44 rfl 26 Try.ntmps44 rfl ?_
 have H0 : St w [] [] w := St.refl w
 refine c_seq ?_
 refine c_reg ?_
 refine sy (v := .bool (false)) (y_assign (v := .bool (false)) rfl) ?_
 refine c_nil ?_
 refine n_then ?_
 refine c_seq ?_
 refine c_reg ?_
 refine sy (v := I ((134217728 : Nat) : Int)) (y_assign (v := I ((134217728 : Nat) : Int)) rfl) ?_
 refine c_nil ?_
 refine n_then ?_
 refine c_seq ?_
 refine c_seq ?_
 refine c_reg ?_
 refine sy (v := I ((0 : Nat) : Int)) (y_assign (v := I ((0 : Nat) : Int)) rfl) ?_
 refine c_nil ?_
 refine n_then ?_
 refine wp_block ?_
 refine c_loop (fun (i : Nat) f1 w2 => ∃ (r : Int), f1 0 = v0 ∧ f1 3 = I (r) ∧ f1 4 = I ((i : Nat) : Int) ∧ i ≤ cs.length ∧ -281474976710656 ≤ r ∧ r + ((fewS cs i : Nat) : Int) = 134217728 ∧ St w [] [] w2) (fun i => cs.length - i) 0 ⟨134217728, rfl, rfl, rfl, (Nat.zero_le _), (by omega), rfl, H0⟩ ?_
 rintro i f1 w2 ⟨r, s0_3, s3_3, s4_3, hi, hr1, hr2, H3⟩
 have hsm : i < cs.length → (cs.getD i c0).c.l.length ≤ 140737488351232 := fun h => (hQ.at (d := c0) h).2.2
 refine c_seq ?_
 refine c_seq ?_
 refine c_reg ?_
 refine sy (v := I ((i : Nat) : Int)) (y_move s4_3) ?_
 refine sy (v := v0) (y_move s0_3) ?_
 refine sy (v := I ((cs.length : Nat) : Int)) (y_lenR Try.underlying38 (hQ.st H3).rd rfl) ?_
 refine sy (v := .bool (decide (i < cs.length))) (n_lss (a := i) (b := cs.length) rfl rfl) ?_
 refine sy (v := .bool (decide (i < cs.length))) (y_move rfl) ?_
 by_cases hp4 : i < cs.length
 ·
  refine gsy (v := I (r)) (gv_of (t := 9) rfl rfl rfl) (decide_eq_true hp4) (y_move s3_3) ?_
  refine gsy (v := .bool (decide (((0 : Nat) : Int) ≤ r))) (gv_of (t := 9) rfl rfl rfl) (decide_eq_true hp4) (y_geq (i := r) (j := ((0 : Nat) : Int)) rfl rfl) ?_
  refine sy (v := .bool (decide (((0 : Nat) : Int) ≤ r))) (y_pickT rfl (decide_eq_true hp4) rfl) ?_
  refine c_nil ?_
  refine n_then ?_
  refine c_if rfl (fun hc5 => ?_) (fun hc5 => ?_)
  ·
   refine wp_skip ?_
   refine n_then ?_
   refine c_seq ?_
   refine wp_block ?_
   have hs5 := hsm (by omega)
   refine c_reg ?_
   refine sy (v := I (r)) (y_move s3_3) ?_
   refine sy (v := v0) (y_move s0_3) ?_
   refine sy (v := I ((i : Nat) : Int)) (y_move s4_3) ?_
   refine sy (v := Ad (sp (v0)) (i * 3)) (y_ixR (m := i) Try.underlying38 sz48 (hQ.st H3).rd (by decide) rfl rfl rfl (by omega)) ?_
   refine sy (v := Ad (sp (v0)) ((i * 3) + 2)) (y_fld Try.underlying48 rfl rfl sz23 (by decide) rfl) ?_
   refine sy (v := (cs.getD i c0).v) (y_load sc23 rfl ((hQ.st H3).rd.cell _ _ (flat3_get (i := i) (j := 2) (d := c0) (by omega) rfl))) ?_
   refine sy (v := I (((cs.getD i c0).c.l.length : Nat) : Int)) (y_lenR Try.underlying23 ((hQ.at (d := c0) (i := i) (by omega)).1.st H3) rfl) ?_
   refine sy (v := I ((64 + ((cs.getD i c0).c.l.length) : Nat) : Int)) (n_add (a := 64) (b := (cs.getD i c0).c.l.length) rfl rfl (by omega)) ?_
   refine sy (v := I (r - ((64 + ((cs.getD i c0).c.l.length) : Nat) : Int))) (y_sub (i := r) (j := ((64 + ((cs.getD i c0).c.l.length) : Nat) : Int)) rfl rfl (by omega)) ?_
   refine sy (v := I (r - ((64 + ((cs.getD i c0).c.l.length) : Nat) : Int))) (y_assign rfl) ?_
   refine c_nil ?_
   refine n_block (n_then ?_)
   refine c_reg ?_
   refine sy (v := I ((i : Nat) : Int)) (y_move s4_3) ?_
   refine sy (v := I ((i + 1 : Nat) : Int)) (n_add (a := i) (b := 1) rfl rfl (by omega)) ?_
   refine sy (v := I ((i + 1 : Nat) : Int)) (y_assign rfl) ?_
   refine c_nil ?_
   exact lp_next (i + 1) ⟨r - ((64 + ((cs.getD i c0).c.l.length) : Nat) : Int), s0_3, rfl, rfl, (by omega), (by omega), (by simp only [fewS]; omega), H3⟩ (by show _ < _; omega)
  ·
   refine wp_exit ?_
   refine x_then (x_then (x_hit (n_then ?_)))
   refine c_seq ?_
   refine c_reg ?_
   refine sy (v := I (r)) (y_move s3_3) ?_
   refine sy (v := .bool (decide (((0 : Nat) : Int) ≤ r))) (y_geq (i := r) (j := ((0 : Nat) : Int)) rfl rfl) ?_
   refine sy (v := .bool (decide (((0 : Nat) : Int) ≤ r))) (y_assign rfl) ?_
   refine c_nil ?_
   refine n_then ?_
   refine wp_ret ?_
   refine e_r1 Try.results44 (rv_t rfl) ?_
   exact ⟨_, rfl, _, rfl, fun hb => by
    have h9 := of_decide_eq_true hb
    have h8 : i = cs.length := by omega
    rw [← h8]; omega, H3.below⟩
 ·
  refine gno (gv_of (t := 9) rfl rfl rfl) (decide_eq_false hp4) ?_
  refine gno (gv_of (t := 9) rfl rfl rfl) (decide_eq_false hp4) ?_
  refine sy (v := .bool (false)) (y_pickF (v := .bool (false)) rfl (decide_eq_false hp4) rfl) ?_
  refine c_nil ?_
  refine n_then ?_
  refine c_f rfl rfl ?_
  refine wp_exit ?_
  refine x_then (x_then (x_hit (n_then ?_)))
  refine c_seq ?_
  refine c_reg ?_
  refine sy (v := I (r)) (y_move s3_3) ?_
  refine sy (v := .bool (decide (((0 : Nat) : Int) ≤ r))) (y_geq (i := r) (j := ((0 : Nat) : Int)) rfl rfl) ?_
  refine sy (v := .bool (decide (((0 : Nat) : Int) ≤ r))) (y_assign rfl) ?_
  refine c_nil ?_
  refine n_then ?_
  refine wp_ret ?_
  refine e_r1 Try.results44 (rv_t rfl) ?_
  exact ⟨_, rfl, _, rfl, fun hb => by
   have h9 := of_decide_eq_true hb
   have h8 : i = cs.length := by omega
   rw [← h8]; omega, H3.below⟩

set_option maxHeartbeats 4000000 in
set_option maxRecDepth 20000 in
theorem rootsKeeps_c (v0 : Value) (cs : List Cl) (kind : Int) (key : List UInt8) (n : Int) (lv : Value) (w : World) (hQ : CsQ w v0 cs) :
    Calls Try.prog 9 (([.agg ([v0, I kind, .string (bst key), I n, lv]).toArray] : List Value).toArray) w (fun e w' => ∃ v, e = .returned v ∧ v = .bool true ∧ Below w.heap.size w w') := by
 refine calls_mk Try.func9 rfl 246 Try.ntmps9 rfl ?_
 have H0 : St w [] [] w := St.refl w
 refine c_seq ?_
 refine c_reg ?_
 refine st (ow_box (l := [v0, I (kind), .string (bst key), I (n), lv]) H0 rfl rfl) ?_
 rintro _ w2 ⟨g1, rfl, H3⟩
 refine sy (v := .bool (false)) (y_assign (v := .bool (false)) rfl) ?_
 refine c_nil ?_
 refine n_then ?_
 refine c_seq ?_
 refine c_seq ?_
 refine c_reg ?_
 refine sy (v := Ad (bs g1) (0 + 0)) (y_fld Try.underlying43 rfl rfl sz38 (by decide) rfl) ?_
 refine sy (v := v0) (y_load sc38 rfl (H3.cell 0 rfl rfl)) ?_
 refine st (ow_call fn44 rfl (few2_c (v0) cs _ (hQ.st H3)) ⟨rfl, trivial⟩) ?_
 rintro _ w5 ⟨b4, rfl, hf7, hB6⟩
 have H8 : St w _ [_] w5 := H3.call hB6
 refine sy (v := .bool (!b4)) (y_not (p := b4) rfl) ?_
 refine c_nil ?_
 refine n_then ?_
 refine c_cond rfl (fun hc9 => ?_) (fun hc9 => ?_)
 ·
  refine c_seq ?_
  refine c_reg ?_
  refine st (ow_call fn34 rfl (fixed19_c _) trivial) ?_
  rintro _ w10 ⟨rfl, hB11⟩
  have H12 : St w _ [_] w10 := H8.call hB11
  refine sy (v := .bool (true)) (y_assign rfl) ?_
  refine c_nil ?_
  refine n_then ?_
  refine wp_ret ?_
  refine r_then ?_
  refine e_r1 Try.results9 (rv_t rfl) ?_
  exact ⟨_, rfl, rfl, H12.below⟩
 ·
  refine wp_skip ?_
  refine n_then ?_
  refine c_seq ?_
  obtain ⟨hC, hcs, hvals⟩ := few_csr hQ (hf7 (by simpa using hc9))
  have hle := hC.le
  refine c_reg ?_
  refine sy (v := Ad (bs g1) (0 + 0)) (y_fld Try.underlying43 rfl rfl sz38 (by decide) rfl) ?_
  refine sy (v := v0) (y_load sc38 rfl (H8.cell 0 rfl rfl)) ?_
  refine st (ow_call fn45 rfl (wide_c (v0) cs _ (hC.st H8).nil (by omega)) ⟨rfl, trivial⟩) ?_
  rintro v13 w15 ⟨ds, EW14, hWC, hpl, H16⟩
  have H17 : St w _ [_, _] w15 := H8.app H16
  have hdc : ds.length = cs.length := by have := congrArg List.length hpl; rwa [List.length_map, List.length_map] at this
  have hPL : PL ds = PL cs := hpl
  refine sy (v := v13) (y_assign rfl) ?_
  refine c_nil ?_
  refine n_then ?_
  refine c_seq ?_
  refine c_reg ?_
  refine sy (v := v13) (y_move rfl) ?_
  refine st (ow_call fn32 rfl (Root_c (v13) ds _ (WCs.csr hWC H17 0 rfl)) ⟨rfl, trivial⟩) ?_
  rintro _ w18 ⟨rfl, hB19⟩
  have H20 : St w _ [_, _] w18 := H17.call hB19
  refine sy (v := .tuple #[.agg ((rootA (ds.map (fun q : Cl => q.c))).map B8).toArray, I ((wrong (ds.map (fun q : Cl => q.c)) : Nat) : Int)]) (y_move rfl) ?_
  refine sy (v := .agg ((rootA (ds.map (fun q : Cl => q.c))).map B8).toArray) (y_extract (i := 0) rfl rfl) ?_
  refine sy (v := I ((wrong (ds.map (fun q : Cl => q.c)) : Nat) : Int)) (y_extract (i := 1) rfl rfl) ?_
  refine st (ow_alloc (l := (List.replicate 32 0).map B8) H20 zr26 (by simp [Value.cells])) ?_
  rintro _ w22 ⟨g21, rfl, H23⟩
  refine s0 (ow_storeW (us := (rootA (ds.map (fun q : Cl => q.c))).map B8) H23 sz26 ((List.length_map _).trans (rootA_len (ds.map (fun q : Cl => q.c)))) rfl rfl (map_one (F := B8) (fun _ => rfl) _) ((List.length_map _).trans List.length_replicate)) ?_
  rintro _ w24 H25'
  have H25 : St w _ [[(g21, Rw 26 ((rootA (ds.map (fun q : Cl => q.c))).map B8))], _, _] w24 := H25'
  refine sy (v := I ((wrong (ds.map (fun q : Cl => q.c)) : Nat) : Int)) (y_assign rfl) ?_
  refine c_nil ?_
  refine n_then ?_
  refine c_seq ?_
  refine c_reg ?_
  refine sy (v := v13) (y_move rfl) ?_
  refine sy (v := Ad (bs g1) (0 + 1)) (y_fld Try.underlying43 rfl rfl sz3 (by decide) rfl) ?_
  refine sy (v := I (kind)) (y_load sc3 rfl (H25.cell 2 rfl rfl)) ?_
  refine sy (v := Ad (bs g1) (0 + 2)) (y_fld Try.underlying43 rfl rfl sz9 (by decide) rfl) ?_
  refine sy (v := .string (bst key)) (y_load sc9 rfl (H25.cell 2 rfl rfl)) ?_
  refine st (ow_call fn37 rfl (find_c (kind) (key) (v13) ds _ (WCs.csr hWC H25 1 rfl)) ⟨rfl, rfl, rfl, trivial⟩) ?_
  rintro _ w31 ⟨n26, lv27, ls28, err29, EB30, rfl, hF33, hP34, H32⟩
  have H35 : St w _ [_, _, _, _] w31 := H25.app H32
  refine sy (v := .tuple #[.agg ([I ((n26 : Nat) : Int), lv27]).toArray, I ((err29 : Nat) : Int)]) (y_move rfl) ?_
  refine sy (v := .agg ([I ((n26 : Nat) : Int), lv27]).toArray) (y_extract (i := 0) rfl rfl) ?_
  refine sy (v := I ((err29 : Nat) : Int)) (y_extract (i := 1) rfl rfl) ?_
  refine st (ow_alloc (l := [I ((0 : Nat) : Int), .slice none 0 0]) H35 zr41 rfl) ?_
  rintro _ w37 ⟨g36, rfl, H38⟩
  refine s0 (ow_storeW (us := [I ((n26 : Nat) : Int), lv27]) H38 sz41 rfl rfl rfl (by intro u hu; simp only [List.mem_cons, List.not_mem_nil, or_false] at hu; rcases hu with rfl | rfl <;> first | rfl | exact Rd.one (LsP.rd hP34 H38 1 rfl).rd) (by simp [*])) ?_
  rintro _ w39 H40'
  have H40 : St w _ [[(g36, Rw 41 ([I ((n26 : Nat) : Int), lv27]))], _, _, _, _] w39 := H40'
  refine sy (v := I ((err29 : Nat) : Int)) (y_assign rfl) ?_
  refine c_nil ?_
  refine n_then ?_
  refine c_seq ?_
  refine c_reg ?_
  refine sy (v := v13) (y_move rfl) ?_
  refine sy (v := Ad (bs g1) (0 + 1)) (y_fld Try.underlying43 rfl rfl sz3 (by decide) rfl) ?_
  refine sy (v := I (kind)) (y_load sc3 rfl (H40.cell 4 rfl rfl)) ?_
  refine sy (v := Ad (bs g1) (0 + 2)) (y_fld Try.underlying43 rfl rfl sz9 (by decide) rfl) ?_
  refine sy (v := .string (bst key)) (y_load sc9 rfl (H40.cell 4 rfl rfl)) ?_
  refine st (ow_call fn37 rfl (find_c (kind) (key) (v13) ds _ (WCs.csr hWC H40 3 rfl)) ⟨rfl, rfl, rfl, trivial⟩) ?_
  rintro _ w46 ⟨n41, lv42, ls43, err44, EB45, rfl, hF48, hP49, H47⟩
  have H50 : St w _ [_, _, _, _, _, _] w46 := H40.app H47
  refine sy (v := .tuple #[.agg ([I ((n41 : Nat) : Int), lv42]).toArray, I ((err44 : Nat) : Int)]) (y_move rfl) ?_
  refine sy (v := .agg ([I ((n41 : Nat) : Int), lv42]).toArray) (y_extract (i := 0) rfl rfl) ?_
  refine sy (v := I ((err44 : Nat) : Int)) (y_extract (i := 1) rfl rfl) ?_
  refine st (ow_alloc (l := [I ((0 : Nat) : Int), .slice none 0 0]) H50 zr41 rfl) ?_
  rintro _ w52 ⟨g51, rfl, H53⟩
  refine s0 (ow_storeW (us := [I ((n41 : Nat) : Int), lv42]) H53 sz41 rfl rfl rfl (by intro u hu; simp only [List.mem_cons, List.not_mem_nil, or_false] at hu; rcases hu with rfl | rfl <;> first | rfl | exact Rd.one (LsP.rd hP49 H53 1 rfl).rd) (by simp [*])) ?_
  rintro _ w54 H55'
  have H55 : St w _ [[(g51, Rw 41 ([I ((n41 : Nat) : Int), lv42]))], _, _, _, _, _, _] w54 := H55'
  refine sy (v := I ((err44 : Nat) : Int)) (y_assign rfl) ?_
  refine c_nil ?_
  refine n_then ?_
  refine c_seq ?_
  refine c_reg ?_
  refine sy (v := Ad (bs g1) (0 + 0)) (y_fld Try.underlying43 rfl rfl sz38 (by decide) rfl) ?_
  refine sy (v := v0) (y_load sc38 rfl (H55.cell 6 rfl rfl)) ?_
  refine sy (v := Ad (bs g1) (0 + 1)) (y_fld Try.underlying43 rfl rfl sz3 (by decide) rfl) ?_
  refine sy (v := I (kind)) (y_load sc3 rfl (H55.cell 6 rfl rfl)) ?_
  refine sy (v := Ad (bs g1) (0 + 2)) (y_fld Try.underlying43 rfl rfl sz9 (by decide) rfl) ?_
  refine sy (v := .string (bst key)) (y_load sc9 rfl (H55.cell 6 rfl rfl)) ?_
  refine st (ow_call fn46 rfl (rfind_c (kind) (key) (v0) cs _ (hC.st H55).nil) ⟨rfl, rfl, rfl, trivial⟩) ?_
  rintro _ w61 ⟨n56, lv57, ls58, err59, EB60, rfl, hF63, hP64, H62⟩
  have H65 : St w _ [_, _, _, _, _, _, _, _] w61 := H55.app H62
  refine sy (v := .tuple #[.agg ([I ((n56 : Nat) : Int), lv57]).toArray, I ((err59 : Nat) : Int)]) (y_move rfl) ?_
  refine sy (v := .agg ([I ((n56 : Nat) : Int), lv57]).toArray) (y_extract (i := 0) rfl rfl) ?_
  refine sy (v := I ((err59 : Nat) : Int)) (y_extract (i := 1) rfl rfl) ?_
  refine st (ow_alloc (l := [I ((0 : Nat) : Int), .slice none 0 0]) H65 zr41 rfl) ?_
  rintro _ w67 ⟨g66, rfl, H68⟩
  refine s0 (ow_storeW (us := [I ((n56 : Nat) : Int), lv57]) H68 sz41 rfl rfl rfl (by intro u hu; simp only [List.mem_cons, List.not_mem_nil, or_false] at hu; rcases hu with rfl | rfl <;> first | rfl | exact Rd.one (LsP.rd hP64 H68 1 rfl).rd) (by simp [*])) ?_
  rintro _ w69 H70'
  have H70 : St w _ [[(g66, Rw 41 ([I ((n56 : Nat) : Int), lv57]))], _, _, _, _, _, _, _, _] w69 := H70'
  refine sy (v := I ((err59 : Nat) : Int)) (y_assign rfl) ?_
  refine c_nil ?_
  refine n_then ?_
  refine c_seq ?_
  refine c_seq ?_
  have hu1 := FindsA.uniq (by rw [← hPL]; exact hF33) hF63
  have hu2 := FindsA.uniq (by rw [← hPL]; exact hF48) hF63
  refine c_reg ?_
  refine sy (v := I ((err29 : Nat) : Int)) (y_move rfl) ?_
  refine sy (v := I ((err59 : Nat) : Int)) (y_move rfl) ?_
  refine sy (v := .bool (decide (err29 ≠ err59))) (n_neq (a := err29) (b := err59) rfl rfl) ?_
  refine sy (v := .bool (decide (err29 ≠ err59))) (y_move rfl) ?_
  have hq71 : ¬ (err29 ≠ err59) := (not_not_intro hu1.2.2)
  refine gsy (v := .agg ([I ((n26 : Nat) : Int), lv27]).toArray) (gv_of (t := 74) rfl rfl rfl) (decide_eq_false hq71) (y_loadA (us := [I ((n26 : Nat) : Int), lv27]) ag41 sz41 rfl rfl (fun j u hu => (H70.cell 4 rfl (by rw [Nat.zero_add]; exact hu)))) ?_
  refine gsy (v := .agg ([I ((n56 : Nat) : Int), lv57]).toArray) (gv_of (t := 74) rfl rfl rfl) (decide_eq_false hq71) (y_loadA (us := [I ((n56 : Nat) : Int), lv57]) ag41 sz41 rfl rfl (fun j u hu => (H70.cell 0 rfl (by rw [Nat.zero_add]; exact hu)))) ?_
  refine gst (gv_of (t := 74) rfl rfl rfl) (decide_eq_false hq71) (ow_call fn39 rfl (samew_yes2 (n := ((n26 : Nat) : Int)) (m := ((n56 : Nat) : Int)) (ls := ls28) (ks := ls58) (LsP.rd hP34 H70 5 rfl) (LsP.rd hP64 H70 1 rfl) ⟨congrArg (fun q : Nat => (q : Int)) hu1.1, hu1.2.1⟩) ⟨rfl, rfl, trivial⟩) ?_
  rintro _ w72 ⟨rfl, hB73⟩
  have H74 : St w _ [_, _, _, _, _, _, _, _, _] w72 := H70.call hB73
  refine gsy (v := .bool (false)) (gv_of (t := 74) rfl rfl rfl) (decide_eq_false hq71) (y_not (p := true) rfl) ?_
  refine sy (v := .bool (false)) (y_pickF rfl (decide_eq_false hq71) rfl) ?_
  refine sy (v := .bool (false)) (y_move rfl) ?_
  refine gsy (v := v13) (gv_of (t := 80) rfl rfl rfl) (rfl) (y_move rfl) ?_
  refine gsy (v := Ad (bs g1) (0 + 0)) (gv_of (t := 80) rfl rfl rfl) (rfl) (y_fld Try.underlying43 rfl rfl sz38 (by decide) rfl) ?_
  refine gsy (v := v0) (gv_of (t := 80) rfl rfl rfl) (rfl) (y_load sc38 rfl (H74.cell 8 rfl rfl)) ?_
  refine gst (gv_of (t := 80) rfl rfl rfl) (rfl) (ow_call fn47 rfl (keptW_c (WCs.kr hWC H74 7 rfl) (hC.st H74).nil hpl) ⟨rfl, rfl, trivial⟩) ?_
  rintro _ w75 ⟨rfl, hB76⟩
  have H77 : St w _ [_, _, _, _, _, _, _, _, _] w75 := H74.call hB76
  refine gsy (v := .bool (false)) (gv_of (t := 80) rfl rfl rfl) (rfl) (y_not (p := true) rfl) ?_
  refine sy (v := .bool (false)) (y_pickF rfl (rfl) rfl) ?_
  refine c_nil ?_
  refine n_then ?_
  refine c_f rfl rfl ?_
  refine wp_skip ?_
  refine n_then ?_
  refine c_seq ?_
  refine c_seq ?_
  refine c_reg ?_
  refine sy (v := .agg ([I ((n26 : Nat) : Int), lv27]).toArray) (y_loadA (us := [I ((n26 : Nat) : Int), lv27]) ag41 sz41 rfl rfl (fun j u hu => (H77.cell 4 rfl (by rw [Nat.zero_add]; exact hu)))) ?_
  have H78 : St w _ [_, _, _, _, _, _, _, _, _] w75 := H77.foc 5 rfl rfl
  have hsm81 := FindsA.small (cs := cs) (by rw [← hPL]; exact hF33) hvals
  refine st (ow_call fn48 rfl (spoil_c (((n26 : Nat) : Int)) (lv27) ls28 EB30 _ hP34 (fun p hp => H78.own _ List.mem_cons_self p hp) hsm81.1 hsm81.2) ⟨rfl, trivial⟩) ?_
  rintro _ w79 ⟨rfl, H80⟩
  have H82 : St w _ [_, _, _, _, _, _, _, _] w79 := H78.appE H80
  refine sy (v := .bool (false)) (y_not (p := true) rfl) ?_
  refine sy (v := .bool (false)) (y_move rfl) ?_
  refine gsy (v := .agg ([I ((n41 : Nat) : Int), lv42]).toArray) (gv_of (t := 90) rfl rfl rfl) (rfl) (y_loadA (us := [I ((n41 : Nat) : Int), lv42]) ag41 sz41 rfl rfl (fun j u hu => (H82.cell 2 rfl (by rw [Nat.zero_add]; exact hu)))) ?_
  refine gsy (v := .agg ([I ((n56 : Nat) : Int), lv57]).toArray) (gv_of (t := 90) rfl rfl rfl) (rfl) (y_loadA (us := [I ((n56 : Nat) : Int), lv57]) ag41 sz41 rfl rfl (fun j u hu => (H82.cell 0 rfl (by rw [Nat.zero_add]; exact hu)))) ?_
  refine gst (gv_of (t := 90) rfl rfl rfl) (rfl) (ow_call fn39 rfl (samew_yes2 (n := ((n41 : Nat) : Int)) (m := ((n56 : Nat) : Int)) (ls := ls43) (ks := ls58) (LsP.rd hP49 H82 3 rfl) (LsP.rd hP64 H82 1 rfl) ⟨congrArg (fun q : Nat => (q : Int)) hu2.1, hu2.2.1⟩) ⟨rfl, rfl, trivial⟩) ?_
  rintro _ w83 ⟨rfl, hB84⟩
  have H85 : St w _ [_, _, _, _, _, _, _, _] w83 := H82.call hB84
  refine gsy (v := .bool (false)) (gv_of (t := 90) rfl rfl rfl) (rfl) (y_not (p := true) rfl) ?_
  refine sy (v := .bool (false)) (y_pickF rfl (rfl) rfl) ?_
  refine sy (v := .bool (false)) (y_move rfl) ?_
  refine gsy (v := v13) (gv_of (t := 96) rfl rfl rfl) (rfl) (y_move rfl) ?_
  refine gsy (v := Ad (bs g1) (0 + 0)) (gv_of (t := 96) rfl rfl rfl) (rfl) (y_fld Try.underlying43 rfl rfl sz38 (by decide) rfl) ?_
  refine gsy (v := v0) (gv_of (t := 96) rfl rfl rfl) (rfl) (y_load sc38 rfl (H85.cell 7 rfl rfl)) ?_
  refine gst (gv_of (t := 96) rfl rfl rfl) (rfl) (ow_call fn47 rfl (keptW_c (WCs.kr hWC H85 6 rfl) (hC.st H85).nil hpl) ⟨rfl, rfl, trivial⟩) ?_
  rintro _ w86 ⟨rfl, hB87⟩
  have H88 : St w _ [_, _, _, _, _, _, _, _] w86 := H85.call hB87
  refine gsy (v := .bool (false)) (gv_of (t := 96) rfl rfl rfl) (rfl) (y_not (p := true) rfl) ?_
  refine sy (v := .bool (false)) (y_pickF rfl (rfl) rfl) ?_
  refine c_nil ?_
  refine n_then ?_
  refine c_f rfl rfl ?_
  refine wp_skip ?_
  refine n_then ?_
  refine c_seq ?_
  refine c_reg ?_
  refine sy (v := .agg ([I ((n56 : Nat) : Int), lv57]).toArray) (y_loadA (us := [I ((n56 : Nat) : Int), lv57]) ag41 sz41 rfl rfl (fun j u hu => (H88.cell 0 rfl (by rw [Nat.zero_add]; exact hu)))) ?_
  refine st (ow_call fn49 rfl (copied_c (((n56 : Nat) : Int)) (lv57) ls58 _ (LsP.rd hP64 H88 1 rfl)) ⟨rfl, trivial⟩) ?_
  rintro _ w92 ⟨v89, ks90, EC91, rfl, hLC94, hpe95, H93⟩
  have H96 : St w _ [_, _, _, _, _, _, _, _, _] w92 := H88.app H93
  refine st (ow_alloc (l := [I ((0 : Nat) : Int), .slice none 0 0]) H96 zr41 rfl) ?_
  rintro _ w98 ⟨g97, rfl, H99⟩
  refine s0 (ow_storeW (us := [I (((n56 : Nat) : Int)), v89]) H99 sz41 rfl rfl rfl (by intro u hu; simp only [List.mem_cons, List.not_mem_nil, or_false] at hu; rcases hu with rfl | rfl <;> first | rfl | exact Rd.one (LsC.ls hLC94 H99 1 rfl).rd) (by simp [*])) ?_
  rintro _ w100 H101'
  have H101 : St w _ [[(g97, Rw 41 ([I (((n56 : Nat) : Int)), v89]))], _, _, _, _, _, _, _, _, _] w100 := H101'
  refine c_nil ?_
  refine n_then ?_
  refine c_seq ?_
  have hn3 := FindsA.n_le hF63
  refine c_reg ?_
  refine sy (v := .agg ((rootA (ds.map (fun q : Cl => q.c))).map B8).toArray) (y_loadA (us := (rootA (ds.map (fun q : Cl => q.c))).map B8) ag26 sz26 ((List.length_map _).trans (rootA_len (ds.map (fun q : Cl => q.c)))) rfl (fun j u hu => (H101.cell 7 rfl (by rw [Nat.zero_add]; exact hu)))) ?_
  refine sy (v := Ad (bs g1) (0 + 1)) (y_fld Try.underlying43 rfl rfl sz3 (by decide) rfl) ?_
  refine sy (v := I (kind)) (y_load sc3 rfl (H101.cell 9 rfl rfl)) ?_
  refine sy (v := Ad (bs g1) (0 + 2)) (y_fld Try.underlying43 rfl rfl sz9 (by decide) rfl) ?_
  refine sy (v := .string (bst key)) (y_load sc9 rfl (H101.cell 9 rfl rfl)) ?_
  refine sy (v := .agg ([I (((n56 : Nat) : Int)), v89]).toArray) (y_loadA (us := [I (((n56 : Nat) : Int)), v89]) ag41 sz41 rfl rfl (fun j u hu => (H101.cell 0 rfl (by rw [Nat.zero_add]; exact hu)))) ?_
  refine st (ow_call fn35 rfl (check_c (rootA (PL ds)) kind key ((n56 : Nat) : Int) v89 ks90 _ (rootA_len (ds.map (fun q : Cl => q.c))) (by omega) (by omega) (LsC.ls hLC94 H101 1 rfl).nil) ⟨rfl, rfl, rfl, rfl, trivial⟩) ?_
  rintro _ w104 ⟨cc102, E103, rfl, hc106, ho107, H105⟩
  have H108 : St w _ [_, _, _, _, _, _, _, _, _, _, _] w104 := H101.app H105
  have hsmho107 : small cc102.c := by rw [hc106]; exact ck_small (LsC.ls hLC94 H108 2 rfl)
  refine sy (v := .tuple #[.agg ([I cc102.c.k, .string (bst cc102.c.key), cc102.v]).toArray, .bool ((checkA (rootA (PL ds)) kind key ((n56 : Nat) : Int) (PE ks90)).2.isSome), I (((checkA (rootA (PL ds)) kind key ((n56 : Nat) : Int) (PE ks90)).1 : Nat) : Int)]) (y_move rfl) ?_
  refine sy (v := .agg ([I cc102.c.k, .string (bst cc102.c.key), cc102.v]).toArray) (y_extract (i := 0) rfl rfl) ?_
  refine sy (v := .bool ((checkA (rootA (PL ds)) kind key ((n56 : Nat) : Int) (PE ks90)).2.isSome)) (y_extract (i := 1) rfl rfl) ?_
  refine sy (v := I (((checkA (rootA (PL ds)) kind key ((n56 : Nat) : Int) (PE ks90)).1 : Nat) : Int)) (y_extract (i := 2) rfl rfl) ?_
  refine st (ow_alloc (l := [I ((0 : Nat) : Int), .string (.empty), .slice none 0 0]) H108 zr48 rfl) ?_
  rintro _ w110 ⟨g109, rfl, H111⟩
  refine s0 (ow_storeW (us := [I (cc102.c.k), .string (bst cc102.c.key), cc102.v]) H111 sz48 rfl rfl rfl (by intro u hu; simp only [List.mem_cons, List.not_mem_nil, or_false] at hu; rcases hu with rfl | rfl | rfl <;> first | rfl | exact Rd.one (ho107.rd H111 1 rfl)) (by simp [*])) ?_
  rintro _ w112 H113'
  have H113 : St w _ [[(g109, Rw 48 ([I (cc102.c.k), .string (bst cc102.c.key), cc102.v]))], _, _, _, _, _, _, _, _, _, _, _] w112 := H113'
  refine sy (v := .bool ((checkA (rootA (PL ds)) kind key ((n56 : Nat) : Int) (PE ks90)).2.isSome)) (y_assign rfl) ?_
  refine sy (v := I (((checkA (rootA (PL ds)) kind key ((n56 : Nat) : Int) (PE ks90)).1 : Nat) : Int)) (y_assign rfl) ?_
  refine c_nil ?_
  refine n_then ?_
  refine c_seq ?_
  refine c_reg ?_
  refine sy (v := .agg ((rootA (ds.map (fun q : Cl => q.c))).map B8).toArray) (y_loadA (us := (rootA (ds.map (fun q : Cl => q.c))).map B8) ag26 sz26 ((List.length_map _).trans (rootA_len (ds.map (fun q : Cl => q.c)))) rfl (fun j u hu => (H113.cell 9 rfl (by rw [Nat.zero_add]; exact hu)))) ?_
  refine sy (v := Ad (bs g1) (0 + 1)) (y_fld Try.underlying43 rfl rfl sz3 (by decide) rfl) ?_
  refine sy (v := I (kind)) (y_load sc3 rfl (H113.cell 11 rfl rfl)) ?_
  refine sy (v := Ad (bs g1) (0 + 2)) (y_fld Try.underlying43 rfl rfl sz9 (by decide) rfl) ?_
  refine sy (v := .string (bst key)) (y_load sc9 rfl (H113.cell 11 rfl rfl)) ?_
  refine sy (v := .agg ([I (((n56 : Nat) : Int)), v89]).toArray) (y_loadA (us := [I (((n56 : Nat) : Int)), v89]) ag41 sz41 rfl rfl (fun j u hu => (H113.cell 2 rfl (by rw [Nat.zero_add]; exact hu)))) ?_
  refine st (ow_call fn35 rfl (check_c (rootA (PL ds)) kind key ((n56 : Nat) : Int) v89 ks90 _ (rootA_len (ds.map (fun q : Cl => q.c))) (by omega) (by omega) (LsC.ls hLC94 H113 3 rfl).nil) ⟨rfl, rfl, rfl, rfl, trivial⟩) ?_
  rintro _ w116 ⟨cc114, E115, rfl, hc118, ho119, H117⟩
  have H120 : St w _ [_, _, _, _, _, _, _, _, _, _, _, _, _] w116 := H113.app H117
  have hsmho119 : small cc114.c := by rw [hc118]; exact ck_small (LsC.ls hLC94 H120 4 rfl)
  refine sy (v := .tuple #[.agg ([I cc114.c.k, .string (bst cc114.c.key), cc114.v]).toArray, .bool ((checkA (rootA (PL ds)) kind key ((n56 : Nat) : Int) (PE ks90)).2.isSome), I (((checkA (rootA (PL ds)) kind key ((n56 : Nat) : Int) (PE ks90)).1 : Nat) : Int)]) (y_move rfl) ?_
  refine sy (v := .agg ([I cc114.c.k, .string (bst cc114.c.key), cc114.v]).toArray) (y_extract (i := 0) rfl rfl) ?_
  refine sy (v := .bool ((checkA (rootA (PL ds)) kind key ((n56 : Nat) : Int) (PE ks90)).2.isSome)) (y_extract (i := 1) rfl rfl) ?_
  refine sy (v := I (((checkA (rootA (PL ds)) kind key ((n56 : Nat) : Int) (PE ks90)).1 : Nat) : Int)) (y_extract (i := 2) rfl rfl) ?_
  refine st (ow_alloc (l := [I ((0 : Nat) : Int), .string (.empty), .slice none 0 0]) H120 zr48 rfl) ?_
  rintro _ w122 ⟨g121, rfl, H123⟩
  refine s0 (ow_storeW (us := [I (cc114.c.k), .string (bst cc114.c.key), cc114.v]) H123 sz48 rfl rfl rfl (by intro u hu; simp only [List.mem_cons, List.not_mem_nil, or_false] at hu; rcases hu with rfl | rfl | rfl <;> first | rfl | exact Rd.one (ho119.rd H123 1 rfl)) (by simp [*])) ?_
  rintro _ w124 H125'
  have H125 : St w _ [[(g121, Rw 48 ([I (cc114.c.k), .string (bst cc114.c.key), cc114.v]))], _, _, _, _, _, _, _, _, _, _, _, _, _] w124 := H125'
  refine sy (v := .bool ((checkA (rootA (PL ds)) kind key ((n56 : Nat) : Int) (PE ks90)).2.isSome)) (y_assign rfl) ?_
  refine sy (v := I (((checkA (rootA (PL ds)) kind key ((n56 : Nat) : Int) (PE ks90)).1 : Nat) : Int)) (y_assign rfl) ?_
  refine c_nil ?_
  refine n_then ?_
  refine c_seq ?_
  refine c_seq ?_
  refine c_reg ?_
  refine sy (v := .agg ([I (((n56 : Nat) : Int)), v89]).toArray) (y_loadA (us := [I (((n56 : Nat) : Int)), v89]) ag41 sz41 rfl rfl (fun j u hu => (H125.cell 4 rfl (by rw [Nat.zero_add]; exact hu)))) ?_
  refine sy (v := .agg ([I ((n56 : Nat) : Int), lv57]).toArray) (y_loadA (us := [I ((n56 : Nat) : Int), lv57]) ag41 sz41 rfl rfl (fun j u hu => (H125.cell 6 rfl (by rw [Nat.zero_add]; exact hu)))) ?_
  refine st (ow_call fn50 rfl (stays_c (LsC.rd hLC94 H125 5 rfl) (LsP.rd hP64 H125 7 rfl) ⟨rfl, hpe95⟩) ⟨rfl, rfl, trivial⟩) ?_
  rintro _ w126 ⟨rfl, hB127⟩
  have H128 : St w _ [_, _, _, _, _, _, _, _, _, _, _, _, _, _] w126 := H125.call hB127
  refine sy (v := .bool (false)) (y_not (p := true) rfl) ?_
  refine c_nil ?_
  refine n_then ?_
  refine c_f rfl rfl ?_
  refine wp_skip ?_
  refine n_then ?_
  refine c_seq ?_
  refine c_reg ?_
  refine sy (v := .agg ([.slice none 0 0, .slice none 0 0, I ((0 : Nat) : Int), .bool false]).toArray) (y_build (parts := []) (pv := []) (us := [.slice none 0 0, .slice none 0 0, I ((0 : Nat) : Int), .bool (false)]) trivial (by kernel_rfl)) ?_
  refine st (ow_box (l := [.slice none 0 0, .slice none 0 0, I ((0 : Nat) : Int), .bool (false)]) H128 rfl rfl) ?_
  rintro _ w130 ⟨g129, rfl, H131⟩
  refine sy (v := Ad (bs g129) (0)) (y_assign rfl) ?_
  refine c_nil ?_
  refine n_then ?_
  refine c_seq ?_
  have hccl : cc102.c.l.length ≤ 134217728 := by rw [hc106]; exact ck_prop (P := fun c => c.l.length ≤ 134217728) (by simp [cz]) (pe_all2 (P := fun c => c.l.length ≤ 134217728) hpe95 (FindsA.small (cs := cs) hF63 hvals).2)
  refine c_reg ?_
  refine sy (v := Ad (bs g129) (0)) (y_move rfl) ?_
  refine sy (v := Ad (bs g109) (0 + 2)) (y_fld Try.underlying48 rfl rfl sz23 (by decide) rfl) ?_
  refine sy (v := cc102.v) (y_load sc23 rfl (H131.cell 3 rfl rfl)) ?_
  have H132 : St w _ [_, _, _, _, _, _, _, _, _, _, _, _, _, _, _] w130 := H131.foc 14 rfl rfl
  have H133 : St w _ [_, _, _, _, _, _, _, _, _, _, _, _, _, _, _] w130 := H132.foc 14 rfl rfl
  have H134 : St w _ [_, _, _, _, _, _, _, _, _, _, _, _, _, _, _] w130 := H133.foc 14 rfl rfl
  have H135 : St w _ [_, _, _, _, _, _, _, _, _, _, _, _, _, _, _] w130 := H134.foc 14 rfl rfl
  have H136 : St w _ [_, _, _, _, _, _, _, _, _, _, _, _, _, _, _] w130 := H135.foc 14 rfl rfl
  have H137 : St w _ [_, _, _, _, _, _, _, _, _, _, _, _, _, _, _] w130 := H136.foc 14 rfl rfl
  have H138 : St w _ [_, _, _, _, _, _, _, _, _, _, _, _, _, _, _] w130 := H137.foc 14 rfl rfl
  have H139 : St w _ [_, _, _, _, _, _, _, _, _, _, _, _, _, _, _] w130 := H138.foc 14 rfl rfl
  have H140 : St w _ [_, _, _, _, _, _, _, _, _, _, _, _, _, _, _] w130 := H139.foc 14 rfl rfl
  have H141 : St w _ [_, _, _, _, _, _, _, _, _, _, _, _, _, _, _] w130 := H140.foc 14 rfl rfl
  have H142 : St w _ [_, _, _, _, _, _, _, _, _, _, _, _, _, _, _] w130 := H141.foc 13 rfl rfl
  have H143 : St w _ [_, _, _, _, _, _, _, _, _, _, _, _, _, _, _] w130 := H142.foc 13 rfl rfl
  have H144 : St w _ [_, _, _, _, _, _, _, _, _, _, _, _, _, _, _] w130 := H143.foc 13 rfl rfl
  have H145 : St w _ [_, _, _, _, _, _, _, _, _, _, _, _, _, _, _] w130 := H144.foc 13 rfl rfl
  have H146 : St w _ [_, _, _, _, _, _, _, _, _, _, _, _, _, _, _] w130 := H145.foc 14 rfl rfl
  obtain ⟨H147, hd148⟩ := H146.join
  refine st (ow_call fn51 rfl (add_c g129 0 ([] : List Value) ([] : List Value) [(g129, Rw 71 [.slice none 0 0, .slice none 0 0, I ((0 : Nat) : Int), .bool false])] E103 (cc102.v) cc102.c.l _ (booka_new g129) ho107 hd148 (fun p hp => H147.own _ List.mem_cons_self p hp) (by first | omega | (simp only [List.length_nil]; omega)) (by omega)) ⟨rfl, rfl, trivial⟩) ?_
  rintro _ w153 ⟨rfl, tz149, xz150, uz151, EB152, hB155, hlx156, htx157, H154⟩
  have H158 : St w _ [_, _, _, _, _, _, _, _, _, _, _, _, _, _] w153 := H147.appE H154
  have hlx156' : xz150.length ≤ 1 := hlx156
  refine c_nil ?_
  refine n_then ?_
  refine c_seq ?_
  refine c_seq ?_
  refine c_reg ?_
  refine sy (v := .bool ((checkA (rootA (PL ds)) kind key ((n56 : Nat) : Int) (PE ks90)).2.isSome)) (y_move rfl) ?_
  refine c_nil ?_
  refine n_then ?_
  refine c_cut (n := 246) (fun f159 w160 => f159 1 = Ad (bs g1) (0) ∧ f159 3 = v13 ∧ f159 8 = Ad (bs g51) (0) ∧ f159 10 = Ad (bs g66) (0) ∧ f159 14 = .bool ((checkA (rootA (PL ds)) kind key ((n56 : Nat) : Int) (PE ks90)).2.isSome) ∧ f159 15 = I (((checkA (rootA (PL ds)) kind key ((n56 : Nat) : Int) (PE ks90)).1 : Nat) : Int) ∧ f159 16 = Ad (bs g121) (0) ∧ f159 19 = Ad (bs g129) (0) ∧ St w [] [EB152, [(g121, Rw 48 ([I (cc114.c.k), .string (bst cc114.c.key), cc114.v]))], E115, [(g109, Rw 48 ([I (cc102.c.k), .string (bst cc102.c.key), cc102.v]))], [(g97, Rw 41 ([I (((n56 : Nat) : Int)), v89]))], [(g66, Rw 41 ([I ((n56 : Nat) : Int), lv57]))], EB60, [(g51, Rw 41 ([I ((n41 : Nat) : Int), lv42]))], EB45, [(g36, Rw 41 ([I ((n26 : Nat) : Int), lv27]))], [(g21, Rw 26 ((rootA (ds.map (fun q : Cl => q.c))).map B8))], EW14, [(g1, Rw 43 ([v0, I (kind), .string (bst key), I (n), lv]))]] w160) ?_ ?_
  ·
   refine c_cond rfl (fun hc161 => ?_) (fun hc161 => ?_)
   ·
    obtain ⟨hk0, hkc⟩ := ck_some hc161
    have H162 : St w _ [_, _, _, _, _, _, _, _, _, _, _, _, _, _] w153 := H158.foc 5 rfl rfl
    obtain ⟨EL, Ev, Er, hbeh, hwv, H163⟩ := lsc_open hLC94 hk0 H162
    have hvs : (ks90.getD 0 lf0).cell.c.l.length ≤ 134217728 := by
     have h := pe_all2 (P := fun c => c.l.length ≤ 134217728) hpe95 (FindsA.small (cs := cs) hF63 hvals).2 (ks90.getD 0 lf0) (by rw [List.getD_eq_getElem?_getD, List.getElem?_eq_getElem hk0]; exact List.getElem_mem hk0)
     exact h
    refine drawSub (.step 0 0 (.step 0 1 (.step 0 2 (.step 0 3 (.step 0 4 (.step 0 5 (.step 0 6 (.step 0 7 (.step 1 8 (.step 1 9 (.step 2 10 (.step 2 11 (.step 2 12 (.step 2 13 .nil)))))))))))))) mixed H163 (fun _ h => h.drop) (by kernel_rfl) (by kernel_rfl) (by kernel_rfl) ?_
    intro w164 H165
    refine pt (v := Ad (bs g97) (0 + 1)) rfl (fun wS HS => y_fld Try.underlying41 rfl rfl sz39 (by decide) rfl) ?_
    refine pt (v := v89) rfl (fun wS HS => y_load sc39 rfl (HS.cell 6 rfl rfl)) ?_
    refine pt (v := Ad (bs g97) (0 + 1)) rfl (fun wS HS => y_fld Try.underlying41 rfl rfl sz39 (by decide) rfl) ?_
    refine pt (v := v89) rfl (fun wS HS => y_load sc39 rfl (HS.cell 6 rfl rfl)) ?_
    refine pt (v := Ad (sp (v89)) (0 * 5)) rfl (fun wS HS => y_ixR (m := 0) Try.underlying39 sz74 (hbeh.os.rd HS 0 rfl) (by decide) rfl rfl rfl (by omega)) ?_
    refine pt (v := Ad (sp (v89)) ((0 * 5) + 1)) rfl (fun wS HS => y_fld Try.underlying74 rfl rfl sz48 (by decide) rfl) ?_
    refine pt (v := Ad (sp (v89)) (((0 * 5) + 1) + 2)) rfl (fun wS HS => y_fld Try.underlying48 rfl rfl sz23 (by decide) rfl) ?_
    refine pt (v := (ks90.getD 0 lf0).cell.v) rfl (fun wS HS => y_load sc23 rfl ((hbeh.os.rd HS 0 rfl).cell _ _ (by rw [List.take_left' (by rw [flat5_len])]; exact flat5_get (i := 0) (j := 3) (d := lf0) hk0 rfl))) ?_
    refine pl rfl (ow_buildSlice (pv := [(0, B8 (49))]) (us := [B8 (49)]) Try.underlying23 sz5 zr5 H165 ⟨⟨rfl, rfl⟩, trivial⟩ (by decide) (fill1 rfl)) ?_
    rintro _ w167 ⟨g166, rfl, H168⟩
    have H169 : St w _ [_, _, _, _, _, _, _, _, _, _, _, _, _, _, _, _, _] w167 := H168.foc 16 rfl rfl
    have H170 : St w _ [_, _, _, _, _, _, _, _, _, _, _, _, _, _, _, _, _] w167 := H169.foc 16 rfl rfl
    have H171 : St w _ [_, _, _, _, _, _, _, _, _, _, _, _, _, _, _, _, _] w167 := H170.foc 16 rfl rfl
    have H172 : St w _ [_, _, _, _, _, _, _, _, _, _, _, _, _, _, _, _, _] w167 := H171.foc 16 rfl rfl
    have H173 : St w _ [_, _, _, _, _, _, _, _, _, _, _, _, _, _, _, _, _] w167 := H172.foc 16 rfl rfl
    have H174 : St w _ [_, _, _, _, _, _, _, _, _, _, _, _, _, _, _, _, _] w167 := H173.foc 16 rfl rfl
    have H175 : St w _ [_, _, _, _, _, _, _, _, _, _, _, _, _, _, _, _, _] w167 := H174.foc 16 rfl rfl
    have H176 : St w _ [_, _, _, _, _, _, _, _, _, _, _, _, _, _, _, _, _] w167 := H175.foc 16 rfl rfl
    have H177 : St w _ [_, _, _, _, _, _, _, _, _, _, _, _, _, _, _, _, _] w167 := H176.foc 16 rfl rfl
    have H178 : St w _ [_, _, _, _, _, _, _, _, _, _, _, _, _, _, _, _, _] w167 := H177.foc 16 rfl rfl
    have H179 : St w _ [_, _, _, _, _, _, _, _, _, _, _, _, _, _, _, _, _] w167 := H178.foc 16 rfl rfl
    have H180 : St w _ [_, _, _, _, _, _, _, _, _, _, _, _, _, _, _, _, _] w167 := H179.foc 16 rfl rfl
    have H181 : St w _ [_, _, _, _, _, _, _, _, _, _, _, _, _, _, _, _, _] w167 := H180.foc 16 rfl rfl
    have H182 : St w _ [_, _, _, _, _, _, _, _, _, _, _, _, _, _, _, _, _] w167 := H181.foc 16 rfl rfl
    have H183 : St w _ [_, _, _, _, _, _, _, _, _, _, _, _, _, _, _, _, _] w167 := H182.foc 16 rfl rfl
    have H184 : St w _ [_, _, _, _, _, _, _, _, _, _, _, _, _, _, _] w167 := H183.take 15 rfl
    refine ⟨H184, ?_⟩
    have H185 : St w _ [_, _, _, _, _, _, _, _, _, _, _, _, _, _, _, _, _] w167 := H168.foc 1 rfl rfl
    refine pl rfl (ow_append Try.underlying23 sz5 zr5 bt5 rfl (WideP.os hwv) H185 rfl rfl ((rd_lit (k := 1) (us := [B8 (49)]) H168 0 rfl rfl (by simp [maxLen])).src Try.underlying23 (by simp [Value.oneCell'])) (by first | omega | (simp only [List.length_append, List.length_cons, List.length_nil, List.length_take, List.length_drop, hmac_length, sha_length, List.length_replicate]; omega)) (by first | omega | (simp only [List.length_append, List.length_cons, List.length_nil, List.length_take, List.length_drop, hmac_length, sha_length, List.length_replicate]; omega))) ?_
    rintro v187 w188 ⟨E186, ho190', H189⟩
    have ho190 : OS 5 1 v187 (((ks90.getD 0 lf0).cell.c.l) ++ ([49])).length ((((ks90.getD 0 lf0).cell.c.l) ++ ([49])).map B8) E186 := by rw [List.length_append, List.map_append]; exact ho190'
    have H191 : St w _ [_, _, _, _, _, _, _, _, _, _, _, _, _, _, _, _, _] w188 := H189.foc 16 rfl rfl
    have H192 : St w _ [_, _, _, _, _, _, _, _, _, _, _, _, _, _, _, _, _] w188 := H191.foc 16 rfl rfl
    have H193 : St w _ [_, _, _, _, _, _, _, _, _, _, _, _, _, _, _, _, _] w188 := H192.foc 16 rfl rfl
    have H194 : St w _ [_, _, _, _, _, _, _, _, _, _, _, _, _, _, _, _, _] w188 := H193.foc 16 rfl rfl
    have H195 : St w _ [_, _, _, _, _, _, _, _, _, _, _, _, _, _, _, _, _] w188 := H194.foc 16 rfl rfl
    have H196 : St w _ [_, _, _, _, _, _, _, _, _, _, _, _, _, _, _, _, _] w188 := H195.foc 16 rfl rfl
    have H197 : St w _ [_, _, _, _, _, _, _, _, _, _, _, _, _, _, _, _, _] w188 := H196.foc 16 rfl rfl
    have H198 : St w _ [_, _, _, _, _, _, _, _, _, _, _, _, _, _, _, _, _] w188 := H197.foc 16 rfl rfl
    have H199 : St w _ [_, _, _, _, _, _, _, _, _, _, _, _, _, _, _, _, _] w188 := H198.foc 16 rfl rfl
    have H200 : St w _ [_, _, _, _, _, _, _, _, _, _, _, _, _, _, _, _, _] w188 := H199.foc 16 rfl rfl
    have H201 : St w _ [_, _, _, _, _, _, _, _, _, _, _, _, _, _, _, _, _] w188 := H200.foc 16 rfl rfl
    have H202 : St w _ [_, _, _, _, _, _, _, _, _, _, _, _, _, _, _, _, _] w188 := H201.foc 16 rfl rfl
    have H203 : St w _ [_, _, _, _, _, _, _, _, _, _, _, _, _, _, _, _, _] w188 := H202.foc 16 rfl rfl
    have H204 : St w _ [_, _, _, _, _, _, _, _, _, _, _, _, _, _, _, _, _] w188 := H203.foc 16 rfl rfl
    have H205 : St w _ [_, _, _, _, _, _, _, _, _, _, _, _, _, _, _, _, _] w188 := H204.foc 16 rfl rfl
    have H206 : St w _ [_, _, _, _, _, _, _, _, _, _, _, _, _, _, _] w188 := H205.take 15 rfl
    refine ⟨H206, ?_⟩
    refine tly (v := Ad (sp (v89)) (0 * 5)) rfl (y_ixR (m := 0) Try.underlying39 sz74 (hbeh.os.rd H189 2 rfl) (by decide) rfl rfl rfl (by omega)) ?_
    refine tly (v := Ad (sp (v89)) ((0 * 5) + 1)) rfl (y_fld Try.underlying74 rfl rfl sz48 (by decide) rfl) ?_
    refine tly (v := Ad (sp (v89)) (((0 * 5) + 1) + 2)) rfl (y_fld Try.underlying48 rfl rfl sz23 (by decide) rfl) ?_
    have H211 : St w _ [_, _, _, _, _, _, _, _, _, _, _, _, _, _, _, _, _] w188 := H189.foc 2 rfl rfl
    refine t0 rfl (ow_storeOX1 (k := 3) ⟨_, hbeh.os⟩ H211 sz23 rfl rfl (Rd.one (ho190.rd H211 1 rfl)) (by omega)) ?_
    rintro _ w208 ⟨E207, ho210, H209⟩
    refine p_nil ?_
    have H212 : St w _ [_, _, _, _, _, _, _, _, _, _, _, _, _, _, _, _, _] w208 := H209.foc 16 rfl rfl
    have H213 : St w _ [_, _, _, _, _, _, _, _, _, _, _, _, _, _, _, _, _] w208 := H212.foc 16 rfl rfl
    have H214 : St w _ [_, _, _, _, _, _, _, _, _, _, _, _, _, _, _, _, _] w208 := H213.foc 16 rfl rfl
    have H215 : St w _ [_, _, _, _, _, _, _, _, _, _, _, _, _, _, _, _, _] w208 := H214.foc 16 rfl rfl
    have H216 : St w _ [_, _, _, _, _, _, _, _, _, _, _, _, _, _, _, _, _] w208 := H215.foc 16 rfl rfl
    have H217 : St w _ [_, _, _, _, _, _, _, _, _, _, _, _, _, _, _, _, _] w208 := H216.foc 16 rfl rfl
    have H218 : St w _ [_, _, _, _, _, _, _, _, _, _, _, _, _, _, _, _, _] w208 := H217.foc 16 rfl rfl
    have H219 : St w _ [_, _, _, _, _, _, _, _, _, _, _, _, _, _, _, _, _] w208 := H218.foc 16 rfl rfl
    have H220 : St w _ [_, _, _, _, _, _, _, _, _, _, _, _, _, _, _, _, _] w208 := H219.foc 16 rfl rfl
    have H221 : St w _ [_, _, _, _, _, _, _, _, _, _, _, _, _, _, _, _, _] w208 := H220.foc 16 rfl rfl
    have H222 : St w _ [_, _, _, _, _, _, _, _, _, _, _, _, _, _, _, _, _] w208 := H221.foc 16 rfl rfl
    have H223 : St w _ [_, _, _, _, _, _, _, _, _, _, _, _, _, _, _, _, _] w208 := H222.foc 16 rfl rfl
    have H224 : St w _ [_, _, _, _, _, _, _, _, _, _, _, _, _, _, _, _, _] w208 := H223.foc 16 rfl rfl
    have H225 : St w _ [_, _, _, _, _, _, _, _, _, _, _, _, _] w208 := H224.take 13 rfl
    exact qj_n ⟨rfl, rfl, rfl, rfl, rfl, rfl, rfl, rfl, H225⟩
   ·
    refine wp_skip ?_
    have H226 : St w _ [_, _, _, _, _, _, _, _, _, _, _, _, _, _] w153 := H158.foc 13 rfl rfl
    have H227 : St w _ [_, _, _, _, _, _, _, _, _, _, _, _, _, _] w153 := H226.foc 13 rfl rfl
    have H228 : St w _ [_, _, _, _, _, _, _, _, _, _, _, _, _, _] w153 := H227.foc 13 rfl rfl
    have H229 : St w _ [_, _, _, _, _, _, _, _, _, _, _, _, _, _] w153 := H228.foc 13 rfl rfl
    have H230 : St w _ [_, _, _, _, _, _, _, _, _, _, _, _, _, _] w153 := H229.foc 13 rfl rfl
    have H231 : St w _ [_, _, _, _, _, _, _, _, _, _, _, _, _, _] w153 := H230.foc 13 rfl rfl
    have H232 : St w _ [_, _, _, _, _, _, _, _, _, _, _, _, _, _] w153 := H231.foc 13 rfl rfl
    have H233 : St w _ [_, _, _, _, _, _, _, _, _, _, _, _, _, _] w153 := H232.foc 13 rfl rfl
    have H234 : St w _ [_, _, _, _, _, _, _, _, _, _, _, _, _, _] w153 := H233.foc 12 rfl rfl
    have H235 : St w _ [_, _, _, _, _, _, _, _, _, _, _, _, _, _] w153 := H234.foc 12 rfl rfl
    have H236 : St w _ [_, _, _, _, _, _, _, _, _, _, _, _, _, _] w153 := H235.foc 12 rfl rfl
    have H237 : St w _ [_, _, _, _, _, _, _, _, _, _, _, _, _, _] w153 := H236.foc 12 rfl rfl
    have H238 : St w _ [_, _, _, _, _, _, _, _, _, _, _, _, _, _] w153 := H237.foc 12 rfl rfl
    have H239 : St w _ [_, _, _, _, _, _, _, _, _, _, _, _, _] w153 := H238.take 13 rfl
    exact qj_n ⟨rfl, rfl, rfl, rfl, rfl, rfl, rfl, rfl, H239⟩
  ·
   rintro f159 w160 ⟨s1_240, s3_240, s8_240, s10_240, s14_240, s15_240, s16_240, s19_240, H240⟩
   refine n_then ?_
   refine c_seq ?_
   refine c_seq ?_
   refine c_cut (n := 246) (fun f241 w242 => f241 1 = Ad (bs g1) (0) ∧ f241 3 = v13 ∧ f241 8 = Ad (bs g51) (0) ∧ f241 10 = Ad (bs g66) (0) ∧ f241 170 = .bool (false) ∧ St w [] [EB152, [(g121, Rw 48 ([I (cc114.c.k), .string (bst cc114.c.key), cc114.v]))], E115, [(g109, Rw 48 ([I (cc102.c.k), .string (bst cc102.c.key), cc102.v]))], [(g97, Rw 41 ([I (((n56 : Nat) : Int)), v89]))], [(g66, Rw 41 ([I ((n56 : Nat) : Int), lv57]))], EB60, [(g51, Rw 41 ([I ((n41 : Nat) : Int), lv42]))], EB45, [(g36, Rw 41 ([I ((n26 : Nat) : Int), lv27]))], [(g21, Rw 26 ((rootA (ds.map (fun q : Cl => q.c))).map B8))], EW14, [(g1, Rw 43 ([v0, I (kind), .string (bst key), I (n), lv]))]] w242) ?_ ?_
   ·
    rcases Bool.eq_false_or_eq_true ((checkA (rootA (PL ds)) kind key ((n56 : Nat) : Int) (PE ks90)).2.isSome) with hi243 | hi243
    ·
     have hs244 := s14_240.trans (congrArg Value.bool hi243)
     obtain ⟨hk0, hkc⟩ := ck_some hi243
     have hl0 : 0 < ls58.length := by have := (pe_get hpe95).1; omega
     have hsame21 : sameC cc114.c (ls58.getD 0 lf0).cell.c := by
      rw [hc118, hkc]; exact (le_iff.1 ((pe_get hpe95).2 0 hk0)).2.1
     by_cases hp247 : ((checkA (rootA (PL ds)) kind key ((n56 : Nat) : Int) (PE ks90)).1) = 0
     ·
      refine drawS (.step 0 0 (.step 0 1 (.step 0 2 (.step 0 3 (.step 0 4 (.step 0 5 (.step 0 6 (.step 1 7 (.step 0 8 (.step 0 9 (.step 0 10 (.step 0 11 (.step 0 12 (.step 0 13 (.step 0 14 (.step 0 15 (.step 1 16 (.step 0 17 (.step 0 18 (.step 0 19 .nil)))))))))))))))))))) mixed H240 (by kernel_rfl) (by kernel_rfl) (by kernel_rfl) ?_
      intro w248 H249
      refine pt (v := I (((checkA (rootA (PL ds)) kind key ((n56 : Nat) : Int) (PE ks90)).1 : Nat) : Int)) rfl (fun wS HS => y_move s15_240) ?_
      refine pt (v := .bool (decide (((checkA (rootA (PL ds)) kind key ((n56 : Nat) : Int) (PE ks90)).1) = 0))) rfl (fun wS HS => n_eql (a := (checkA (rootA (PL ds)) kind key ((n56 : Nat) : Int) (PE ks90)).1) (b := 0) rfl rfl) ?_
      refine pt (v := .bool (decide (((checkA (rootA (PL ds)) kind key ((n56 : Nat) : Int) (PE ks90)).1) = 0))) rfl (fun wS HS => y_move rfl) ?_
      refine gpt (v := .bool (true)) rfl (gv_of (t := 153) rfl rfl rfl) (decide_eq_true hp247) (fun wS HS => y_move hs244) ?_
      refine pt (v := .bool (true)) rfl (fun wS HS => y_pickT rfl (decide_eq_true hp247) rfl) ?_
      refine pt (v := .bool (true)) rfl (fun wS HS => y_move rfl) ?_
      refine gpt (v := Ad (bs g129) (0)) rfl (gv_of (t := 156) rfl rfl rfl) (rfl) (fun wS HS => y_move s19_240) ?_
      obtain ⟨s252, s253, hr254⟩ := hB155.rd H249 0 rfl
      refine gpl rfl (gv_of (t := 156) rfl rfl rfl) (rfl) (ow_call fn52 rfl (stays_bc g129 tz149 s252 s253 xz150 uz151 _ hr254 (by first | omega | simp)) ⟨rfl, trivial⟩) ?_
      rintro _ w250 ⟨rfl, hB251⟩
      have H255 : St w _ [_, _, _, _, _, _, _, _, _, _, _, _, _] w250 := H249.call hB251
      refine ⟨H255, ?_⟩
      refine gpt (v := .bool (false)) rfl (gv_of (t := 156) rfl rfl rfl) (rfl) (fun wS HS => y_not (p := true) rfl) ?_
      refine gpt (v := .bool (false)) rfl (gv_of (t := 156) rfl rfl rfl) (rfl) (fun wS HS => y_move rfl) ?_
      refine gpt (v := .agg ([I cc114.c.k, .string (bst cc114.c.key), cc114.v]).toArray) rfl (gv_of (t := 160) rfl rfl rfl) (rfl) (fun wS HS => y_loadA (us := [I (cc114.c.k), .string (bst cc114.c.key), cc114.v]) ag48 sz48 rfl s16_240 (fun j u hu => (HS.cell 1 rfl (by rw [Nat.zero_add]; exact hu)))) ?_
      refine gpt (v := Ad (bs g66) (0 + 1)) rfl (gv_of (t := 160) rfl rfl rfl) (rfl) (fun wS HS => y_fld Try.underlying41 rfl rfl sz39 (by decide) s10_240) ?_
      refine gpt (v := lv57) rfl (gv_of (t := 160) rfl rfl rfl) (rfl) (fun wS HS => y_load sc39 rfl (HS.cell 5 rfl rfl)) ?_
      refine gpt (v := Ad (sp (lv57)) (0 * 5)) rfl (gv_of (t := 160) rfl rfl rfl) (rfl) (fun wS HS => y_ixR (m := 0) Try.underlying39 sz74 (LsP.rd hP64 HS 6 rfl).rd (by decide) rfl rfl rfl (by omega)) ?_
      refine gpt (v := Ad (sp (lv57)) ((0 * 5) + 1)) rfl (gv_of (t := 160) rfl rfl rfl) (rfl) (fun wS HS => y_fld Try.underlying74 rfl rfl sz48 (by decide) rfl) ?_
      refine gpt (v := .agg ([I ((ls58.getD 0 lf0).cell.c.k), .string (bst ((ls58.getD 0 lf0).cell.c.key)), (ls58.getD 0 lf0).cell.v]).toArray) rfl (gv_of (t := 160) rfl rfl rfl) (rfl) (fun wS HS => y_loadA (us := (ls58.getD 0 lf0).cell.cs) ag48 sz48 rfl rfl (fun j u hu => by rw [Nat.add_assoc]; exact (LsP.rd hP64 HS 6 rfl).rd.cell _ _ (flat5_get (i := 0) (by omega) (leaf_mid hu)))) ?_
      refine gpl rfl (gv_of (t := 160) rfl rfl rfl) (rfl) (ow_call fn36 rfl (same_c cc114 ((ls58.getD 0 lf0).cell) _ ⟨ho119.rd H255 2 rfl, hsmho119⟩ ((LsP.rd hP64 H255 6 rfl).at (d := lf0) (i := 0) (by omega)).cell) ⟨rfl, rfl, trivial⟩) ?_
      rintro _ w256 ⟨rfl, hB257⟩
      have H258 : St w _ [_, _, _, _, _, _, _, _, _, _, _, _, _] w256 := H255.call hB257
      refine ⟨H258, ?_⟩
      refine gpt (v := .bool (decide (¬ (sameC cc114.c ((ls58.getD 0 lf0).cell).c)))) rfl (gv_of (t := 160) rfl rfl rfl) (rfl) (fun wS HS => y_notP rfl) ?_
      refine gpt (v := .bool (decide (¬ (sameC cc114.c ((ls58.getD 0 lf0).cell).c)))) rfl (gv_of (t := 156) rfl rfl rfl) (rfl) (fun wS HS => y_pickF rfl (rfl) rfl) ?_
      refine pt (v := .bool (decide (¬ (sameC cc114.c ((ls58.getD 0 lf0).cell).c)))) rfl (fun wS HS => y_pickT rfl (rfl) rfl) ?_
      refine p_nil ?_
      have hq259 : sameC cc114.c ((ls58.getD 0 lf0).cell).c := hsame21
      exact qj_n ⟨s1_240, s3_240, s8_240, s10_240, (Eq.trans (b := .bool (decide (¬ (sameC cc114.c ((ls58.getD 0 lf0).cell).c)))) rfl (congrArg Value.bool (decide_eq_false (not_not_intro hq259)))), H258⟩
     ·
      refine drawS (.step 0 0 (.step 0 1 (.step 0 2 (.step 0 3 (.step 0 4 (.step 0 5 (.step 0 6 (.step 0 7 (.step 0 8 (.step 0 9 (.step 0 10 (.step 0 11 (.step 0 12 (.step 0 13 (.step 0 14 (.step 0 15 (.step 0 16 (.step 0 17 (.step 0 18 (.step 0 19 .nil)))))))))))))))))))) mixed H240 (by kernel_rfl) (by kernel_rfl) (by kernel_rfl) ?_
      intro w264 H265
      refine pt (v := I (((checkA (rootA (PL ds)) kind key ((n56 : Nat) : Int) (PE ks90)).1 : Nat) : Int)) rfl (fun wS HS => y_move s15_240) ?_
      refine pt (v := .bool (decide (((checkA (rootA (PL ds)) kind key ((n56 : Nat) : Int) (PE ks90)).1) = 0))) rfl (fun wS HS => n_eql (a := (checkA (rootA (PL ds)) kind key ((n56 : Nat) : Int) (PE ks90)).1) (b := 0) rfl rfl) ?_
      refine pt (v := .bool (decide (((checkA (rootA (PL ds)) kind key ((n56 : Nat) : Int) (PE ks90)).1) = 0))) rfl (fun wS HS => y_move rfl) ?_
      refine gpno rfl (gv_of (t := 153) rfl rfl rfl) (decide_eq_false hp247) ?_
      refine pt (v := .bool (false)) rfl (fun wS HS => y_pickF (v := .bool (false)) rfl (decide_eq_false hp247) rfl) ?_
      refine pt (v := .bool (false)) rfl (fun wS HS => y_move rfl) ?_
      refine gpno (t := false) (b := true) rfl (gv_of (t := 156) rfl rfl rfl) (rfl) ?_
      refine gpno (t := false) (b := true) rfl (gv_of (t := 156) rfl rfl rfl) (rfl) ?_
      refine gpno (t := false) (b := true) rfl (gv_of (t := 156) rfl rfl rfl) (rfl) ?_
      refine gpno (t := false) (b := true) rfl (gv_of (t := 156) rfl rfl rfl) (rfl) ?_
      refine gpun rfl (gv_of (t := 160) rfl rfl rfl) ?_
      refine gpun rfl (gv_of (t := 160) rfl rfl rfl) ?_
      refine gpun rfl (gv_of (t := 160) rfl rfl rfl) ?_
      refine gpun rfl (gv_of (t := 160) rfl rfl rfl) ?_
      refine gpun rfl (gv_of (t := 160) rfl rfl rfl) ?_
      refine gpun rfl (gv_of (t := 160) rfl rfl rfl) ?_
      refine gpun rfl (gv_of (t := 160) rfl rfl rfl) ?_
      refine gpun rfl (gv_of (t := 160) rfl rfl rfl) ?_
      refine gpno (t := false) (b := true) rfl (gv_of (t := 156) rfl rfl rfl) (rfl) ?_
      refine pt (v := .bool (false)) rfl (fun wS HS => y_pickF (v := .bool (false)) rfl (rfl) rfl) ?_
      refine p_nil ?_
      exact qj_n ⟨s1_240, s3_240, s8_240, s10_240, rfl, H265⟩
    ·
     have hs266 := s14_240.trans (congrArg Value.bool hi243)
     by_cases hp269 : ((checkA (rootA (PL ds)) kind key ((n56 : Nat) : Int) (PE ks90)).1) = 0
     ·
      refine drawS (.step 0 0 (.step 0 1 (.step 0 2 (.step 0 3 (.step 0 4 (.step 0 5 (.step 0 6 (.step 0 7 (.step 0 8 (.step 0 9 (.step 0 10 (.step 0 11 (.step 0 12 (.step 0 13 (.step 0 14 (.step 0 15 (.step 0 16 (.step 0 17 (.step 0 18 (.step 0 19 .nil)))))))))))))))))))) mixed H240 (by kernel_rfl) (by kernel_rfl) (by kernel_rfl) ?_
      intro w274 H275
      refine pt (v := I (((checkA (rootA (PL ds)) kind key ((n56 : Nat) : Int) (PE ks90)).1 : Nat) : Int)) rfl (fun wS HS => y_move s15_240) ?_
      refine pt (v := .bool (decide (((checkA (rootA (PL ds)) kind key ((n56 : Nat) : Int) (PE ks90)).1) = 0))) rfl (fun wS HS => n_eql (a := (checkA (rootA (PL ds)) kind key ((n56 : Nat) : Int) (PE ks90)).1) (b := 0) rfl rfl) ?_
      refine pt (v := .bool (decide (((checkA (rootA (PL ds)) kind key ((n56 : Nat) : Int) (PE ks90)).1) = 0))) rfl (fun wS HS => y_move rfl) ?_
      refine gpt (v := .bool (false)) rfl (gv_of (t := 153) rfl rfl rfl) (decide_eq_true hp269) (fun wS HS => y_move hs266) ?_
      refine pt (v := .bool (false)) rfl (fun wS HS => y_pickT rfl (decide_eq_true hp269) rfl) ?_
      refine pt (v := .bool (false)) rfl (fun wS HS => y_move rfl) ?_
      refine gpno (t := false) (b := true) rfl (gv_of (t := 156) rfl rfl rfl) (rfl) ?_
      refine gpno (t := false) (b := true) rfl (gv_of (t := 156) rfl rfl rfl) (rfl) ?_
      refine gpno (t := false) (b := true) rfl (gv_of (t := 156) rfl rfl rfl) (rfl) ?_
      refine gpno (t := false) (b := true) rfl (gv_of (t := 156) rfl rfl rfl) (rfl) ?_
      refine gpun rfl (gv_of (t := 160) rfl rfl rfl) ?_
      refine gpun rfl (gv_of (t := 160) rfl rfl rfl) ?_
      refine gpun rfl (gv_of (t := 160) rfl rfl rfl) ?_
      refine gpun rfl (gv_of (t := 160) rfl rfl rfl) ?_
      refine gpun rfl (gv_of (t := 160) rfl rfl rfl) ?_
      refine gpun rfl (gv_of (t := 160) rfl rfl rfl) ?_
      refine gpun rfl (gv_of (t := 160) rfl rfl rfl) ?_
      refine gpun rfl (gv_of (t := 160) rfl rfl rfl) ?_
      refine gpno (t := false) (b := true) rfl (gv_of (t := 156) rfl rfl rfl) (rfl) ?_
      refine pt (v := .bool (false)) rfl (fun wS HS => y_pickF (v := .bool (false)) rfl (rfl) rfl) ?_
      refine p_nil ?_
      exact qj_n ⟨s1_240, s3_240, s8_240, s10_240, rfl, H275⟩
     ·
      refine drawS (.step 0 0 (.step 0 1 (.step 0 2 (.step 0 3 (.step 0 4 (.step 0 5 (.step 0 6 (.step 0 7 (.step 0 8 (.step 0 9 (.step 0 10 (.step 0 11 (.step 0 12 (.step 0 13 (.step 0 14 (.step 0 15 (.step 0 16 (.step 0 17 (.step 0 18 (.step 0 19 .nil)))))))))))))))))))) mixed H240 (by kernel_rfl) (by kernel_rfl) (by kernel_rfl) ?_
      intro w280 H281
      refine pt (v := I (((checkA (rootA (PL ds)) kind key ((n56 : Nat) : Int) (PE ks90)).1 : Nat) : Int)) rfl (fun wS HS => y_move s15_240) ?_
      refine pt (v := .bool (decide (((checkA (rootA (PL ds)) kind key ((n56 : Nat) : Int) (PE ks90)).1) = 0))) rfl (fun wS HS => n_eql (a := (checkA (rootA (PL ds)) kind key ((n56 : Nat) : Int) (PE ks90)).1) (b := 0) rfl rfl) ?_
      refine pt (v := .bool (decide (((checkA (rootA (PL ds)) kind key ((n56 : Nat) : Int) (PE ks90)).1) = 0))) rfl (fun wS HS => y_move rfl) ?_
      refine gpno rfl (gv_of (t := 153) rfl rfl rfl) (decide_eq_false hp269) ?_
      refine pt (v := .bool (false)) rfl (fun wS HS => y_pickF (v := .bool (false)) rfl (decide_eq_false hp269) rfl) ?_
      refine pt (v := .bool (false)) rfl (fun wS HS => y_move rfl) ?_
      refine gpno (t := false) (b := true) rfl (gv_of (t := 156) rfl rfl rfl) (rfl) ?_
      refine gpno (t := false) (b := true) rfl (gv_of (t := 156) rfl rfl rfl) (rfl) ?_
      refine gpno (t := false) (b := true) rfl (gv_of (t := 156) rfl rfl rfl) (rfl) ?_
      refine gpno (t := false) (b := true) rfl (gv_of (t := 156) rfl rfl rfl) (rfl) ?_
      refine gpun rfl (gv_of (t := 160) rfl rfl rfl) ?_
      refine gpun rfl (gv_of (t := 160) rfl rfl rfl) ?_
      refine gpun rfl (gv_of (t := 160) rfl rfl rfl) ?_
      refine gpun rfl (gv_of (t := 160) rfl rfl rfl) ?_
      refine gpun rfl (gv_of (t := 160) rfl rfl rfl) ?_
      refine gpun rfl (gv_of (t := 160) rfl rfl rfl) ?_
      refine gpun rfl (gv_of (t := 160) rfl rfl rfl) ?_
      refine gpun rfl (gv_of (t := 160) rfl rfl rfl) ?_
      refine gpno (t := false) (b := true) rfl (gv_of (t := 156) rfl rfl rfl) (rfl) ?_
      refine pt (v := .bool (false)) rfl (fun wS HS => y_pickF (v := .bool (false)) rfl (rfl) rfl) ?_
      refine p_nil ?_
      exact qj_n ⟨s1_240, s3_240, s8_240, s10_240, rfl, H281⟩
   ·
    rintro f241 w242 ⟨s1_282, s3_282, s8_282, s10_282, s170_282, H282⟩
    refine n_then ?_
    refine c_f s170_282 rfl ?_
    refine wp_skip ?_
    refine n_then ?_
    refine c_seq ?_
    refine c_seq ?_
    have H283 : St w _ [_, _, _, _, _, _, _, _, _, _, _, _, _] w242 := H282.foc 11 rfl rfl
    obtain ⟨EWs, FW, rfl, hWS, hFW, hdw, hlw⟩ := hWC
    have H284 := H283.split hdw
    refine c_reg ?_
    refine sy (v := I ((0 : Nat) : Int)) (y_assign (v := I ((0 : Nat) : Int)) rfl) ?_
    refine c_nil ?_
    refine n_then ?_
    refine wp_block ?_
    refine c_loop (fun (ix : Nat) f285 w286 => ∃ (dz : List Cl), ∃ (Fz : Part), f285 1 = Ad (bs g1) (0) ∧ f285 3 = v13 ∧ f285 8 = Ad (bs g51) (0) ∧ f285 10 = Ad (bs g66) (0) ∧ f285 20 = I ((ix : Nat) : Int) ∧ ix ≤ dz.length ∧ WSl v13 dz EWs ∧ CellsW dz Fz ∧ dz.length = ds.length ∧ St w [] [Fz, EWs, EB152, [(g121, Rw 48 ([I (cc114.c.k), .string (bst cc114.c.key), cc114.v]))], E115, [(g109, Rw 48 ([I (cc102.c.k), .string (bst cc102.c.key), cc102.v]))], [(g97, Rw 41 ([I (((n56 : Nat) : Int)), v89]))], [(g66, Rw 41 ([I ((n56 : Nat) : Int), lv57]))], EB60, [(g51, Rw 41 ([I ((n41 : Nat) : Int), lv42]))], EB45, [(g36, Rw 41 ([I ((n26 : Nat) : Int), lv27]))], [(g21, Rw 26 ((rootA (ds.map (fun q : Cl => q.c))).map B8))], [(g1, Rw 43 ([v0, I (kind), .string (bst key), I (n), lv]))]] w286) (fun ix => ds.length - ix) 0 ⟨_, _, s1_282, s3_282, s8_282, s10_282, rfl, (Nat.zero_le _), hWS, hFW, rfl, H284⟩ ?_
    rintro ix f285 w286 ⟨dz, Fz, s1_287, s3_287, s8_287, s10_287, s20_287, hix, hWSz, hFz, hdz, H287⟩
    refine c_seq ?_
    refine c_seq ?_
    refine c_reg ?_
    refine sy (v := I ((ix : Nat) : Int)) (y_move s20_287) ?_
    refine sy (v := v13) (y_move s3_287) ?_
    refine sy (v := I ((dz.length : Nat) : Int)) (y_lenR Try.underlying38 (WSl.rd3 hWSz H287 1 rfl) rfl) ?_
    refine sy (v := .bool (decide (ix < dz.length))) (n_lss (a := ix) (b := dz.length) rfl rfl) ?_
    refine c_nil ?_
    refine n_then ?_
    refine c_if rfl (fun hc288 => ?_) (fun hc288 => ?_)
    ·
     refine wp_skip ?_
     refine n_then ?_
     refine c_seq ?_
     refine wp_block ?_
     refine c_seq ?_
     obtain ⟨Fa, Fi, Fb, H289, hWi, hsm, hFa, hFb⟩ := CellsW.out (i := ix) hFz (by omega) H287
     have hsm2 := hsm.2
     refine c_reg ?_
     refine sy (v := I ((0 : Nat) : Int)) (y_assign (v := I ((0 : Nat) : Int)) rfl) ?_
     refine c_nil ?_
     refine n_then ?_
     refine wp_block ?_
     refine c_loop (fun (jx : Nat) f290 w291 => ∃ (lz : List UInt8), ∃ (Ez : Part), f290 1 = Ad (bs g1) (0) ∧ f290 3 = v13 ∧ f290 8 = Ad (bs g51) (0) ∧ f290 10 = Ad (bs g66) (0) ∧ f290 20 = I ((ix : Nat) : Int) ∧ f290 21 = I ((jx : Nat) : Int) ∧ jx ≤ (dz.getD ix c0).c.l.length ∧ WideP (dz.getD ix c0).v lz Ez ∧ lz.length = (dz.getD ix c0).c.l.length ∧ St w [] [Ez, Fa, Fb, EWs, EB152, [(g121, Rw 48 ([I (cc114.c.k), .string (bst cc114.c.key), cc114.v]))], E115, [(g109, Rw 48 ([I (cc102.c.k), .string (bst cc102.c.key), cc102.v]))], [(g97, Rw 41 ([I (((n56 : Nat) : Int)), v89]))], [(g66, Rw 41 ([I ((n56 : Nat) : Int), lv57]))], EB60, [(g51, Rw 41 ([I ((n41 : Nat) : Int), lv42]))], EB45, [(g36, Rw 41 ([I ((n26 : Nat) : Int), lv27]))], [(g21, Rw 26 ((rootA (ds.map (fun q : Cl => q.c))).map B8))], [(g1, Rw 43 ([v0, I (kind), .string (bst key), I (n), lv]))]] w291) (fun jx => (dz.getD ix c0).c.l.length - jx) 0 ⟨_, _, s1_287, s3_287, s8_287, s10_287, s20_287, rfl, (Nat.zero_le _), hWi, rfl, H289⟩ ?_
     rintro jx f290 w291 ⟨lz, Ez, s1_292, s3_292, s8_292, s10_292, s20_292, s21_292, hjx, hWz, hlz, H292⟩
     refine c_seq ?_
     refine c_seq ?_
     refine c_reg ?_
     refine sy (v := I ((jx : Nat) : Int)) (y_move s21_292) ?_
     refine sy (v := v13) (y_move s3_292) ?_
     refine sy (v := I ((ix : Nat) : Int)) (y_move s20_292) ?_
     refine sy (v := Ad (sp (v13)) (ix * 3)) (y_ixR (m := ix) Try.underlying38 sz48 (WSl.rd3 hWSz H292 3 rfl) (by decide) rfl rfl rfl (by omega)) ?_
     refine sy (v := Ad (sp (v13)) ((ix * 3) + 2)) (y_fld Try.underlying48 rfl rfl sz23 (by decide) rfl) ?_
     refine sy (v := (dz.getD ix c0).v) (y_load sc23 rfl ((WSl.rd3 hWSz H292 3 rfl).cell _ _ (flat3_get (i := ix) (j := 2) (d := c0) (by omega) rfl))) ?_
     refine sy (v := I ((lz.length : Nat) : Int)) (y_lenR Try.underlying23 ((WideP.os hWz).rd H292 0 rfl) rfl) ?_
     refine sy (v := .bool (decide (jx < lz.length))) (n_lss (a := jx) (b := lz.length) rfl rfl) ?_
     refine c_nil ?_
     refine n_then ?_
     refine c_if rfl (fun hc293 => ?_) (fun hc293 => ?_)
     ·
      refine wp_skip ?_
      refine n_then ?_
      refine c_seq ?_
      refine wp_block ?_
      refine c_reg ?_
      refine sy (v := v13) (y_move s3_292) ?_
      refine sy (v := I ((ix : Nat) : Int)) (y_move s20_292) ?_
      refine sy (v := Ad (sp (v13)) (ix * 3)) (y_ixR (m := ix) Try.underlying38 sz48 (WSl.rd3 hWSz H292 3 rfl) (by decide) rfl rfl rfl (by omega)) ?_
      refine sy (v := Ad (sp (v13)) ((ix * 3) + 2)) (y_fld Try.underlying48 rfl rfl sz23 (by decide) rfl) ?_
      refine sy (v := (dz.getD ix c0).v) (y_load sc23 rfl ((WSl.rd3 hWSz H292 3 rfl).cell _ _ (flat3_get (i := ix) (j := 2) (d := c0) (by omega) rfl))) ?_
      refine sy (v := I ((jx : Nat) : Int)) (y_move s21_292) ?_
      refine sy (v := Ad (sp ((dz.getD ix c0).v)) (jx * 1)) (y_ixR (m := jx) Try.underlying23 sz5 ((WideP.os hWz).rd H292 0 rfl) (by decide) rfl rfl rfl (by omega)) ?_
      refine sy (v := B8 (lz.getD jx 0)) (y_load sc5 rfl (((WideP.os hWz).rd H292 0 rfl).cell _ _ (by rw [Nat.mul_one]; exact map_get B8 (l := lz) (k := jx) 0 (by omega)))) ?_
      refine sy (v := B8 ((lz.getD jx 0) ^^^ 1)) (y_xor8 (a := lz.getD jx 0) (b := 1) rfl rfl) ?_
      refine sy (v := Ad (sp ((dz.getD ix c0).v)) (jx * 1)) (y_ixR (m := jx) Try.underlying23 sz5 ((WideP.os hWz).rd H292 0 rfl) (by decide) rfl rfl rfl (by omega)) ?_
      refine s0 (ow_storeW7 (j := jx) hWz H292 sz5 rfl rfl (Nat.mul_one _) (by omega)) ?_
      rintro _ w295 ⟨E294, ho297, H296⟩
      refine c_nil ?_
      refine n_block (n_then ?_)
      refine c_reg ?_
      refine sy (v := I ((jx : Nat) : Int)) (y_move s21_292) ?_
      refine sy (v := I ((jx + 1 : Nat) : Int)) (n_add (a := jx) (b := 1) rfl rfl (by omega)) ?_
      refine sy (v := I ((jx + 1 : Nat) : Int)) (y_assign rfl) ?_
      refine c_nil ?_
      exact lp_next (jx + 1) ⟨(lz.set jx ((lz.getD jx 0) ^^^ 1)), E294, s1_292, s3_292, s8_292, s10_292, s20_292, rfl, (by omega), ho297, (by rw [List.length_set]; exact hlz), H296⟩ (by show _ < _; omega)
     ·
      refine wp_exit ?_
      refine x_then (x_then (x_hit (n_block (n_then ?_))))
      obtain ⟨Fy, hFy, H298⟩ := CellsW.back (i := ix) (c := ⟨⟨(dz.getD ix c0).c.k, (dz.getD ix c0).c.key, lz⟩, (dz.getD ix c0).v⟩) (by omega) hWz ⟨hsm.1, by show lz.length ≤ 1099511627776; omega⟩ hFa hFb H292
      refine c_reg ?_
      refine sy (v := I ((ix : Nat) : Int)) (y_move s20_292) ?_
      refine sy (v := I ((ix + 1 : Nat) : Int)) (n_add (a := ix) (b := 1) rfl rfl (by omega)) ?_
      refine sy (v := I ((ix + 1 : Nat) : Int)) (y_assign rfl) ?_
      refine c_nil ?_
      exact lp_next (ix + 1) ⟨(dz.set ix ⟨⟨(dz.getD ix c0).c.k, (dz.getD ix c0).c.key, lz⟩, (dz.getD ix c0).v⟩), Fy, s1_292, s3_292, s8_292, s10_292, rfl, (by rw [List.length_set]; omega), (hWSz.setl (i := ix) (by omega)), hFy, (by rw [List.length_set]; exact hdz), H298⟩ (by show _ < _; omega)
    ·
     refine wp_exit ?_
     refine x_then (x_then (x_hit (n_then ?_)))
     refine c_seq ?_
     refine c_reg ?_
     refine sy (v := v13) (y_move s3_287) ?_
     refine st (ow_call fn32 rfl (Root_c (v13) dz _ (ws_csr hWSz hFz (by omega) H287 1 0 rfl rfl)) ⟨rfl, trivial⟩) ?_
     rintro _ w299 ⟨rfl, hB300⟩
     have H301 : St w _ [_, _, _, _, _, _, _, _, _, _, _, _, _, _] w299 := H287.call hB300
     refine sy (v := .tuple #[.agg ((rootA (dz.map (fun q : Cl => q.c))).map B8).toArray, I ((wrong (dz.map (fun q : Cl => q.c)) : Nat) : Int)]) (y_move rfl) ?_
     refine sy (v := .agg ((rootA (dz.map (fun q : Cl => q.c))).map B8).toArray) (y_extract (i := 0) rfl rfl) ?_
     refine sy (v := I ((wrong (dz.map (fun q : Cl => q.c)) : Nat) : Int)) (y_extract (i := 1) rfl rfl) ?_
     refine st (ow_alloc (l := (List.replicate 32 0).map B8) H301 zr26 (by simp [Value.cells])) ?_
     rintro _ w303 ⟨g302, rfl, H304⟩
     refine s0 (ow_storeW (us := (rootA (dz.map (fun q : Cl => q.c))).map B8) H304 sz26 ((List.length_map _).trans (rootA_len (dz.map (fun q : Cl => q.c)))) rfl rfl (map_one (F := B8) (fun _ => rfl) _) ((List.length_map _).trans List.length_replicate)) ?_
     rintro _ w305 H306'
     have H306 : St w _ [[(g302, Rw 26 ((rootA (dz.map (fun q : Cl => q.c))).map B8))], _, _, _, _, _, _, _, _, _, _, _, _, _, _] w305 := H306'
     refine sy (v := I ((wrong (dz.map (fun q : Cl => q.c)) : Nat) : Int)) (y_assign rfl) ?_
     refine c_nil ?_
     refine n_then ?_
     refine c_seq ?_
     refine c_reg ?_
     refine sy (v := v13) (y_move s3_287) ?_
     refine st (ow_call fn53 rfl (rRoot_c (v13) dz _ (ws_csr hWSz hFz (by omega) H306 2 1 rfl rfl)) ⟨rfl, trivial⟩) ?_
     rintro _ w307 ⟨rfl, hB308⟩
     have H309 : St w _ [_, _, _, _, _, _, _, _, _, _, _, _, _, _, _] w307 := H306.call hB308
     refine sy (v := .tuple #[.agg ((rootA (dz.map (fun q : Cl => q.c))).map B8).toArray, I ((wrong (dz.map (fun q : Cl => q.c)) : Nat) : Int)]) (y_move rfl) ?_
     refine sy (v := .agg ((rootA (dz.map (fun q : Cl => q.c))).map B8).toArray) (y_extract (i := 0) rfl rfl) ?_
     refine sy (v := I ((wrong (dz.map (fun q : Cl => q.c)) : Nat) : Int)) (y_extract (i := 1) rfl rfl) ?_
     refine st (ow_alloc (l := (List.replicate 32 0).map B8) H309 zr26 (by simp [Value.cells])) ?_
     rintro _ w311 ⟨g310, rfl, H312⟩
     refine s0 (ow_storeW (us := (rootA (dz.map (fun q : Cl => q.c))).map B8) H312 sz26 ((List.length_map _).trans (rootA_len (dz.map (fun q : Cl => q.c)))) rfl rfl (map_one (F := B8) (fun _ => rfl) _) ((List.length_map _).trans List.length_replicate)) ?_
     rintro _ w313 H314'
     have H314 : St w _ [[(g310, Rw 26 ((rootA (dz.map (fun q : Cl => q.c))).map B8))], _, _, _, _, _, _, _, _, _, _, _, _, _, _, _] w313 := H314'
     refine sy (v := I ((wrong (dz.map (fun q : Cl => q.c)) : Nat) : Int)) (y_assign rfl) ?_
     refine c_nil ?_
     refine n_then ?_
     refine c_seq ?_
     refine c_reg ?_
     refine sy (v := v13) (y_move s3_287) ?_
     refine sy (v := Ad (bs g1) (0 + 1)) (y_fld Try.underlying43 rfl rfl sz3 (by decide) s1_287) ?_
     refine sy (v := I (kind)) (y_load sc3 rfl (H314.cell 15 rfl rfl)) ?_
     refine sy (v := Ad (bs g1) (0 + 2)) (y_fld Try.underlying43 rfl rfl sz9 (by decide) s1_287) ?_
     refine sy (v := .string (bst key)) (y_load sc9 rfl (H314.cell 15 rfl rfl)) ?_
     refine st (ow_call fn37 rfl (find_c (kind) (key) (v13) dz _ (ws_csr hWSz hFz (by omega) H314 3 2 rfl rfl)) ⟨rfl, rfl, rfl, trivial⟩) ?_
     rintro _ w320 ⟨n315, lv316, ls317, err318, EB319, rfl, hF322, hP323, H321⟩
     have H324 : St w _ [_, _, _, _, _, _, _, _, _, _, _, _, _, _, _, _, _] w320 := H314.app H321
     refine sy (v := .tuple #[.agg ([I ((n315 : Nat) : Int), lv316]).toArray, I ((err318 : Nat) : Int)]) (y_move rfl) ?_
     refine sy (v := .agg ([I ((n315 : Nat) : Int), lv316]).toArray) (y_extract (i := 0) rfl rfl) ?_
     refine sy (v := I ((err318 : Nat) : Int)) (y_extract (i := 1) rfl rfl) ?_
     refine st (ow_alloc (l := [I ((0 : Nat) : Int), .slice none 0 0]) H324 zr41 rfl) ?_
     rintro _ w326 ⟨g325, rfl, H327⟩
     refine s0 (ow_storeW (us := [I ((n315 : Nat) : Int), lv316]) H327 sz41 rfl rfl rfl (by intro u hu; simp only [List.mem_cons, List.not_mem_nil, or_false] at hu; rcases hu with rfl | rfl <;> first | rfl | exact Rd.one (LsP.rd hP323 H327 1 rfl).rd) (by simp [*])) ?_
     rintro _ w328 H329'
     have H329 : St w _ [[(g325, Rw 41 ([I ((n315 : Nat) : Int), lv316]))], _, _, _, _, _, _, _, _, _, _, _, _, _, _, _, _, _] w328 := H329'
     refine sy (v := I ((err318 : Nat) : Int)) (y_assign rfl) ?_
     refine c_nil ?_
     refine n_then ?_
     refine c_seq ?_
     refine c_reg ?_
     refine sy (v := v13) (y_move s3_287) ?_
     refine sy (v := Ad (bs g1) (0 + 1)) (y_fld Try.underlying43 rfl rfl sz3 (by decide) s1_287) ?_
     refine sy (v := I (kind)) (y_load sc3 rfl (H329.cell 17 rfl rfl)) ?_
     refine sy (v := Ad (bs g1) (0 + 2)) (y_fld Try.underlying43 rfl rfl sz9 (by decide) s1_287) ?_
     refine sy (v := .string (bst key)) (y_load sc9 rfl (H329.cell 17 rfl rfl)) ?_
     refine st (ow_call fn46 rfl (rfind_c (kind) (key) (v13) dz _ (ws_csr hWSz hFz (by omega) H329 5 4 rfl rfl)) ⟨rfl, rfl, rfl, trivial⟩) ?_
     rintro _ w335 ⟨n330, lv331, ls332, err333, EB334, rfl, hF337, hP338, H336⟩
     have H339 : St w _ [_, _, _, _, _, _, _, _, _, _, _, _, _, _, _, _, _, _, _] w335 := H329.app H336
     refine sy (v := .tuple #[.agg ([I ((n330 : Nat) : Int), lv331]).toArray, I ((err333 : Nat) : Int)]) (y_move rfl) ?_
     refine sy (v := .agg ([I ((n330 : Nat) : Int), lv331]).toArray) (y_extract (i := 0) rfl rfl) ?_
     refine sy (v := I ((err333 : Nat) : Int)) (y_extract (i := 1) rfl rfl) ?_
     refine st (ow_alloc (l := [I ((0 : Nat) : Int), .slice none 0 0]) H339 zr41 rfl) ?_
     rintro _ w341 ⟨g340, rfl, H342⟩
     refine s0 (ow_storeW (us := [I ((n330 : Nat) : Int), lv331]) H342 sz41 rfl rfl rfl (by intro u hu; simp only [List.mem_cons, List.not_mem_nil, or_false] at hu; rcases hu with rfl | rfl <;> first | rfl | exact Rd.one (LsP.rd hP338 H342 1 rfl).rd) (by simp [*])) ?_
     rintro _ w343 H344'
     have H344 : St w _ [[(g340, Rw 41 ([I ((n330 : Nat) : Int), lv331]))], _, _, _, _, _, _, _, _, _, _, _, _, _, _, _, _, _, _, _] w343 := H344'
     refine sy (v := I ((err333 : Nat) : Int)) (y_assign rfl) ?_
     refine c_nil ?_
     refine n_then ?_
     refine c_seq ?_
     have hu3 := FindsA.uniq hF322 hF337
     refine c_reg ?_
     refine sy (v := .agg ((rootA (dz.map (fun q : Cl => q.c))).map B8).toArray) (y_loadA (us := (rootA (dz.map (fun q : Cl => q.c))).map B8) ag26 sz26 ((List.length_map _).trans (rootA_len (dz.map (fun q : Cl => q.c)))) rfl (fun j u hu => (H344.cell 5 rfl (by rw [Nat.zero_add]; exact hu)))) ?_
     refine sy (v := .agg ((rootA (dz.map (fun q : Cl => q.c))).map B8).toArray) (y_loadA (us := (rootA (dz.map (fun q : Cl => q.c))).map B8) ag26 sz26 ((List.length_map _).trans (rootA_len (dz.map (fun q : Cl => q.c)))) rfl (fun j u hu => (H344.cell 4 rfl (by rw [Nat.zero_add]; exact hu)))) ?_
     refine sy (v := .bool (decide ((rootA (dz.map (fun q : Cl => q.c))) = (rootA (dz.map (fun q : Cl => q.c)))))) (y_eqlArr (l1 := rootA (dz.map (fun q : Cl => q.c))) (l2 := rootA (dz.map (fun q : Cl => q.c))) Try.underlying26 sz5 sc5 Try.underlying5 gt26 (rootA_len (dz.map (fun q : Cl => q.c))) (rootA_len (dz.map (fun q : Cl => q.c))) rfl rfl) ?_
     refine sy (v := .bool (decide ((rootA (dz.map (fun q : Cl => q.c))) = (rootA (dz.map (fun q : Cl => q.c)))))) (y_move rfl) ?_
     have hq345 : (rootA (dz.map (fun q : Cl => q.c))) = (rootA (dz.map (fun q : Cl => q.c))) := rfl
     refine gsy (v := I ((wrong (dz.map (fun q : Cl => q.c)) : Nat) : Int)) (gv_of (t := 228) rfl rfl rfl) (decide_eq_true hq345) (y_move rfl) ?_
     refine gsy (v := I ((wrong (dz.map (fun q : Cl => q.c)) : Nat) : Int)) (gv_of (t := 228) rfl rfl rfl) (decide_eq_true hq345) (y_move rfl) ?_
     refine gsy (v := .bool (decide ((wrong (dz.map (fun q : Cl => q.c))) = (wrong (dz.map (fun q : Cl => q.c)))))) (gv_of (t := 228) rfl rfl rfl) (decide_eq_true hq345) (n_eql (a := wrong (dz.map (fun q : Cl => q.c))) (b := wrong (dz.map (fun q : Cl => q.c))) rfl rfl) ?_
     refine sy (v := .bool (decide ((wrong (dz.map (fun q : Cl => q.c))) = (wrong (dz.map (fun q : Cl => q.c)))))) (y_pickT rfl (decide_eq_true hq345) rfl) ?_
     refine sy (v := .bool (decide ((wrong (dz.map (fun q : Cl => q.c))) = (wrong (dz.map (fun q : Cl => q.c)))))) (y_move rfl) ?_
     have hq346 : (wrong (dz.map (fun q : Cl => q.c))) = (wrong (dz.map (fun q : Cl => q.c))) := rfl
     refine gsy (v := .agg ([I ((n315 : Nat) : Int), lv316]).toArray) (gv_of (t := 233) rfl rfl rfl) (decide_eq_true hq346) (y_loadA (us := [I ((n315 : Nat) : Int), lv316]) ag41 sz41 rfl rfl (fun j u hu => (H344.cell 2 rfl (by rw [Nat.zero_add]; exact hu)))) ?_
     refine gsy (v := .agg ([I ((n330 : Nat) : Int), lv331]).toArray) (gv_of (t := 233) rfl rfl rfl) (decide_eq_true hq346) (y_loadA (us := [I ((n330 : Nat) : Int), lv331]) ag41 sz41 rfl rfl (fun j u hu => (H344.cell 0 rfl (by rw [Nat.zero_add]; exact hu)))) ?_
     refine gst (gv_of (t := 233) rfl rfl rfl) (decide_eq_true hq346) (ow_call fn39 rfl (samew_yes2 (n := ((n315 : Nat) : Int)) (m := ((n330 : Nat) : Int)) (ls := ls317) (ks := ls332) (LsP.rd hP323 H344 3 rfl) (LsP.rd hP338 H344 1 rfl) ⟨congrArg (fun q : Nat => (q : Int)) hu3.1, hu3.2.1⟩) ⟨rfl, rfl, trivial⟩) ?_
     rintro _ w347 ⟨rfl, hB348⟩
     have H349 : St w _ [_, _, _, _, _, _, _, _, _, _, _, _, _, _, _, _, _, _, _, _] w347 := H344.call hB348
     refine sy (v := .bool (true)) (y_pickT rfl (decide_eq_true hq346) rfl) ?_
     refine sy (v := .bool (true)) (y_move rfl) ?_
     refine gsy (v := .agg ([I ((n41 : Nat) : Int), lv42]).toArray) (gv_of (t := 238) rfl rfl rfl) (rfl) (y_loadA (us := [I ((n41 : Nat) : Int), lv42]) ag41 sz41 rfl s8_287 (fun j u hu => (H349.cell 15 rfl (by rw [Nat.zero_add]; exact hu)))) ?_
     refine gsy (v := .agg ([I ((n56 : Nat) : Int), lv57]).toArray) (gv_of (t := 238) rfl rfl rfl) (rfl) (y_loadA (us := [I ((n56 : Nat) : Int), lv57]) ag41 sz41 rfl s10_287 (fun j u hu => (H349.cell 13 rfl (by rw [Nat.zero_add]; exact hu)))) ?_
     refine gst (gv_of (t := 238) rfl rfl rfl) (rfl) (ow_call fn39 rfl (samew_yes2 (n := ((n41 : Nat) : Int)) (m := ((n56 : Nat) : Int)) (ls := ls43) (ks := ls58) (LsP.rd hP49 H349 16 rfl) (LsP.rd hP64 H349 14 rfl) ⟨congrArg (fun q : Nat => (q : Int)) hu2.1, hu2.2.1⟩) ⟨rfl, rfl, trivial⟩) ?_
     rintro _ w350 ⟨rfl, hB351⟩
     have H352 : St w _ [_, _, _, _, _, _, _, _, _, _, _, _, _, _, _, _, _, _, _, _] w350 := H349.call hB351
     refine sy (v := .bool (true)) (y_pickT rfl (rfl) rfl) ?_
     refine sy (v := .bool (true)) (y_move rfl) ?_
     refine gst (gv_of (t := 243) rfl rfl rfl) (rfl) (ow_call fn34 rfl (fixed19_c _) trivial) ?_
     rintro _ w353 ⟨rfl, hB354⟩
     have H355 : St w _ [_, _, _, _, _, _, _, _, _, _, _, _, _, _, _, _, _, _, _, _] w353 := H352.call hB354
     refine sy (v := .bool (true)) (y_pickT rfl (rfl) rfl) ?_
     refine sy (v := .bool (true)) (y_assign rfl) ?_
     refine c_nil ?_
     refine n_then ?_
     refine wp_ret ?_
     refine e_r1 Try.results9 (rv_t rfl) ?_
     exact ⟨_, rfl, rfl, H355.below⟩

end Go.Proofs.Ytdcmbcjkdhdohaa
