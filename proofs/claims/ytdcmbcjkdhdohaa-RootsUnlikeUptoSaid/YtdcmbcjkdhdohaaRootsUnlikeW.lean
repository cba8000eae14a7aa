/- The walk of RootsUnlike. -/
import Derived.Test.YtdcmbcjkdhdohaaRootsP
namespace Go.Proofs.Ytdcmbcjkdhdohaa
open Go Go.RowKit
set_option linter.unusedSimpArgs false
set_option linter.unusedVariables false
attribute [local irreducible] wpList wpP Code.wp

attribute [local irreducible] leafH innerH topH rootH rootA sha

set_option maxHeartbeats 2000000 in
set_option maxRecDepth 20000 in
theorem rootsUnlike_c (v0 v1 : Value) (cs ds : List Cl) (w : World) (hC : CsR [] w v0 cs) (hD : CsR [] w v1 ds) (hcs : cs.length ≤ 1048576) (hds : ds.length ≤ 1048576) :
    Calls Try.prog 17 (([v0, v1] : List Value).toArray) w (fun e w' => ∃ v, e = .returned v ∧ v = .bool true ∧ Below w.heap.size w w') := by
  refine calls_mk Try.func17 rfl 81 Try.ntmps17 rfl ?_
  have H0 : St w [] [] w := St.refl w
  refine c_seq ?_
  refine c_reg ?_
  refine sy (v := .bool (false)) (y_assign (v := .bool (false)) rfl) ?_
  refine c_nil ?_
  refine n_then ?_
  refine c_seq ?_
  refine c_reg ?_
  refine sy (v := v0) (y_move rfl) ?_
  refine st (ow_call fn32 rfl (Root_c (v0) (cs) _ (hC.st H0).nil) ⟨rfl, trivial⟩) ?_
  rintro _ w1 ⟨rfl, hB2⟩
  have H3 : St w [] [] w1 := H0.call hB2
  refine sy (v := .tuple #[.agg ((rootA (cs.map (fun q : Cl => q.c))).map B8).toArray, I ((wrong (cs.map (fun q : Cl => q.c)) : Nat) : Int)]) (y_move rfl) ?_
  refine sy (v := .agg ((rootA (cs.map (fun q : Cl => q.c))).map B8).toArray) (y_extract (i := 0) rfl rfl) ?_
  refine sy (v := I ((wrong (cs.map (fun q : Cl => q.c)) : Nat) : Int)) (y_extract (i := 1) rfl rfl) ?_
  refine st (ow_alloc (l := (List.replicate 32 0).map B8) H3 zr26 (by simp [Value.cells])) ?_
  rintro _ w5 ⟨g4, rfl, H6⟩
  refine s0 (ow_storeW (us := (rootA (cs.map (fun q : Cl => q.c))).map B8) H6 sz26 ((List.length_map _).trans (rootA_len (cs.map (fun q : Cl => q.c)))) rfl rfl (map_one (F := B8) (fun _ => rfl) _) ((List.length_map _).trans List.length_replicate)) ?_
  rintro _ w7 H8'
  have H8 : St w [] [[(g4, Rw 26 ((rootA (cs.map (fun q : Cl => q.c))).map B8))]] w7 := H8'
  refine sy (v := I ((wrong (cs.map (fun q : Cl => q.c)) : Nat) : Int)) (y_assign rfl) ?_
  refine c_nil ?_
  refine n_then ?_
  refine c_seq ?_
  refine c_reg ?_
  refine sy (v := v1) (y_move rfl) ?_
  refine st (ow_call fn32 rfl (Root_c (v1) (ds) _ (hD.st H8).nil) ⟨rfl, trivial⟩) ?_
  rintro _ w9 ⟨rfl, hB10⟩
  have H11 : St w [] [[(g4, Rw 26 ((rootA (cs.map (fun q : Cl => q.c))).map B8))]] w9 := H8.call hB10
  refine sy (v := .tuple #[.agg ((rootA (ds.map (fun q : Cl => q.c))).map B8).toArray, I ((wrong (ds.map (fun q : Cl => q.c)) : Nat) : Int)]) (y_move rfl) ?_
  refine sy (v := .agg ((rootA (ds.map (fun q : Cl => q.c))).map B8).toArray) (y_extract (i := 0) rfl rfl) ?_
  refine sy (v := I ((wrong (ds.map (fun q : Cl => q.c)) : Nat) : Int)) (y_extract (i := 1) rfl rfl) ?_
  refine st (ow_alloc (l := (List.replicate 32 0).map B8) H11 zr26 (by simp [Value.cells])) ?_
  rintro _ w13 ⟨g12, rfl, H14⟩
  refine s0 (ow_storeW (us := (rootA (ds.map (fun q : Cl => q.c))).map B8) H14 sz26 ((List.length_map _).trans (rootA_len (ds.map (fun q : Cl => q.c)))) rfl rfl (map_one (F := B8) (fun _ => rfl) _) ((List.length_map _).trans List.length_replicate)) ?_
  rintro _ w15 H16'
  have H16 : St w [] [[(g12, Rw 26 ((rootA (ds.map (fun q : Cl => q.c))).map B8))], [(g4, Rw 26 ((rootA (cs.map (fun q : Cl => q.c))).map B8))]] w15 := H16'
  refine sy (v := I ((wrong (ds.map (fun q : Cl => q.c)) : Nat) : Int)) (y_assign rfl) ?_
  refine c_nil ?_
  refine n_then ?_
  refine c_seq ?_
  refine c_seq ?_
  refine c_reg ?_
  refine sy (v := v0) (y_move rfl) ?_
  refine st (ow_call fn33 rfl (Wrong_c (v0) (cs) _ (hC.st H16).nil) ⟨rfl, trivial⟩) ?_
  rintro _ w17 ⟨rfl, hB18⟩
  have H19 : St w [] [[(g12, Rw 26 ((rootA (ds.map (fun q : Cl => q.c))).map B8))], [(g4, Rw 26 ((rootA (cs.map (fun q : Cl => q.c))).map B8))]] w17 := H16.call hB18
  refine sy (v := .bool (decide ((wrong (cs.map (fun q : Cl => q.c))) ≠ 0))) (n_neq (a := wrong (cs.map (fun q : Cl => q.c))) (b := 0) rfl rfl) ?_
  refine sy (v := .bool (decide ((wrong (cs.map (fun q : Cl => q.c))) ≠ 0))) (y_move rfl) ?_
  by_cases hp20 : (wrong (cs.map (fun q : Cl => q.c))) ≠ 0
  · skip
    refine gno (gv_of (t := 24) rfl rfl rfl) (decide_eq_true hp20) ?_
    refine gno (gv_of (t := 24) rfl rfl rfl) (decide_eq_true hp20) ?_
    refine gno (gv_of (t := 24) rfl rfl rfl) (decide_eq_true hp20) ?_
    refine sy (v := .bool (true)) (y_pickT (v := .bool (true)) rfl (decide_eq_true hp20) rfl) ?_
    refine c_nil ?_
    refine n_then ?_
    refine c_t rfl rfl ?_
    refine c_seq ?_
    refine c_reg ?_
    refine sy (v := I ((wrong (cs.map (fun q : Cl => q.c)) : Nat) : Int)) (y_move rfl) ?_
    refine sy (v := .bool (decide ((wrong (cs.map (fun q : Cl => q.c))) ≠ 0))) (n_neq (a := wrong (cs.map (fun q : Cl => q.c))) (b := 0) rfl rfl) ?_
    refine sy (v := .bool (decide ((wrong (cs.map (fun q : Cl => q.c))) ≠ 0))) (y_move rfl) ?_
    refine gno (gv_of (t := 31) rfl rfl rfl) (decide_eq_true hp20) ?_
    refine gno (gv_of (t := 31) rfl rfl rfl) (decide_eq_true hp20) ?_
    refine sy (v := .bool (true)) (y_pickT (v := .bool (true)) rfl (decide_eq_true hp20) rfl) ?_
    refine sy (v := .bool (true)) (y_move rfl) ?_
    refine gst (gv_of (t := 35) rfl rfl rfl) (rfl) (ow_call fn34 rfl (fixed19_c _) trivial) ?_
    rintro _ w21 ⟨rfl, hB22⟩
    have H23 : St w [] [[(g12, Rw 26 ((rootA (ds.map (fun q : Cl => q.c))).map B8))], [(g4, Rw 26 ((rootA (cs.map (fun q : Cl => q.c))).map B8))]] w21 := H19.call hB22
    refine sy (v := .bool (true)) (y_pickT rfl (rfl) rfl) ?_
    refine sy (v := .bool (true)) (y_assign rfl) ?_
    refine c_nil ?_
    refine n_then ?_
    refine wp_ret ?_
    refine r_then ?_
    refine e_r1 Try.results17 (rv_t rfl) ?_
    exact ⟨_, rfl, rfl, H23.below⟩
  · skip
    refine gsy (v := v1) (gv_of (t := 24) rfl rfl rfl) (decide_eq_false hp20) (y_move rfl) ?_
    refine gst (gv_of (t := 24) rfl rfl rfl) (decide_eq_false hp20) (ow_call fn33 rfl (Wrong_c (v1) (ds) _ (hD.st H19).nil) ⟨rfl, trivial⟩) ?_
    rintro _ w24 ⟨rfl, hB25⟩
    have H26 : St w [] [[(g12, Rw 26 ((rootA (ds.map (fun q : Cl => q.c))).map B8))], [(g4, Rw 26 ((rootA (cs.map (fun q : Cl => q.c))).map B8))]] w24 := H19.call hB25
    refine gsy (v := .bool (decide ((wrong (ds.map (fun q : Cl => q.c))) ≠ 0))) (gv_of (t := 24) rfl rfl rfl) (decide_eq_false hp20) (n_neq (a := wrong (ds.map (fun q : Cl => q.c))) (b := 0) rfl rfl) ?_
    refine sy (v := .bool (decide ((wrong (ds.map (fun q : Cl => q.c))) ≠ 0))) (y_pickF rfl (decide_eq_false hp20) rfl) ?_
    refine c_nil ?_
    refine n_then ?_
    refine c_if rfl (fun hc27 => ?_) (fun hc27 => ?_)
    · skip
      refine c_seq ?_
      refine c_reg ?_
      refine sy (v := I ((wrong (cs.map (fun q : Cl => q.c)) : Nat) : Int)) (y_move rfl) ?_
      refine sy (v := .bool (decide ((wrong (cs.map (fun q : Cl => q.c))) ≠ 0))) (n_neq (a := wrong (cs.map (fun q : Cl => q.c))) (b := 0) rfl rfl) ?_
      refine sy (v := .bool (decide ((wrong (cs.map (fun q : Cl => q.c))) ≠ 0))) (y_move rfl) ?_
      refine gsy (v := I ((wrong (ds.map (fun q : Cl => q.c)) : Nat) : Int)) (gv_of (t := 31) rfl rfl rfl) (decide_eq_false hp20) (y_move rfl) ?_
      refine gsy (v := .bool (decide ((wrong (ds.map (fun q : Cl => q.c))) ≠ 0))) (gv_of (t := 31) rfl rfl rfl) (decide_eq_false hp20) (n_neq (a := wrong (ds.map (fun q : Cl => q.c))) (b := 0) rfl rfl) ?_
      refine sy (v := .bool (decide ((wrong (ds.map (fun q : Cl => q.c))) ≠ 0))) (y_pickF rfl (decide_eq_false hp20) rfl) ?_
      refine sy (v := .bool (decide ((wrong (ds.map (fun q : Cl => q.c))) ≠ 0))) (y_move rfl) ?_
      refine gst (gv_of (t := 35) rfl rfl rfl) (decide_eq_true hc27) (ow_call fn34 rfl (fixed19_c _) trivial) ?_
      rintro _ w28 ⟨rfl, hB29⟩
      have H30 : St w [] [[(g12, Rw 26 ((rootA (ds.map (fun q : Cl => q.c))).map B8))], [(g4, Rw 26 ((rootA (cs.map (fun q : Cl => q.c))).map B8))]] w28 := H26.call hB29
      refine sy (v := .bool (true)) (y_pickT rfl (decide_eq_true hc27) rfl) ?_
      refine sy (v := .bool (true)) (y_assign rfl) ?_
      refine c_nil ?_
      refine n_then ?_
      refine wp_ret ?_
      refine r_then ?_
      refine e_r1 Try.results17 (rv_t rfl) ?_
      exact ⟨_, rfl, rfl, H30.below⟩
    · skip
      refine wp_skip ?_
      refine n_then ?_
      refine c_seq ?_
      refine c_reg ?_
      refine sy (v := v0) (y_move rfl) ?_
      refine sy (v := I ((cs.length : Nat) : Int)) (y_lenR Try.underlying38 (hC.st H26).rd rfl) ?_
      refine sy (v := v1) (y_move rfl) ?_
      refine sy (v := I ((ds.length : Nat) : Int)) (y_lenR Try.underlying38 (hD.st H26).rd rfl) ?_
      refine sy (v := .bool (decide (cs.length = ds.length))) (n_eql (a := cs.length) (b := ds.length) rfl rfl) ?_
      refine sy (v := .bool (decide (cs.length = ds.length))) (y_assign rfl) ?_
      refine c_nil ?_
      refine n_then ?_
      refine c_seq ?_
      refine c_seq ?_
      refine c_reg ?_
      refine sy (v := I ((0 : Nat) : Int)) (y_assign (v := I ((0 : Nat) : Int)) rfl) ?_
      refine c_nil ?_
      refine n_then ?_
      refine wp_block ?_
      refine c_loop (fun (i : Nat) f31 w32 => ∃ (al : Bool), f31 0 = v0 ∧ f31 1 = v1 ∧ f31 5 = Ad (bs g4) (0) ∧ f31 6 = I ((wrong (cs.map (fun q : Cl => q.c)) : Nat) : Int) ∧ f31 7 = Ad (bs g12) (0) ∧ f31 8 = I ((wrong (ds.map (fun q : Cl => q.c)) : Nat) : Int) ∧ f31 9 = .bool (al) ∧ f31 10 = I ((i : Nat) : Int) ∧ i ≤ cs.length ∧ (al = true ↔ cs.length = ds.length ∧ ∀ j, j < i → sameC (cs.getD j c0).c (ds.getD j c0).c) ∧ St w [] [[(g12, Rw 26 ((rootA (ds.map (fun q : Cl => q.c))).map B8))], [(g4, Rw 26 ((rootA (cs.map (fun q : Cl => q.c))).map B8))]] w32) (fun i => cs.length - i) 0 ⟨(decide (cs.length = ds.length)), rfl, rfl, rfl, rfl, rfl, rfl, rfl, rfl, (Nat.zero_le _), (by rw [decide_eq_true_eq]; exact ⟨fun h => ⟨h, fun j hj => absurd hj (by omega)⟩, fun h => h.1⟩), H26⟩ ?_
      rintro i f31 w32 ⟨al, s0_33, s1_33, s5_33, s6_33, s7_33, s8_33, s9_33, s10_33, hi, hal, H33⟩
      refine c_seq ?_
      refine c_seq ?_
      refine c_reg ?_
      refine sy (v := I ((i : Nat) : Int)) (y_move s10_33) ?_
      refine sy (v := v0) (y_move s0_33) ?_
      refine sy (v := I ((cs.length : Nat) : Int)) (y_lenR Try.underlying38 (hC.st H33).rd rfl) ?_
      refine sy (v := .bool (decide (i < cs.length))) (n_lss (a := i) (b := cs.length) rfl rfl) ?_
      refine sy (v := .bool (decide (i < cs.length))) (y_move rfl) ?_
      by_cases hp34 : i < cs.length
      · skip
        refine gsy (v := .bool (al)) (gv_of (t := 47) rfl rfl rfl) (decide_eq_true hp34) (y_move s9_33) ?_
        refine sy (v := .bool (al)) (y_pickT rfl (decide_eq_true hp34) rfl) ?_
        refine c_nil ?_
        refine n_then ?_
        refine c_cond rfl (fun hc35 => ?_) (fun hc35 => ?_)
        · skip
          obtain ⟨hll, hlo⟩ := hal.1 hc35
          refine wp_skip ?_
          refine n_then ?_
          refine c_seq ?_
          refine wp_block ?_
          refine drawS (.step 0 0 (.step 0 1 (.step 0 2 (.step 0 3 (.step 0 4 (.step 0 5 (.step 0 6 (.step 0 7 (.step 1 8 (.step 2 9 .nil)))))))))) mixed H33 (by kernel_rfl) (by kernel_rfl) (by kernel_rfl) ?_
          intro w36 H37
          refine pt (v := v0) rfl (fun wS HS => y_move s0_33) ?_
          refine pt (v := I ((i : Nat) : Int)) rfl (fun wS HS => y_move s10_33) ?_
          refine pt (v := Ad (sp (v0)) (i * 3)) rfl (fun wS HS => y_ixR (m := i) Try.underlying38 sz48 (hC.st HS).rd (by decide) rfl rfl rfl (by omega)) ?_
          refine pt (v := .agg ([I ((cs.getD i c0).c.k), .string (bst ((cs.getD i c0).c.key)), (cs.getD i c0).v]).toArray) rfl (fun wS HS => y_loadA (us := (cs.getD i c0).cs) ag48 sz48 rfl rfl (fun j u hu => (hC.st HS).rd.cell _ _ (flat3_get (by omega) hu))) ?_
          refine pt (v := v1) rfl (fun wS HS => y_move s1_33) ?_
          refine pt (v := I ((i : Nat) : Int)) rfl (fun wS HS => y_move s10_33) ?_
          refine pt (v := Ad (sp (v1)) (i * 3)) rfl (fun wS HS => y_ixR (m := i) Try.underlying38 sz48 (hD.st HS).rd (by decide) rfl rfl rfl (by omega)) ?_
          refine pt (v := .agg ([I ((ds.getD i c0).c.k), .string (bst ((ds.getD i c0).c.key)), (ds.getD i c0).v]).toArray) rfl (fun wS HS => y_loadA (us := (ds.getD i c0).cs) ag48 sz48 rfl rfl (fun j u hu => (hD.st HS).rd.cell _ _ (flat3_get (by omega) hu))) ?_
          refine pl rfl (ow_call fn36 rfl (same_c (cs.getD i c0) (ds.getD i c0) _ (CR.st (hC.at (d := c0) (i := i) (by omega)) H37).nil (CR.st (hD.at (d := c0) (i := i) (by omega)) H37).nil) ⟨rfl, rfl, trivial⟩) ?_
          rintro _ w38 ⟨rfl, hB39⟩
          have H40 : St w [] [[(g12, Rw 26 ((rootA (ds.map (fun q : Cl => q.c))).map B8))], [(g4, Rw 26 ((rootA (cs.map (fun q : Cl => q.c))).map B8))]] w38 := H37.call hB39
          refine ⟨H40, ?_⟩
          refine tly (v := .bool (decide (sameC (cs.getD i c0).c (ds.getD i c0).c))) rfl (y_assign rfl) ?_
          refine p_nil ?_
          refine n_block (n_then ?_)
          refine c_reg ?_
          refine sy (v := I ((i : Nat) : Int)) (y_move s10_33) ?_
          refine sy (v := I ((i + 1 : Nat) : Int)) (n_add (a := i) (b := 1) rfl rfl (by omega)) ?_
          refine sy (v := I ((i + 1 : Nat) : Int)) (y_assign rfl) ?_
          refine c_nil ?_
          exact lp_next (i + 1) ⟨(decide (sameC (cs.getD i c0).c (ds.getD i c0).c)), s0_33, s1_33, s5_33, s6_33, s7_33, s8_33, rfl, rfl, (by omega), (by rw [decide_eq_true_eq]; exact ⟨fun h => ⟨hll, (fun j hj => by
            by_cases e : j = i
            · rw [e]; exact h
            · exact hlo j (by omega))⟩, fun h => h.2 i (by omega)⟩), H40⟩ (by show _ < _; omega)
        · skip
          refine wp_exit ?_
          refine x_then (x_then (x_hit (n_then ?_)))
          refine c_seq ?_
          refine c_seq ?_
          have haf : al = false := by assumption
          have hL : al = true ↔ (cs.map (·.c)) = (ds.map (·.c)) := by
            rw [pl_eq]; exact ⟨(fun h => by rw [haf] at h; cases h), fun h => hal.2 ⟨h.1, fun j hj => h.2 j (by omega)⟩⟩
          refine c_reg ?_
          refine sy (v := I ((wrong (cs.map (fun q : Cl => q.c)) : Nat) : Int)) (y_move s6_33) ?_
          refine sy (v := .bool (decide ((wrong (cs.map (fun q : Cl => q.c))) ≠ 0))) (n_neq (a := wrong (cs.map (fun q : Cl => q.c))) (b := 0) rfl rfl) ?_
          refine sy (v := .bool (decide ((wrong (cs.map (fun q : Cl => q.c))) ≠ 0))) (y_move rfl) ?_
          refine gsy (v := I ((wrong (ds.map (fun q : Cl => q.c)) : Nat) : Int)) (gv_of (t := 63) rfl rfl rfl) (decide_eq_false hp20) (y_move s8_33) ?_
          refine gsy (v := .bool (decide ((wrong (ds.map (fun q : Cl => q.c))) ≠ 0))) (gv_of (t := 63) rfl rfl rfl) (decide_eq_false hp20) (n_neq (a := wrong (ds.map (fun q : Cl => q.c))) (b := 0) rfl rfl) ?_
          refine sy (v := .bool (decide ((wrong (ds.map (fun q : Cl => q.c))) ≠ 0))) (y_pickF rfl (decide_eq_false hp20) rfl) ?_
          refine sy (v := .bool (decide ((wrong (ds.map (fun q : Cl => q.c))) ≠ 0))) (y_move rfl) ?_
          refine gsy (v := .bool (al)) (gv_of (t := 67) rfl rfl rfl) (decide_eq_false hc27) (y_move s9_33) ?_
          refine gsy (v := .agg ((rootA (cs.map (fun q : Cl => q.c))).map B8).toArray) (gv_of (t := 67) rfl rfl rfl) (decide_eq_false hc27) (y_loadA (us := (rootA (cs.map (fun q : Cl => q.c))).map B8) ag26 sz26 ((List.length_map _).trans (rootA_len (cs.map (fun q : Cl => q.c)))) s5_33 (fun j u hu => (H33.cell 1 rfl (by rw [Nat.zero_add]; exact hu)))) ?_
          refine gsy (v := .agg ((rootA (ds.map (fun q : Cl => q.c))).map B8).toArray) (gv_of (t := 67) rfl rfl rfl) (decide_eq_false hc27) (y_loadA (us := (rootA (ds.map (fun q : Cl => q.c))).map B8) ag26 sz26 ((List.length_map _).trans (rootA_len (ds.map (fun q : Cl => q.c)))) s7_33 (fun j u hu => (H33.cell 0 rfl (by rw [Nat.zero_add]; exact hu)))) ?_
          refine gsy (v := .bool (decide ((rootA (cs.map (fun q : Cl => q.c))) = (rootA (ds.map (fun q : Cl => q.c)))))) (gv_of (t := 67) rfl rfl rfl) (decide_eq_false hc27) (y_eqlArr (l1 := rootA (cs.map (fun q : Cl => q.c))) (l2 := rootA (ds.map (fun q : Cl => q.c))) Try.underlying26 sz5 sc5 Try.underlying5 gt26 (rootA_len (cs.map (fun q : Cl => q.c))) (rootA_len (ds.map (fun q : Cl => q.c))) rfl rfl) ?_
          refine gsy (v := .bool (decide (¬ (al = true ↔ (rootA (cs.map (fun q : Cl => q.c))) = (rootA (ds.map (fun q : Cl => q.c))))))) (gv_of (t := 67) rfl rfl rfl) (decide_eq_false hc27) (y_neqBP rfl rfl Try.underlying4) ?_
          refine gsy (v := .bool (decide (¬ (al = true ↔ (rootA (cs.map (fun q : Cl => q.c))) = (rootA (ds.map (fun q : Cl => q.c))))))) (gv_of (t := 67) rfl rfl rfl) (decide_eq_false hc27) (y_move rfl) ?_
          by_cases hp41 : ¬ (al = true ↔ (rootA (cs.map (fun q : Cl => q.c))) = (rootA (ds.map (fun q : Cl => q.c))))
          · skip
            refine gsy (v := v0) (gv_of (t := 73) rfl rfl rfl) (decide_eq_true hp41) (y_move s0_33) ?_
            refine gsy (v := v1) (gv_of (t := 73) rfl rfl rfl) (decide_eq_true hp41) (y_move s1_33) ?_
            refine gst (gv_of (t := 73) rfl rfl rfl) (decide_eq_true hp41) (ow_call fn71 rfl (meet_c v0 v1 cs ds _ (hC.st H33) (hD.st H33) (by omega) (by omega) (two_small hC hD)) ⟨rfl, rfl, trivial⟩) ?_
            rintro _ w43 ⟨b42, rfl, hx45, hB44⟩
            have H46 : St w [] [[(g12, Rw 26 ((rootA (ds.map (fun q : Cl => q.c))).map B8))], [(g4, Rw 26 ((rootA (cs.map (fun q : Cl => q.c))).map B8))]] w43 := H33.call hB44
            obtain rfl : b42 = true := hx45.2 (unlike_law (by omega) (by omega) (by rw [List.length_map]; omega) (by rw [List.length_map]; omega) (fun h => hp41 (hL.trans h)))
            refine gsy (v := .bool (false)) (gv_of (t := 73) rfl rfl rfl) (decide_eq_true hp41) (y_not (p := true) rfl) ?_
            refine gsy (v := .bool (false)) (gv_of (t := 67) rfl rfl rfl) (decide_eq_false hc27) (y_pickT rfl (decide_eq_true hp41) rfl) ?_
            refine sy (v := .bool (false)) (y_pickF rfl (decide_eq_false hc27) rfl) ?_
            refine c_nil ?_
            refine n_then ?_
            refine c_f rfl rfl ?_
            refine wp_skip ?_
            refine n_then ?_
            refine c_seq ?_
            refine c_reg ?_
            refine st (ow_call fn34 rfl (fixed19_c _) trivial) ?_
            rintro _ w47 ⟨rfl, hB48⟩
            have H49 : St w [] [[(g12, Rw 26 ((rootA (ds.map (fun q : Cl => q.c))).map B8))], [(g4, Rw 26 ((rootA (cs.map (fun q : Cl => q.c))).map B8))]] w47 := H46.call hB48
            refine sy (v := .bool (true)) (y_assign rfl) ?_
            refine c_nil ?_
            refine n_then ?_
            refine wp_ret ?_
            refine e_r1 Try.results17 (rv_t rfl) ?_
            exact ⟨_, rfl, rfl, H49.below⟩
          · skip
            refine gno (gv_of (t := 73) rfl rfl rfl) (decide_eq_false hp41) ?_
            refine gno (gv_of (t := 73) rfl rfl rfl) (decide_eq_false hp41) ?_
            refine gno (gv_of (t := 73) rfl rfl rfl) (decide_eq_false hp41) ?_
            refine gno (gv_of (t := 73) rfl rfl rfl) (decide_eq_false hp41) ?_
            refine gsy (v := .bool (false)) (gv_of (t := 67) rfl rfl rfl) (decide_eq_false hc27) (y_pickF (v := .bool (false)) rfl (decide_eq_false hp41) rfl) ?_
            refine sy (v := .bool (false)) (y_pickF rfl (decide_eq_false hc27) rfl) ?_
            refine c_nil ?_
            refine n_then ?_
            refine c_f rfl rfl ?_
            refine wp_skip ?_
            refine n_then ?_
            refine c_seq ?_
            refine c_reg ?_
            refine st (ow_call fn34 rfl (fixed19_c _) trivial) ?_
            rintro _ w50 ⟨rfl, hB51⟩
            have H52 : St w [] [[(g12, Rw 26 ((rootA (ds.map (fun q : Cl => q.c))).map B8))], [(g4, Rw 26 ((rootA (cs.map (fun q : Cl => q.c))).map B8))]] w50 := H33.call hB51
            refine sy (v := .bool (true)) (y_assign rfl) ?_
            refine c_nil ?_
            refine n_then ?_
            refine wp_ret ?_
            refine e_r1 Try.results17 (rv_t rfl) ?_
            exact ⟨_, rfl, rfl, H52.below⟩
      · skip
        refine gno (gv_of (t := 47) rfl rfl rfl) (decide_eq_false hp34) ?_
        refine sy (v := .bool (false)) (y_pickF (v := .bool (false)) rfl (decide_eq_false hp34) rfl) ?_
        refine c_nil ?_
        refine n_then ?_
        refine c_f rfl rfl ?_
        refine wp_exit ?_
        refine x_then (x_then (x_hit (n_then ?_)))
        refine c_seq ?_
        refine c_seq ?_
        obtain rfl : i = cs.length := by omega
        have hL : al = true ↔ (cs.map (·.c)) = (ds.map (·.c)) := by rw [pl_eq]; exact hal
        refine c_reg ?_
        refine sy (v := I ((wrong (cs.map (fun q : Cl => q.c)) : Nat) : Int)) (y_move s6_33) ?_
        refine sy (v := .bool (decide ((wrong (cs.map (fun q : Cl => q.c))) ≠ 0))) (n_neq (a := wrong (cs.map (fun q : Cl => q.c))) (b := 0) rfl rfl) ?_
        refine sy (v := .bool (decide ((wrong (cs.map (fun q : Cl => q.c))) ≠ 0))) (y_move rfl) ?_
        refine gsy (v := I ((wrong (ds.map (fun q : Cl => q.c)) : Nat) : Int)) (gv_of (t := 63) rfl rfl rfl) (decide_eq_false hp20) (y_move s8_33) ?_
        refine gsy (v := .bool (decide ((wrong (ds.map (fun q : Cl => q.c))) ≠ 0))) (gv_of (t := 63) rfl rfl rfl) (decide_eq_false hp20) (n_neq (a := wrong (ds.map (fun q : Cl => q.c))) (b := 0) rfl rfl) ?_
        refine sy (v := .bool (decide ((wrong (ds.map (fun q : Cl => q.c))) ≠ 0))) (y_pickF rfl (decide_eq_false hp20) rfl) ?_
        refine sy (v := .bool (decide ((wrong (ds.map (fun q : Cl => q.c))) ≠ 0))) (y_move rfl) ?_
        refine gsy (v := .bool (al)) (gv_of (t := 67) rfl rfl rfl) (decide_eq_false hc27) (y_move s9_33) ?_
        refine gsy (v := .agg ((rootA (cs.map (fun q : Cl => q.c))).map B8).toArray) (gv_of (t := 67) rfl rfl rfl) (decide_eq_false hc27) (y_loadA (us := (rootA (cs.map (fun q : Cl => q.c))).map B8) ag26 sz26 ((List.length_map _).trans (rootA_len (cs.map (fun q : Cl => q.c)))) s5_33 (fun j u hu => (H33.cell 1 rfl (by rw [Nat.zero_add]; exact hu)))) ?_
        refine gsy (v := .agg ((rootA (ds.map (fun q : Cl => q.c))).map B8).toArray) (gv_of (t := 67) rfl rfl rfl) (decide_eq_false hc27) (y_loadA (us := (rootA (ds.map (fun q : Cl => q.c))).map B8) ag26 sz26 ((List.length_map _).trans (rootA_len (ds.map (fun q : Cl => q.c)))) s7_33 (fun j u hu => (H33.cell 0 rfl (by rw [Nat.zero_add]; exact hu)))) ?_
        refine gsy (v := .bool (decide ((rootA (cs.map (fun q : Cl => q.c))) = (rootA (ds.map (fun q : Cl => q.c)))))) (gv_of (t := 67) rfl rfl rfl) (decide_eq_false hc27) (y_eqlArr (l1 := rootA (cs.map (fun q : Cl => q.c))) (l2 := rootA (ds.map (fun q : Cl => q.c))) Try.underlying26 sz5 sc5 Try.underlying5 gt26 (rootA_len (cs.map (fun q : Cl => q.c))) (rootA_len (ds.map (fun q : Cl => q.c))) rfl rfl) ?_
        refine gsy (v := .bool (decide (¬ (al = true ↔ (rootA (cs.map (fun q : Cl => q.c))) = (rootA (ds.map (fun q : Cl => q.c))))))) (gv_of (t := 67) rfl rfl rfl) (decide_eq_false hc27) (y_neqBP rfl rfl Try.underlying4) ?_
        refine gsy (v := .bool (decide (¬ (al = true ↔ (rootA (cs.map (fun q : Cl => q.c))) = (rootA (ds.map (fun q : Cl => q.c))))))) (gv_of (t := 67) rfl rfl rfl) (decide_eq_false hc27) (y_move rfl) ?_
        by_cases hp53 : ¬ (al = true ↔ (rootA (cs.map (fun q : Cl => q.c))) = (rootA (ds.map (fun q : Cl => q.c))))
        · skip
          refine gsy (v := v0) (gv_of (t := 73) rfl rfl rfl) (decide_eq_true hp53) (y_move s0_33) ?_
          refine gsy (v := v1) (gv_of (t := 73) rfl rfl rfl) (decide_eq_true hp53) (y_move s1_33) ?_
          refine gst (gv_of (t := 73) rfl rfl rfl) (decide_eq_true hp53) (ow_call fn71 rfl (meet_c v0 v1 cs ds _ (hC.st H33) (hD.st H33) (by omega) (by omega) (two_small hC hD)) ⟨rfl, rfl, trivial⟩) ?_
          rintro _ w55 ⟨b54, rfl, hx57, hB56⟩
          have H58 : St w [] [[(g12, Rw 26 ((rootA (ds.map (fun q : Cl => q.c))).map B8))], [(g4, Rw 26 ((rootA (cs.map (fun q : Cl => q.c))).map B8))]] w55 := H33.call hB56
          obtain rfl : b54 = true := hx57.2 (unlike_law (by omega) (by omega) (by rw [List.length_map]; omega) (by rw [List.length_map]; omega) (fun h => hp53 (hL.trans h)))
          refine gsy (v := .bool (false)) (gv_of (t := 73) rfl rfl rfl) (decide_eq_true hp53) (y_not (p := true) rfl) ?_
          refine gsy (v := .bool (false)) (gv_of (t := 67) rfl rfl rfl) (decide_eq_false hc27) (y_pickT rfl (decide_eq_true hp53) rfl) ?_
          refine sy (v := .bool (false)) (y_pickF rfl (decide_eq_false hc27) rfl) ?_
          refine c_nil ?_
          refine n_then ?_
          refine c_f rfl rfl ?_
          refine wp_skip ?_
          refine n_then ?_
          refine c_seq ?_
          refine c_reg ?_
          refine st (ow_call fn34 rfl (fixed19_c _) trivial) ?_
          rintro _ w59 ⟨rfl, hB60⟩
          have H61 : St w [] [[(g12, Rw 26 ((rootA (ds.map (fun q : Cl => q.c))).map B8))], [(g4, Rw 26 ((rootA (cs.map (fun q : Cl => q.c))).map B8))]] w59 := H58.call hB60
          refine sy (v := .bool (true)) (y_assign rfl) ?_
          refine c_nil ?_
          refine n_then ?_
          refine wp_ret ?_
          refine e_r1 Try.results17 (rv_t rfl) ?_
          exact ⟨_, rfl, rfl, H61.below⟩
        · skip
          refine gno (gv_of (t := 73) rfl rfl rfl) (decide_eq_false hp53) ?_
          refine gno (gv_of (t := 73) rfl rfl rfl) (decide_eq_false hp53) ?_
          refine gno (gv_of (t := 73) rfl rfl rfl) (decide_eq_false hp53) ?_
          refine gno (gv_of (t := 73) rfl rfl rfl) (decide_eq_false hp53) ?_
          refine gsy (v := .bool (false)) (gv_of (t := 67) rfl rfl rfl) (decide_eq_false hc27) (y_pickF (v := .bool (false)) rfl (decide_eq_false hp53) rfl) ?_
          refine sy (v := .bool (false)) (y_pickF rfl (decide_eq_false hc27) rfl) ?_
          refine c_nil ?_
          refine n_then ?_
          refine c_f rfl rfl ?_
          refine wp_skip ?_
          refine n_then ?_
          refine c_seq ?_
          refine c_reg ?_
          refine st (ow_call fn34 rfl (fixed19_c _) trivial) ?_
          rintro _ w62 ⟨rfl, hB63⟩
          have H64 : St w [] [[(g12, Rw 26 ((rootA (ds.map (fun q : Cl => q.c))).map B8))], [(g4, Rw 26 ((rootA (cs.map (fun q : Cl => q.c))).map B8))]] w62 := H33.call hB63
          refine sy (v := .bool (true)) (y_assign rfl) ?_
          refine c_nil ?_
          refine n_then ?_
          refine wp_ret ?_
          refine e_r1 Try.results17 (rv_t rfl) ?_
          exact ⟨_, rfl, rfl, H64.below⟩

end Go.Proofs.Ytdcmbcjkdhdohaa
