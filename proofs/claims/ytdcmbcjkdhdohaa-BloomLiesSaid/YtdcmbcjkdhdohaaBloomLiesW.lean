/- The walk of BloomLies. -/
import Derived.Test.YtdcmbcjkdhdohaaBloom6
import Derived.Test.YtdcmbcjkdhdohaaHashT
import Derived.Test.YtdcmbcjkdhdohaaBloomP
namespace Go.Proofs.Ytdcmbcjkdhdohaa
open Go Go.RowKit
set_option linter.unusedSimpArgs false
set_option linter.unusedVariables false
attribute [local irreducible] wpList wpP Code.wp

set_option maxHeartbeats 4000000 in
set_option maxRecDepth 20000 in
theorem bloomLies_c (x : UInt64) (lv v1 : Value) (hs : List (List UInt8)) (h b : List UInt8) (w : World) (hh : H32 hs) (hH : Rd [] w 32 lv hs.length (hs.flatten.map B8)) (hlen : hs.length * 32 ≤ 140737488351232) (hl32 : h.length = 32) (hB : Rd [] w 1 v1 b.length (b.map B8)) (hb : b.length ≤ 140737488351232) :
    Calls Try.prog 13 (([.agg (U64 x :: lv :: h.map B8).toArray, v1] : List Value).toArray) w (fun e w' => ∃ v, e = .returned v ∧ v = .bool true ∧ Below w.heap.size w w') := by
  refine calls_mk Try.func13 rfl 150 Try.ntmps13 rfl ?_
  have H0 : St w [] [] w := St.refl w
  refine c_seq ?_
  refine c_reg ?_
  refine st (ow_box (l := U64 x :: lv :: h.map B8) H0 rfl rfl) ?_
  rintro _ w2 ⟨g1, rfl, H3⟩
  refine sy (v := .bool (false)) (y_assign (v := .bool (false)) rfl) ?_
  refine c_nil ?_
  refine n_then ?_
  refine c_seq ?_
  refine c_reg ?_
  refine st (ow_call fn31 rfl (bfixed_c _) trivial) ?_
  rintro _ w4 ⟨rfl, hB5⟩
  have H6 : St w [] [[(g1, Rw 76 (U64 x :: lv :: h.map B8))]] w4 := H3.call hB5
  refine sy (v := .bool (true)) (y_assign rfl) ?_
  refine c_nil ?_
  refine n_then ?_
  refine c_seq ?_
  refine c_reg ?_
  refine st (ow_lit0 Try.underlying72 sz26 zr26 H6) ?_
  rintro _ w8 ⟨g7, rfl, H9⟩
  refine sy (v := Ad (bs g1) (0 + 1)) (y_fld Try.underlying76 rfl rfl sz72 (by decide) rfl) ?_
  refine sy (v := lv) (y_load sc72 rfl (H9.cell 1 rfl rfl)) ?_
  refine st (ow_appH (hs := ([] : List (List UInt8))) (ks := hs) Try.underlying72 sz26 zr26 bt26 rfl Try.underlying72 (os_hb (n := 0) hh_nil rfl (by unfold maxLen; omega)) H9 rfl rfl (hH.st H9) (by first | omega | (simp only [List.length_append, List.length_cons, List.length_nil]; omega))) ?_
  rintro v12 w13 ⟨E11, ho15, H14⟩
  have hh16 : H32 (hs) := hh
  refine sy (v := v12) (y_assign rfl) ?_
  refine c_nil ?_
  refine n_then ?_
  refine c_seq ?_
  refine c_reg ?_
  refine sy (v := v12) (y_move rfl) ?_
  refine sy (v := Ad (bs g1) (0 + 2)) (y_fld Try.underlying76 rfl rfl sz26 (by decide) rfl) ?_
  refine sy (v := .agg (h.map B8).toArray) (y_loadA (us := h.map B8) ag26 sz26 ((List.length_map _).trans hl32) rfl (fun j u hu => (H14.cell 1 rfl (by rw [show 0 + 2 + j = j + 2 by omega]; exact hu)))) ?_
  refine st (ow_lit1 (h := h) Try.underlying72 sz26 zr26 H14 rfl hl32) ?_
  rintro _ w18 ⟨g17, rfl, H19⟩
  have hh20 : H32 [h] := hh_one hl32
  have H27 : St w [] [E11, [(g17, Rw 26 (([h]).flatten.map B8))], [(g1, Rw 76 (U64 x :: lv :: h.map B8))]] w18 := H19.foc 1 rfl rfl
  refine st (ow_appH (hs := hs) (ks := [h]) Try.underlying72 sz26 zr26 bt26 rfl Try.underlying72 ho15 H27 rfl rfl (rd_hblk H27 1 rfl hh20 rfl (by unfold maxLen; omega)) (by first | omega | (simp only [List.length_append, List.length_cons, List.length_nil]; omega))) ?_
  rintro v22 w23 ⟨E21, ho25, H24⟩
  have hh26 : H32 (hs ++ ([h])) := hh_app hh16 hh20
  refine sy (v := v22) (y_assign rfl) ?_
  refine c_nil ?_
  refine n_then ?_
  refine c_seq ?_
  have hLl : (hs ++ [h]).length = hs.length + 1 := by simp
  have hdl : (bloomOf x (hs ++ [h])).length ≤ 8192 := by have := okS_le (bl_ok (x := x) (hs := hs ++ [h])); omega
  refine c_reg ?_
  refine sy (v := Ad (bs g1) (0 + 0)) (y_fld Try.underlying76 rfl rfl sz59 (by decide) rfl) ?_
  refine sy (v := U64 (x)) (y_load sc59 rfl (H24.cell 2 rfl rfl)) ?_
  refine sy (v := v22) (y_move rfl) ?_
  refine st (ow_call fn55 rfl (of55_os (x) (v22) (hs ++ ([h])) _ ((ho25.rd H24 0 rfl)).nil hh26 (by first | omega | (simp only [List.length_take]; omega))) ⟨rfl, rfl, trivial⟩) ?_
  rintro v28 w29 ⟨E30, ho31, H32⟩
  have H33 : St w [] [E30, E21, [(g17, Rw 26 (([h]).flatten.map B8))], [(g1, Rw 76 (U64 x :: lv :: h.map B8))]] w29 := H24.app H32
  refine sy (v := v28) (y_assign rfl) ?_
  refine c_nil ?_
  refine n_then ?_
  refine c_seq ?_
  refine c_reg ?_
  refine sy (v := v28) (y_move rfl) ?_
  refine st (ow_call fn62 rfl (right_c (v28) (bloomOf x (hs ++ ([h]))) _ ((ho31.rd H33 0 rfl)).nil) ⟨rfl, trivial⟩) ?_
  rintro _ w34 ⟨rfl, hB35⟩
  have H36 : St w [] [E30, E21, [(g17, Rw 26 (([h]).flatten.map B8))], [(g1, Rw 76 (U64 x :: lv :: h.map B8))]] w34 := H33.call hB35
  refine sy (v := .bool (decide (okS (((bloomOf x (hs ++ ([h]))).length : Nat) : Int)))) (y_assign rfl) ?_
  refine c_nil ?_
  refine n_then ?_
  refine c_seq ?_
  refine c_reg ?_
  refine sy (v := v28) (y_move rfl) ?_
  refine st (ow_call fn63 rfl (count_c (v28) (bloomOf x (hs ++ ([h]))) _ ((ho31.rd H36 0 rfl)).nil (by omega)) ⟨rfl, trivial⟩) ?_
  rintro _ w37 ⟨rfl, hB38⟩
  have H39 : St w [] [E30, E21, [(g17, Rw 26 (([h]).flatten.map B8))], [(g1, Rw 76 (U64 x :: lv :: h.map B8))]] w37 := H36.call hB38
  refine sy (v := I ((cntN (bloomOf x (hs ++ ([h]))) (8 * (bloomOf x (hs ++ ([h]))).length) : Nat) : Int)) (y_assign rfl) ?_
  refine c_nil ?_
  refine n_then ?_
  refine c_seq ?_
  refine c_seq ?_
  have hc1 : 1 ≤ cntN (bloomOf x (hs ++ [h])) (8 * (bloomOf x (hs ++ [h])).length) := bl_one (x := x) (hs := hs ++ [h]) (h := h) (by simp)
  have hc2 := bl_cnt (x := x) (hs := hs ++ [h])
  refine c_reg ?_
  refine sy (v := .bool (true)) (y_move rfl) ?_
  refine sy (v := .bool (false)) (y_not (p := true) rfl) ?_
  refine sy (v := .bool (false)) (y_move rfl) ?_
  refine gsy (v := .bool (decide (okS (((bloomOf x (hs ++ ([h]))).length : Nat) : Int)))) (gv_of (t := 41) rfl rfl rfl) (rfl) (y_move rfl) ?_
  refine gsy (v := .bool (decide (¬ (okS (((bloomOf x (hs ++ ([h]))).length : Nat) : Int))))) (gv_of (t := 41) rfl rfl rfl) (rfl) (y_notP rfl) ?_
  refine sy (v := .bool (decide (¬ (okS (((bloomOf x (hs ++ ([h]))).length : Nat) : Int))))) (y_pickF rfl (rfl) rfl) ?_
  refine sy (v := .bool (decide (¬ (okS (((bloomOf x (hs ++ ([h]))).length : Nat) : Int))))) (y_move rfl) ?_
  have hq40 : okS (((bloomOf x (hs ++ ([h]))).length : Nat) : Int) := bl_ok
  refine gsy (v := v28) (gv_of (t := 45) rfl rfl rfl) (decide_eq_false (not_not_intro hq40)) (y_move rfl) ?_
  refine gsy (v := I (((bloomOf x (hs ++ ([h]))).length : Nat) : Int)) (gv_of (t := 45) rfl rfl rfl) (decide_eq_false (not_not_intro hq40)) (y_lenR Try.underlying23 (ho31.rd H39 0 rfl) rfl) ?_
  refine gsy (v := v22) (gv_of (t := 45) rfl rfl rfl) (decide_eq_false (not_not_intro hq40)) (y_move rfl) ?_
  refine gsy (v := I (((hs ++ ([h])).length : Nat) : Int)) (gv_of (t := 45) rfl rfl rfl) (decide_eq_false (not_not_intro hq40)) (y_lenR Try.underlying72 (ho25.rd H39 1 rfl) rfl) ?_
  refine gst (gv_of (t := 45) rfl rfl rfl) (decide_eq_false (not_not_intro hq40)) (ow_call fn68 rfl (size_c ((hs ++ ([h])).length) _ (by omega)) ⟨rfl, trivial⟩) ?_
  rintro _ w41 ⟨rfl, hB42⟩
  have H43 : St w [] [E30, E21, [(g17, Rw 26 (([h]).flatten.map B8))], [(g1, Rw 76 (U64 x :: lv :: h.map B8))]] w41 := H39.call hB42
  refine gsy (v := .bool (decide (((bloomOf x (hs ++ ([h]))).length) ≠ (bsz ((hs ++ ([h])).length))))) (gv_of (t := 45) rfl rfl rfl) (decide_eq_false (not_not_intro hq40)) (n_neq (a := (bloomOf x (hs ++ ([h]))).length) (b := bsz ((hs ++ ([h])).length)) rfl rfl) ?_
  refine sy (v := .bool (decide (((bloomOf x (hs ++ ([h]))).length) ≠ (bsz ((hs ++ ([h])).length))))) (y_pickF rfl (decide_eq_false (not_not_intro hq40)) rfl) ?_
  refine sy (v := .bool (decide (((bloomOf x (hs ++ ([h]))).length) ≠ (bsz ((hs ++ ([h])).length))))) (y_move rfl) ?_
  have hq44 : ¬ (((bloomOf x (hs ++ ([h]))).length) ≠ (bsz ((hs ++ ([h])).length))) := (by rw [bloomOf_length]; exact fun h => h rfl)
  refine gsy (v := I ((cntN (bloomOf x (hs ++ ([h]))) (8 * (bloomOf x (hs ++ ([h]))).length) : Nat) : Int)) (gv_of (t := 53) rfl rfl rfl) (decide_eq_false hq44) (y_move rfl) ?_
  refine gsy (v := .bool (decide ((cntN (bloomOf x (hs ++ ([h]))) (8 * (bloomOf x (hs ++ ([h]))).length)) < 1))) (gv_of (t := 53) rfl rfl rfl) (decide_eq_false hq44) (n_lss (a := cntN (bloomOf x (hs ++ ([h]))) (8 * (bloomOf x (hs ++ ([h]))).length)) (b := 1) rfl rfl) ?_
  refine sy (v := .bool (decide ((cntN (bloomOf x (hs ++ ([h]))) (8 * (bloomOf x (hs ++ ([h]))).length)) < 1))) (y_pickF rfl (decide_eq_false hq44) rfl) ?_
  refine sy (v := .bool (decide ((cntN (bloomOf x (hs ++ ([h]))) (8 * (bloomOf x (hs ++ ([h]))).length)) < 1))) (y_move rfl) ?_
  have hq45 : ¬ ((cntN (bloomOf x (hs ++ ([h]))) (8 * (bloomOf x (hs ++ ([h]))).length)) < 1) := (by omega)
  refine gsy (v := I ((cntN (bloomOf x (hs ++ ([h]))) (8 * (bloomOf x (hs ++ ([h]))).length) : Nat) : Int)) (gv_of (t := 57) rfl rfl rfl) (decide_eq_false hq45) (y_move rfl) ?_
  refine gsy (v := v22) (gv_of (t := 57) rfl rfl rfl) (decide_eq_false hq45) (y_move rfl) ?_
  refine gsy (v := I (((hs ++ ([h])).length : Nat) : Int)) (gv_of (t := 57) rfl rfl rfl) (decide_eq_false hq45) (y_lenR Try.underlying72 (ho25.rd H43 1 rfl) rfl) ?_
  refine gsy (v := I ((4 * ((hs ++ ([h])).length) : Nat) : Int)) (gv_of (t := 57) rfl rfl rfl) (decide_eq_false hq45) (n_mul (a := 4) (b := (hs ++ ([h])).length) rfl rfl (by omega)) ?_
  refine gsy (v := .bool (decide ((4 * ((hs ++ ([h])).length)) < (cntN (bloomOf x (hs ++ ([h]))) (8 * (bloomOf x (hs ++ ([h]))).length))))) (gv_of (t := 57) rfl rfl rfl) (decide_eq_false hq45) (n_gtr (a := cntN (bloomOf x (hs ++ ([h]))) (8 * (bloomOf x (hs ++ ([h]))).length)) (b := 4 * ((hs ++ ([h])).length)) rfl rfl) ?_
  refine sy (v := .bool (decide ((4 * ((hs ++ ([h])).length)) < (cntN (bloomOf x (hs ++ ([h]))) (8 * (bloomOf x (hs ++ ([h]))).length))))) (y_pickF rfl (decide_eq_false hq45) rfl) ?_
  refine c_nil ?_
  refine n_then ?_
  have hq46 : ¬ ((4 * ((hs ++ ([h])).length)) < (cntN (bloomOf x (hs ++ ([h]))) (8 * (bloomOf x (hs ++ ([h]))).length))) := (by omega)
  refine c_f rfl (decide_eq_false hq46) ?_
  refine wp_skip ?_
  refine n_then ?_
  refine c_seq ?_
  refine c_reg ?_
  refine sy (v := v28) (y_move rfl) ?_
  refine sy (v := v1) (y_move rfl) ?_
  refine st (ow_call fn60 rfl (join_c (v28) (v1) (bloomOf x (hs ++ ([h]))) (b) _ ((ho31.rd H43 0 rfl)).nil ((hB.st H43)).nil (by omega)) ⟨rfl, rfl, trivial⟩) ?_
  rintro _ w48 ⟨v47, E49, rfl, ho50, H51⟩
  have H52 : St w [] [E49, E30, E21, [(g17, Rw 26 (([h]).flatten.map B8))], [(g1, Rw 76 (U64 x :: lv :: h.map B8))]] w48 := H43.app H51
  refine sy (v := .tuple #[v47, I ((joinE (bloomOf x (hs ++ ([h]))) b : Nat) : Int)]) (y_move rfl) ?_
  refine sy (v := v47) (y_extract (i := 0) rfl rfl) ?_
  refine sy (v := I ((joinE (bloomOf x (hs ++ ([h]))) b : Nat) : Int)) (y_extract (i := 1) rfl rfl) ?_
  refine sy (v := v47) (y_assign rfl) ?_
  refine sy (v := I ((joinE (bloomOf x (hs ++ ([h]))) b : Nat) : Int)) (y_assign rfl) ?_
  refine c_nil ?_
  refine n_then ?_
  refine c_seq ?_
  refine c_reg ?_
  refine sy (v := v1) (y_move rfl) ?_
  refine sy (v := v28) (y_move rfl) ?_
  refine st (ow_call fn60 rfl (join_c (v1) (v28) (b) (bloomOf x (hs ++ ([h]))) _ ((hB.st H52)).nil ((ho31.rd H52 1 rfl)).nil (by omega)) ⟨rfl, rfl, trivial⟩) ?_
  rintro _ w54 ⟨v53, E55, rfl, ho56, H57⟩
  have H58 : St w [] [E55, E49, E30, E21, [(g17, Rw 26 (([h]).flatten.map B8))], [(g1, Rw 76 (U64 x :: lv :: h.map B8))]] w54 := H52.app H57
  refine sy (v := .tuple #[v53, I ((joinE b (bloomOf x (hs ++ ([h]))) : Nat) : Int)]) (y_move rfl) ?_
  refine sy (v := v53) (y_extract (i := 0) rfl rfl) ?_
  refine sy (v := I ((joinE b (bloomOf x (hs ++ ([h]))) : Nat) : Int)) (y_extract (i := 1) rfl rfl) ?_
  refine sy (v := v53) (y_assign rfl) ?_
  refine sy (v := I ((joinE b (bloomOf x (hs ++ ([h]))) : Nat) : Int)) (y_assign rfl) ?_
  refine c_nil ?_
  refine n_then ?_
  refine c_seq ?_
  refine c_seq ?_
  refine c_reg ?_
  refine sy (v := I ((joinE (bloomOf x (hs ++ ([h]))) b : Nat) : Int)) (y_move rfl) ?_
  refine sy (v := I ((joinE b (bloomOf x (hs ++ ([h]))) : Nat) : Int)) (y_move rfl) ?_
  refine sy (v := .bool (decide ((joinE (bloomOf x (hs ++ ([h]))) b) ≠ (joinE b (bloomOf x (hs ++ ([h]))))))) (n_neq (a := joinE (bloomOf x (hs ++ ([h]))) b) (b := joinE b (bloomOf x (hs ++ ([h])))) rfl rfl) ?_
  refine sy (v := .bool (decide ((joinE (bloomOf x (hs ++ ([h]))) b) ≠ (joinE b (bloomOf x (hs ++ ([h]))))))) (y_move rfl) ?_
  have hq59 : ¬ ((joinE (bloomOf x (hs ++ ([h]))) b) ≠ (joinE b (bloomOf x (hs ++ ([h]))))) := (fun hq => hq (joinE_comm _ _))
  refine gsy (v := I ((joinE (bloomOf x (hs ++ ([h]))) b : Nat) : Int)) (gv_of (t := 79) rfl rfl rfl) (decide_eq_false hq59) (y_move rfl) ?_
  refine gsy (v := .bool (decide ((joinE (bloomOf x (hs ++ ([h]))) b) = 0))) (gv_of (t := 79) rfl rfl rfl) (decide_eq_false hq59) (n_eql (a := joinE (bloomOf x (hs ++ ([h]))) b) (b := 0) rfl rfl) ?_
  refine gsy (v := v1) (gv_of (t := 79) rfl rfl rfl) (decide_eq_false hq59) (y_move rfl) ?_
  refine gsy (v := I ((b.length : Nat) : Int)) (gv_of (t := 79) rfl rfl rfl) (decide_eq_false hq59) (y_lenR Try.underlying23 (hB.st H58) rfl) ?_
  refine gsy (v := v28) (gv_of (t := 79) rfl rfl rfl) (decide_eq_false hq59) (y_move rfl) ?_
  refine gsy (v := I (((bloomOf x (hs ++ ([h]))).length : Nat) : Int)) (gv_of (t := 79) rfl rfl rfl) (decide_eq_false hq59) (y_lenR Try.underlying23 (ho31.rd H58 2 rfl) rfl) ?_
  refine gsy (v := .bool (decide (b.length = ((bloomOf x (hs ++ ([h]))).length)))) (gv_of (t := 79) rfl rfl rfl) (decide_eq_false hq59) (n_eql (a := b.length) (b := (bloomOf x (hs ++ ([h]))).length) rfl rfl) ?_
  have e60 : ((decide ((joinE (bloomOf x (hs ++ ([h]))) b) = 0)) != (decide (b.length = ((bloomOf x (hs ++ ([h]))).length)))) = false := by rw [decide_eq_decide.2 (joinE_zero (b := b) (bl_ok (x := x) (hs := hs ++ [h])))]; exact bne_self_eq_false _
  refine gsy (v := .bool (false)) (gv_of (t := 79) rfl rfl rfl) (decide_eq_false hq59) ((e60 ▸ y_neqB (p := decide ((joinE (bloomOf x (hs ++ ([h]))) b) = 0)) (q := decide (b.length = ((bloomOf x (hs ++ ([h]))).length))) rfl rfl Try.underlying4)) ?_
  refine sy (v := .bool (false)) (y_pickF rfl (decide_eq_false hq59) rfl) ?_
  refine c_nil ?_
  refine n_then ?_
  refine c_f rfl rfl ?_
  refine wp_skip ?_
  refine n_then ?_
  refine c_seq ?_
  refine c_seq ?_
  refine c_reg ?_
  refine sy (v := I ((0 : Nat) : Int)) (y_assign (v := I ((0 : Nat) : Int)) rfl) ?_
  refine c_nil ?_
  refine n_then ?_
  refine wp_block ?_
  refine c_loop (fun (i : Nat) f61 w62 => f61 2 = Ad (bs g1) (0) ∧ f61 6 = v22 ∧ f61 7 = v28 ∧ f61 10 = v47 ∧ f61 11 = I ((joinE (bloomOf x (hs ++ ([h]))) b : Nat) : Int) ∧ f61 12 = v53 ∧ f61 14 = I ((i : Nat) : Int) ∧ i ≤ (hs ++ [h]).length ∧ St w [] [E55, E49, E30, E21, [(g17, Rw 26 (([h]).flatten.map B8))], [(g1, Rw 76 (U64 x :: lv :: h.map B8))]] w62) (fun i => (hs ++ [h]).length - i) 0 ⟨rfl, rfl, rfl, rfl, rfl, rfl, rfl, (Nat.zero_le _), H58⟩ ?_
  rintro i f61 w62 ⟨s2_63, s6_63, s7_63, s10_63, s11_63, s12_63, s14_63, hf0_63, H63⟩
  refine c_seq ?_
  refine c_seq ?_
  refine c_reg ?_
  refine sy (v := I ((i : Nat) : Int)) (y_move s14_63) ?_
  refine sy (v := v22) (y_move s6_63) ?_
  refine sy (v := I (((hs ++ ([h])).length : Nat) : Int)) (y_lenR Try.underlying72 (ho25.rd H63 3 rfl) rfl) ?_
  refine sy (v := .bool (decide (i < ((hs ++ ([h])).length)))) (n_lss (a := i) (b := (hs ++ ([h])).length) rfl rfl) ?_
  refine c_nil ?_
  refine n_then ?_
  refine c_if rfl (fun hc64 => ?_) (fun hc64 => ?_)
  · skip
    have hmi : (hs ++ [h]).getD i [] ∈ hs ++ [h] := by rw [List.getD_eq_getElem?_getD, List.getElem?_eq_getElem (by assumption)]; exact List.getElem_mem _
    have hha := bl_has (x := x) hmi
    refine wp_skip ?_
    refine n_then ?_
    refine c_seq ?_
    refine wp_block ?_
    refine c_seq ?_
    refine drawS (.step 0 0 (.step 0 1 (.step 0 2 (.step 0 3 (.step 0 4 (.step 0 5 (.step 0 6 (.step 1 7 (.step 0 8 (.step 0 9 (.step 0 10 (.step 0 11 (.step 2 12 .nil))))))))))))) mixed H63 (by kernel_rfl) (by kernel_rfl) (by kernel_rfl) ?_
    intro w65 H66
    refine pt (v := Ad (bs g1) (0 + 0)) rfl (fun wS HS => y_fld Try.underlying76 rfl rfl sz59 (by decide) s2_63) ?_
    refine pt (v := U64 (x)) rfl (fun wS HS => y_load sc59 rfl (HS.cell 5 rfl rfl)) ?_
    refine pt (v := v28) rfl (fun wS HS => y_move s7_63) ?_
    refine pt (v := v22) rfl (fun wS HS => y_move s6_63) ?_
    refine pt (v := I ((i : Nat) : Int)) rfl (fun wS HS => y_move s14_63) ?_
    refine pt (v := Ad (sp (v22)) (i * 32)) rfl (fun wS HS => y_ixR (m := i) Try.underlying72 sz26 (ho25.rd HS 3 rfl) (by decide) rfl rfl rfl (by omega)) ?_
    refine pt (v := .agg (((hs ++ ([h])).getD i []).map B8).toArray) rfl (fun wS HS => y_loadA (us := ((hs ++ ([h])).getD i []).map B8) ag26 sz26 ((List.length_map _).trans (getD_len hh26 (by omega))) rfl (fun j u hu => (ho25.rd HS 3 rfl).cell _ _ (flat_get hh26 (by omega) hu))) ?_
    refine pl rfl (ow_call fn64 rfl (has_c (x) (v28) (bloomOf x (hs ++ ([h]))) ((hs ++ ([h])).getD i []) _ ((ho31.rd H66 2 rfl)).nil (getD_len hh26 (by omega))) ⟨rfl, rfl, rfl, trivial⟩) ?_
    rintro _ w67 ⟨rfl, hB68⟩
    have H69 : St w [] [E55, E49, E30, E21, [(g17, Rw 26 (([h]).flatten.map B8))], [(g1, Rw 76 (U64 x :: lv :: h.map B8))]] w67 := H66.call hB68
    refine ⟨H69, ?_⟩
    refine pt (v := .tuple #[.bool (decide (hasP x (bloomOf x (hs ++ ([h]))) ((hs ++ ([h])).getD i []))), I ((hasE (bloomOf x (hs ++ ([h]))) : Nat) : Int)]) rfl (fun wS HS => y_move rfl) ?_
    refine pt (v := .bool (decide (hasP x (bloomOf x (hs ++ ([h]))) ((hs ++ ([h])).getD i [])))) rfl (fun wS HS => y_extract (i := 0) rfl rfl) ?_
    refine pt (v := I ((hasE (bloomOf x (hs ++ ([h]))) : Nat) : Int)) rfl (fun wS HS => y_extract (i := 1) rfl rfl) ?_
    refine pt (v := .bool (decide (hasP x (bloomOf x (hs ++ ([h]))) ((hs ++ ([h])).getD i [])))) rfl (fun wS HS => y_assign rfl) ?_
    refine tly (v := I ((hasE (bloomOf x (hs ++ ([h]))) : Nat) : Int)) rfl (y_assign rfl) ?_
    refine p_nil ?_
    refine n_then ?_
    refine c_seq ?_
    refine c_seq ?_
    refine c_reg ?_
    refine sy (v := .bool (decide (hasP x (bloomOf x (hs ++ ([h]))) ((hs ++ ([h])).getD i [])))) (y_move rfl) ?_
    refine sy (v := .bool (decide (¬ (hasP x (bloomOf x (hs ++ ([h]))) ((hs ++ ([h])).getD i []))))) (y_notP rfl) ?_
    refine sy (v := .bool (decide (¬ (hasP x (bloomOf x (hs ++ ([h]))) ((hs ++ ([h])).getD i []))))) (y_move rfl) ?_
    have hq70 : hasP x (bloomOf x (hs ++ ([h]))) ((hs ++ ([h])).getD i []) := hha
    refine gsy (v := I ((hasE (bloomOf x (hs ++ ([h]))) : Nat) : Int)) (gv_of (t := 108) rfl rfl rfl) (decide_eq_false (not_not_intro hq70)) (y_move rfl) ?_
    refine gsy (v := .bool (decide ((hasE (bloomOf x (hs ++ ([h])))) ≠ 0))) (gv_of (t := 108) rfl rfl rfl) (decide_eq_false (not_not_intro hq70)) (n_neq (a := hasE (bloomOf x (hs ++ ([h])))) (b := 0) rfl rfl) ?_
    refine sy (v := .bool (decide ((hasE (bloomOf x (hs ++ ([h])))) ≠ 0))) (y_pickF rfl (decide_eq_false (not_not_intro hq70)) rfl) ?_
    refine c_nil ?_
    refine n_then ?_
    have hq71 : ¬ ((hasE (bloomOf x (hs ++ ([h])))) ≠ 0) := (not_not_intro bl_hasE)
    refine c_f rfl (decide_eq_false hq71) ?_
    refine wp_skip ?_
    refine n_then ?_
    refine c_seq ?_
    refine c_reg ?_
    refine sy (v := I ((joinE (bloomOf x (hs ++ ([h]))) b : Nat) : Int)) (y_move s11_63) ?_
    refine sy (v := .bool (decide ((joinE (bloomOf x (hs ++ ([h]))) b) = 0))) (n_eql (a := joinE (bloomOf x (hs ++ ([h]))) b) (b := 0) rfl rfl) ?_
    refine c_nil ?_
    refine n_then ?_
    refine c_if rfl (fun hc72 => ?_) (fun hc72 => ?_)
    · skip
      refine c_seq ?_
      refine drawS (.step 0 0 (.step 0 1 (.step 0 2 (.step 0 3 (.step 0 4 (.step 0 5 (.step 0 6 (.step 1 7 (.step 0 8 (.step 0 9 (.step 0 10 (.step 0 11 (.step 2 12 .nil))))))))))))) mixed H69 (by kernel_rfl) (by kernel_rfl) (by kernel_rfl) ?_
      intro w73 H74
      refine pt (v := Ad (bs g1) (0 + 0)) rfl (fun wS HS => y_fld Try.underlying76 rfl rfl sz59 (by decide) s2_63) ?_
      refine pt (v := U64 (x)) rfl (fun wS HS => y_load sc59 rfl (HS.cell 5 rfl rfl)) ?_
      refine pt (v := v47) rfl (fun wS HS => y_move s10_63) ?_
      refine pt (v := v22) rfl (fun wS HS => y_move s6_63) ?_
      refine pt (v := I ((i : Nat) : Int)) rfl (fun wS HS => y_move s14_63) ?_
      refine pt (v := Ad (sp (v22)) (i * 32)) rfl (fun wS HS => y_ixR (m := i) Try.underlying72 sz26 (ho25.rd HS 3 rfl) (by decide) rfl rfl rfl (by omega)) ?_
      refine pt (v := .agg (((hs ++ ([h])).getD i []).map B8).toArray) rfl (fun wS HS => y_loadA (us := ((hs ++ ([h])).getD i []).map B8) ag26 sz26 ((List.length_map _).trans (getD_len hh26 (by omega))) rfl (fun j u hu => (ho25.rd HS 3 rfl).cell _ _ (flat_get hh26 (by omega) hu))) ?_
      refine pl rfl (ow_call fn64 rfl (has_c (x) (v47) (joinL (bloomOf x (hs ++ ([h]))) b) ((hs ++ ([h])).getD i []) _ ((ho50.rd H74 1 rfl)).nil (getD_len hh26 (by omega))) ⟨rfl, rfl, rfl, trivial⟩) ?_
      rintro _ w75 ⟨rfl, hB76⟩
      have H77 : St w [] [E55, E49, E30, E21, [(g17, Rw 26 (([h]).flatten.map B8))], [(g1, Rw 76 (U64 x :: lv :: h.map B8))]] w75 := H74.call hB76
      refine ⟨H77, ?_⟩
      refine pt (v := .tuple #[.bool (decide (hasP x (joinL (bloomOf x (hs ++ ([h]))) b) ((hs ++ ([h])).getD i []))), I ((hasE (joinL (bloomOf x (hs ++ ([h]))) b) : Nat) : Int)]) rfl (fun wS HS => y_move rfl) ?_
      refine pt (v := .bool (decide (hasP x (joinL (bloomOf x (hs ++ ([h]))) b) ((hs ++ ([h])).getD i [])))) rfl (fun wS HS => y_extract (i := 0) rfl rfl) ?_
      refine pt (v := I ((hasE (joinL (bloomOf x (hs ++ ([h]))) b) : Nat) : Int)) rfl (fun wS HS => y_extract (i := 1) rfl rfl) ?_
      refine pt (v := .bool (decide (hasP x (joinL (bloomOf x (hs ++ ([h]))) b) ((hs ++ ([h])).getD i [])))) rfl (fun wS HS => y_assign rfl) ?_
      refine tly (v := I ((hasE (joinL (bloomOf x (hs ++ ([h]))) b) : Nat) : Int)) rfl (y_assign rfl) ?_
      refine p_nil ?_
      refine n_then ?_
      refine c_seq ?_
      refine drawS (.step 0 0 (.step 0 1 (.step 0 2 (.step 0 3 (.step 0 4 (.step 0 5 (.step 0 6 (.step 1 7 (.step 0 8 (.step 0 9 (.step 0 10 (.step 0 11 (.step 2 12 .nil))))))))))))) mixed H77 (by kernel_rfl) (by kernel_rfl) (by kernel_rfl) ?_
      intro w78 H79
      refine pt (v := Ad (bs g1) (0 + 0)) rfl (fun wS HS => y_fld Try.underlying76 rfl rfl sz59 (by decide) s2_63) ?_
      refine pt (v := U64 (x)) rfl (fun wS HS => y_load sc59 rfl (HS.cell 5 rfl rfl)) ?_
      refine pt (v := v53) rfl (fun wS HS => y_move s12_63) ?_
      refine pt (v := v22) rfl (fun wS HS => y_move s6_63) ?_
      refine pt (v := I ((i : Nat) : Int)) rfl (fun wS HS => y_move s14_63) ?_
      refine pt (v := Ad (sp (v22)) (i * 32)) rfl (fun wS HS => y_ixR (m := i) Try.underlying72 sz26 (ho25.rd HS 3 rfl) (by decide) rfl rfl rfl (by omega)) ?_
      refine pt (v := .agg (((hs ++ ([h])).getD i []).map B8).toArray) rfl (fun wS HS => y_loadA (us := ((hs ++ ([h])).getD i []).map B8) ag26 sz26 ((List.length_map _).trans (getD_len hh26 (by omega))) rfl (fun j u hu => (ho25.rd HS 3 rfl).cell _ _ (flat_get hh26 (by omega) hu))) ?_
      refine pl rfl (ow_call fn64 rfl (has_c (x) (v53) (joinL b (bloomOf x (hs ++ ([h])))) ((hs ++ ([h])).getD i []) _ ((ho56.rd H79 0 rfl)).nil (getD_len hh26 (by omega))) ⟨rfl, rfl, rfl, trivial⟩) ?_
      rintro _ w80 ⟨rfl, hB81⟩
      have H82 : St w [] [E55, E49, E30, E21, [(g17, Rw 26 (([h]).flatten.map B8))], [(g1, Rw 76 (U64 x :: lv :: h.map B8))]] w80 := H79.call hB81
      refine ⟨H82, ?_⟩
      refine pt (v := .tuple #[.bool (decide (hasP x (joinL b (bloomOf x (hs ++ ([h])))) ((hs ++ ([h])).getD i []))), I ((hasE (joinL b (bloomOf x (hs ++ ([h])))) : Nat) : Int)]) rfl (fun wS HS => y_move rfl) ?_
      refine pt (v := .bool (decide (hasP x (joinL b (bloomOf x (hs ++ ([h])))) ((hs ++ ([h])).getD i [])))) rfl (fun wS HS => y_extract (i := 0) rfl rfl) ?_
      refine pt (v := I ((hasE (joinL b (bloomOf x (hs ++ ([h])))) : Nat) : Int)) rfl (fun wS HS => y_extract (i := 1) rfl rfl) ?_
      refine pt (v := .bool (decide (hasP x (joinL b (bloomOf x (hs ++ ([h])))) ((hs ++ ([h])).getD i [])))) rfl (fun wS HS => y_assign rfl) ?_
      refine tly (v := I ((hasE (joinL b (bloomOf x (hs ++ ([h])))) : Nat) : Int)) rfl (y_assign rfl) ?_
      refine p_nil ?_
      refine n_then ?_
      refine c_seq ?_
      refine c_reg ?_
      refine sy (v := .bool (decide (hasP x (joinL (bloomOf x (hs ++ ([h]))) b) ((hs ++ ([h])).getD i [])))) (y_move rfl) ?_
      refine sy (v := .bool (decide (¬ (hasP x (joinL (bloomOf x (hs ++ ([h]))) b) ((hs ++ ([h])).getD i []))))) (y_notP rfl) ?_
      refine sy (v := .bool (decide (¬ (hasP x (joinL (bloomOf x (hs ++ ([h]))) b) ((hs ++ ([h])).getD i []))))) (y_move rfl) ?_
      have hq83 : hasP x (joinL (bloomOf x (hs ++ ([h]))) b) ((hs ++ ([h])).getD i []) := (jn_has1 hc72 hha).1
      refine gsy (v := .bool (decide (hasP x (joinL b (bloomOf x (hs ++ ([h])))) ((hs ++ ([h])).getD i [])))) (gv_of (t := 138) rfl rfl rfl) (decide_eq_false (not_not_intro hq83)) (y_move rfl) ?_
      refine gsy (v := .bool (decide (¬ (hasP x (joinL b (bloomOf x (hs ++ ([h])))) ((hs ++ ([h])).getD i []))))) (gv_of (t := 138) rfl rfl rfl) (decide_eq_false (not_not_intro hq83)) (y_notP rfl) ?_
      refine sy (v := .bool (decide (¬ (hasP x (joinL b (bloomOf x (hs ++ ([h])))) ((hs ++ ([h])).getD i []))))) (y_pickF rfl (decide_eq_false (not_not_intro hq83)) rfl) ?_
      refine sy (v := .bool (decide (¬ (hasP x (joinL b (bloomOf x (hs ++ ([h])))) ((hs ++ ([h])).getD i []))))) (y_move rfl) ?_
      have hq84 : hasP x (joinL b (bloomOf x (hs ++ ([h])))) ((hs ++ ([h])).getD i []) := (jn_has2 hc72 hha).1
      refine gsy (v := I ((hasE (joinL (bloomOf x (hs ++ ([h]))) b) : Nat) : Int)) (gv_of (t := 142) rfl rfl rfl) (decide_eq_false (not_not_intro hq84)) (y_move rfl) ?_
      refine gsy (v := .bool (decide ((hasE (joinL (bloomOf x (hs ++ ([h]))) b)) ≠ 0))) (gv_of (t := 142) rfl rfl rfl) (decide_eq_false (not_not_intro hq84)) (n_neq (a := hasE (joinL (bloomOf x (hs ++ ([h]))) b)) (b := 0) rfl rfl) ?_
      refine sy (v := .bool (decide ((hasE (joinL (bloomOf x (hs ++ ([h]))) b)) ≠ 0))) (y_pickF rfl (decide_eq_false (not_not_intro hq84)) rfl) ?_
      refine sy (v := .bool (decide ((hasE (joinL (bloomOf x (hs ++ ([h]))) b)) ≠ 0))) (y_move rfl) ?_
      have hq85 : ¬ ((hasE (joinL (bloomOf x (hs ++ ([h]))) b)) ≠ 0) := (not_not_intro (jn_has1 hc72 hha).2)
      refine gsy (v := I ((hasE (joinL b (bloomOf x (hs ++ ([h])))) : Nat) : Int)) (gv_of (t := 146) rfl rfl rfl) (decide_eq_false hq85) (y_move rfl) ?_
      refine gsy (v := .bool (decide ((hasE (joinL b (bloomOf x (hs ++ ([h]))))) ≠ 0))) (gv_of (t := 146) rfl rfl rfl) (decide_eq_false hq85) (n_neq (a := hasE (joinL b (bloomOf x (hs ++ ([h]))))) (b := 0) rfl rfl) ?_
      refine sy (v := .bool (decide ((hasE (joinL b (bloomOf x (hs ++ ([h]))))) ≠ 0))) (y_pickF rfl (decide_eq_false hq85) rfl) ?_
      refine c_nil ?_
      refine n_then ?_
      have hq86 : ¬ ((hasE (joinL b (bloomOf x (hs ++ ([h]))))) ≠ 0) := (not_not_intro (jn_has2 hc72 hha).2)
      refine c_f rfl (decide_eq_false hq86) ?_
      refine wp_skip ?_
      refine n_block (n_then ?_)
      refine c_reg ?_
      refine sy (v := I ((i : Nat) : Int)) (y_move s14_63) ?_
      refine sy (v := I ((i + 1 : Nat) : Int)) (n_add (a := i) (b := 1) rfl rfl (by omega)) ?_
      refine sy (v := I ((i + 1 : Nat) : Int)) (y_assign rfl) ?_
      refine c_nil ?_
      exact lp_next (i + 1) ⟨s2_63, s6_63, s7_63, s10_63, s11_63, s12_63, rfl, (by omega), H82⟩ (by show _ < _; omega)
    · skip
      refine wp_skip ?_
      refine n_block (n_then ?_)
      refine c_reg ?_
      refine sy (v := I ((i : Nat) : Int)) (y_move s14_63) ?_
      refine sy (v := I ((i + 1 : Nat) : Int)) (n_add (a := i) (b := 1) rfl rfl (by omega)) ?_
      refine sy (v := I ((i + 1 : Nat) : Int)) (y_assign rfl) ?_
      refine c_nil ?_
      exact lp_next (i + 1) ⟨s2_63, s6_63, s7_63, s10_63, s11_63, s12_63, rfl, (by omega), H69⟩ (by show _ < _; omega)
  · skip
    refine wp_exit ?_
    refine x_then (x_then (x_hit (n_then ?_)))
    refine c_seq ?_
    refine c_reg ?_
    refine sy (v := .bool (true)) (y_assign (v := .bool (true)) rfl) ?_
    refine c_nil ?_
    refine n_then ?_
    refine wp_ret ?_
    refine e_r1 Try.results13 (rv_t rfl) ?_
    exact ⟨_, rfl, rfl, H63.below⟩

end Go.Proofs.Ytdcmbcjkdhdohaa
