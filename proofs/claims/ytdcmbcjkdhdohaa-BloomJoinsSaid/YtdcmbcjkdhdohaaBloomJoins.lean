/- BloomJoins returns true for every two rows of bytes: no condition but the form's own reach. -/
import Derived.Test.YtdcmbcjkdhdohaaBloom4
namespace Go.Proofs.Ytdcmbcjkdhdohaa
open Go Go.RowKit
attribute [local irreducible] wpList wpP Code.wp

set_option maxHeartbeats 2000000 in
theorem bloomJoins_c (v0 v1 : Value) (a b : List UInt8) (w : World) (h0 : Rd [] w 1 v0 a.length (a.map B8)) (h1 : Rd [] w 1 v1 b.length (b.map B8)) (hla : a.length ≤ 140737488351232) (hlb : b.length ≤ 140737488351232) :
    Calls Try.prog 11 (([v0, v1] : List Value).toArray) w (fun e w' => ∃ v, e = .returned v ∧ v = .bool true ∧ Below w.heap.size w w') := by
  refine calls_mk Try.func11 rfl 158 Try.ntmps11 rfl ?_
  have H0 : St w [] [] w := St.refl w
  refine c_seq ?_
  refine c_reg ?_
  refine sy (v := .bool (false)) (y_assign (v := .bool (false)) rfl) ?_
  refine c_nil ?_
  refine n_then ?_
  refine c_seq ?_
  refine c_reg ?_
  refine st (ow_call fn31 rfl (bfixed_c _) trivial) ?_
  rintro _ w1 ⟨rfl, hB2⟩
  have H3 : St w [] [] w1 := H0.call hB2
  refine sy (v := .bool (true)) (y_assign rfl) ?_
  refine c_nil ?_
  refine n_then ?_
  refine c_seq ?_
  refine c_reg ?_
  refine sy (v := v0) (y_move rfl) ?_
  refine st (ow_call fn58 rfl (bwide_c (v0) (a) _ ((h0.st H3)).nil (by omega)) ⟨rfl, trivial⟩) ?_
  rintro _ w5 ⟨g4, rfl, H6⟩
  have hw7 := wlen a
  have H8 : St w [] [[(g4, Rw 5 ((a ++ marks).map B8))]] w5 := H3.app H6
  refine sy (v := .slice (some (bs g4)) ((a).length + 8) ((a).length + 8)) (y_assign rfl) ?_
  refine c_nil ?_
  refine n_then ?_
  refine c_seq ?_
  refine c_reg ?_
  refine sy (v := v1) (y_move rfl) ?_
  refine st (ow_call fn58 rfl (bwide_c (v1) (b) _ ((h1.st H8)).nil (by omega)) ⟨rfl, trivial⟩) ?_
  rintro _ w10 ⟨g9, rfl, H11⟩
  have hw12 := wlen b
  have H13 : St w [] [[(g9, Rw 5 ((b ++ marks).map B8))], [(g4, Rw 5 ((a ++ marks).map B8))]] w10 := H8.app H11
  refine sy (v := .slice (some (bs g9)) ((b).length + 8) ((b).length + 8)) (y_assign rfl) ?_
  refine c_nil ?_
  refine n_then ?_
  refine c_seq ?_
  refine c_reg ?_
  refine sy (v := v0) (y_move rfl) ?_
  refine sy (v := v1) (y_move rfl) ?_
  refine st (ow_call fn59 rfl (rjoin_c (v0) (v1) (a) (b) _ ((h0.st H13)).nil ((h1.st H13)).nil (by omega)) ⟨rfl, rfl, trivial⟩) ?_
  rintro _ w15 ⟨v14, E16, rfl, ho17, H18⟩
  have H19 : St w [] [E16, [(g9, Rw 5 ((b ++ marks).map B8))], [(g4, Rw 5 ((a ++ marks).map B8))]] w15 := H13.app H18
  refine sy (v := .tuple #[v14, I ((joinE (a) (b) : Nat) : Int)]) (y_move rfl) ?_
  refine sy (v := v14) (y_extract (i := 0) rfl rfl) ?_
  refine sy (v := I ((joinE (a) (b) : Nat) : Int)) (y_extract (i := 1) rfl rfl) ?_
  refine sy (v := v14) (y_assign rfl) ?_
  refine sy (v := I ((joinE (a) (b) : Nat) : Int)) (y_assign rfl) ?_
  refine c_nil ?_
  refine n_then ?_
  refine c_seq ?_
  refine drawS (.step 0 0 (.step 0 1 (.step 0 2 (.step 0 3 (.step 0 4 (.step 0 5 (.step 0 6 (.step 0 7 (.step 1 8 (.step 0 9 (.step 0 10 (.step 0 11 (.step 0 12 (.step 2 13 .nil)))))))))))))) mixed H19 (by kernel_rfl) (by kernel_rfl) (by kernel_rfl) ?_
  intro w20 H21
  refine pt (v := .slice (some (bs g4)) ((a).length + 8) ((a).length + 8)) rfl (fun wS HS => y_move rfl) ?_
  refine pt (v := v0) rfl (fun wS HS => y_move rfl) ?_
  refine pt (v := I ((a.length : Nat) : Int)) rfl (fun wS HS => y_lenR Try.underlying23 (h0.st HS) rfl) ?_
  have hL22 : ((a ++ marks).take a.length).length = a.length := by rw [List.length_take]; omega
  refine pt (v := slv 1 (0) (a.length) (.slice (some (bs g4)) ((a).length + 8) ((a).length + 8))) rfl (fun wS HS => y_slR (k1 := .i64) (k2 := .i64) (l := 0) (h := a.length) Try.underlying23 sz5 (rd_arr HS 2 rfl hw7 (by unfold maxLen; omega)) rfl (.inl ⟨rfl, rfl⟩) (.inr ⟨_, rfl, rfl⟩) (by omega) (by omega)) ?_
  refine pt (v := .slice (some (bs g9)) ((b).length + 8) ((b).length + 8)) rfl (fun wS HS => y_move rfl) ?_
  refine pt (v := v1) rfl (fun wS HS => y_move rfl) ?_
  refine pt (v := I ((b.length : Nat) : Int)) rfl (fun wS HS => y_lenR Try.underlying23 (h1.st HS) rfl) ?_
  have hL23 : ((b ++ marks).take b.length).length = b.length := by rw [List.length_take]; omega
  refine pt (v := slv 1 (0) (b.length) (.slice (some (bs g9)) ((b).length + 8) ((b).length + 8))) rfl (fun wS HS => y_slR (k1 := .i64) (k2 := .i64) (l := 0) (h := b.length) Try.underlying23 sz5 (rd_arr HS 1 rfl hw12 (by unfold maxLen; omega)) rfl (.inl ⟨rfl, rfl⟩) (.inr ⟨_, rfl, rfl⟩) (by omega) (by omega)) ?_
  refine pl rfl (ow_call fn60 rfl (join_c (slv 1 (0) (a.length) (.slice (some (bs g4)) ((a).length + 8) ((a).length + 8))) (slv 1 (0) (b.length) (.slice (some (bs g9)) ((b).length + 8) ((b).length + 8))) ((a ++ marks).take a.length) ((b ++ marks).take b.length) _ ((rdb_pre (rd_arr H21 2 rfl hw7 (by unfold maxLen; omega)) (by omega))).nil ((rdb_pre (rd_arr H21 1 rfl hw12 (by unfold maxLen; omega)) (by omega))).nil (by omega)) ⟨rfl, rfl, trivial⟩) ?_
  rintro _ w25 ⟨v24, E26, rfl, ho27, H28⟩
  have H29 : St w [] [E26, E16, [(g9, Rw 5 ((b ++ marks).map B8))], [(g4, Rw 5 ((a ++ marks).map B8))]] w25 := H21.app H28
  have H30 : St w [] [[(g4, Rw 5 ((a ++ marks).map B8))], E26, E16, [(g9, Rw 5 ((b ++ marks).map B8))]] w25 := H29.foc 3 rfl rfl
  have H31 : St w [] [[(g9, Rw 5 ((b ++ marks).map B8))], [(g4, Rw 5 ((a ++ marks).map B8))], E26, E16] w25 := H30.foc 3 rfl rfl
  have H32 : St w [] [E16, [(g9, Rw 5 ((b ++ marks).map B8))], [(g4, Rw 5 ((a ++ marks).map B8))], E26] w25 := H31.foc 3 rfl rfl
  have H33 : St w [] [E16, [(g9, Rw 5 ((b ++ marks).map B8))], [(g4, Rw 5 ((a ++ marks).map B8))]] w25 := H32.take 3 rfl
  refine ⟨H33, ?_⟩
  refine pt (v := .tuple #[v24, I ((joinE ((a ++ marks).take a.length) ((b ++ marks).take b.length) : Nat) : Int)]) rfl (fun wS HS => y_move rfl) ?_
  refine pt (v := v24) rfl (fun wS HS => y_extract (i := 0) rfl rfl) ?_
  refine pt (v := I ((joinE ((a ++ marks).take a.length) ((b ++ marks).take b.length) : Nat) : Int)) rfl (fun wS HS => y_extract (i := 1) rfl rfl) ?_
  refine pt (v := v24) rfl (fun wS HS => y_assign rfl) ?_
  refine tly (v := I ((joinE ((a ++ marks).take a.length) ((b ++ marks).take b.length) : Nat) : Int)) rfl (y_assign rfl) ?_
  refine p_nil ?_
  refine n_then ?_
  refine c_seq ?_
  refine drawS (.step 0 0 (.step 0 1 (.step 0 2 (.step 0 3 (.step 0 4 (.step 0 5 (.step 0 6 (.step 0 7 (.step 1 8 (.step 0 9 (.step 0 10 (.step 0 11 (.step 0 12 (.step 2 13 .nil)))))))))))))) mixed H29 (by kernel_rfl) (by kernel_rfl) (by kernel_rfl) ?_
  intro w34 H35
  refine pt (v := .slice (some (bs g4)) ((a).length + 8) ((a).length + 8)) rfl (fun wS HS => y_move rfl) ?_
  refine pt (v := v0) rfl (fun wS HS => y_move rfl) ?_
  refine pt (v := I ((a.length : Nat) : Int)) rfl (fun wS HS => y_lenR Try.underlying23 (h0.st HS) rfl) ?_
  have hL36 : ((a ++ marks).take a.length).length = a.length := by rw [List.length_take]; omega
  refine pt (v := slv 1 (0) (a.length) (.slice (some (bs g4)) ((a).length + 8) ((a).length + 8))) rfl (fun wS HS => y_slR (k1 := .i64) (k2 := .i64) (l := 0) (h := a.length) Try.underlying23 sz5 (rd_arr HS 3 rfl hw7 (by unfold maxLen; omega)) rfl (.inl ⟨rfl, rfl⟩) (.inr ⟨_, rfl, rfl⟩) (by omega) (by omega)) ?_
  refine pt (v := .slice (some (bs g9)) ((b).length + 8) ((b).length + 8)) rfl (fun wS HS => y_move rfl) ?_
  refine pt (v := v1) rfl (fun wS HS => y_move rfl) ?_
  refine pt (v := I ((b.length : Nat) : Int)) rfl (fun wS HS => y_lenR Try.underlying23 (h1.st HS) rfl) ?_
  have hL37 : ((b ++ marks).take b.length).length = b.length := by rw [List.length_take]; omega
  refine pt (v := slv 1 (0) (b.length) (.slice (some (bs g9)) ((b).length + 8) ((b).length + 8))) rfl (fun wS HS => y_slR (k1 := .i64) (k2 := .i64) (l := 0) (h := b.length) Try.underlying23 sz5 (rd_arr HS 2 rfl hw12 (by unfold maxLen; omega)) rfl (.inl ⟨rfl, rfl⟩) (.inr ⟨_, rfl, rfl⟩) (by omega) (by omega)) ?_
  refine pl rfl (ow_call fn60 rfl (join_c (slv 1 (0) (a.length) (.slice (some (bs g4)) ((a).length + 8) ((a).length + 8))) (slv 1 (0) (b.length) (.slice (some (bs g9)) ((b).length + 8) ((b).length + 8))) ((a ++ marks).take a.length) ((b ++ marks).take b.length) _ ((rdb_pre (rd_arr H35 3 rfl hw7 (by unfold maxLen; omega)) (by omega))).nil ((rdb_pre (rd_arr H35 2 rfl hw12 (by unfold maxLen; omega)) (by omega))).nil (by omega)) ⟨rfl, rfl, trivial⟩) ?_
  rintro _ w39 ⟨v38, E40, rfl, ho41, H42⟩
  have H43 : St w [] [E40, E26, E16, [(g9, Rw 5 ((b ++ marks).map B8))], [(g4, Rw 5 ((a ++ marks).map B8))]] w39 := H35.app H42
  have H44 : St w [] [[(g4, Rw 5 ((a ++ marks).map B8))], E40, E26, E16, [(g9, Rw 5 ((b ++ marks).map B8))]] w39 := H43.foc 4 rfl rfl
  have H45 : St w [] [[(g9, Rw 5 ((b ++ marks).map B8))], [(g4, Rw 5 ((a ++ marks).map B8))], E40, E26, E16] w39 := H44.foc 4 rfl rfl
  have H46 : St w [] [E16, [(g9, Rw 5 ((b ++ marks).map B8))], [(g4, Rw 5 ((a ++ marks).map B8))], E40, E26] w39 := H45.foc 4 rfl rfl
  have H47 : St w [] [E26, E16, [(g9, Rw 5 ((b ++ marks).map B8))], [(g4, Rw 5 ((a ++ marks).map B8))], E40] w39 := H46.foc 4 rfl rfl
  have H48 : St w [] [E26, E16, [(g9, Rw 5 ((b ++ marks).map B8))], [(g4, Rw 5 ((a ++ marks).map B8))]] w39 := H47.take 4 rfl
  refine ⟨H48, ?_⟩
  refine pt (v := .tuple #[v38, I ((joinE ((a ++ marks).take a.length) ((b ++ marks).take b.length) : Nat) : Int)]) rfl (fun wS HS => y_move rfl) ?_
  refine pt (v := v38) rfl (fun wS HS => y_extract (i := 0) rfl rfl) ?_
  refine pt (v := I ((joinE ((a ++ marks).take a.length) ((b ++ marks).take b.length) : Nat) : Int)) rfl (fun wS HS => y_extract (i := 1) rfl rfl) ?_
  refine pt (v := v38) rfl (fun wS HS => y_assign rfl) ?_
  refine tly (v := I ((joinE ((a ++ marks).take a.length) ((b ++ marks).take b.length) : Nat) : Int)) rfl (y_assign rfl) ?_
  refine p_nil ?_
  refine n_then ?_
  refine c_seq ?_
  refine c_reg ?_
  refine sy (v := v24) (y_move rfl) ?_
  refine sy (v := v14) (y_move rfl) ?_
  refine st (ow_call fn56 rfl (bsame_c (v24) (v14) (joinL ((a ++ marks).take a.length) ((b ++ marks).take b.length)) (joinL (a) (b)) _ ((ho27.rd H43 1 rfl)).nil ((ho17.rd H43 2 rfl)).nil) ⟨rfl, rfl, trivial⟩) ?_
  rintro _ w49 ⟨rfl, hB50⟩
  have H51 : St w [] [E40, E26, E16, [(g9, Rw 5 ((b ++ marks).map B8))], [(g4, Rw 5 ((a ++ marks).map B8))]] w49 := H43.call hB50
  refine sy (v := .bool (decide ((joinL ((a ++ marks).take a.length) ((b ++ marks).take b.length)) = (joinL (a) (b))))) (y_assign rfl) ?_
  refine c_nil ?_
  refine n_then ?_
  refine c_seq ?_
  refine c_reg ?_
  refine sy (v := v38) (y_move rfl) ?_
  refine sy (v := v14) (y_move rfl) ?_
  refine st (ow_call fn56 rfl (bsame_c (v38) (v14) (joinL ((a ++ marks).take a.length) ((b ++ marks).take b.length)) (joinL (a) (b)) _ ((ho41.rd H51 0 rfl)).nil ((ho17.rd H51 2 rfl)).nil) ⟨rfl, rfl, trivial⟩) ?_
  rintro _ w52 ⟨rfl, hB53⟩
  have H54 : St w [] [E40, E26, E16, [(g9, Rw 5 ((b ++ marks).map B8))], [(g4, Rw 5 ((a ++ marks).map B8))]] w52 := H51.call hB53
  refine sy (v := .bool (decide ((joinL ((a ++ marks).take a.length) ((b ++ marks).take b.length)) = (joinL (a) (b))))) (y_assign rfl) ?_
  refine c_nil ?_
  refine n_then ?_
  refine c_seq ?_
  refine c_reg ?_
  refine sy (v := .slice (some (bs g4)) ((a).length + 8) ((a).length + 8)) (y_move rfl) ?_
  refine sy (v := v0) (y_move rfl) ?_
  refine st (ow_call fn61 rfl (bkept_c (.slice (some (bs g4)) ((a).length + 8) ((a).length + 8)) (v0) (a) _ ((rd_arr H54 4 rfl hw7 (by unfold maxLen; omega))).nil ((h0.st H54)).nil (by omega)) ⟨rfl, rfl, trivial⟩) ?_
  rintro _ w55 ⟨rfl, hB56⟩
  have H57 : St w [] [E40, E26, E16, [(g9, Rw 5 ((b ++ marks).map B8))], [(g4, Rw 5 ((a ++ marks).map B8))]] w55 := H54.call hB56
  refine sy (v := .bool (true)) (y_assign rfl) ?_
  refine c_nil ?_
  refine n_then ?_
  refine c_seq ?_
  refine c_reg ?_
  refine sy (v := .slice (some (bs g9)) ((b).length + 8) ((b).length + 8)) (y_move rfl) ?_
  refine sy (v := v1) (y_move rfl) ?_
  refine st (ow_call fn61 rfl (bkept_c (.slice (some (bs g9)) ((b).length + 8) ((b).length + 8)) (v1) (b) _ ((rd_arr H57 3 rfl hw12 (by unfold maxLen; omega))).nil ((h1.st H57)).nil (by omega)) ⟨rfl, rfl, trivial⟩) ?_
  rintro _ w58 ⟨rfl, hB59⟩
  have H60 : St w [] [E40, E26, E16, [(g9, Rw 5 ((b ++ marks).map B8))], [(g4, Rw 5 ((a ++ marks).map B8))]] w58 := H57.call hB59
  refine sy (v := .bool (true)) (y_assign rfl) ?_
  refine c_nil ?_
  refine n_then ?_
  refine c_seq ?_
  refine c_seq ?_
  refine c_reg ?_
  refine sy (v := .bool (true)) (y_move rfl) ?_
  refine sy (v := .bool (false)) (y_not (p := true) rfl) ?_
  refine sy (v := .bool (false)) (y_move rfl) ?_
  refine gsy (v := I ((joinE (a) (b) : Nat) : Int)) (gv_of (t := 74) rfl rfl rfl) (rfl) (y_move rfl) ?_
  refine gsy (v := I ((joinE ((a ++ marks).take a.length) ((b ++ marks).take b.length) : Nat) : Int)) (gv_of (t := 74) rfl rfl rfl) (rfl) (y_move rfl) ?_
  refine gsy (v := .bool (decide ((joinE (a) (b)) ≠ (joinE ((a ++ marks).take a.length) ((b ++ marks).take b.length))))) (gv_of (t := 74) rfl rfl rfl) (rfl) (n_neq (a := joinE (a) (b)) (b := joinE ((a ++ marks).take a.length) ((b ++ marks).take b.length)) rfl rfl) ?_
  refine sy (v := .bool (decide ((joinE (a) (b)) ≠ (joinE ((a ++ marks).take a.length) ((b ++ marks).take b.length))))) (y_pickF rfl (rfl) rfl) ?_
  refine sy (v := .bool (decide ((joinE (a) (b)) ≠ (joinE ((a ++ marks).take a.length) ((b ++ marks).take b.length))))) (y_move rfl) ?_
  have hq61 : ¬ ((joinE (a) (b)) ≠ (joinE ((a ++ marks).take a.length) ((b ++ marks).take b.length))) := (by rw [take_w, take_w]; exact fun h => h rfl)
  refine gsy (v := I ((joinE (a) (b) : Nat) : Int)) (gv_of (t := 79) rfl rfl rfl) (decide_eq_false hq61) (y_move rfl) ?_
  refine gsy (v := I ((joinE ((a ++ marks).take a.length) ((b ++ marks).take b.length) : Nat) : Int)) (gv_of (t := 79) rfl rfl rfl) (decide_eq_false hq61) (y_move rfl) ?_
  refine gsy (v := .bool (decide ((joinE (a) (b)) ≠ (joinE ((a ++ marks).take a.length) ((b ++ marks).take b.length))))) (gv_of (t := 79) rfl rfl rfl) (decide_eq_false hq61) (n_neq (a := joinE (a) (b)) (b := joinE ((a ++ marks).take a.length) ((b ++ marks).take b.length)) rfl rfl) ?_
  refine sy (v := .bool (decide ((joinE (a) (b)) ≠ (joinE ((a ++ marks).take a.length) ((b ++ marks).take b.length))))) (y_pickF rfl (decide_eq_false hq61) rfl) ?_
  refine sy (v := .bool (decide ((joinE (a) (b)) ≠ (joinE ((a ++ marks).take a.length) ((b ++ marks).take b.length))))) (y_move rfl) ?_
  refine gsy (v := .bool (decide ((joinL ((a ++ marks).take a.length) ((b ++ marks).take b.length)) = (joinL (a) (b))))) (gv_of (t := 84) rfl rfl rfl) (decide_eq_false hq61) (y_move rfl) ?_
  refine gsy (v := .bool (decide (¬ ((joinL ((a ++ marks).take a.length) ((b ++ marks).take b.length)) = (joinL (a) (b)))))) (gv_of (t := 84) rfl rfl rfl) (decide_eq_false hq61) (y_notP rfl) ?_
  refine sy (v := .bool (decide (¬ ((joinL ((a ++ marks).take a.length) ((b ++ marks).take b.length)) = (joinL (a) (b)))))) (y_pickF rfl (decide_eq_false hq61) rfl) ?_
  refine sy (v := .bool (decide (¬ ((joinL ((a ++ marks).take a.length) ((b ++ marks).take b.length)) = (joinL (a) (b)))))) (y_move rfl) ?_
  have hq62 : (joinL ((a ++ marks).take a.length) ((b ++ marks).take b.length)) = (joinL (a) (b)) := (by rw [take_w, take_w])
  refine gsy (v := .bool (decide ((joinL ((a ++ marks).take a.length) ((b ++ marks).take b.length)) = (joinL (a) (b))))) (gv_of (t := 88) rfl rfl rfl) (decide_eq_false (not_not_intro hq62)) (y_move rfl) ?_
  refine gsy (v := .bool (decide (¬ ((joinL ((a ++ marks).take a.length) ((b ++ marks).take b.length)) = (joinL (a) (b)))))) (gv_of (t := 88) rfl rfl rfl) (decide_eq_false (not_not_intro hq62)) (y_notP rfl) ?_
  refine sy (v := .bool (decide (¬ ((joinL ((a ++ marks).take a.length) ((b ++ marks).take b.length)) = (joinL (a) (b)))))) (y_pickF rfl (decide_eq_false (not_not_intro hq62)) rfl) ?_
  refine sy (v := .bool (decide (¬ ((joinL ((a ++ marks).take a.length) ((b ++ marks).take b.length)) = (joinL (a) (b)))))) (y_move rfl) ?_
  refine gsy (v := .bool (true)) (gv_of (t := 92) rfl rfl rfl) (decide_eq_false (not_not_intro hq62)) (y_move rfl) ?_
  refine gsy (v := .bool (false)) (gv_of (t := 92) rfl rfl rfl) (decide_eq_false (not_not_intro hq62)) (y_not (p := true) rfl) ?_
  refine sy (v := .bool (false)) (y_pickF rfl (decide_eq_false (not_not_intro hq62)) rfl) ?_
  refine sy (v := .bool (false)) (y_move rfl) ?_
  refine gsy (v := .bool (true)) (gv_of (t := 96) rfl rfl rfl) (rfl) (y_move rfl) ?_
  refine gsy (v := .bool (false)) (gv_of (t := 96) rfl rfl rfl) (rfl) (y_not (p := true) rfl) ?_
  refine sy (v := .bool (false)) (y_pickF rfl (rfl) rfl) ?_
  refine c_nil ?_
  refine n_then ?_
  refine c_f rfl rfl ?_
  refine wp_skip ?_
  refine n_then ?_
  refine c_seq ?_
  refine c_seq ?_
  refine c_reg ?_
  refine sy (v := I ((0 : Nat) : Int)) (y_assign (v := I ((0 : Nat) : Int)) rfl) ?_
  refine c_nil ?_
  refine n_then ?_
  refine wp_block ?_
  refine c_loop (fun (i : Nat) f63 w64 => ∃ (a' : List UInt8), f63 0 = v0 ∧ f63 1 = v1 ∧ f63 6 = .slice (some (bs g4)) ((a).length + 8) ((a).length + 8) ∧ f63 7 = .slice (some (bs g9)) ((b).length + 8) ((b).length + 8) ∧ f63 8 = v14 ∧ f63 10 = v24 ∧ f63 12 = v38 ∧ f63 18 = I ((i : Nat) : Int) ∧ i ≤ a.length ∧ a'.length = a.length ∧ St w [] [E40, E26, E16, [(g9, Rw 5 ((b ++ marks).map B8))], [(g4, Rw 5 ((a' ++ marks).map B8))]] w64) (fun i => a.length - i) 0 ⟨a, rfl, rfl, rfl, rfl, rfl, rfl, rfl, rfl, (Nat.zero_le _), rfl, H60⟩ ?_
  rintro i f63 w64 ⟨a', s0_65, s1_65, s6_65, s7_65, s8_65, s10_65, s12_65, s18_65, hi, hl', H65⟩
  have hwl' : (a' ++ marks).length = a.length + 8 := (wlen a').trans (by rw [hl'])
  refine c_seq ?_
  refine c_seq ?_
  refine c_reg ?_
  refine sy (v := I ((i : Nat) : Int)) (y_move s18_65) ?_
  refine sy (v := v0) (y_move s0_65) ?_
  refine sy (v := I ((a.length : Nat) : Int)) (y_lenR Try.underlying23 (h0.st H65) rfl) ?_
  refine sy (v := .bool (decide (i < a.length))) (n_lss (a := i) (b := a.length) rfl rfl) ?_
  refine c_nil ?_
  refine n_then ?_
  refine c_if rfl (fun hc66 => ?_) (fun hc66 => ?_)
  · skip
    refine wp_skip ?_
    refine n_then ?_
    refine c_seq ?_
    refine wp_block ?_
    refine c_reg ?_
    refine sy (v := .slice (some (bs g4)) ((a).length + 8) ((a).length + 8)) (y_move s6_65) ?_
    refine sy (v := I ((i : Nat) : Int)) (y_move s18_65) ?_
    refine sy (v := Ad (bs g4) (i * 1)) (y_ixS (m := i) Try.underlying23 sz5 rfl rfl rfl (by omega)) ?_
    refine sy (v := B8 ((a' ++ marks).getD i 0)) (y_load sc5 rfl (H65.cell 4 rfl (by simp only [Nat.zero_add, Nat.mul_one]; exact map_get B8 0 (by omega)))) ?_
    refine sy (v := B8 (((a' ++ marks).getD i 0) ^^^ 15)) (y_xor8 (a := (a' ++ marks).getD i 0) (b := 15) rfl rfl) ?_
    refine sy (v := Ad (bs g4) (i * 1)) (y_ixS (m := i) Try.underlying23 sz5 rfl rfl rfl (by omega)) ?_
    have H67 : St w [] [[(g4, Rw 5 ((a' ++ marks).map B8))], E40, E26, E16, [(g9, Rw 5 ((b ++ marks).map B8))]] w64 := H65.foc 4 rfl rfl
    refine s0 (ow_storeM (F := B8) (j := i) (fun _ => rfl) H67 sz5 rfl rfl (by omega) (by first | omega | (simp only [List.length_set]; omega))) ?_
    rintro _ w68 H69'
    have H69 : St w [] [[(g4, Rw 5 (((a' ++ marks).set i (((a' ++ marks).getD i 0) ^^^ 15)).map B8))], E40, E26, E16, [(g9, Rw 5 ((b ++ marks).map B8))]] w68 := H69'
    refine c_nil ?_
    refine n_block (n_then ?_)
    refine c_reg ?_
    refine sy (v := I ((i : Nat) : Int)) (y_move s18_65) ?_
    refine sy (v := I ((i + 1 : Nat) : Int)) (n_add (a := i) (b := 1) rfl rfl (by omega)) ?_
    refine sy (v := I ((i + 1 : Nat) : Int)) (y_assign rfl) ?_
    refine c_nil ?_
    have H70 : St w [] [[(g9, Rw 5 ((b ++ marks).map B8))], [(g4, Rw 5 (((a' ++ marks).set i (((a' ++ marks).getD i 0) ^^^ 15)).map B8))], E40, E26, E16] w68 := H69.foc 4 rfl rfl
    have H71 : St w [] [E16, [(g9, Rw 5 ((b ++ marks).map B8))], [(g4, Rw 5 (((a' ++ marks).set i (((a' ++ marks).getD i 0) ^^^ 15)).map B8))], E40, E26] w68 := H70.foc 4 rfl rfl
    have H72 : St w [] [E26, E16, [(g9, Rw 5 ((b ++ marks).map B8))], [(g4, Rw 5 (((a' ++ marks).set i (((a' ++ marks).getD i 0) ^^^ 15)).map B8))], E40] w68 := H71.foc 4 rfl rfl
    have H73 : St w [] [E40, E26, E16, [(g9, Rw 5 ((b ++ marks).map B8))], [(g4, Rw 5 (((a' ++ marks).set i (((a' ++ marks).getD i 0) ^^^ 15)).map B8))]] w68 := H72.foc 4 rfl rfl
    exact lp_next (i + 1) ⟨(a'.set i (((a' ++ marks).getD i 0) ^^^ 15)), s0_65, s1_65, s6_65, s7_65, s8_65, s10_65, s12_65, rfl, (by omega), (by rw [List.length_set]; exact hl'), (by rw [← List.set_append_left _ _ (by omega)]; exact H73)⟩ (by show _ < _; omega)
  · skip
    refine wp_exit ?_
    refine x_then (x_then (x_hit (n_then ?_)))
    refine c_seq ?_
    refine drawS (.step 0 0 (.step 0 1 (.step 0 2 (.step 0 3 (.step 0 4 (.step 0 5 (.step 0 6 (.step 0 7 (.step 1 8 (.step 0 9 (.step 0 10 (.step 0 11 (.step 0 12 (.step 2 13 .nil)))))))))))))) mixed H65 (by kernel_rfl) (by kernel_rfl) (by kernel_rfl) ?_
    intro w74 H75
    refine pt (v := .slice (some (bs g4)) ((a).length + 8) ((a).length + 8)) rfl (fun wS HS => y_move s6_65) ?_
    refine pt (v := v0) rfl (fun wS HS => y_move s0_65) ?_
    refine pt (v := I ((a.length : Nat) : Int)) rfl (fun wS HS => y_lenR Try.underlying23 (h0.st HS) rfl) ?_
    have hL76 : ((a' ++ marks).take a.length).length = a.length := by rw [List.length_take]; omega
    refine pt (v := slv 1 (0) (a.length) (.slice (some (bs g4)) ((a).length + 8) ((a).length + 8))) rfl (fun wS HS => y_slR (k1 := .i64) (k2 := .i64) (l := 0) (h := a.length) Try.underlying23 sz5 (rd_arr HS 4 rfl ((wlen a').trans (by rw [hl'])) (by unfold maxLen; omega)) rfl (.inl ⟨rfl, rfl⟩) (.inr ⟨_, rfl, rfl⟩) (by omega) (by omega)) ?_
    refine pt (v := .slice (some (bs g9)) ((b).length + 8) ((b).length + 8)) rfl (fun wS HS => y_move s7_65) ?_
    refine pt (v := v1) rfl (fun wS HS => y_move s1_65) ?_
    refine pt (v := I ((b.length : Nat) : Int)) rfl (fun wS HS => y_lenR Try.underlying23 (h1.st HS) rfl) ?_
    have hL77 : ((b ++ marks).take b.length).length = b.length := by rw [List.length_take]; omega
    refine pt (v := slv 1 (0) (b.length) (.slice (some (bs g9)) ((b).length + 8) ((b).length + 8))) rfl (fun wS HS => y_slR (k1 := .i64) (k2 := .i64) (l := 0) (h := b.length) Try.underlying23 sz5 (rd_arr HS 3 rfl hw12 (by unfold maxLen; omega)) rfl (.inl ⟨rfl, rfl⟩) (.inr ⟨_, rfl, rfl⟩) (by omega) (by omega)) ?_
    refine pl rfl (ow_call fn59 rfl (rjoin_c (slv 1 (0) (a.length) (.slice (some (bs g4)) ((a).length + 8) ((a).length + 8))) (slv 1 (0) (b.length) (.slice (some (bs g9)) ((b).length + 8) ((b).length + 8))) ((a' ++ marks).take a.length) ((b ++ marks).take b.length) _ ((rdb_pre (rd_arr H75 4 rfl ((wlen a').trans (by rw [hl'])) (by unfold maxLen; omega)) (by omega))).nil ((rdb_pre (rd_arr H75 3 rfl hw12 (by unfold maxLen; omega)) (by omega))).nil (by omega)) ⟨rfl, rfl, trivial⟩) ?_
    rintro _ w79 ⟨v78, E80, rfl, ho81, H82⟩
    have H83 : St w [] [E80, E40, E26, E16, [(g9, Rw 5 ((b ++ marks).map B8))], [(g4, Rw 5 ((a' ++ marks).map B8))]] w79 := H75.app H82
    have H84 : St w [] [[(g4, Rw 5 ((a' ++ marks).map B8))], E80, E40, E26, E16, [(g9, Rw 5 ((b ++ marks).map B8))]] w79 := H83.foc 5 rfl rfl
    have H85 : St w [] [[(g9, Rw 5 ((b ++ marks).map B8))], [(g4, Rw 5 ((a' ++ marks).map B8))], E80, E40, E26, E16] w79 := H84.foc 5 rfl rfl
    have H86 : St w [] [E16, [(g9, Rw 5 ((b ++ marks).map B8))], [(g4, Rw 5 ((a' ++ marks).map B8))], E80, E40, E26] w79 := H85.foc 5 rfl rfl
    have H87 : St w [] [E26, E16, [(g9, Rw 5 ((b ++ marks).map B8))], [(g4, Rw 5 ((a' ++ marks).map B8))], E80, E40] w79 := H86.foc 5 rfl rfl
    have H88 : St w [] [E40, E26, E16, [(g9, Rw 5 ((b ++ marks).map B8))], [(g4, Rw 5 ((a' ++ marks).map B8))], E80] w79 := H87.foc 5 rfl rfl
    have H89 : St w [] [E40, E26, E16, [(g9, Rw 5 ((b ++ marks).map B8))], [(g4, Rw 5 ((a' ++ marks).map B8))]] w79 := H88.take 5 rfl
    refine ⟨H89, ?_⟩
    refine pt (v := .tuple #[v78, I ((joinE ((a' ++ marks).take a.length) ((b ++ marks).take b.length) : Nat) : Int)]) rfl (fun wS HS => y_move rfl) ?_
    refine pt (v := v78) rfl (fun wS HS => y_extract (i := 0) rfl rfl) ?_
    refine pt (v := I ((joinE ((a' ++ marks).take a.length) ((b ++ marks).take b.length) : Nat) : Int)) rfl (fun wS HS => y_extract (i := 1) rfl rfl) ?_
    refine pt (v := v78) rfl (fun wS HS => y_assign rfl) ?_
    refine tly (v := I ((joinE ((a' ++ marks).take a.length) ((b ++ marks).take b.length) : Nat) : Int)) rfl (y_assign rfl) ?_
    refine p_nil ?_
    refine n_then ?_
    refine c_seq ?_
    refine drawS (.step 0 0 (.step 0 1 (.step 0 2 (.step 0 3 (.step 0 4 (.step 0 5 (.step 0 6 (.step 0 7 (.step 1 8 (.step 0 9 (.step 0 10 (.step 0 11 (.step 0 12 (.step 2 13 .nil)))))))))))))) mixed H83 (by kernel_rfl) (by kernel_rfl) (by kernel_rfl) ?_
    intro w90 H91
    refine pt (v := .slice (some (bs g4)) ((a).length + 8) ((a).length + 8)) rfl (fun wS HS => y_move s6_65) ?_
    refine pt (v := v0) rfl (fun wS HS => y_move s0_65) ?_
    refine pt (v := I ((a.length : Nat) : Int)) rfl (fun wS HS => y_lenR Try.underlying23 (h0.st HS) rfl) ?_
    have hL92 : ((a' ++ marks).take a.length).length = a.length := by rw [List.length_take]; omega
    refine pt (v := slv 1 (0) (a.length) (.slice (some (bs g4)) ((a).length + 8) ((a).length + 8))) rfl (fun wS HS => y_slR (k1 := .i64) (k2 := .i64) (l := 0) (h := a.length) Try.underlying23 sz5 (rd_arr HS 5 rfl ((wlen a').trans (by rw [hl'])) (by unfold maxLen; omega)) rfl (.inl ⟨rfl, rfl⟩) (.inr ⟨_, rfl, rfl⟩) (by omega) (by omega)) ?_
    refine pt (v := .slice (some (bs g9)) ((b).length + 8) ((b).length + 8)) rfl (fun wS HS => y_move s7_65) ?_
    refine pt (v := v1) rfl (fun wS HS => y_move s1_65) ?_
    refine pt (v := I ((b.length : Nat) : Int)) rfl (fun wS HS => y_lenR Try.underlying23 (h1.st HS) rfl) ?_
    have hL93 : ((b ++ marks).take b.length).length = b.length := by rw [List.length_take]; omega
    refine pt (v := slv 1 (0) (b.length) (.slice (some (bs g9)) ((b).length + 8) ((b).length + 8))) rfl (fun wS HS => y_slR (k1 := .i64) (k2 := .i64) (l := 0) (h := b.length) Try.underlying23 sz5 (rd_arr HS 4 rfl hw12 (by unfold maxLen; omega)) rfl (.inl ⟨rfl, rfl⟩) (.inr ⟨_, rfl, rfl⟩) (by omega) (by omega)) ?_
    refine pl rfl (ow_call fn60 rfl (join_c (slv 1 (0) (a.length) (.slice (some (bs g4)) ((a).length + 8) ((a).length + 8))) (slv 1 (0) (b.length) (.slice (some (bs g9)) ((b).length + 8) ((b).length + 8))) ((a' ++ marks).take a.length) ((b ++ marks).take b.length) _ ((rdb_pre (rd_arr H91 5 rfl ((wlen a').trans (by rw [hl'])) (by unfold maxLen; omega)) (by omega))).nil ((rdb_pre (rd_arr H91 4 rfl hw12 (by unfold maxLen; omega)) (by omega))).nil (by omega)) ⟨rfl, rfl, trivial⟩) ?_
    rintro _ w95 ⟨v94, E96, rfl, ho97, H98⟩
    have H99 : St w [] [E96, E80, E40, E26, E16, [(g9, Rw 5 ((b ++ marks).map B8))], [(g4, Rw 5 ((a' ++ marks).map B8))]] w95 := H91.app H98
    have H100 : St w [] [[(g4, Rw 5 ((a' ++ marks).map B8))], E96, E80, E40, E26, E16, [(g9, Rw 5 ((b ++ marks).map B8))]] w95 := H99.foc 6 rfl rfl
    have H101 : St w [] [[(g9, Rw 5 ((b ++ marks).map B8))], [(g4, Rw 5 ((a' ++ marks).map B8))], E96, E80, E40, E26, E16] w95 := H100.foc 6 rfl rfl
    have H102 : St w [] [E16, [(g9, Rw 5 ((b ++ marks).map B8))], [(g4, Rw 5 ((a' ++ marks).map B8))], E96, E80, E40, E26] w95 := H101.foc 6 rfl rfl
    have H103 : St w [] [E26, E16, [(g9, Rw 5 ((b ++ marks).map B8))], [(g4, Rw 5 ((a' ++ marks).map B8))], E96, E80, E40] w95 := H102.foc 6 rfl rfl
    have H104 : St w [] [E40, E26, E16, [(g9, Rw 5 ((b ++ marks).map B8))], [(g4, Rw 5 ((a' ++ marks).map B8))], E96, E80] w95 := H103.foc 6 rfl rfl
    have H105 : St w [] [E80, E40, E26, E16, [(g9, Rw 5 ((b ++ marks).map B8))], [(g4, Rw 5 ((a' ++ marks).map B8))], E96] w95 := H104.foc 6 rfl rfl
    have H106 : St w [] [E80, E40, E26, E16, [(g9, Rw 5 ((b ++ marks).map B8))], [(g4, Rw 5 ((a' ++ marks).map B8))]] w95 := H105.take 6 rfl
    refine ⟨H106, ?_⟩
    refine pt (v := .tuple #[v94, I ((joinE ((a' ++ marks).take a.length) ((b ++ marks).take b.length) : Nat) : Int)]) rfl (fun wS HS => y_move rfl) ?_
    refine pt (v := v94) rfl (fun wS HS => y_extract (i := 0) rfl rfl) ?_
    refine pt (v := I ((joinE ((a' ++ marks).take a.length) ((b ++ marks).take b.length) : Nat) : Int)) rfl (fun wS HS => y_extract (i := 1) rfl rfl) ?_
    refine pt (v := v94) rfl (fun wS HS => y_assign rfl) ?_
    refine tly (v := I ((joinE ((a' ++ marks).take a.length) ((b ++ marks).take b.length) : Nat) : Int)) rfl (y_assign rfl) ?_
    refine p_nil ?_
    refine n_then ?_
    refine c_seq ?_
    refine c_reg ?_
    refine sy (v := v94) (y_move rfl) ?_
    refine sy (v := v78) (y_move rfl) ?_
    refine st (ow_call fn56 rfl (bsame_c (v94) (v78) (joinL ((a' ++ marks).take a.length) ((b ++ marks).take b.length)) (joinL ((a' ++ marks).take a.length) ((b ++ marks).take b.length)) _ ((ho97.rd H99 0 rfl)).nil ((ho81.rd H99 1 rfl)).nil) ⟨rfl, rfl, trivial⟩) ?_
    rintro _ w107 ⟨rfl, hB108⟩
    have H109 : St w [] [E96, E80, E40, E26, E16, [(g9, Rw 5 ((b ++ marks).map B8))], [(g4, Rw 5 ((a' ++ marks).map B8))]] w107 := H99.call hB108
    refine sy (v := .bool (decide ((joinL ((a' ++ marks).take a.length) ((b ++ marks).take b.length)) = (joinL ((a' ++ marks).take a.length) ((b ++ marks).take b.length))))) (y_assign rfl) ?_
    refine c_nil ?_
    refine n_then ?_
    refine c_seq ?_
    refine c_reg ?_
    refine sy (v := v24) (y_move s10_65) ?_
    refine sy (v := v14) (y_move s8_65) ?_
    refine st (ow_call fn56 rfl (bsame_c (v24) (v14) (joinL ((a ++ marks).take a.length) ((b ++ marks).take b.length)) (joinL (a) (b)) _ ((ho27.rd H109 3 rfl)).nil ((ho17.rd H109 4 rfl)).nil) ⟨rfl, rfl, trivial⟩) ?_
    rintro _ w110 ⟨rfl, hB111⟩
    have H112 : St w [] [E96, E80, E40, E26, E16, [(g9, Rw 5 ((b ++ marks).map B8))], [(g4, Rw 5 ((a' ++ marks).map B8))]] w110 := H109.call hB111
    refine sy (v := .bool (decide ((joinL ((a ++ marks).take a.length) ((b ++ marks).take b.length)) = (joinL (a) (b))))) (y_assign rfl) ?_
    refine c_nil ?_
    refine n_then ?_
    refine c_seq ?_
    refine c_seq ?_
    refine c_reg ?_
    refine sy (v := I ((joinE ((a' ++ marks).take a.length) ((b ++ marks).take b.length) : Nat) : Int)) (y_move rfl) ?_
    refine sy (v := I ((joinE ((a' ++ marks).take a.length) ((b ++ marks).take b.length) : Nat) : Int)) (y_move rfl) ?_
    refine sy (v := .bool (decide ((joinE ((a' ++ marks).take a.length) ((b ++ marks).take b.length)) ≠ (joinE ((a' ++ marks).take a.length) ((b ++ marks).take b.length))))) (n_neq (a := joinE ((a' ++ marks).take a.length) ((b ++ marks).take b.length)) (b := joinE ((a' ++ marks).take a.length) ((b ++ marks).take b.length)) rfl rfl) ?_
    refine sy (v := .bool (decide ((joinE ((a' ++ marks).take a.length) ((b ++ marks).take b.length)) ≠ (joinE ((a' ++ marks).take a.length) ((b ++ marks).take b.length))))) (y_move rfl) ?_
    have hq113 : ¬ ((joinE ((a' ++ marks).take a.length) ((b ++ marks).take b.length)) ≠ (joinE ((a' ++ marks).take a.length) ((b ++ marks).take b.length))) := (fun h => h rfl)
    refine gsy (v := .bool (decide ((joinL ((a' ++ marks).take a.length) ((b ++ marks).take b.length)) = (joinL ((a' ++ marks).take a.length) ((b ++ marks).take b.length))))) (gv_of (t := 145) rfl rfl rfl) (decide_eq_false hq113) (y_move rfl) ?_
    refine gsy (v := .bool (decide (¬ ((joinL ((a' ++ marks).take a.length) ((b ++ marks).take b.length)) = (joinL ((a' ++ marks).take a.length) ((b ++ marks).take b.length)))))) (gv_of (t := 145) rfl rfl rfl) (decide_eq_false hq113) (y_notP rfl) ?_
    refine sy (v := .bool (decide (¬ ((joinL ((a' ++ marks).take a.length) ((b ++ marks).take b.length)) = (joinL ((a' ++ marks).take a.length) ((b ++ marks).take b.length)))))) (y_pickF rfl (decide_eq_false hq113) rfl) ?_
    refine sy (v := .bool (decide (¬ ((joinL ((a' ++ marks).take a.length) ((b ++ marks).take b.length)) = (joinL ((a' ++ marks).take a.length) ((b ++ marks).take b.length)))))) (y_move rfl) ?_
    have hq114 : (joinL ((a' ++ marks).take a.length) ((b ++ marks).take b.length)) = (joinL ((a' ++ marks).take a.length) ((b ++ marks).take b.length)) := rfl
    refine gsy (v := .bool (decide ((joinL ((a ++ marks).take a.length) ((b ++ marks).take b.length)) = (joinL (a) (b))))) (gv_of (t := 149) rfl rfl rfl) (decide_eq_false (not_not_intro hq114)) (y_move rfl) ?_
    refine gsy (v := .bool (decide (¬ ((joinL ((a ++ marks).take a.length) ((b ++ marks).take b.length)) = (joinL (a) (b)))))) (gv_of (t := 149) rfl rfl rfl) (decide_eq_false (not_not_intro hq114)) (y_notP rfl) ?_
    refine sy (v := .bool (decide (¬ ((joinL ((a ++ marks).take a.length) ((b ++ marks).take b.length)) = (joinL (a) (b)))))) (y_pickF rfl (decide_eq_false (not_not_intro hq114)) rfl) ?_
    refine c_nil ?_
    refine n_then ?_
    refine c_f rfl (decide_eq_false (not_not_intro hq62)) ?_
    refine wp_skip ?_
    refine n_then ?_
    refine c_seq ?_
    refine c_reg ?_
    refine sy (v := v24) (y_move s10_65) ?_
    refine sy (v := v38) (y_move s12_65) ?_
    refine sy (v := v94) (y_move rfl) ?_
    refine st (ow_buildSlice (pv := [(0, v24), (1, v38), (2, v94)]) (us := [v24, v38, v94]) Try.underlying36 sz23 zr23 H112 ⟨⟨rfl, rfl⟩, ⟨rfl, rfl⟩, ⟨rfl, rfl⟩, trivial⟩ (by decide) (fill3 (ho27.rd H112 3 rfl).cells (ho41.rd H112 2 rfl).cells (ho97.rd H112 0 rfl).cells)) ?_
    rintro _ w116 ⟨g115, rfl, H117⟩
    have H120 : St w [] [E96, [(g115, Rw 23 ([v24, v38, v94]))], E80, E40, E26, E16, [(g9, Rw 5 ((b ++ marks).map B8))], [(g4, Rw 5 ((a' ++ marks).map B8))]] w116 := H117.foc 1 rfl rfl
    have H121 : St w [] [E40, E96, [(g115, Rw 23 ([v24, v38, v94]))], E80, E26, E16, [(g9, Rw 5 ((b ++ marks).map B8))], [(g4, Rw 5 ((a' ++ marks).map B8))]] w116 := H120.foc 3 rfl rfl
    have H122 : St w [] [E26, E40, E96, [(g115, Rw 23 ([v24, v38, v94]))], E80, E16, [(g9, Rw 5 ((b ++ marks).map B8))], [(g4, Rw 5 ((a' ++ marks).map B8))]] w116 := H121.foc 4 rfl rfl
    have H123 : St w [] [E26, E40, E96, [(g115, Rw 23 ([v24, v38, v94]))]] w116 := H122.take 4 rfl
    refine st (ow_call fn57 rfl (bgrown_c w _ (v24) (v38) (v94) (joinL ((a ++ marks).take a.length) ((b ++ marks).take b.length)) (joinL ((a ++ marks).take a.length) ((b ++ marks).take b.length)) (joinL ((a' ++ marks).take a.length) ((b ++ marks).take b.length)) E26 E40 E96 g115 H123 ho27 ho41 ho97 (joinL_le _ _) (joinL_le _ _) (joinL_le _ _)) ⟨rfl, trivial⟩) ?_
    rintro _ w118 ⟨rfl, hB119⟩
    have H124 : St w [] [] w118 := ⟨hB119.os, hB119.tape, hB119.output, hB119.size, fun k hk _ => hB119.block k hk, by simp, by simp, .nil⟩
    refine sy (v := .bool (true)) (y_assign rfl) ?_
    refine c_nil ?_
    refine n_then ?_
    refine wp_ret ?_
    refine e_r1 Try.results11 (rv_t rfl) ?_
    exact ⟨_, rfl, rfl, H124.below⟩


namespace BloomJoinsDone
open Go.ChangeShapes Go.WideShapes Go.ChangeAt
set_option linter.unusedVariables false
set_option maxRecDepth 100000 in
theorem lifted (os : Os) (started : os.Started) (H : Type) (enc : TypeId × Value → H) :
    ReturnsInHanded {} Try.checked os 11 .any (Rows.bloomJoinsSpec.pre6 enc Try.prog Try.f11 Rows.bloomJoinsRow.domain false) (Rows.bloomJoinsSpec.post enc Try.prog Try.f11 false true false false) := by
  refine returnsInHanded_of_change_sized (C := Try.checked) own started (by kernel_rfl) Try.func11
    (ChangeSpec.witness6 (enc := enc) (C := Try.checked) false ⟨#[], #[.slice none 0 0, .slice none 0 0], []⟩ 8 (by kernel_rfl) (by kernel_rfl) (by kernel_rfl) (by kernel_rfl)) ?_
  intro W base args ds gs before hval0 hW hcnd hsz0 _
  have hval : ∀ (j : Nat) t v, Try.f11.params[j]? = some t → args[j]? = some v → Value.okWide Try.prog W .any base t v := hval0
  have hW' := hW
  obtain ⟨p, q, hA0, hV, rfl, hfz, hnd⟩ := hW
  have hA : DataW.TrodAll enc Try.prog W 0 (fun _ => true) true Try.f11.params.toList args.toList ds p := hA0
  have hsz : (DataW.weightsEach Try.prog (Try.f11.params.toList ++ Rows.bloomJoinsSpec.plain.varTypes Try.prog) (ds ++ gs)).all (· ≤ reachBytes) = true := hsz0
  rw [Try.params11] at hA hval hsz
  obtain ⟨v0, vs0, d0, ds0, p0, q0, hargs, rfl, rfl, h0, r0⟩ := trodAll_cons hA
  obtain ⟨v1, vs1, d1, ds1, p1, q1, rfl, rfl, rfl, h1, r1⟩ := trodAll_cons r0
  obtain ⟨rfl, rfl, rfl⟩ := trodAll_nil r1
  obtain rfl : args = #[v0, v1] := by cases args; simp_all
  obtain ⟨rfl, rfl⟩ := trodVars_none hV
  have lt0 : ∀ x ∈ p0, x.block < W.heap.size := by obtain ⟨m, hm⟩ := h0; exact DataW.trod_lt m _ _ _ hm
  obtain ⟨l0, hR0, hl0⟩ := bytes_arg Try.underlying23 Try.underlying5 (by kernel_rfl) (by kernel_rfl) h0 (okWide_slice Try.underlying23 (hval 0 23 v0 rfl rfl)) hsz (j := 0) rfl rfl
  have lt1 : ∀ x ∈ p1, x.block < W.heap.size := by obtain ⟨m, hm⟩ := h1; exact DataW.trod_lt m _ _ _ hm
  obtain ⟨l1, hR1, hl1⟩ := bytes_arg Try.underlying23 Try.underlying5 (by kernel_rfl) (by kernel_rfl) h1 (okWide_slice Try.underlying23 (hval 1 23 v1 rfl rfl)) hsz (j := 1) rfl rfl
  refine (bloomJoins_c v0 v1 l0 l1 W hR0 hR1 hl0 hl1).mono fun e W' ⟨v, he, hv, bel⟩ => ?_
  subst he hv
  exact ⟨_, rfl, _, _, _, [], _, [], hW', trodAll_mk1 (shut_bool Try.underlying4 _), (trodAll_cons_mk (Below.trod laidOut (by kernel_rfl) (of_decide_eq_true (by kernel_rfl)) h0 bel lt0) (trodAll_cons_mk (Below.trod laidOut (by kernel_rfl) (of_decide_eq_true (by kernel_rfl)) h1 bel lt1) trodAll_mk0)), rfl, bel.frame _, fun h => by cases h⟩
theorem over : Rows.bloomJoinsRow.holds Try.pinned (OpenSpec.ofChange Rows.bloomJoinsSpec) :=
  OpenClaim.holds_of_wide 11 Try.f11 rfl rfl rfl rfl rfl rfl rfl ⟨rfl, rfl, rfl, rfl, rfl⟩ rfl rfl rfl rfl rfl (by kernel_rfl) Try.func11 (by kernel_rfl)
    (of_decide_eq_true (by kernel_rfl)) (by unfold Func.isWrapper; first | (rw [if_pos (by decide +kernel)]; kernel_rfl) | (rw [if_neg (by decide +kernel)]; exact ⟨rfl, rfl⟩))
    (fun os started H enc _ => lifted os started H enc)
/-- THE STATEMENT -/
theorem proved : Rows.BloomJoinsSaid := over
end BloomJoinsDone

end Go.Proofs.Ytdcmbcjkdhdohaa
