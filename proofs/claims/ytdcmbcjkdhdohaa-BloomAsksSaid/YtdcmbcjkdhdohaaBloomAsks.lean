/- BloomAsks returns true for every salt, bytes and hash: no condition but the form's own reach. -/
import Derived.Test.YtdcmbcjkdhdohaaBloom5
namespace Go.Proofs.Ytdcmbcjkdhdohaa
open Go Go.RowKit
set_option linter.unusedSimpArgs false
set_option linter.unusedVariables false
attribute [local irreducible] wpList wpP Code.wp

set_option maxHeartbeats 2000000 in
theorem bloomAsks_c (x : UInt64) (v1 : Value) (b h : List UInt8) (w : World) (h1 : Rd [] w 1 v1 b.length (b.map B8)) (hh : h.length = 32) (hlb : b.length ≤ 140737488351232) :
    Calls Try.prog 12 (([U64 (x), v1, .agg ((h).map B8).toArray] : List Value).toArray) w (fun e w' => ∃ v, e = .returned v ∧ v = .bool true ∧ Below w.heap.size w w') := by
  refine calls_mk Try.func12 rfl 98 Try.ntmps12 rfl ?_
  have H0 : St w [] [] w := St.refl w
  refine c_seq ?_
  refine c_reg ?_
  refine st (ow_box (l := (h).map B8) H0 rfl rfl) ?_
  rintro _ w2 ⟨g1, rfl, H3⟩
  refine sy (v := .bool (false)) (y_assign (v := .bool (false)) rfl) ?_
  refine c_nil ?_
  refine n_then ?_
  refine c_seq ?_
  refine c_reg ?_
  refine st (ow_call fn31 rfl (bfixed_c _) trivial) ?_
  rintro _ w4 ⟨rfl, hB5⟩
  have H6 : St w [] [[(g1, Rw 26 ((h).map B8))]] w4 := H3.call hB5
  refine sy (v := .bool (true)) (y_assign rfl) ?_
  refine c_nil ?_
  refine n_then ?_
  refine c_seq ?_
  refine c_reg ?_
  refine sy (v := v1) (y_move rfl) ?_
  refine st (ow_call fn58 rfl (bwide_c (v1) (b) _ ((h1.st H6)).nil (by omega)) ⟨rfl, trivial⟩) ?_
  rintro _ w8 ⟨g7, rfl, H9⟩
  have hw10 := wlen b
  have H11 : St w [] [[(g7, Rw 5 ((b ++ marks).map B8))], [(g1, Rw 26 ((h).map B8))]] w8 := H6.app H9
  refine sy (v := .slice (some (bs g7)) ((b).length + 8) ((b).length + 8)) (y_assign rfl) ?_
  refine c_nil ?_
  refine n_then ?_
  refine c_seq ?_
  refine c_seq ?_
  refine c_reg ?_
  refine sy (v := I ((0 : Nat) : Int)) (y_assign (v := I ((0 : Nat) : Int)) rfl) ?_
  refine c_nil ?_
  refine n_then ?_
  refine wp_block ?_
  refine c_loop (fun (i : Nat) f12 w13 => ∃ (a' : List UInt8), f12 0 = U64 (x) ∧ f12 1 = v1 ∧ f12 5 = Ad (bs g1) (0) ∧ f12 7 = .bool (true) ∧ f12 8 = .slice (some (bs g7)) ((b).length + 8) ((b).length + 8) ∧ f12 9 = I ((i : Nat) : Int) ∧ i ≤ 2 ∧ a'.length = b.length ∧ (i = 0 → a' = b) ∧ St w [] [[(g7, Rw 5 ((a' ++ marks).map B8))], [(g1, Rw 26 ((h).map B8))]] w13) (fun i => 2 - i) 0 ⟨b, rfl, rfl, rfl, rfl, rfl, rfl, (by omega), rfl, (fun _ => rfl), H11⟩ ?_
  rintro i f12 w13 ⟨a', s0_14, s1_14, s5_14, s7_14, s8_14, s9_14, hi, hl', hab, H14⟩
  have hwl' : (a' ++ marks).length = b.length + 8 := (wlen a').trans (by rw [hl'])
  refine c_seq ?_
  refine c_seq ?_
  refine c_reg ?_
  refine sy (v := I ((i : Nat) : Int)) (y_move s9_14) ?_
  refine sy (v := .bool (decide (i < 2))) (n_lss (a := i) (b := 2) rfl rfl) ?_
  refine c_nil ?_
  refine n_then ?_
  refine c_if rfl (fun hc15 => ?_) (fun hc15 => ?_)
  · skip
    refine wp_skip ?_
    refine n_then ?_
    refine c_seq ?_
    refine wp_block ?_
    refine c_seq ?_
    refine c_reg ?_
    refine sy (v := .slice (some (bs g7)) ((b).length + 8) ((b).length + 8)) (y_move s8_14) ?_
    refine sy (v := v1) (y_move s1_14) ?_
    refine sy (v := I ((b.length : Nat) : Int)) (y_lenR Try.underlying23 (h1.st H14) rfl) ?_
    have hL16 : ((a' ++ marks).take b.length).length = b.length := by rw [List.length_take]; omega
    refine sy (v := slv 1 (0) (b.length) (.slice (some (bs g7)) ((b).length + 8) ((b).length + 8))) (y_slR (k1 := .i64) (k2 := .i64) (l := 0) (h := b.length) Try.underlying23 sz5 (rd_arr H14 0 rfl ((wlen a').trans (by rw [hl'])) (by unfold maxLen; omega)) rfl (.inl ⟨rfl, rfl⟩) (.inr ⟨_, rfl, rfl⟩) (by omega) (by omega)) ?_
    refine st (ow_call fn62 rfl (right_c (slv 1 (0) (b.length) (.slice (some (bs g7)) ((b).length + 8) ((b).length + 8))) ((a' ++ marks).take b.length) _ ((rdb_pre (rd_arr H14 0 rfl ((wlen a').trans (by rw [hl'])) (by unfold maxLen; omega)) (by omega))).nil) ⟨rfl, trivial⟩) ?_
    rintro _ w17 ⟨rfl, hB18⟩
    have H19 : St w [] [[(g7, Rw 5 ((a' ++ marks).map B8))], [(g1, Rw 26 ((h).map B8))]] w17 := H14.call hB18
    refine sy (v := .bool (decide (okS ((((a' ++ marks).take b.length).length : Nat) : Int)))) (y_assign rfl) ?_
    refine c_nil ?_
    refine n_then ?_
    refine c_seq ?_
    refine c_reg ?_
    refine sy (v := .slice (some (bs g7)) ((b).length + 8) ((b).length + 8)) (y_move s8_14) ?_
    refine sy (v := v1) (y_move s1_14) ?_
    refine sy (v := I ((b.length : Nat) : Int)) (y_lenR Try.underlying23 (h1.st H19) rfl) ?_
    have hL20 : ((a' ++ marks).take b.length).length = b.length := by rw [List.length_take]; omega
    refine sy (v := slv 1 (0) (b.length) (.slice (some (bs g7)) ((b).length + 8) ((b).length + 8))) (y_slR (k1 := .i64) (k2 := .i64) (l := 0) (h := b.length) Try.underlying23 sz5 (rd_arr H19 0 rfl ((wlen a').trans (by rw [hl'])) (by unfold maxLen; omega)) rfl (.inl ⟨rfl, rfl⟩) (.inr ⟨_, rfl, rfl⟩) (by omega) (by omega)) ?_
    refine st (ow_call fn63 rfl (count_c (slv 1 (0) (b.length) (.slice (some (bs g7)) ((b).length + 8) ((b).length + 8))) ((a' ++ marks).take b.length) _ ((rdb_pre (rd_arr H19 0 rfl ((wlen a').trans (by rw [hl'])) (by unfold maxLen; omega)) (by omega))).nil (by omega)) ⟨rfl, trivial⟩) ?_
    rintro _ w21 ⟨rfl, hB22⟩
    have H23 : St w [] [[(g7, Rw 5 ((a' ++ marks).map B8))], [(g1, Rw 26 ((h).map B8))]] w21 := H19.call hB22
    refine sy (v := I ((cntN ((a' ++ marks).take b.length) (8 * ((a' ++ marks).take b.length).length) : Nat) : Int)) (y_assign rfl) ?_
    refine c_nil ?_
    refine n_then ?_
    refine c_seq ?_
    refine drawS (.step 0 0 (.step 0 1 (.step 0 2 (.step 0 3 (.step 0 4 (.step 0 5 (.step 1 6 (.step 0 7 (.step 0 8 (.step 0 9 (.step 0 10 (.step 2 11 .nil)))))))))))) mixed H23 (by kernel_rfl) (by kernel_rfl) (by kernel_rfl) ?_
    intro w24 H25
    refine pt (v := U64 (x)) rfl (fun wS HS => y_move s0_14) ?_
    refine pt (v := .slice (some (bs g7)) ((b).length + 8) ((b).length + 8)) rfl (fun wS HS => y_move s8_14) ?_
    refine pt (v := v1) rfl (fun wS HS => y_move s1_14) ?_
    refine pt (v := I ((b.length : Nat) : Int)) rfl (fun wS HS => y_lenR Try.underlying23 (h1.st HS) rfl) ?_
    have hL26 : ((a' ++ marks).take b.length).length = b.length := by rw [List.length_take]; omega
    refine pt (v := slv 1 (0) (b.length) (.slice (some (bs g7)) ((b).length + 8) ((b).length + 8))) rfl (fun wS HS => y_slR (k1 := .i64) (k2 := .i64) (l := 0) (h := b.length) Try.underlying23 sz5 (rd_arr HS 0 rfl ((wlen a').trans (by rw [hl'])) (by unfold maxLen; omega)) rfl (.inl ⟨rfl, rfl⟩) (.inr ⟨_, rfl, rfl⟩) (by omega) (by omega)) ?_
    refine pt (v := .agg ((h).map B8).toArray) rfl (fun wS HS => y_loadA (us := (h).map B8) ag26 sz26 ((List.length_map _).trans hh) s5_14 (fun j u hu => (HS.cell 1 rfl (by rw [Nat.zero_add]; exact hu)))) ?_
    refine pl rfl (ow_call fn64 rfl (has_c (x) (slv 1 (0) (b.length) (.slice (some (bs g7)) ((b).length + 8) ((b).length + 8))) ((a' ++ marks).take b.length) (h) _ ((rdb_pre (rd_arr H25 0 rfl ((wlen a').trans (by rw [hl'])) (by unfold maxLen; omega)) (by omega))).nil hh) ⟨rfl, rfl, rfl, trivial⟩) ?_
    rintro _ w27 ⟨rfl, hB28⟩
    have H29 : St w [] [[(g7, Rw 5 ((a' ++ marks).map B8))], [(g1, Rw 26 ((h).map B8))]] w27 := H25.call hB28
    refine ⟨H29, ?_⟩
    refine pt (v := .tuple #[.bool (decide (hasP (x) ((a' ++ marks).take b.length) (h))), I ((hasE ((a' ++ marks).take b.length) : Nat) : Int)]) rfl (fun wS HS => y_move rfl) ?_
    refine pt (v := .bool (decide (hasP (x) ((a' ++ marks).take b.length) (h)))) rfl (fun wS HS => y_extract (i := 0) rfl rfl) ?_
    refine pt (v := I ((hasE ((a' ++ marks).take b.length) : Nat) : Int)) rfl (fun wS HS => y_extract (i := 1) rfl rfl) ?_
    refine pt (v := .bool (decide (hasP (x) ((a' ++ marks).take b.length) (h)))) rfl (fun wS HS => y_assign rfl) ?_
    refine tly (v := I ((hasE ((a' ++ marks).take b.length) : Nat) : Int)) rfl (y_assign rfl) ?_
    refine p_nil ?_
    refine n_then ?_
    refine c_seq ?_
    refine drawS (.step 0 0 (.step 0 1 (.step 0 2 (.step 0 3 (.step 0 4 (.step 0 5 (.step 1 6 (.step 0 7 (.step 0 8 (.step 0 9 (.step 0 10 (.step 2 11 .nil)))))))))))) mixed H29 (by kernel_rfl) (by kernel_rfl) (by kernel_rfl) ?_
    intro w30 H31
    refine pt (v := U64 (x)) rfl (fun wS HS => y_move s0_14) ?_
    refine pt (v := .slice (some (bs g7)) ((b).length + 8) ((b).length + 8)) rfl (fun wS HS => y_move s8_14) ?_
    refine pt (v := v1) rfl (fun wS HS => y_move s1_14) ?_
    refine pt (v := I ((b.length : Nat) : Int)) rfl (fun wS HS => y_lenR Try.underlying23 (h1.st HS) rfl) ?_
    have hL32 : ((a' ++ marks).take b.length).length = b.length := by rw [List.length_take]; omega
    refine pt (v := slv 1 (0) (b.length) (.slice (some (bs g7)) ((b).length + 8) ((b).length + 8))) rfl (fun wS HS => y_slR (k1 := .i64) (k2 := .i64) (l := 0) (h := b.length) Try.underlying23 sz5 (rd_arr HS 0 rfl ((wlen a').trans (by rw [hl'])) (by unfold maxLen; omega)) rfl (.inl ⟨rfl, rfl⟩) (.inr ⟨_, rfl, rfl⟩) (by omega) (by omega)) ?_
    refine pt (v := .agg ((h).map B8).toArray) rfl (fun wS HS => y_loadA (us := (h).map B8) ag26 sz26 ((List.length_map _).trans hh) s5_14 (fun j u hu => (HS.cell 1 rfl (by rw [Nat.zero_add]; exact hu)))) ?_
    refine pl rfl (ow_call fn65 rfl (rhas_c (x) (slv 1 (0) (b.length) (.slice (some (bs g7)) ((b).length + 8) ((b).length + 8))) ((a' ++ marks).take b.length) (h) _ ((rdb_pre (rd_arr H31 0 rfl ((wlen a').trans (by rw [hl'])) (by unfold maxLen; omega)) (by omega))).nil hh) ⟨rfl, rfl, rfl, trivial⟩) ?_
    rintro _ w33 ⟨rfl, hB34⟩
    have H35 : St w [] [[(g7, Rw 5 ((a' ++ marks).map B8))], [(g1, Rw 26 ((h).map B8))]] w33 := H31.call hB34
    refine ⟨H35, ?_⟩
    refine pt (v := .tuple #[.bool (decide (hasP (x) ((a' ++ marks).take b.length) (h))), I ((hasE ((a' ++ marks).take b.length) : Nat) : Int)]) rfl (fun wS HS => y_move rfl) ?_
    refine pt (v := .bool (decide (hasP (x) ((a' ++ marks).take b.length) (h)))) rfl (fun wS HS => y_extract (i := 0) rfl rfl) ?_
    refine pt (v := I ((hasE ((a' ++ marks).take b.length) : Nat) : Int)) rfl (fun wS HS => y_extract (i := 1) rfl rfl) ?_
    refine pt (v := .bool (decide (hasP (x) ((a' ++ marks).take b.length) (h)))) rfl (fun wS HS => y_assign rfl) ?_
    refine tly (v := I ((hasE ((a' ++ marks).take b.length) : Nat) : Int)) rfl (y_assign rfl) ?_
    refine p_nil ?_
    refine n_then ?_
    refine c_seq ?_
    refine c_seq ?_
    refine c_reg ?_
    refine sy (v := .bool (decide (okS ((((a' ++ marks).take b.length).length : Nat) : Int)))) (y_move rfl) ?_
    refine sy (v := v1) (y_move s1_14) ?_
    refine st (ow_call fn66 rfl (rright_c (v1) (b) _ ((h1.st H35)).nil) ⟨rfl, trivial⟩) ?_
    rintro _ w36 ⟨rfl, hB37⟩
    have H38 : St w [] [[(g7, Rw 5 ((a' ++ marks).map B8))], [(g1, Rw 26 ((h).map B8))]] w36 := H35.call hB37
    have e39 : ((decide (okS ((((a' ++ marks).take b.length).length : Nat) : Int))) != (decide (okS ((b.length : Nat) : Int)))) = false := by rw [show ((a' ++ marks).take b.length).length = b.length by rw [List.length_take]; omega]; exact bne_self_eq_false _
    refine sy (v := .bool (false)) ((e39 ▸ y_neqB (p := decide (okS ((((a' ++ marks).take b.length).length : Nat) : Int))) (q := decide (okS ((b.length : Nat) : Int))) rfl rfl Try.underlying4)) ?_
    refine sy (v := .bool (false)) (y_move rfl) ?_
    refine gsy (v := I ((cntN ((a' ++ marks).take b.length) (8 * ((a' ++ marks).take b.length).length) : Nat) : Int)) (gv_of (t := 59) rfl rfl rfl) (rfl) (y_move rfl) ?_
    refine gsy (v := .slice (some (bs g7)) ((b).length + 8) ((b).length + 8)) (gv_of (t := 59) rfl rfl rfl) (rfl) (y_move s8_14) ?_
    refine gsy (v := v1) (gv_of (t := 59) rfl rfl rfl) (rfl) (y_move s1_14) ?_
    refine gsy (v := I ((b.length : Nat) : Int)) (gv_of (t := 59) rfl rfl rfl) (rfl) (y_lenR Try.underlying23 (h1.st H38) rfl) ?_
    have hL40 : ((a' ++ marks).take b.length).length = b.length := by rw [List.length_take]; omega
    refine gsy (v := slv 1 (0) (b.length) (.slice (some (bs g7)) ((b).length + 8) ((b).length + 8))) (gv_of (t := 59) rfl rfl rfl) (rfl) (y_slR (k1 := .i64) (k2 := .i64) (l := 0) (h := b.length) Try.underlying23 sz5 (rd_arr H38 0 rfl ((wlen a').trans (by rw [hl'])) (by unfold maxLen; omega)) rfl (.inl ⟨rfl, rfl⟩) (.inr ⟨_, rfl, rfl⟩) (by omega) (by omega)) ?_
    refine gst (gv_of (t := 59) rfl rfl rfl) (rfl) (ow_call fn67 rfl (rcount_c (slv 1 (0) (b.length) (.slice (some (bs g7)) ((b).length + 8) ((b).length + 8))) ((a' ++ marks).take b.length) _ ((rdb_pre (rd_arr H38 0 rfl ((wlen a').trans (by rw [hl'])) (by unfold maxLen; omega)) (by omega))).nil (by omega)) ⟨rfl, trivial⟩) ?_
    rintro _ w41 ⟨rfl, hB42⟩
    have H43 : St w [] [[(g7, Rw 5 ((a' ++ marks).map B8))], [(g1, Rw 26 ((h).map B8))]] w41 := H38.call hB42
    refine gsy (v := .bool (decide ((cntN ((a' ++ marks).take b.length) (8 * ((a' ++ marks).take b.length).length)) ≠ (cntN ((a' ++ marks).take b.length) (8 * ((a' ++ marks).take b.length).length))))) (gv_of (t := 59) rfl rfl rfl) (rfl) (n_neq (a := cntN ((a' ++ marks).take b.length) (8 * ((a' ++ marks).take b.length).length)) (b := cntN ((a' ++ marks).take b.length) (8 * ((a' ++ marks).take b.length).length)) rfl rfl) ?_
    refine sy (v := .bool (decide ((cntN ((a' ++ marks).take b.length) (8 * ((a' ++ marks).take b.length).length)) ≠ (cntN ((a' ++ marks).take b.length) (8 * ((a' ++ marks).take b.length).length))))) (y_pickF rfl (rfl) rfl) ?_
    refine sy (v := .bool (decide ((cntN ((a' ++ marks).take b.length) (8 * ((a' ++ marks).take b.length).length)) ≠ (cntN ((a' ++ marks).take b.length) (8 * ((a' ++ marks).take b.length).length))))) (y_move rfl) ?_
    have hq44 : ¬ ((cntN ((a' ++ marks).take b.length) (8 * ((a' ++ marks).take b.length).length)) ≠ (cntN ((a' ++ marks).take b.length) (8 * ((a' ++ marks).take b.length).length))) := (fun h => h rfl)
    refine gsy (v := .bool (decide (hasP (x) ((a' ++ marks).take b.length) (h)))) (gv_of (t := 68) rfl rfl rfl) (decide_eq_false hq44) (y_move rfl) ?_
    refine gsy (v := .bool (decide (hasP (x) ((a' ++ marks).take b.length) (h)))) (gv_of (t := 68) rfl rfl rfl) (decide_eq_false hq44) (y_move rfl) ?_
    have e45 : ((decide (hasP (x) ((a' ++ marks).take b.length) (h))) != (decide (hasP (x) ((a' ++ marks).take b.length) (h)))) = false := bne_self_eq_false _
    refine gsy (v := .bool (false)) (gv_of (t := 68) rfl rfl rfl) (decide_eq_false hq44) ((e45 ▸ y_neqB (p := decide (hasP (x) ((a' ++ marks).take b.length) (h))) (q := decide (hasP (x) ((a' ++ marks).take b.length) (h))) rfl rfl Try.underlying4)) ?_
    refine sy (v := .bool (false)) (y_pickF rfl (decide_eq_false hq44) rfl) ?_
    refine sy (v := .bool (false)) (y_move rfl) ?_
    refine gsy (v := I ((hasE ((a' ++ marks).take b.length) : Nat) : Int)) (gv_of (t := 73) rfl rfl rfl) (rfl) (y_move rfl) ?_
    refine gsy (v := I ((hasE ((a' ++ marks).take b.length) : Nat) : Int)) (gv_of (t := 73) rfl rfl rfl) (rfl) (y_move rfl) ?_
    refine gsy (v := .bool (decide ((hasE ((a' ++ marks).take b.length)) ≠ (hasE ((a' ++ marks).take b.length))))) (gv_of (t := 73) rfl rfl rfl) (rfl) (n_neq (a := hasE ((a' ++ marks).take b.length)) (b := hasE ((a' ++ marks).take b.length)) rfl rfl) ?_
    refine sy (v := .bool (decide ((hasE ((a' ++ marks).take b.length)) ≠ (hasE ((a' ++ marks).take b.length))))) (y_pickF rfl (rfl) rfl) ?_
    refine c_nil ?_
    refine n_then ?_
    have hq46 : ¬ ((hasE ((a' ++ marks).take b.length)) ≠ (hasE ((a' ++ marks).take b.length))) := (fun h => h rfl)
    refine c_f rfl (decide_eq_false hq46) ?_
    refine wp_skip ?_
    refine n_then ?_
    refine c_seq ?_
    refine c_reg ?_
    refine sy (v := I ((i : Nat) : Int)) (y_move s9_14) ?_
    refine sy (v := .bool (decide (i = 0))) (n_eql (a := i) (b := 0) rfl rfl) ?_
    refine c_nil ?_
    refine n_then ?_
    refine c_if rfl (fun hc47 => ?_) (fun hc47 => ?_)
    · skip
      obtain rfl : b = a' := (hab (by omega)).symm
      refine c_seq ?_
      refine c_reg ?_
      refine sy (v := .slice (some (bs g7)) ((b).length + 8) ((b).length + 8)) (y_move s8_14) ?_
      refine sy (v := v1) (y_move s1_14) ?_
      refine st (ow_call fn61 rfl (bkept_c (.slice (some (bs g7)) ((b).length + 8) ((b).length + 8)) (v1) (b) _ ((rd_arr H43 0 rfl (by simp [*]) (by unfold maxLen; omega))).nil ((h1.st H43)).nil (by omega)) ⟨rfl, rfl, trivial⟩) ?_
      rintro _ w48 ⟨rfl, hB49⟩
      have H50 : St w [] [[(g7, Rw 5 ((b ++ marks).map B8))], [(g1, Rw 26 ((h).map B8))]] w48 := H43.call hB49
      refine sy (v := .bool (true)) (y_assign rfl) ?_
      refine c_nil ?_
      refine n_then ?_
      refine c_seq ?_
      refine c_seq ?_
      refine c_reg ?_
      refine sy (v := .bool (true)) (y_move rfl) ?_
      refine sy (v := .bool (false)) (y_not (p := true) rfl) ?_
      refine c_nil ?_
      refine n_then ?_
      refine c_f rfl rfl ?_
      refine wp_skip ?_
      refine n_then ?_
      refine c_seq ?_
      refine c_reg ?_
      refine sy (v := I ((0 : Nat) : Int)) (y_assign (v := I ((0 : Nat) : Int)) rfl) ?_
      refine c_nil ?_
      refine n_then ?_
      refine wp_block ?_
      refine c_loop (fun (j : Nat) f51 w52 => ∃ (a2 : List UInt8), f51 0 = U64 (x) ∧ f51 1 = v1 ∧ f51 5 = Ad (bs g1) (0) ∧ f51 7 = .bool (true) ∧ f51 8 = .slice (some (bs g7)) ((b).length + 8) ((b).length + 8) ∧ f51 9 = I ((i : Nat) : Int) ∧ f51 17 = I ((j : Nat) : Int) ∧ j ≤ b.length ∧ a2.length = b.length ∧ St w [] [[(g7, Rw 5 ((a2 ++ marks).map B8))], [(g1, Rw 26 ((h).map B8))]] w52) (fun j => b.length - j) 0 ⟨b, s0_14, s1_14, s5_14, s7_14, s8_14, s9_14, rfl, (Nat.zero_le _), rfl, H50⟩ ?_
      rintro j f51 w52 ⟨a2, s0_53, s1_53, s5_53, s7_53, s8_53, s9_53, s17_53, hj, hl2, H53⟩
      have hwl2 : (a2 ++ marks).length = b.length + 8 := (wlen a2).trans (by rw [hl2])
      refine c_seq ?_
      refine c_seq ?_
      refine c_reg ?_
      refine sy (v := I ((j : Nat) : Int)) (y_move s17_53) ?_
      refine sy (v := v1) (y_move s1_53) ?_
      refine sy (v := I ((b.length : Nat) : Int)) (y_lenR Try.underlying23 (h1.st H53) rfl) ?_
      refine sy (v := .bool (decide (j < b.length))) (n_lss (a := j) (b := b.length) rfl rfl) ?_
      refine c_nil ?_
      refine n_then ?_
      refine c_if rfl (fun hc54 => ?_) (fun hc54 => ?_)
      · skip
        refine wp_skip ?_
        refine n_then ?_
        refine c_seq ?_
        refine wp_block ?_
        refine c_reg ?_
        refine sy (v := .slice (some (bs g7)) ((b).length + 8) ((b).length + 8)) (y_move s8_53) ?_
        refine sy (v := I ((j : Nat) : Int)) (y_move s17_53) ?_
        refine sy (v := Ad (bs g7) (j * 1)) (y_ixS (m := j) Try.underlying23 sz5 rfl rfl rfl (by omega)) ?_
        refine sy (v := B8 ((a2 ++ marks).getD j 0)) (y_load sc5 rfl (H53.cell 0 rfl (by simp only [Nat.zero_add, Nat.mul_one]; exact map_get B8 0 (by omega)))) ?_
        refine sy (v := B8 (((a2 ++ marks).getD j 0) ^^^ 255)) (y_xor8 (a := (a2 ++ marks).getD j 0) (b := 255) rfl rfl) ?_
        refine sy (v := Ad (bs g7) (j * 1)) (y_ixS (m := j) Try.underlying23 sz5 rfl rfl rfl (by omega)) ?_
        refine s0 (ow_storeM (F := B8) (j := j) (fun _ => rfl) H53 sz5 rfl rfl (by omega) (by first | omega | (simp only [List.length_set]; omega))) ?_
        rintro _ w55 H56'
        have H56 : St w [] [[(g7, Rw 5 (((a2 ++ marks).set j (((a2 ++ marks).getD j 0) ^^^ 255)).map B8))], [(g1, Rw 26 ((h).map B8))]] w55 := H56'
        refine c_nil ?_
        refine n_block (n_then ?_)
        refine c_reg ?_
        refine sy (v := I ((j : Nat) : Int)) (y_move s17_53) ?_
        refine sy (v := I ((j + 1 : Nat) : Int)) (n_add (a := j) (b := 1) rfl rfl (by omega)) ?_
        refine sy (v := I ((j + 1 : Nat) : Int)) (y_assign rfl) ?_
        refine c_nil ?_
        exact lp_next (j + 1) ⟨(a2.set j (((a2 ++ marks).getD j 0) ^^^ 255)), s0_53, s1_53, s5_53, s7_53, s8_53, s9_53, rfl, (by omega), (by rw [List.length_set]; exact hl2), (by rw [← List.set_append_left _ _ (by omega)]; exact H56)⟩ (by show _ < _; omega)
      · skip
        refine wp_exit ?_
        refine x_then (x_then (x_hit (n_block (n_then ?_))))
        refine c_reg ?_
        refine sy (v := I ((i : Nat) : Int)) (y_move s9_53) ?_
        refine sy (v := I ((i + 1 : Nat) : Int)) (n_add (a := i) (b := 1) rfl rfl (by omega)) ?_
        refine sy (v := I ((i + 1 : Nat) : Int)) (y_assign rfl) ?_
        refine c_nil ?_
        exact lp_next (i + 1) ⟨a2, s0_53, s1_53, s5_53, s7_53, s8_53, rfl, (by omega), hl2, (fun h => absurd h (by omega)), H53⟩ (by show _ < _; omega)
    · skip
      refine wp_skip ?_
      refine n_block (n_then ?_)
      refine c_reg ?_
      refine sy (v := I ((i : Nat) : Int)) (y_move s9_14) ?_
      refine sy (v := I ((i + 1 : Nat) : Int)) (n_add (a := i) (b := 1) rfl rfl (by omega)) ?_
      refine sy (v := I ((i + 1 : Nat) : Int)) (y_assign rfl) ?_
      refine c_nil ?_
      exact lp_next (i + 1) ⟨a', s0_14, s1_14, s5_14, s7_14, s8_14, rfl, (by omega), hl', (fun h => absurd h (by omega)), H43⟩ (by show _ < _; omega)
  · skip
    refine wp_exit ?_
    refine x_then (x_then (x_hit (n_then ?_)))
    refine c_seq ?_
    refine c_reg ?_
    refine sy (v := .bool (true)) (y_move s7_14) ?_
    refine sy (v := .bool (true)) (y_assign rfl) ?_
    refine c_nil ?_
    refine n_then ?_
    refine wp_ret ?_
    refine e_r1 Try.results12 (rv_t rfl) ?_
    exact ⟨_, rfl, rfl, H14.below⟩


namespace BloomAsksDone
open Go.ChangeShapes Go.WideShapes Go.ChangeAt
set_option linter.unusedVariables false
set_option maxRecDepth 100000 in
theorem lifted (os : Os) (started : os.Started) (H : Type) (enc : TypeId × Value → H) :
    ReturnsInHanded {} Try.checked os 12 .any (Rows.bloomAsksSpec.pre6 enc Try.prog Try.f12 Rows.bloomAsksRow.domain false) (Rows.bloomAsksSpec.post enc Try.prog Try.f12 false true false false) := by
  refine returnsInHanded_of_change_sized (C := Try.checked) own started (by kernel_rfl) Try.func12
    (ChangeSpec.witness6 (enc := enc) (C := Try.checked) false ⟨#[], #[.int .u64 0, .slice none 0 0, .agg (Array.replicate 32 (.int .u8 0))], []⟩ 8 (by kernel_rfl) (by kernel_rfl) (by kernel_rfl) (by kernel_rfl)) ?_
  intro W base args ds gs before hval0 hW hcnd hsz0 _
  have hval : ∀ (j : Nat) t v, Try.f12.params[j]? = some t → args[j]? = some v → Value.okWide Try.prog W .any base t v := hval0
  have hW' := hW
  obtain ⟨p, q, hA0, hV, rfl, hfz, hnd⟩ := hW
  have hA : DataW.TrodAll enc Try.prog W 0 (fun _ => true) true Try.f12.params.toList args.toList ds p := hA0
  have hsz : (DataW.weightsEach Try.prog (Try.f12.params.toList ++ Rows.bloomAsksSpec.plain.varTypes Try.prog) (ds ++ gs)).all (· ≤ reachBytes) = true := hsz0
  rw [Try.params12] at hA hval hsz
  obtain ⟨v0, vs0, d0, ds0, p0, q0, hargs, rfl, rfl, h0, r0⟩ := trodAll_cons hA
  obtain ⟨v1, vs1, d1, ds1, p1, q1, rfl, rfl, rfl, h1, r1⟩ := trodAll_cons r0
  obtain ⟨v2, vs2, d2, ds2, p2, q2, rfl, rfl, rfl, h2, r2⟩ := trodAll_cons r1
  obtain ⟨rfl, rfl, rfl⟩ := trodAll_nil r2
  obtain rfl : args = #[v0, v1, v2] := by cases args; simp_all
  obtain ⟨rfl, rfl⟩ := trodVars_none hV
  have lt0 : ∀ x ∈ p0, x.block < W.heap.size := by obtain ⟨m, hm⟩ := h0; exact DataW.trod_lt m _ _ _ hm
  obtain ⟨x0, rfl⟩ := u64_arg Try.underlying59 (hval 0 59 v0 rfl rfl) h0
  have lt1 : ∀ x ∈ p1, x.block < W.heap.size := by obtain ⟨m, hm⟩ := h1; exact DataW.trod_lt m _ _ _ hm
  obtain ⟨l1, hR1, hl1⟩ := bytes_arg Try.underlying23 Try.underlying5 (by kernel_rfl) (by kernel_rfl) h1 (okWide_slice Try.underlying23 (hval 1 23 v1 rfl rfl)) hsz (j := 1) rfl rfl
  have lt2 : ∀ x ∈ p2, x.block < W.heap.size := by obtain ⟨m, hm⟩ := h2; exact DataW.trod_lt m _ _ _ hm
  obtain ⟨b2, hb2, rfl⟩ := hash_arg Try.underlying26 Try.underlying5 (by kernel_rfl) (by kernel_rfl) (hval 2 26 v2 rfl rfl) h2
  refine (bloomAsks_c x0 v1 l1 b2 W hR1 hb2 hl1).mono fun e W' ⟨v, he, hv, bel⟩ => ?_
  subst he hv
  exact ⟨_, rfl, _, _, _, [], _, [], hW', trodAll_mk1 (shut_bool Try.underlying4 _), (trodAll_cons_mk (Below.trod laidOut (by kernel_rfl) (of_decide_eq_true (by kernel_rfl)) h0 bel lt0) (trodAll_cons_mk (Below.trod laidOut (by kernel_rfl) (of_decide_eq_true (by kernel_rfl)) h1 bel lt1) (trodAll_cons_mk (Below.trod laidOut (by kernel_rfl) (of_decide_eq_true (by kernel_rfl)) h2 bel lt2) trodAll_mk0))), rfl, bel.frame _, fun h => by cases h⟩
theorem over : Rows.bloomAsksRow.holds Try.pinned (OpenSpec.ofChange Rows.bloomAsksSpec) :=
  OpenClaim.holds_of_wide 12 Try.f12 rfl rfl rfl rfl rfl rfl rfl ⟨rfl, rfl, rfl, rfl, rfl⟩ rfl rfl rfl rfl rfl (by kernel_rfl) Try.func12 (by kernel_rfl)
    (of_decide_eq_true (by kernel_rfl)) (by unfold Func.isWrapper; first | (rw [if_pos (by decide +kernel)]; kernel_rfl) | (rw [if_neg (by decide +kernel)]; exact ⟨rfl, rfl⟩))
    (fun os started H enc _ => lifted os started H enc)
/-- THE STATEMENT -/
theorem proved : Rows.BloomAsksSaid := over
end BloomAsksDone

end Go.Proofs.Ytdcmbcjkdhdohaa
