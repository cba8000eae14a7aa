/- SealMacs returns true for every key and every bytes: no condition but the form's own reach. -/
import Derived.Test.YtdcmbcjkdhdohaaSeal3
namespace Go.Proofs.Ytdcmbcjkdhdohaa
open Go Go.RowKit
attribute [local irreducible] wpList wpP Code.wp

set_option maxHeartbeats 2000000 in
theorem sealMacs_c (v0 v1 : Value) (lk l : List UInt8) (w : World) (hK : Rd [] w 1 v0 lk.length (lk.map B8)) (hR : Rd [] w 1 v1 l.length (l.map B8)) (hlk : lk.length ≤ 140737488351232) (hl : l.length ≤ 140737488351232) :
    Calls Try.prog 4 (([v0, v1] : List Value).toArray) w (fun e w' => ∃ v, e = .returned v ∧ v = .bool true ∧ Below w.heap.size w w') := by
  refine calls_mk Try.func4 rfl 90 Try.ntmps4 rfl ?_
  have H0 : St w [] [] w := St.refl w
  refine c_seq ?_
  refine c_reg ?_
  refine sy (v := .bool (false)) (y_assign (v := .bool (false)) rfl) ?_
  refine c_nil ?_
  refine n_then ?_
  refine c_seq ?_
  refine c_reg ?_
  refine st (ow_call fn21 rfl (fixed_c _) trivial) ?_
  rintro _ w1 ⟨rfl, hB2⟩
  have H3 : St w [] [] w1 := H0.call hB2
  refine sy (v := .bool (true)) (y_assign rfl) ?_
  refine c_nil ?_
  refine n_then ?_
  refine c_seq ?_
  refine c_reg ?_
  refine sy (v := v0) (y_move rfl) ?_
  refine st (ow_call fn22 rfl (wide_c (v0) (lk) _ ((hK.st H3)).nil (by omega)) ⟨rfl, trivial⟩) ?_
  rintro _ w5 ⟨g4, rfl, H6⟩
  have hw7 := wlen lk
  have H8 : St w [] [[(g4, Rw 5 ((lk ++ marks).map B8))]] w5 := H3.app H6
  refine sy (v := .slice (some (bs g4)) ((lk).length + 8) ((lk).length + 8)) (y_assign rfl) ?_
  refine c_nil ?_
  refine n_then ?_
  refine c_seq ?_
  refine c_reg ?_
  refine sy (v := v1) (y_move rfl) ?_
  refine st (ow_call fn22 rfl (wide_c (v1) (l) _ ((hR.st H8)).nil (by omega)) ⟨rfl, trivial⟩) ?_
  rintro _ w10 ⟨g9, rfl, H11⟩
  have hw12 := wlen l
  have H13 : St w [] [[(g9, Rw 5 ((l ++ marks).map B8))], [(g4, Rw 5 ((lk ++ marks).map B8))]] w10 := H8.app H11
  refine sy (v := .slice (some (bs g9)) ((l).length + 8) ((l).length + 8)) (y_assign rfl) ?_
  refine c_nil ?_
  refine n_then ?_
  refine c_seq ?_
  refine c_cut (n := 90) (fun f14 w15 => ∃ (gn8 : Nat), f14 0 = v0 ∧ f14 1 = v1 ∧ f14 5 = .bool (true) ∧ f14 6 = .slice (some (bs g4)) ((lk).length + 8) ((lk).length + 8) ∧ f14 7 = .slice (some (bs g9)) ((l).length + 8) ((l).length + 8) ∧ f14 8 = Ad (bs gn8) (0) ∧ St w [] [[(gn8, Rw 26 ((hmac ((lk ++ marks).take lk.length) ((l ++ marks).take l.length)).map B8))], [(g9, Rw 5 ((l ++ marks).map B8))], [(g4, Rw 5 ((lk ++ marks).map B8))]] w15) ?_ ?_
  · skip
    refine drawS (.step 0 0 (.step 0 1 (.step 0 2 (.step 0 3 (.step 0 4 (.step 0 5 (.step 0 6 (.step 0 7 (.alt 8 (.step 1 9 (.step 1 10 .nil)) (.alt 9 (.step 1 8 (.step 1 10 .nil)) .stop)))))))))) mixed H13 (by kernel_rfl) (by kernel_rfl) (by kernel_rfl) ?_
    intro w16 H17
    refine pt (v := .slice (some (bs g4)) ((lk).length + 8) ((lk).length + 8)) rfl (fun wS HS => y_move rfl) ?_
    refine pt (v := v0) rfl (fun wS HS => y_move rfl) ?_
    refine pt (v := I ((lk.length : Nat) : Int)) rfl (fun wS HS => y_lenR Try.underlying23 (hK.st HS) rfl) ?_
    have hL18 : ((lk ++ marks).take lk.length).length = lk.length := by rw [List.length_take]; omega
    refine pt (v := slv 1 (0) (lk.length) (.slice (some (bs g4)) ((lk).length + 8) ((lk).length + 8))) rfl (fun wS HS => y_slR (k1 := .i64) (k2 := .i64) (l := 0) (h := lk.length) Try.underlying23 sz5 (rd_arr HS 1 rfl hw7 (by unfold maxLen; omega)) rfl (.inl ⟨rfl, rfl⟩) (.inr ⟨_, rfl, rfl⟩) (by omega) (by omega)) ?_
    refine pt (v := .slice (some (bs g9)) ((l).length + 8) ((l).length + 8)) rfl (fun wS HS => y_move rfl) ?_
    refine pt (v := v1) rfl (fun wS HS => y_move rfl) ?_
    refine pt (v := I ((l.length : Nat) : Int)) rfl (fun wS HS => y_lenR Try.underlying23 (hR.st HS) rfl) ?_
    have hL19 : ((l ++ marks).take l.length).length = l.length := by rw [List.length_take]; omega
    refine pt (v := slv 1 (0) (l.length) (.slice (some (bs g9)) ((l).length + 8) ((l).length + 8))) rfl (fun wS HS => y_slR (k1 := .i64) (k2 := .i64) (l := 0) (h := l.length) Try.underlying23 sz5 (rd_arr HS 0 rfl hw12 (by unfold maxLen; omega)) rfl (.inl ⟨rfl, rfl⟩) (.inr ⟨_, rfl, rfl⟩) (by omega) (by omega)) ?_
    refine al rfl (ow_call fn23 rfl (mac_c (slv 1 (0) (lk.length) (.slice (some (bs g4)) ((lk).length + 8) ((lk).length + 8))) (slv 1 (0) (l.length) (.slice (some (bs g9)) ((l).length + 8) ((l).length + 8))) ((lk ++ marks).take lk.length) ((l ++ marks).take l.length) _ ((rdb_pre (rd_arr H17 1 rfl hw7 (by unfold maxLen; omega)) (by omega))).nil ((rdb_pre (rd_arr H17 0 rfl hw12 (by unfold maxLen; omega)) (by omega))).nil (by omega) (by omega)) ⟨rfl, rfl, trivial⟩) ?_ ?_
    · skip
      rintro _ w20 ⟨rfl, hB21⟩
      have H22 : St w [] [[(g9, Rw 5 ((l ++ marks).map B8))], [(g4, Rw 5 ((lk ++ marks).map B8))]] w20 := H17.call hB21
      refine ⟨H22, ?_⟩
      refine pl rfl (ow_alloc (l := (List.replicate 32 0).map B8) H22 zr26 (by simp [Value.cells])) ?_
      rintro _ w24 ⟨g23, rfl, H25⟩
      have H26 : St w [] [[(g4, Rw 5 ((lk ++ marks).map B8))], [(g23, Rw 26 ((List.replicate 32 0).map B8))], [(g9, Rw 5 ((l ++ marks).map B8))]] w24 := H25.foc 2 rfl rfl
      have H27 : St w [] [[(g9, Rw 5 ((l ++ marks).map B8))], [(g4, Rw 5 ((lk ++ marks).map B8))], [(g23, Rw 26 ((List.replicate 32 0).map B8))]] w24 := H26.foc 2 rfl rfl
      have H28 : St w [] [[(g9, Rw 5 ((l ++ marks).map B8))], [(g4, Rw 5 ((lk ++ marks).map B8))]] w24 := H27.take 2 rfl
      refine ⟨H28, ?_⟩
      refine p0 rfl (ow_storeW (us := (hmac ((lk ++ marks).take lk.length) ((l ++ marks).take l.length)).map B8) H25 sz26 ((List.length_map _).trans (hmac_length _ _)) rfl rfl (map_one (F := B8) (fun _ => rfl) _) ((List.length_map _).trans List.length_replicate)) ?_
      rintro _ w29 H30'
      have H30 : St w [] [[(g23, Rw 26 ((hmac ((lk ++ marks).take lk.length) ((l ++ marks).take l.length)).map B8))], [(g9, Rw 5 ((l ++ marks).map B8))], [(g4, Rw 5 ((lk ++ marks).map B8))]] w29 := H30'
      have H31 : St w [] [[(g4, Rw 5 ((lk ++ marks).map B8))], [(g23, Rw 26 ((hmac ((lk ++ marks).take lk.length) ((l ++ marks).take l.length)).map B8))], [(g9, Rw 5 ((l ++ marks).map B8))]] w29 := H30.foc 2 rfl rfl
      have H32 : St w [] [[(g9, Rw 5 ((l ++ marks).map B8))], [(g4, Rw 5 ((lk ++ marks).map B8))], [(g23, Rw 26 ((hmac ((lk ++ marks).take lk.length) ((l ++ marks).take l.length)).map B8))]] w29 := H31.foc 2 rfl rfl
      have H33 : St w [] [[(g9, Rw 5 ((l ++ marks).map B8))], [(g4, Rw 5 ((lk ++ marks).map B8))]] w29 := H32.take 2 rfl
      refine ⟨H33, ?_⟩
      refine p_nil ?_
      exact qj_n ⟨g23, rfl, rfl, rfl, rfl, rfl, rfl, H30⟩
    refine al rfl (ow_alloc (l := (List.replicate 32 0).map B8) H17 zr26 (by simp [Value.cells])) ?_ ?_
    · skip
      rintro _ w35 ⟨g34, rfl, H36⟩
      have H37 : St w [] [[(g4, Rw 5 ((lk ++ marks).map B8))], [(g34, Rw 26 ((List.replicate 32 0).map B8))], [(g9, Rw 5 ((l ++ marks).map B8))]] w35 := H36.foc 2 rfl rfl
      have H38 : St w [] [[(g9, Rw 5 ((l ++ marks).map B8))], [(g4, Rw 5 ((lk ++ marks).map B8))], [(g34, Rw 26 ((List.replicate 32 0).map B8))]] w35 := H37.foc 2 rfl rfl
      have H39 : St w [] [[(g9, Rw 5 ((l ++ marks).map B8))], [(g4, Rw 5 ((lk ++ marks).map B8))]] w35 := H38.take 2 rfl
      refine ⟨H39, ?_⟩
      refine pl rfl (ow_call fn23 rfl (mac_c (slv 1 (0) (lk.length) (.slice (some (bs g4)) ((lk).length + 8) ((lk).length + 8))) (slv 1 (0) (l.length) (.slice (some (bs g9)) ((l).length + 8) ((l).length + 8))) ((lk ++ marks).take lk.length) ((l ++ marks).take l.length) _ ((rdb_pre (rd_arr H36 2 rfl hw7 (by unfold maxLen; omega)) (by omega))).nil ((rdb_pre (rd_arr H36 1 rfl hw12 (by unfold maxLen; omega)) (by omega))).nil (by omega) (by omega)) ⟨rfl, rfl, trivial⟩) ?_
      rintro _ w40 ⟨rfl, hB41⟩
      have H42 : St w [] [[(g34, Rw 26 ((List.replicate 32 0).map B8))], [(g9, Rw 5 ((l ++ marks).map B8))], [(g4, Rw 5 ((lk ++ marks).map B8))]] w40 := H36.call hB41
      have H43 : St w [] [[(g4, Rw 5 ((lk ++ marks).map B8))], [(g34, Rw 26 ((List.replicate 32 0).map B8))], [(g9, Rw 5 ((l ++ marks).map B8))]] w40 := H42.foc 2 rfl rfl
      have H44 : St w [] [[(g9, Rw 5 ((l ++ marks).map B8))], [(g4, Rw 5 ((lk ++ marks).map B8))], [(g34, Rw 26 ((List.replicate 32 0).map B8))]] w40 := H43.foc 2 rfl rfl
      have H45 : St w [] [[(g9, Rw 5 ((l ++ marks).map B8))], [(g4, Rw 5 ((lk ++ marks).map B8))]] w40 := H44.take 2 rfl
      refine ⟨H45, ?_⟩
      refine p0 rfl (ow_storeW (us := (hmac ((lk ++ marks).take lk.length) ((l ++ marks).take l.length)).map B8) H42 sz26 ((List.length_map _).trans (hmac_length _ _)) rfl rfl (map_one (F := B8) (fun _ => rfl) _) ((List.length_map _).trans List.length_replicate)) ?_
      rintro _ w46 H47'
      have H47 : St w [] [[(g34, Rw 26 ((hmac ((lk ++ marks).take lk.length) ((l ++ marks).take l.length)).map B8))], [(g9, Rw 5 ((l ++ marks).map B8))], [(g4, Rw 5 ((lk ++ marks).map B8))]] w46 := H47'
      have H48 : St w [] [[(g4, Rw 5 ((lk ++ marks).map B8))], [(g34, Rw 26 ((hmac ((lk ++ marks).take lk.length) ((l ++ marks).take l.length)).map B8))], [(g9, Rw 5 ((l ++ marks).map B8))]] w46 := H47.foc 2 rfl rfl
      have H49 : St w [] [[(g9, Rw 5 ((l ++ marks).map B8))], [(g4, Rw 5 ((lk ++ marks).map B8))], [(g34, Rw 26 ((hmac ((lk ++ marks).take lk.length) ((l ++ marks).take l.length)).map B8))]] w46 := H48.foc 2 rfl rfl
      have H50 : St w [] [[(g9, Rw 5 ((l ++ marks).map B8))], [(g4, Rw 5 ((lk ++ marks).map B8))]] w46 := H49.take 2 rfl
      refine ⟨H50, ?_⟩
      refine p_nil ?_
      exact qj_n ⟨g34, rfl, rfl, rfl, rfl, rfl, rfl, H47⟩
    exact a_stop
  · skip
    rintro f14 w15 ⟨gn8, s0_51, s1_51, s5_51, s6_51, s7_51, s8_51, H51⟩
    refine n_then ?_
    refine c_seq ?_
    refine c_cut (n := 90) (fun f52 w53 => ∃ (gn9 : Nat), f52 0 = v0 ∧ f52 1 = v1 ∧ f52 5 = .bool (true) ∧ f52 6 = .slice (some (bs g4)) ((lk).length + 8) ((lk).length + 8) ∧ f52 7 = .slice (some (bs g9)) ((l).length + 8) ((l).length + 8) ∧ f52 8 = Ad (bs gn8) (0) ∧ f52 9 = Ad (bs gn9) (0) ∧ St w [] [[(gn9, Rw 26 ((hmac ((lk ++ marks).take lk.length) ((l ++ marks).take l.length)).map B8))], [(gn8, Rw 26 ((hmac ((lk ++ marks).take lk.length) ((l ++ marks).take l.length)).map B8))], [(g9, Rw 5 ((l ++ marks).map B8))], [(g4, Rw 5 ((lk ++ marks).map B8))]] w53) ?_ ?_
    · skip
      refine drawS (.step 0 0 (.step 0 1 (.step 0 2 (.step 0 3 (.step 0 4 (.step 0 5 (.step 0 6 (.step 0 7 (.alt 8 (.step 1 9 (.step 1 10 .nil)) (.alt 9 (.step 1 8 (.step 1 10 .nil)) .stop)))))))))) mixed H51 (by kernel_rfl) (by kernel_rfl) (by kernel_rfl) ?_
      intro w54 H55
      refine pt (v := .slice (some (bs g4)) ((lk).length + 8) ((lk).length + 8)) rfl (fun wS HS => y_move s6_51) ?_
      refine pt (v := v0) rfl (fun wS HS => y_move s0_51) ?_
      refine pt (v := I ((lk.length : Nat) : Int)) rfl (fun wS HS => y_lenR Try.underlying23 (hK.st HS) rfl) ?_
      have hL56 : ((lk ++ marks).take lk.length).length = lk.length := by rw [List.length_take]; omega
      refine pt (v := slv 1 (0) (lk.length) (.slice (some (bs g4)) ((lk).length + 8) ((lk).length + 8))) rfl (fun wS HS => y_slR (k1 := .i64) (k2 := .i64) (l := 0) (h := lk.length) Try.underlying23 sz5 (rd_arr HS 2 rfl hw7 (by unfold maxLen; omega)) rfl (.inl ⟨rfl, rfl⟩) (.inr ⟨_, rfl, rfl⟩) (by omega) (by omega)) ?_
      refine pt (v := .slice (some (bs g9)) ((l).length + 8) ((l).length + 8)) rfl (fun wS HS => y_move s7_51) ?_
      refine pt (v := v1) rfl (fun wS HS => y_move s1_51) ?_
      refine pt (v := I ((l.length : Nat) : Int)) rfl (fun wS HS => y_lenR Try.underlying23 (hR.st HS) rfl) ?_
      have hL57 : ((l ++ marks).take l.length).length = l.length := by rw [List.length_take]; omega
      refine pt (v := slv 1 (0) (l.length) (.slice (some (bs g9)) ((l).length + 8) ((l).length + 8))) rfl (fun wS HS => y_slR (k1 := .i64) (k2 := .i64) (l := 0) (h := l.length) Try.underlying23 sz5 (rd_arr HS 1 rfl hw12 (by unfold maxLen; omega)) rfl (.inl ⟨rfl, rfl⟩) (.inr ⟨_, rfl, rfl⟩) (by omega) (by omega)) ?_
      refine al rfl (ow_call fn23 rfl (mac_c (slv 1 (0) (lk.length) (.slice (some (bs g4)) ((lk).length + 8) ((lk).length + 8))) (slv 1 (0) (l.length) (.slice (some (bs g9)) ((l).length + 8) ((l).length + 8))) ((lk ++ marks).take lk.length) ((l ++ marks).take l.length) _ ((rdb_pre (rd_arr H55 2 rfl hw7 (by unfold maxLen; omega)) (by omega))).nil ((rdb_pre (rd_arr H55 1 rfl hw12 (by unfold maxLen; omega)) (by omega))).nil (by omega) (by omega)) ⟨rfl, rfl, trivial⟩) ?_ ?_
      · skip
        rintro _ w58 ⟨rfl, hB59⟩
        have H60 : St w [] [[(gn8, Rw 26 ((hmac ((lk ++ marks).take lk.length) ((l ++ marks).take l.length)).map B8))], [(g9, Rw 5 ((l ++ marks).map B8))], [(g4, Rw 5 ((lk ++ marks).map B8))]] w58 := H55.call hB59
        refine ⟨H60, ?_⟩
        refine pl rfl (ow_alloc (l := (List.replicate 32 0).map B8) H60 zr26 (by simp [Value.cells])) ?_
        rintro _ w62 ⟨g61, rfl, H63⟩
        have H64 : St w [] [[(g4, Rw 5 ((lk ++ marks).map B8))], [(g61, Rw 26 ((List.replicate 32 0).map B8))], [(gn8, Rw 26 ((hmac ((lk ++ marks).take lk.length) ((l ++ marks).take l.length)).map B8))], [(g9, Rw 5 ((l ++ marks).map B8))]] w62 := H63.foc 3 rfl rfl
        have H65 : St w [] [[(g9, Rw 5 ((l ++ marks).map B8))], [(g4, Rw 5 ((lk ++ marks).map B8))], [(g61, Rw 26 ((List.replicate 32 0).map B8))], [(gn8, Rw 26 ((hmac ((lk ++ marks).take lk.length) ((l ++ marks).take l.length)).map B8))]] w62 := H64.foc 3 rfl rfl
        have H66 : St w [] [[(gn8, Rw 26 ((hmac ((lk ++ marks).take lk.length) ((l ++ marks).take l.length)).map B8))], [(g9, Rw 5 ((l ++ marks).map B8))], [(g4, Rw 5 ((lk ++ marks).map B8))], [(g61, Rw 26 ((List.replicate 32 0).map B8))]] w62 := H65.foc 3 rfl rfl
        have H67 : St w [] [[(gn8, Rw 26 ((hmac ((lk ++ marks).take lk.length) ((l ++ marks).take l.length)).map B8))], [(g9, Rw 5 ((l ++ marks).map B8))], [(g4, Rw 5 ((lk ++ marks).map B8))]] w62 := H66.take 3 rfl
        refine ⟨H67, ?_⟩
        refine p0 rfl (ow_storeW (us := (hmac ((lk ++ marks).take lk.length) ((l ++ marks).take l.length)).map B8) H63 sz26 ((List.length_map _).trans (hmac_length _ _)) rfl rfl (map_one (F := B8) (fun _ => rfl) _) ((List.length_map _).trans List.length_replicate)) ?_
        rintro _ w68 H69'
        have H69 : St w [] [[(g61, Rw 26 ((hmac ((lk ++ marks).take lk.length) ((l ++ marks).take l.length)).map B8))], [(gn8, Rw 26 ((hmac ((lk ++ marks).take lk.length) ((l ++ marks).take l.length)).map B8))], [(g9, Rw 5 ((l ++ marks).map B8))], [(g4, Rw 5 ((lk ++ marks).map B8))]] w68 := H69'
        have H70 : St w [] [[(g4, Rw 5 ((lk ++ marks).map B8))], [(g61, Rw 26 ((hmac ((lk ++ marks).take lk.length) ((l ++ marks).take l.length)).map B8))], [(gn8, Rw 26 ((hmac ((lk ++ marks).take lk.length) ((l ++ marks).take l.length)).map B8))], [(g9, Rw 5 ((l ++ marks).map B8))]] w68 := H69.foc 3 rfl rfl
        have H71 : St w [] [[(g9, Rw 5 ((l ++ marks).map B8))], [(g4, Rw 5 ((lk ++ marks).map B8))], [(g61, Rw 26 ((hmac ((lk ++ marks).take lk.length) ((l ++ marks).take l.length)).map B8))], [(gn8, Rw 26 ((hmac ((lk ++ marks).take lk.length) ((l ++ marks).take l.length)).map B8))]] w68 := H70.foc 3 rfl rfl
        have H72 : St w [] [[(gn8, Rw 26 ((hmac ((lk ++ marks).take lk.length) ((l ++ marks).take l.length)).map B8))], [(g9, Rw 5 ((l ++ marks).map B8))], [(g4, Rw 5 ((lk ++ marks).map B8))], [(g61, Rw 26 ((hmac ((lk ++ marks).take lk.length) ((l ++ marks).take l.length)).map B8))]] w68 := H71.foc 3 rfl rfl
        have H73 : St w [] [[(gn8, Rw 26 ((hmac ((lk ++ marks).take lk.length) ((l ++ marks).take l.length)).map B8))], [(g9, Rw 5 ((l ++ marks).map B8))], [(g4, Rw 5 ((lk ++ marks).map B8))]] w68 := H72.take 3 rfl
        refine ⟨H73, ?_⟩
        refine p_nil ?_
        exact qj_n ⟨g61, s0_51, s1_51, s5_51, s6_51, s7_51, s8_51, rfl, H69⟩
      refine al rfl (ow_alloc (l := (List.replicate 32 0).map B8) H55 zr26 (by simp [Value.cells])) ?_ ?_
      · skip
        rintro _ w75 ⟨g74, rfl, H76⟩
        have H77 : St w [] [[(g4, Rw 5 ((lk ++ marks).map B8))], [(g74, Rw 26 ((List.replicate 32 0).map B8))], [(gn8, Rw 26 ((hmac ((lk ++ marks).take lk.length) ((l ++ marks).take l.length)).map B8))], [(g9, Rw 5 ((l ++ marks).map B8))]] w75 := H76.foc 3 rfl rfl
        have H78 : St w [] [[(g9, Rw 5 ((l ++ marks).map B8))], [(g4, Rw 5 ((lk ++ marks).map B8))], [(g74, Rw 26 ((List.replicate 32 0).map B8))], [(gn8, Rw 26 ((hmac ((lk ++ marks).take lk.length) ((l ++ marks).take l.length)).map B8))]] w75 := H77.foc 3 rfl rfl
        have H79 : St w [] [[(gn8, Rw 26 ((hmac ((lk ++ marks).take lk.length) ((l ++ marks).take l.length)).map B8))], [(g9, Rw 5 ((l ++ marks).map B8))], [(g4, Rw 5 ((lk ++ marks).map B8))], [(g74, Rw 26 ((List.replicate 32 0).map B8))]] w75 := H78.foc 3 rfl rfl
        have H80 : St w [] [[(gn8, Rw 26 ((hmac ((lk ++ marks).take lk.length) ((l ++ marks).take l.length)).map B8))], [(g9, Rw 5 ((l ++ marks).map B8))], [(g4, Rw 5 ((lk ++ marks).map B8))]] w75 := H79.take 3 rfl
        refine ⟨H80, ?_⟩
        refine pl rfl (ow_call fn23 rfl (mac_c (slv 1 (0) (lk.length) (.slice (some (bs g4)) ((lk).length + 8) ((lk).length + 8))) (slv 1 (0) (l.length) (.slice (some (bs g9)) ((l).length + 8) ((l).length + 8))) ((lk ++ marks).take lk.length) ((l ++ marks).take l.length) _ ((rdb_pre (rd_arr H76 3 rfl hw7 (by unfold maxLen; omega)) (by omega))).nil ((rdb_pre (rd_arr H76 2 rfl hw12 (by unfold maxLen; omega)) (by omega))).nil (by omega) (by omega)) ⟨rfl, rfl, trivial⟩) ?_
        rintro _ w81 ⟨rfl, hB82⟩
        have H83 : St w [] [[(g74, Rw 26 ((List.replicate 32 0).map B8))], [(gn8, Rw 26 ((hmac ((lk ++ marks).take lk.length) ((l ++ marks).take l.length)).map B8))], [(g9, Rw 5 ((l ++ marks).map B8))], [(g4, Rw 5 ((lk ++ marks).map B8))]] w81 := H76.call hB82
        have H84 : St w [] [[(g4, Rw 5 ((lk ++ marks).map B8))], [(g74, Rw 26 ((List.replicate 32 0).map B8))], [(gn8, Rw 26 ((hmac ((lk ++ marks).take lk.length) ((l ++ marks).take l.length)).map B8))], [(g9, Rw 5 ((l ++ marks).map B8))]] w81 := H83.foc 3 rfl rfl
        have H85 : St w [] [[(g9, Rw 5 ((l ++ marks).map B8))], [(g4, Rw 5 ((lk ++ marks).map B8))], [(g74, Rw 26 ((List.replicate 32 0).map B8))], [(gn8, Rw 26 ((hmac ((lk ++ marks).take lk.length) ((l ++ marks).take l.length)).map B8))]] w81 := H84.foc 3 rfl rfl
        have H86 : St w [] [[(gn8, Rw 26 ((hmac ((lk ++ marks).take lk.length) ((l ++ marks).take l.length)).map B8))], [(g9, Rw 5 ((l ++ marks).map B8))], [(g4, Rw 5 ((lk ++ marks).map B8))], [(g74, Rw 26 ((List.replicate 32 0).map B8))]] w81 := H85.foc 3 rfl rfl
        have H87 : St w [] [[(gn8, Rw 26 ((hmac ((lk ++ marks).take lk.length) ((l ++ marks).take l.length)).map B8))], [(g9, Rw 5 ((l ++ marks).map B8))], [(g4, Rw 5 ((lk ++ marks).map B8))]] w81 := H86.take 3 rfl
        refine ⟨H87, ?_⟩
        refine p0 rfl (ow_storeW (us := (hmac ((lk ++ marks).take lk.length) ((l ++ marks).take l.length)).map B8) H83 sz26 ((List.length_map _).trans (hmac_length _ _)) rfl rfl (map_one (F := B8) (fun _ => rfl) _) ((List.length_map _).trans List.length_replicate)) ?_
        rintro _ w88 H89'
        have H89 : St w [] [[(g74, Rw 26 ((hmac ((lk ++ marks).take lk.length) ((l ++ marks).take l.length)).map B8))], [(gn8, Rw 26 ((hmac ((lk ++ marks).take lk.length) ((l ++ marks).take l.length)).map B8))], [(g9, Rw 5 ((l ++ marks).map B8))], [(g4, Rw 5 ((lk ++ marks).map B8))]] w88 := H89'
        have H90 : St w [] [[(g4, Rw 5 ((lk ++ marks).map B8))], [(g74, Rw 26 ((hmac ((lk ++ marks).take lk.length) ((l ++ marks).take l.length)).map B8))], [(gn8, Rw 26 ((hmac ((lk ++ marks).take lk.length) ((l ++ marks).take l.length)).map B8))], [(g9, Rw 5 ((l ++ marks).map B8))]] w88 := H89.foc 3 rfl rfl
        have H91 : St w [] [[(g9, Rw 5 ((l ++ marks).map B8))], [(g4, Rw 5 ((lk ++ marks).map B8))], [(g74, Rw 26 ((hmac ((lk ++ marks).take lk.length) ((l ++ marks).take l.length)).map B8))], [(gn8, Rw 26 ((hmac ((lk ++ marks).take lk.length) ((l ++ marks).take l.length)).map B8))]] w88 := H90.foc 3 rfl rfl
        have H92 : St w [] [[(gn8, Rw 26 ((hmac ((lk ++ marks).take lk.length) ((l ++ marks).take l.length)).map B8))], [(g9, Rw 5 ((l ++ marks).map B8))], [(g4, Rw 5 ((lk ++ marks).map B8))], [(g74, Rw 26 ((hmac ((lk ++ marks).take lk.length) ((l ++ marks).take l.length)).map B8))]] w88 := H91.foc 3 rfl rfl
        have H93 : St w [] [[(gn8, Rw 26 ((hmac ((lk ++ marks).take lk.length) ((l ++ marks).take l.length)).map B8))], [(g9, Rw 5 ((l ++ marks).map B8))], [(g4, Rw 5 ((lk ++ marks).map B8))]] w88 := H92.take 3 rfl
        refine ⟨H93, ?_⟩
        refine p_nil ?_
        exact qj_n ⟨g74, s0_51, s1_51, s5_51, s6_51, s7_51, s8_51, rfl, H89⟩
      exact a_stop
    · skip
      rintro f52 w53 ⟨gn9, s0_94, s1_94, s5_94, s6_94, s7_94, s8_94, s9_94, H94⟩
      refine n_then ?_
      refine c_seq ?_
      refine c_reg ?_
      refine sy (v := v0) (y_move s0_94) ?_
      refine sy (v := v1) (y_move s1_94) ?_
      refine st (ow_call fn24 rfl (rmac_c (v0) (v1) (lk) (l) _ ((hK.st H94)).nil ((hR.st H94)).nil (by omega) (by omega)) ⟨rfl, rfl, trivial⟩) ?_
      rintro _ w95 ⟨rfl, hB96⟩
      have H97 : St w [] [[(gn9, Rw 26 ((hmac ((lk ++ marks).take lk.length) ((l ++ marks).take l.length)).map B8))], [(gn8, Rw 26 ((hmac ((lk ++ marks).take lk.length) ((l ++ marks).take l.length)).map B8))], [(g9, Rw 5 ((l ++ marks).map B8))], [(g4, Rw 5 ((lk ++ marks).map B8))]] w95 := H94.call hB96
      refine st (ow_alloc (l := (List.replicate 32 0).map B8) H97 zr26 (by simp [Value.cells])) ?_
      rintro _ w99 ⟨g98, rfl, H100⟩
      refine s0 (ow_storeW (us := (hmac (lk) (l)).map B8) H100 sz26 ((List.length_map _).trans (hmac_length _ _)) rfl rfl (map_one (F := B8) (fun _ => rfl) _) ((List.length_map _).trans List.length_replicate)) ?_
      rintro _ w101 H102'
      have H102 : St w [] [[(g98, Rw 26 ((hmac (lk) (l)).map B8))], [(gn9, Rw 26 ((hmac ((lk ++ marks).take lk.length) ((l ++ marks).take l.length)).map B8))], [(gn8, Rw 26 ((hmac ((lk ++ marks).take lk.length) ((l ++ marks).take l.length)).map B8))], [(g9, Rw 5 ((l ++ marks).map B8))], [(g4, Rw 5 ((lk ++ marks).map B8))]] w101 := H102'
      refine c_nil ?_
      refine n_then ?_
      refine c_seq ?_
      refine c_reg ?_
      refine sy (v := .slice (some (bs g4)) ((lk).length + 8) ((lk).length + 8)) (y_move s6_94) ?_
      refine sy (v := v0) (y_move s0_94) ?_
      refine st (ow_call fn25 rfl (kept_c (.slice (some (bs g4)) ((lk).length + 8) ((lk).length + 8)) (v0) (lk) _ ((rd_arr H102 4 rfl hw7 (by unfold maxLen; omega))).nil ((hK.st H102)).nil (by omega)) ⟨rfl, rfl, trivial⟩) ?_
      rintro _ w103 ⟨rfl, hB104⟩
      have H105 : St w [] [[(g98, Rw 26 ((hmac (lk) (l)).map B8))], [(gn9, Rw 26 ((hmac ((lk ++ marks).take lk.length) ((l ++ marks).take l.length)).map B8))], [(gn8, Rw 26 ((hmac ((lk ++ marks).take lk.length) ((l ++ marks).take l.length)).map B8))], [(g9, Rw 5 ((l ++ marks).map B8))], [(g4, Rw 5 ((lk ++ marks).map B8))]] w103 := H102.call hB104
      refine sy (v := .bool (true)) (y_assign rfl) ?_
      refine c_nil ?_
      refine n_then ?_
      refine c_seq ?_
      refine c_reg ?_
      refine sy (v := .slice (some (bs g9)) ((l).length + 8) ((l).length + 8)) (y_move s7_94) ?_
      refine sy (v := v1) (y_move s1_94) ?_
      refine st (ow_call fn25 rfl (kept_c (.slice (some (bs g9)) ((l).length + 8) ((l).length + 8)) (v1) (l) _ ((rd_arr H105 3 rfl hw12 (by unfold maxLen; omega))).nil ((hR.st H105)).nil (by omega)) ⟨rfl, rfl, trivial⟩) ?_
      rintro _ w106 ⟨rfl, hB107⟩
      have H108 : St w [] [[(g98, Rw 26 ((hmac (lk) (l)).map B8))], [(gn9, Rw 26 ((hmac ((lk ++ marks).take lk.length) ((l ++ marks).take l.length)).map B8))], [(gn8, Rw 26 ((hmac ((lk ++ marks).take lk.length) ((l ++ marks).take l.length)).map B8))], [(g9, Rw 5 ((l ++ marks).map B8))], [(g4, Rw 5 ((lk ++ marks).map B8))]] w106 := H105.call hB107
      refine sy (v := .bool (true)) (y_assign rfl) ?_
      refine c_nil ?_
      refine n_then ?_
      refine c_seq ?_
      refine c_seq ?_
      refine c_reg ?_
      refine sy (v := .bool (true)) (y_move s5_94) ?_
      refine sy (v := .bool (false)) (y_not (p := true) rfl) ?_
      refine sy (v := .bool (false)) (y_move rfl) ?_
      refine gsy (v := .bool (true)) (gv_of (t := 48) rfl rfl rfl) (rfl) (y_move rfl) ?_
      refine gsy (v := .bool (false)) (gv_of (t := 48) rfl rfl rfl) (rfl) (y_not (p := true) rfl) ?_
      refine sy (v := .bool (false)) (y_pickF rfl (rfl) rfl) ?_
      refine sy (v := .bool (false)) (y_move rfl) ?_
      refine gsy (v := .bool (true)) (gv_of (t := 52) rfl rfl rfl) (rfl) (y_move rfl) ?_
      refine gsy (v := .bool (false)) (gv_of (t := 52) rfl rfl rfl) (rfl) (y_not (p := true) rfl) ?_
      refine sy (v := .bool (false)) (y_pickF rfl (rfl) rfl) ?_
      refine sy (v := .bool (false)) (y_move rfl) ?_
      refine gsy (v := .agg ((hmac ((lk ++ marks).take lk.length) ((l ++ marks).take l.length)).map B8).toArray) (gv_of (t := 56) rfl rfl rfl) (rfl) (y_loadA (us := (hmac ((lk ++ marks).take lk.length) ((l ++ marks).take l.length)).map B8) ag26 sz26 ((List.length_map _).trans (hmac_length _ _)) s8_94 (fun j u hu => (H108.cell 2 rfl (by rw [Nat.zero_add]; exact hu)))) ?_
      refine gsy (v := .agg ((hmac (lk) (l)).map B8).toArray) (gv_of (t := 56) rfl rfl rfl) (rfl) (y_loadA (us := (hmac (lk) (l)).map B8) ag26 sz26 ((List.length_map _).trans (hmac_length _ _)) rfl (fun j u hu => (H108.cell 0 rfl (by rw [Nat.zero_add]; exact hu)))) ?_
      refine gsy (v := .bool (decide ((hmac ((lk ++ marks).take lk.length) ((l ++ marks).take l.length)) ≠ (hmac (lk) (l))))) (gv_of (t := 56) rfl rfl rfl) (rfl) (y_neqArr (l1 := hmac ((lk ++ marks).take lk.length) ((l ++ marks).take l.length)) (l2 := hmac (lk) (l)) Try.underlying26 sz5 sc5 Try.underlying5 gt26 (hmac_length _ _) (hmac_length _ _) rfl rfl) ?_
      refine sy (v := .bool (decide ((hmac ((lk ++ marks).take lk.length) ((l ++ marks).take l.length)) ≠ (hmac (lk) (l))))) (y_pickF rfl (rfl) rfl) ?_
      refine sy (v := .bool (decide ((hmac ((lk ++ marks).take lk.length) ((l ++ marks).take l.length)) ≠ (hmac (lk) (l))))) (y_move rfl) ?_
      have hq109 : ¬ ((hmac ((lk ++ marks).take lk.length) ((l ++ marks).take l.length)) ≠ (hmac (lk) (l))) := (by rw [take_w, take_w]; exact fun h => h rfl)
      refine gsy (v := .agg ((hmac ((lk ++ marks).take lk.length) ((l ++ marks).take l.length)).map B8).toArray) (gv_of (t := 61) rfl rfl rfl) (decide_eq_false hq109) (y_loadA (us := (hmac ((lk ++ marks).take lk.length) ((l ++ marks).take l.length)).map B8) ag26 sz26 ((List.length_map _).trans (hmac_length _ _)) s9_94 (fun j u hu => (H108.cell 1 rfl (by rw [Nat.zero_add]; exact hu)))) ?_
      refine gsy (v := .agg ((hmac (lk) (l)).map B8).toArray) (gv_of (t := 61) rfl rfl rfl) (decide_eq_false hq109) (y_loadA (us := (hmac (lk) (l)).map B8) ag26 sz26 ((List.length_map _).trans (hmac_length _ _)) rfl (fun j u hu => (H108.cell 0 rfl (by rw [Nat.zero_add]; exact hu)))) ?_
      refine gsy (v := .bool (decide ((hmac ((lk ++ marks).take lk.length) ((l ++ marks).take l.length)) ≠ (hmac (lk) (l))))) (gv_of (t := 61) rfl rfl rfl) (decide_eq_false hq109) (y_neqArr (l1 := hmac ((lk ++ marks).take lk.length) ((l ++ marks).take l.length)) (l2 := hmac (lk) (l)) Try.underlying26 sz5 sc5 Try.underlying5 gt26 (hmac_length _ _) (hmac_length _ _) rfl rfl) ?_
      refine sy (v := .bool (decide ((hmac ((lk ++ marks).take lk.length) ((l ++ marks).take l.length)) ≠ (hmac (lk) (l))))) (y_pickF rfl (decide_eq_false hq109) rfl) ?_
      refine c_nil ?_
      refine n_then ?_
      refine c_f rfl (decide_eq_false hq109) ?_
      refine wp_skip ?_
      refine n_then ?_
      refine c_seq ?_
      refine c_reg ?_
      refine sy (v := .slice (some (bs g4)) ((lk).length + 8) ((lk).length + 8)) (y_move s6_94) ?_
      have H110 : St w [] [[(g4, Rw 5 ((lk ++ marks).map B8))], [(g98, Rw 26 ((hmac (lk) (l)).map B8))], [(gn9, Rw 26 ((hmac ((lk ++ marks).take lk.length) ((l ++ marks).take l.length)).map B8))], [(gn8, Rw 26 ((hmac ((lk ++ marks).take lk.length) ((l ++ marks).take l.length)).map B8))], [(g9, Rw 5 ((l ++ marks).map B8))]] w106 := H108.foc 4 rfl rfl
      refine st (ow_call fn26 rfl (mturned_c g4 lk _ (H110.get 0 rfl) (by omega)) ⟨rfl, trivial⟩) ?_
      rintro _ w111 ⟨rfl, l113, hl114, H112⟩
      have hw115 : (l113 ++ marks).length = (lk).length + 8 := (wlen l113).trans (by rw [hl114])
      have H116 : St w [] [[(g4, Rw 5 ((l113 ++ marks).map B8))], [(g98, Rw 26 ((hmac (lk) (l)).map B8))], [(gn9, Rw 26 ((hmac ((lk ++ marks).take lk.length) ((l ++ marks).take l.length)).map B8))], [(gn8, Rw 26 ((hmac ((lk ++ marks).take lk.length) ((l ++ marks).take l.length)).map B8))], [(g9, Rw 5 ((l ++ marks).map B8))]] w111 := H110.app1 H112
      refine c_nil ?_
      refine n_then ?_
      refine c_seq ?_
      refine c_reg ?_
      refine sy (v := .slice (some (bs g9)) ((l).length + 8) ((l).length + 8)) (y_move s7_94) ?_
      have H117 : St w [] [[(g9, Rw 5 ((l ++ marks).map B8))], [(g4, Rw 5 ((l113 ++ marks).map B8))], [(g98, Rw 26 ((hmac (lk) (l)).map B8))], [(gn9, Rw 26 ((hmac ((lk ++ marks).take lk.length) ((l ++ marks).take l.length)).map B8))], [(gn8, Rw 26 ((hmac ((lk ++ marks).take lk.length) ((l ++ marks).take l.length)).map B8))]] w111 := H116.foc 4 rfl rfl
      refine st (ow_call fn26 rfl (mturned_c g9 l _ (H117.get 0 rfl) (by omega)) ⟨rfl, trivial⟩) ?_
      rintro _ w118 ⟨rfl, l120, hl121, H119⟩
      have hw122 : (l120 ++ marks).length = (l).length + 8 := (wlen l120).trans (by rw [hl121])
      have H123 : St w [] [[(g9, Rw 5 ((l120 ++ marks).map B8))], [(g4, Rw 5 ((l113 ++ marks).map B8))], [(g98, Rw 26 ((hmac (lk) (l)).map B8))], [(gn9, Rw 26 ((hmac ((lk ++ marks).take lk.length) ((l ++ marks).take l.length)).map B8))], [(gn8, Rw 26 ((hmac ((lk ++ marks).take lk.length) ((l ++ marks).take l.length)).map B8))]] w118 := H117.app1 H119
      refine c_nil ?_
      refine n_then ?_
      refine c_seq ?_
      refine c_cut (n := 90) (fun f124 w125 => ∃ (gn13 : Nat), f124 0 = v0 ∧ f124 1 = v1 ∧ f124 6 = .slice (some (bs g4)) ((lk).length + 8) ((lk).length + 8) ∧ f124 7 = .slice (some (bs g9)) ((l).length + 8) ((l).length + 8) ∧ f124 13 = Ad (bs gn13) (0) ∧ St w [] [[(gn13, Rw 26 ((hmac ((l113 ++ marks).take lk.length) ((l120 ++ marks).take l.length)).map B8))], [(g9, Rw 5 ((l120 ++ marks).map B8))], [(g4, Rw 5 ((l113 ++ marks).map B8))], [(g98, Rw 26 ((hmac (lk) (l)).map B8))], [(gn9, Rw 26 ((hmac ((lk ++ marks).take lk.length) ((l ++ marks).take l.length)).map B8))], [(gn8, Rw 26 ((hmac ((lk ++ marks).take lk.length) ((l ++ marks).take l.length)).map B8))]] w125) ?_ ?_
      · skip
        refine drawS (.step 0 0 (.step 0 1 (.step 0 2 (.step 0 3 (.step 0 4 (.step 0 5 (.step 0 6 (.step 0 7 (.alt 8 (.step 1 9 (.step 1 10 .nil)) (.alt 9 (.step 1 8 (.step 1 10 .nil)) .stop)))))))))) mixed H123 (by kernel_rfl) (by kernel_rfl) (by kernel_rfl) ?_
        intro w126 H127
        refine pt (v := .slice (some (bs g4)) ((lk).length + 8) ((lk).length + 8)) rfl (fun wS HS => y_move s6_94) ?_
        refine pt (v := v0) rfl (fun wS HS => y_move s0_94) ?_
        refine pt (v := I ((lk.length : Nat) : Int)) rfl (fun wS HS => y_lenR Try.underlying23 (hK.st HS) rfl) ?_
        have hL128 : ((l113 ++ marks).take lk.length).length = lk.length := by rw [List.length_take]; omega
        refine pt (v := slv 1 (0) (lk.length) (.slice (some (bs g4)) ((lk).length + 8) ((lk).length + 8))) rfl (fun wS HS => y_slR (k1 := .i64) (k2 := .i64) (l := 0) (h := lk.length) Try.underlying23 sz5 (rd_arr HS 1 rfl hw115 (by unfold maxLen; omega)) rfl (.inl ⟨rfl, rfl⟩) (.inr ⟨_, rfl, rfl⟩) (by omega) (by omega)) ?_
        refine pt (v := .slice (some (bs g9)) ((l).length + 8) ((l).length + 8)) rfl (fun wS HS => y_move s7_94) ?_
        refine pt (v := v1) rfl (fun wS HS => y_move s1_94) ?_
        refine pt (v := I ((l.length : Nat) : Int)) rfl (fun wS HS => y_lenR Try.underlying23 (hR.st HS) rfl) ?_
        have hL129 : ((l120 ++ marks).take l.length).length = l.length := by rw [List.length_take]; omega
        refine pt (v := slv 1 (0) (l.length) (.slice (some (bs g9)) ((l).length + 8) ((l).length + 8))) rfl (fun wS HS => y_slR (k1 := .i64) (k2 := .i64) (l := 0) (h := l.length) Try.underlying23 sz5 (rd_arr HS 0 rfl hw122 (by unfold maxLen; omega)) rfl (.inl ⟨rfl, rfl⟩) (.inr ⟨_, rfl, rfl⟩) (by omega) (by omega)) ?_
        refine al rfl (ow_call fn23 rfl (mac_c (slv 1 (0) (lk.length) (.slice (some (bs g4)) ((lk).length + 8) ((lk).length + 8))) (slv 1 (0) (l.length) (.slice (some (bs g9)) ((l).length + 8) ((l).length + 8))) ((l113 ++ marks).take lk.length) ((l120 ++ marks).take l.length) _ ((rdb_pre (rd_arr H127 1 rfl hw115 (by unfold maxLen; omega)) (by omega))).nil ((rdb_pre (rd_arr H127 0 rfl hw122 (by unfold maxLen; omega)) (by omega))).nil (by omega) (by omega)) ⟨rfl, rfl, trivial⟩) ?_ ?_
        · skip
          rintro _ w130 ⟨rfl, hB131⟩
          have H132 : St w [] [[(g9, Rw 5 ((l120 ++ marks).map B8))], [(g4, Rw 5 ((l113 ++ marks).map B8))], [(g98, Rw 26 ((hmac (lk) (l)).map B8))], [(gn9, Rw 26 ((hmac ((lk ++ marks).take lk.length) ((l ++ marks).take l.length)).map B8))], [(gn8, Rw 26 ((hmac ((lk ++ marks).take lk.length) ((l ++ marks).take l.length)).map B8))]] w130 := H127.call hB131
          refine ⟨H132, ?_⟩
          refine pl rfl (ow_alloc (l := (List.replicate 32 0).map B8) H132 zr26 (by simp [Value.cells])) ?_
          rintro _ w134 ⟨g133, rfl, H135⟩
          have H136 : St w [] [[(gn8, Rw 26 ((hmac ((lk ++ marks).take lk.length) ((l ++ marks).take l.length)).map B8))], [(g133, Rw 26 ((List.replicate 32 0).map B8))], [(g9, Rw 5 ((l120 ++ marks).map B8))], [(g4, Rw 5 ((l113 ++ marks).map B8))], [(g98, Rw 26 ((hmac (lk) (l)).map B8))], [(gn9, Rw 26 ((hmac ((lk ++ marks).take lk.length) ((l ++ marks).take l.length)).map B8))]] w134 := H135.foc 5 rfl rfl
          have H137 : St w [] [[(gn9, Rw 26 ((hmac ((lk ++ marks).take lk.length) ((l ++ marks).take l.length)).map B8))], [(gn8, Rw 26 ((hmac ((lk ++ marks).take lk.length) ((l ++ marks).take l.length)).map B8))], [(g133, Rw 26 ((List.replicate 32 0).map B8))], [(g9, Rw 5 ((l120 ++ marks).map B8))], [(g4, Rw 5 ((l113 ++ marks).map B8))], [(g98, Rw 26 ((hmac (lk) (l)).map B8))]] w134 := H136.foc 5 rfl rfl
          have H138 : St w [] [[(g98, Rw 26 ((hmac (lk) (l)).map B8))], [(gn9, Rw 26 ((hmac ((lk ++ marks).take lk.length) ((l ++ marks).take l.length)).map B8))], [(gn8, Rw 26 ((hmac ((lk ++ marks).take lk.length) ((l ++ marks).take l.length)).map B8))], [(g133, Rw 26 ((List.replicate 32 0).map B8))], [(g9, Rw 5 ((l120 ++ marks).map B8))], [(g4, Rw 5 ((l113 ++ marks).map B8))]] w134 := H137.foc 5 rfl rfl
          have H139 : St w [] [[(g4, Rw 5 ((l113 ++ marks).map B8))], [(g98, Rw 26 ((hmac (lk) (l)).map B8))], [(gn9, Rw 26 ((hmac ((lk ++ marks).take lk.length) ((l ++ marks).take l.length)).map B8))], [(gn8, Rw 26 ((hmac ((lk ++ marks).take lk.length) ((l ++ marks).take l.length)).map B8))], [(g133, Rw 26 ((List.replicate 32 0).map B8))], [(g9, Rw 5 ((l120 ++ marks).map B8))]] w134 := H138.foc 5 rfl rfl
          have H140 : St w [] [[(g9, Rw 5 ((l120 ++ marks).map B8))], [(g4, Rw 5 ((l113 ++ marks).map B8))], [(g98, Rw 26 ((hmac (lk) (l)).map B8))], [(gn9, Rw 26 ((hmac ((lk ++ marks).take lk.length) ((l ++ marks).take l.length)).map B8))], [(gn8, Rw 26 ((hmac ((lk ++ marks).take lk.length) ((l ++ marks).take l.length)).map B8))], [(g133, Rw 26 ((List.replicate 32 0).map B8))]] w134 := H139.foc 5 rfl rfl
          have H141 : St w [] [[(g9, Rw 5 ((l120 ++ marks).map B8))], [(g4, Rw 5 ((l113 ++ marks).map B8))], [(g98, Rw 26 ((hmac (lk) (l)).map B8))], [(gn9, Rw 26 ((hmac ((lk ++ marks).take lk.length) ((l ++ marks).take l.length)).map B8))], [(gn8, Rw 26 ((hmac ((lk ++ marks).take lk.length) ((l ++ marks).take l.length)).map B8))]] w134 := H140.take 5 rfl
          refine ⟨H141, ?_⟩
          refine p0 rfl (ow_storeW (us := (hmac ((l113 ++ marks).take lk.length) ((l120 ++ marks).take l.length)).map B8) H135 sz26 ((List.length_map _).trans (hmac_length _ _)) rfl rfl (map_one (F := B8) (fun _ => rfl) _) ((List.length_map _).trans List.length_replicate)) ?_
          rintro _ w142 H143'
          have H143 : St w [] [[(g133, Rw 26 ((hmac ((l113 ++ marks).take lk.length) ((l120 ++ marks).take l.length)).map B8))], [(g9, Rw 5 ((l120 ++ marks).map B8))], [(g4, Rw 5 ((l113 ++ marks).map B8))], [(g98, Rw 26 ((hmac (lk) (l)).map B8))], [(gn9, Rw 26 ((hmac ((lk ++ marks).take lk.length) ((l ++ marks).take l.length)).map B8))], [(gn8, Rw 26 ((hmac ((lk ++ marks).take lk.length) ((l ++ marks).take l.length)).map B8))]] w142 := H143'
          have H144 : St w [] [[(gn8, Rw 26 ((hmac ((lk ++ marks).take lk.length) ((l ++ marks).take l.length)).map B8))], [(g133, Rw 26 ((hmac ((l113 ++ marks).take lk.length) ((l120 ++ marks).take l.length)).map B8))], [(g9, Rw 5 ((l120 ++ marks).map B8))], [(g4, Rw 5 ((l113 ++ marks).map B8))], [(g98, Rw 26 ((hmac (lk) (l)).map B8))], [(gn9, Rw 26 ((hmac ((lk ++ marks).take lk.length) ((l ++ marks).take l.length)).map B8))]] w142 := H143.foc 5 rfl rfl
          have H145 : St w [] [[(gn9, Rw 26 ((hmac ((lk ++ marks).take lk.length) ((l ++ marks).take l.length)).map B8))], [(gn8, Rw 26 ((hmac ((lk ++ marks).take lk.length) ((l ++ marks).take l.length)).map B8))], [(g133, Rw 26 ((hmac ((l113 ++ marks).take lk.length) ((l120 ++ marks).take l.length)).map B8))], [(g9, Rw 5 ((l120 ++ marks).map B8))], [(g4, Rw 5 ((l113 ++ marks).map B8))], [(g98, Rw 26 ((hmac (lk) (l)).map B8))]] w142 := H144.foc 5 rfl rfl
          have H146 : St w [] [[(g98, Rw 26 ((hmac (lk) (l)).map B8))], [(gn9, Rw 26 ((hmac ((lk ++ marks).take lk.length) ((l ++ marks).take l.length)).map B8))], [(gn8, Rw 26 ((hmac ((lk ++ marks).take lk.length) ((l ++ marks).take l.length)).map B8))], [(g133, Rw 26 ((hmac ((l113 ++ marks).take lk.length) ((l120 ++ marks).take l.length)).map B8))], [(g9, Rw 5 ((l120 ++ marks).map B8))], [(g4, Rw 5 ((l113 ++ marks).map B8))]] w142 := H145.foc 5 rfl rfl
          have H147 : St w [] [[(g4, Rw 5 ((l113 ++ marks).map B8))], [(g98, Rw 26 ((hmac (lk) (l)).map B8))], [(gn9, Rw 26 ((hmac ((lk ++ marks).take lk.length) ((l ++ marks).take l.length)).map B8))], [(gn8, Rw 26 ((hmac ((lk ++ marks).take lk.length) ((l ++ marks).take l.length)).map B8))], [(g133, Rw 26 ((hmac ((l113 ++ marks).take lk.length) ((l120 ++ marks).take l.length)).map B8))], [(g9, Rw 5 ((l120 ++ marks).map B8))]] w142 := H146.foc 5 rfl rfl
          have H148 : St w [] [[(g9, Rw 5 ((l120 ++ marks).map B8))], [(g4, Rw 5 ((l113 ++ marks).map B8))], [(g98, Rw 26 ((hmac (lk) (l)).map B8))], [(gn9, Rw 26 ((hmac ((lk ++ marks).take lk.length) ((l ++ marks).take l.length)).map B8))], [(gn8, Rw 26 ((hmac ((lk ++ marks).take lk.length) ((l ++ marks).take l.length)).map B8))], [(g133, Rw 26 ((hmac ((l113 ++ marks).take lk.length) ((l120 ++ marks).take l.length)).map B8))]] w142 := H147.foc 5 rfl rfl
          have H149 : St w [] [[(g9, Rw 5 ((l120 ++ marks).map B8))], [(g4, Rw 5 ((l113 ++ marks).map B8))], [(g98, Rw 26 ((hmac (lk) (l)).map B8))], [(gn9, Rw 26 ((hmac ((lk ++ marks).take lk.length) ((l ++ marks).take l.length)).map B8))], [(gn8, Rw 26 ((hmac ((lk ++ marks).take lk.length) ((l ++ marks).take l.length)).map B8))]] w142 := H148.take 5 rfl
          refine ⟨H149, ?_⟩
          refine p_nil ?_
          exact qj_n ⟨g133, s0_94, s1_94, s6_94, s7_94, rfl, H143⟩
        refine al rfl (ow_alloc (l := (List.replicate 32 0).map B8) H127 zr26 (by simp [Value.cells])) ?_ ?_
        · skip
          rintro _ w151 ⟨g150, rfl, H152⟩
          have H153 : St w [] [[(gn8, Rw 26 ((hmac ((lk ++ marks).take lk.length) ((l ++ marks).take l.length)).map B8))], [(g150, Rw 26 ((List.replicate 32 0).map B8))], [(g9, Rw 5 ((l120 ++ marks).map B8))], [(g4, Rw 5 ((l113 ++ marks).map B8))], [(g98, Rw 26 ((hmac (lk) (l)).map B8))], [(gn9, Rw 26 ((hmac ((lk ++ marks).take lk.length) ((l ++ marks).take l.length)).map B8))]] w151 := H152.foc 5 rfl rfl
          have H154 : St w [] [[(gn9, Rw 26 ((hmac ((lk ++ marks).take lk.length) ((l ++ marks).take l.length)).map B8))], [(gn8, Rw 26 ((hmac ((lk ++ marks).take lk.length) ((l ++ marks).take l.length)).map B8))], [(g150, Rw 26 ((List.replicate 32 0).map B8))], [(g9, Rw 5 ((l120 ++ marks).map B8))], [(g4, Rw 5 ((l113 ++ marks).map B8))], [(g98, Rw 26 ((hmac (lk) (l)).map B8))]] w151 := H153.foc 5 rfl rfl
          have H155 : St w [] [[(g98, Rw 26 ((hmac (lk) (l)).map B8))], [(gn9, Rw 26 ((hmac ((lk ++ marks).take lk.length) ((l ++ marks).take l.length)).map B8))], [(gn8, Rw 26 ((hmac ((lk ++ marks).take lk.length) ((l ++ marks).take l.length)).map B8))], [(g150, Rw 26 ((List.replicate 32 0).map B8))], [(g9, Rw 5 ((l120 ++ marks).map B8))], [(g4, Rw 5 ((l113 ++ marks).map B8))]] w151 := H154.foc 5 rfl rfl
          have H156 : St w [] [[(g4, Rw 5 ((l113 ++ marks).map B8))], [(g98, Rw 26 ((hmac (lk) (l)).map B8))], [(gn9, Rw 26 ((hmac ((lk ++ marks).take lk.length) ((l ++ marks).take l.length)).map B8))], [(gn8, Rw 26 ((hmac ((lk ++ marks).take lk.length) ((l ++ marks).take l.length)).map B8))], [(g150, Rw 26 ((List.replicate 32 0).map B8))], [(g9, Rw 5 ((l120 ++ marks).map B8))]] w151 := H155.foc 5 rfl rfl
          have H157 : St w [] [[(g9, Rw 5 ((l120 ++ marks).map B8))], [(g4, Rw 5 ((l113 ++ marks).map B8))], [(g98, Rw 26 ((hmac (lk) (l)).map B8))], [(gn9, Rw 26 ((hmac ((lk ++ marks).take lk.length) ((l ++ marks).take l.length)).map B8))], [(gn8, Rw 26 ((hmac ((lk ++ marks).take lk.length) ((l ++ marks).take l.length)).map B8))], [(g150, Rw 26 ((List.replicate 32 0).map B8))]] w151 := H156.foc 5 rfl rfl
          have H158 : St w [] [[(g9, Rw 5 ((l120 ++ marks).map B8))], [(g4, Rw 5 ((l113 ++ marks).map B8))], [(g98, Rw 26 ((hmac (lk) (l)).map B8))], [(gn9, Rw 26 ((hmac ((lk ++ marks).take lk.length) ((l ++ marks).take l.length)).map B8))], [(gn8, Rw 26 ((hmac ((lk ++ marks).take lk.length) ((l ++ marks).take l.length)).map B8))]] w151 := H157.take 5 rfl
          refine ⟨H158, ?_⟩
          refine pl rfl (ow_call fn23 rfl (mac_c (slv 1 (0) (lk.length) (.slice (some (bs g4)) ((lk).length + 8) ((lk).length + 8))) (slv 1 (0) (l.length) (.slice (some (bs g9)) ((l).length + 8) ((l).length + 8))) ((l113 ++ marks).take lk.length) ((l120 ++ marks).take l.length) _ ((rdb_pre (rd_arr H152 2 rfl hw115 (by unfold maxLen; omega)) (by omega))).nil ((rdb_pre (rd_arr H152 1 rfl hw122 (by unfold maxLen; omega)) (by omega))).nil (by omega) (by omega)) ⟨rfl, rfl, trivial⟩) ?_
          rintro _ w159 ⟨rfl, hB160⟩
          have H161 : St w [] [[(g150, Rw 26 ((List.replicate 32 0).map B8))], [(g9, Rw 5 ((l120 ++ marks).map B8))], [(g4, Rw 5 ((l113 ++ marks).map B8))], [(g98, Rw 26 ((hmac (lk) (l)).map B8))], [(gn9, Rw 26 ((hmac ((lk ++ marks).take lk.length) ((l ++ marks).take l.length)).map B8))], [(gn8, Rw 26 ((hmac ((lk ++ marks).take lk.length) ((l ++ marks).take l.length)).map B8))]] w159 := H152.call hB160
          have H162 : St w [] [[(gn8, Rw 26 ((hmac ((lk ++ marks).take lk.length) ((l ++ marks).take l.length)).map B8))], [(g150, Rw 26 ((List.replicate 32 0).map B8))], [(g9, Rw 5 ((l120 ++ marks).map B8))], [(g4, Rw 5 ((l113 ++ marks).map B8))], [(g98, Rw 26 ((hmac (lk) (l)).map B8))], [(gn9, Rw 26 ((hmac ((lk ++ marks).take lk.length) ((l ++ marks).take l.length)).map B8))]] w159 := H161.foc 5 rfl rfl
          have H163 : St w [] [[(gn9, Rw 26 ((hmac ((lk ++ marks).take lk.length) ((l ++ marks).take l.length)).map B8))], [(gn8, Rw 26 ((hmac ((lk ++ marks).take lk.length) ((l ++ marks).take l.length)).map B8))], [(g150, Rw 26 ((List.replicate 32 0).map B8))], [(g9, Rw 5 ((l120 ++ marks).map B8))], [(g4, Rw 5 ((l113 ++ marks).map B8))], [(g98, Rw 26 ((hmac (lk) (l)).map B8))]] w159 := H162.foc 5 rfl rfl
          have H164 : St w [] [[(g98, Rw 26 ((hmac (lk) (l)).map B8))], [(gn9, Rw 26 ((hmac ((lk ++ marks).take lk.length) ((l ++ marks).take l.length)).map B8))], [(gn8, Rw 26 ((hmac ((lk ++ marks).take lk.length) ((l ++ marks).take l.length)).map B8))], [(g150, Rw 26 ((List.replicate 32 0).map B8))], [(g9, Rw 5 ((l120 ++ marks).map B8))], [(g4, Rw 5 ((l113 ++ marks).map B8))]] w159 := H163.foc 5 rfl rfl
          have H165 : St w [] [[(g4, Rw 5 ((l113 ++ marks).map B8))], [(g98, Rw 26 ((hmac (lk) (l)).map B8))], [(gn9, Rw 26 ((hmac ((lk ++ marks).take lk.length) ((l ++ marks).take l.length)).map B8))], [(gn8, Rw 26 ((hmac ((lk ++ marks).take lk.length) ((l ++ marks).take l.length)).map B8))], [(g150, Rw 26 ((List.replicate 32 0).map B8))], [(g9, Rw 5 ((l120 ++ marks).map B8))]] w159 := H164.foc 5 rfl rfl
          have H166 : St w [] [[(g9, Rw 5 ((l120 ++ marks).map B8))], [(g4, Rw 5 ((l113 ++ marks).map B8))], [(g98, Rw 26 ((hmac (lk) (l)).map B8))], [(gn9, Rw 26 ((hmac ((lk ++ marks).take lk.length) ((l ++ marks).take l.length)).map B8))], [(gn8, Rw 26 ((hmac ((lk ++ marks).take lk.length) ((l ++ marks).take l.length)).map B8))], [(g150, Rw 26 ((List.replicate 32 0).map B8))]] w159 := H165.foc 5 rfl rfl
          have H167 : St w [] [[(g9, Rw 5 ((l120 ++ marks).map B8))], [(g4, Rw 5 ((l113 ++ marks).map B8))], [(g98, Rw 26 ((hmac (lk) (l)).map B8))], [(gn9, Rw 26 ((hmac ((lk ++ marks).take lk.length) ((l ++ marks).take l.length)).map B8))], [(gn8, Rw 26 ((hmac ((lk ++ marks).take lk.length) ((l ++ marks).take l.length)).map B8))]] w159 := H166.take 5 rfl
          refine ⟨H167, ?_⟩
          refine p0 rfl (ow_storeW (us := (hmac ((l113 ++ marks).take lk.length) ((l120 ++ marks).take l.length)).map B8) H161 sz26 ((List.length_map _).trans (hmac_length _ _)) rfl rfl (map_one (F := B8) (fun _ => rfl) _) ((List.length_map _).trans List.length_replicate)) ?_
          rintro _ w168 H169'
          have H169 : St w [] [[(g150, Rw 26 ((hmac ((l113 ++ marks).take lk.length) ((l120 ++ marks).take l.length)).map B8))], [(g9, Rw 5 ((l120 ++ marks).map B8))], [(g4, Rw 5 ((l113 ++ marks).map B8))], [(g98, Rw 26 ((hmac (lk) (l)).map B8))], [(gn9, Rw 26 ((hmac ((lk ++ marks).take lk.length) ((l ++ marks).take l.length)).map B8))], [(gn8, Rw 26 ((hmac ((lk ++ marks).take lk.length) ((l ++ marks).take l.length)).map B8))]] w168 := H169'
          have H170 : St w [] [[(gn8, Rw 26 ((hmac ((lk ++ marks).take lk.length) ((l ++ marks).take l.length)).map B8))], [(g150, Rw 26 ((hmac ((l113 ++ marks).take lk.length) ((l120 ++ marks).take l.length)).map B8))], [(g9, Rw 5 ((l120 ++ marks).map B8))], [(g4, Rw 5 ((l113 ++ marks).map B8))], [(g98, Rw 26 ((hmac (lk) (l)).map B8))], [(gn9, Rw 26 ((hmac ((lk ++ marks).take lk.length) ((l ++ marks).take l.length)).map B8))]] w168 := H169.foc 5 rfl rfl
          have H171 : St w [] [[(gn9, Rw 26 ((hmac ((lk ++ marks).take lk.length) ((l ++ marks).take l.length)).map B8))], [(gn8, Rw 26 ((hmac ((lk ++ marks).take lk.length) ((l ++ marks).take l.length)).map B8))], [(g150, Rw 26 ((hmac ((l113 ++ marks).take lk.length) ((l120 ++ marks).take l.length)).map B8))], [(g9, Rw 5 ((l120 ++ marks).map B8))], [(g4, Rw 5 ((l113 ++ marks).map B8))], [(g98, Rw 26 ((hmac (lk) (l)).map B8))]] w168 := H170.foc 5 rfl rfl
          have H172 : St w [] [[(g98, Rw 26 ((hmac (lk) (l)).map B8))], [(gn9, Rw 26 ((hmac ((lk ++ marks).take lk.length) ((l ++ marks).take l.length)).map B8))], [(gn8, Rw 26 ((hmac ((lk ++ marks).take lk.length) ((l ++ marks).take l.length)).map B8))], [(g150, Rw 26 ((hmac ((l113 ++ marks).take lk.length) ((l120 ++ marks).take l.length)).map B8))], [(g9, Rw 5 ((l120 ++ marks).map B8))], [(g4, Rw 5 ((l113 ++ marks).map B8))]] w168 := H171.foc 5 rfl rfl
          have H173 : St w [] [[(g4, Rw 5 ((l113 ++ marks).map B8))], [(g98, Rw 26 ((hmac (lk) (l)).map B8))], [(gn9, Rw 26 ((hmac ((lk ++ marks).take lk.length) ((l ++ marks).take l.length)).map B8))], [(gn8, Rw 26 ((hmac ((lk ++ marks).take lk.length) ((l ++ marks).take l.length)).map B8))], [(g150, Rw 26 ((hmac ((l113 ++ marks).take lk.length) ((l120 ++ marks).take l.length)).map B8))], [(g9, Rw 5 ((l120 ++ marks).map B8))]] w168 := H172.foc 5 rfl rfl
          have H174 : St w [] [[(g9, Rw 5 ((l120 ++ marks).map B8))], [(g4, Rw 5 ((l113 ++ marks).map B8))], [(g98, Rw 26 ((hmac (lk) (l)).map B8))], [(gn9, Rw 26 ((hmac ((lk ++ marks).take lk.length) ((l ++ marks).take l.length)).map B8))], [(gn8, Rw 26 ((hmac ((lk ++ marks).take lk.length) ((l ++ marks).take l.length)).map B8))], [(g150, Rw 26 ((hmac ((l113 ++ marks).take lk.length) ((l120 ++ marks).take l.length)).map B8))]] w168 := H173.foc 5 rfl rfl
          have H175 : St w [] [[(g9, Rw 5 ((l120 ++ marks).map B8))], [(g4, Rw 5 ((l113 ++ marks).map B8))], [(g98, Rw 26 ((hmac (lk) (l)).map B8))], [(gn9, Rw 26 ((hmac ((lk ++ marks).take lk.length) ((l ++ marks).take l.length)).map B8))], [(gn8, Rw 26 ((hmac ((lk ++ marks).take lk.length) ((l ++ marks).take l.length)).map B8))]] w168 := H174.take 5 rfl
          refine ⟨H175, ?_⟩
          refine p_nil ?_
          exact qj_n ⟨g150, s0_94, s1_94, s6_94, s7_94, rfl, H169⟩
        exact a_stop
      · skip
        rintro f124 w125 ⟨gn13, s0_176, s1_176, s6_176, s7_176, s13_176, H176⟩
        refine n_then ?_
        refine c_seq ?_
        refine drawS (.step 0 0 (.step 0 1 (.step 0 2 (.step 0 3 (.step 0 4 (.step 0 5 (.step 0 6 (.step 0 7 (.step 0 8 (.step 1 9 (.step 0 10 (.step 2 11 .nil)))))))))))) mixed H176 (by kernel_rfl) (by kernel_rfl) (by kernel_rfl) ?_
        intro w177 H178
        refine pt (v := .agg ((hmac ((l113 ++ marks).take lk.length) ((l120 ++ marks).take l.length)).map B8).toArray) rfl (fun wS HS => y_loadA (us := (hmac ((l113 ++ marks).take lk.length) ((l120 ++ marks).take l.length)).map B8) ag26 sz26 ((List.length_map _).trans (hmac_length _ _)) s13_176 (fun j u hu => (HS.cell 0 rfl (by rw [Nat.zero_add]; exact hu)))) ?_
        refine pt (v := .slice (some (bs g4)) ((lk).length + 8) ((lk).length + 8)) rfl (fun wS HS => y_move s6_176) ?_
        refine pt (v := v0) rfl (fun wS HS => y_move s0_176) ?_
        refine pt (v := I ((lk.length : Nat) : Int)) rfl (fun wS HS => y_lenR Try.underlying23 (hK.st HS) rfl) ?_
        have hL179 : ((l113 ++ marks).take lk.length).length = lk.length := by rw [List.length_take]; omega
        refine pt (v := slv 1 (0) (lk.length) (.slice (some (bs g4)) ((lk).length + 8) ((lk).length + 8))) rfl (fun wS HS => y_slR (k1 := .i64) (k2 := .i64) (l := 0) (h := lk.length) Try.underlying23 sz5 (rd_arr HS 2 rfl hw115 (by unfold maxLen; omega)) rfl (.inl ⟨rfl, rfl⟩) (.inr ⟨_, rfl, rfl⟩) (by omega) (by omega)) ?_
        refine pt (v := .slice (some (bs g9)) ((l).length + 8) ((l).length + 8)) rfl (fun wS HS => y_move s7_176) ?_
        refine pt (v := v1) rfl (fun wS HS => y_move s1_176) ?_
        refine pt (v := I ((l.length : Nat) : Int)) rfl (fun wS HS => y_lenR Try.underlying23 (hR.st HS) rfl) ?_
        have hL180 : ((l120 ++ marks).take l.length).length = l.length := by rw [List.length_take]; omega
        refine pt (v := slv 1 (0) (l.length) (.slice (some (bs g9)) ((l).length + 8) ((l).length + 8))) rfl (fun wS HS => y_slR (k1 := .i64) (k2 := .i64) (l := 0) (h := l.length) Try.underlying23 sz5 (rd_arr HS 1 rfl hw122 (by unfold maxLen; omega)) rfl (.inl ⟨rfl, rfl⟩) (.inr ⟨_, rfl, rfl⟩) (by omega) (by omega)) ?_
        refine pl rfl (ow_call fn24 rfl (rmac_c (slv 1 (0) (lk.length) (.slice (some (bs g4)) ((lk).length + 8) ((lk).length + 8))) (slv 1 (0) (l.length) (.slice (some (bs g9)) ((l).length + 8) ((l).length + 8))) ((l113 ++ marks).take lk.length) ((l120 ++ marks).take l.length) _ ((rdb_pre (rd_arr H178 2 rfl hw115 (by unfold maxLen; omega)) (by omega))).nil ((rdb_pre (rd_arr H178 1 rfl hw122 (by unfold maxLen; omega)) (by omega))).nil (by omega) (by omega)) ⟨rfl, rfl, trivial⟩) ?_
        rintro _ w181 ⟨rfl, hB182⟩
        have H183 : St w [] [[(gn13, Rw 26 ((hmac ((l113 ++ marks).take lk.length) ((l120 ++ marks).take l.length)).map B8))], [(g9, Rw 5 ((l120 ++ marks).map B8))], [(g4, Rw 5 ((l113 ++ marks).map B8))], [(g98, Rw 26 ((hmac (lk) (l)).map B8))], [(gn9, Rw 26 ((hmac ((lk ++ marks).take lk.length) ((l ++ marks).take l.length)).map B8))], [(gn8, Rw 26 ((hmac ((lk ++ marks).take lk.length) ((l ++ marks).take l.length)).map B8))]] w181 := H178.call hB182
        refine ⟨H183, ?_⟩
        refine pt (v := .bool (decide ((hmac ((l113 ++ marks).take lk.length) ((l120 ++ marks).take l.length)) = (hmac ((l113 ++ marks).take lk.length) ((l120 ++ marks).take l.length))))) rfl (fun wS HS => y_eqlArr (l1 := hmac ((l113 ++ marks).take lk.length) ((l120 ++ marks).take l.length)) (l2 := hmac ((l113 ++ marks).take lk.length) ((l120 ++ marks).take l.length)) Try.underlying26 sz5 sc5 Try.underlying5 gt26 (hmac_length _ _) (hmac_length _ _) rfl rfl) ?_
        refine tly (v := .bool (decide ((hmac ((l113 ++ marks).take lk.length) ((l120 ++ marks).take l.length)) = (hmac ((l113 ++ marks).take lk.length) ((l120 ++ marks).take l.length))))) rfl (y_assign rfl) ?_
        refine p_nil ?_
        refine n_then ?_
        refine wp_ret ?_
        refine e_r1 Try.results4 (rv_t rfl) ?_
        have hz : (.bool (decide ((hmac ((l113 ++ marks).take lk.length) ((l120 ++ marks).take l.length)) = (hmac ((l113 ++ marks).take lk.length) ((l120 ++ marks).take l.length)))) : Value) = .bool true := congrArg Value.bool (decide_eq_true rfl)
        refine ⟨_, rfl, ?_, ?_⟩
        · exact hz
        · exact H183.below


namespace SealMacsDone
open Go.ChangeShapes Go.WideShapes Go.ChangeAt
set_option linter.unusedVariables false
set_option maxRecDepth 100000 in
theorem lifted (os : Os) (started : os.Started) (H : Type) (enc : TypeId × Value → H) :
    ReturnsInHanded {} Try.checked os 4 .any (Rows.sealMacsSpec.pre6 enc Try.prog Try.f4 Rows.sealMacsRow.domain false) (Rows.sealMacsSpec.post enc Try.prog Try.f4 false true false false) := by
  refine returnsInHanded_of_change_sized (C := Try.checked) own started (by kernel_rfl) Try.func4
    (ChangeSpec.witness6 (enc := enc) (C := Try.checked) false ⟨#[], #[.slice none 0 0, .slice none 0 0], []⟩ 8 (by kernel_rfl) (by kernel_rfl) (by kernel_rfl) (by kernel_rfl)) ?_
  intro W base args ds gs before hval0 hW hcnd hsz0 _
  have hval : ∀ (j : Nat) t v, Try.f4.params[j]? = some t → args[j]? = some v → Value.okWide Try.prog W .any base t v := hval0
  have hW' := hW
  obtain ⟨p, q, hA0, hV, rfl, hfz, hnd⟩ := hW
  have hA : DataW.TrodAll enc Try.prog W 0 (fun _ => true) true Try.f4.params.toList args.toList ds p := hA0
  have hsz : (DataW.weightsEach Try.prog (Try.f4.params.toList ++ Rows.sealMacsSpec.plain.varTypes Try.prog) (ds ++ gs)).all (· ≤ reachBytes) = true := hsz0
  rw [Try.params4] at hA hval hsz
  obtain ⟨v0, vs0, d0, ds0, p0, q0, hargs, rfl, rfl, h0, r0⟩ := trodAll_cons hA
  obtain ⟨v1, vs1, d1, ds1, p1, q1, rfl, rfl, rfl, h1, r1⟩ := trodAll_cons r0
  obtain ⟨rfl, rfl, rfl⟩ := trodAll_nil r1
  obtain rfl : args = #[v0, v1] := by cases args; simp_all
  obtain ⟨rfl, rfl⟩ := trodVars_none hV
  have lt0 : ∀ x ∈ p0, x.block < W.heap.size := by obtain ⟨m, hm⟩ := h0; exact DataW.trod_lt m _ _ _ hm
  obtain ⟨l0, hR0, hl0⟩ := bytes_arg Try.underlying23 Try.underlying5 (by kernel_rfl) (by kernel_rfl) h0 (okWide_slice Try.underlying23 (hval 0 23 v0 rfl rfl)) hsz (j := 0) rfl rfl
  have lt1 : ∀ x ∈ p1, x.block < W.heap.size := by obtain ⟨m, hm⟩ := h1; exact DataW.trod_lt m _ _ _ hm
  obtain ⟨l1, hR1, hl1⟩ := bytes_arg Try.underlying23 Try.underlying5 (by kernel_rfl) (by kernel_rfl) h1 (okWide_slice Try.underlying23 (hval 1 23 v1 rfl rfl)) hsz (j := 1) rfl rfl
  refine (sealMacs_c v0 v1 l0 l1 W hR0 hR1 hl0 hl1).mono fun e W' ⟨v, he, hv, bel⟩ => ?_
  subst he hv
  exact ⟨_, rfl, _, _, _, [], _, [], hW', trodAll_mk1 (shut_bool Try.underlying4 _), (trodAll_cons_mk (Below.trod laidOut (by kernel_rfl) (of_decide_eq_true (by kernel_rfl)) h0 bel lt0) (trodAll_cons_mk (Below.trod laidOut (by kernel_rfl) (of_decide_eq_true (by kernel_rfl)) h1 bel lt1) trodAll_mk0)), rfl, bel.frame _, fun h => by cases h⟩
theorem over : Rows.sealMacsRow.holds Try.pinned (OpenSpec.ofChange Rows.sealMacsSpec) :=
  OpenClaim.holds_of_wide 4 Try.f4 rfl rfl rfl rfl rfl rfl rfl ⟨rfl, rfl, rfl, rfl, rfl⟩ rfl rfl rfl rfl rfl (by kernel_rfl) Try.func4 (by kernel_rfl)
    (of_decide_eq_true (by kernel_rfl)) (by unfold Func.isWrapper; first | (rw [if_pos (by decide +kernel)]; kernel_rfl) | (rw [if_neg (by decide +kernel)]; exact ⟨rfl, rfl⟩))
    (fun os started H enc _ => lifted os started H enc)
/-- THE STATEMENT -/
theorem proved : Rows.SealMacsSaid := over
end SealMacsDone

end Go.Proofs.Ytdcmbcjkdhdohaa
