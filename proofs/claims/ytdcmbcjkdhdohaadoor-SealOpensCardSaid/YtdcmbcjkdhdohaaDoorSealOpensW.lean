/- The walk of SealOpens. -/
import Derived.Test.YtdcmbcjkdhdohaaDoorTold
namespace Go.Proofs.YtdcmbcjkdhdohaaDoor
open Go Go.RowKit
set_option linter.unusedSimpArgs false
set_option linter.unusedVariables false
attribute [local irreducible] wpList wpP Code.wp

theorem opB_le (lk b : List UInt8) : (opB lk b).length ≤ 1099511627776 := by
  unfold opB
  split
  · rename_i h
    have := hdN_le (opE_none.1 h).2.1
    rw [List.length_take]; omega
  · simp

set_option maxHeartbeats 4000000 in
set_option maxRecDepth 20000 in
theorem sealOpens_c (v0 v1 : Value) (lk b : List UInt8) (w : World) (hK : Rd [] w 1 v0 lk.length (lk.map B8)) (hR : Rd [] w 1 v1 b.length (b.map B8)) (hlk : lk.length ≤ 140737488351232) (hb : b.length ≤ 140737488351232) (hg : gTyp w) :
    Calls Tryd.prog 3 (([v0, v1] : List Value).toArray) w (fun e w' => ∃ v, e = .returned v ∧ v = .bool true ∧ Below w.heap.size w w') := by
 refine calls_mk Tryd.func3 rfl 216 Tryd.ntmps3 rfl ?_
 have H0 : St w [] [] w := St.refl w
 refine c_seq ?_
 refine c_reg ?_
 refine sy (v := .bool (false)) (y_assign (v := .bool (false)) rfl) ?_
 refine c_nil ?_
 refine n_then ?_
 refine c_seq ?_
 refine c_reg ?_
 refine st (ow_call fn4 rfl (fixed_c _) trivial) ?_
 rintro _ w1 ⟨rfl, hB2⟩
 have H3 : St w _ [] w1 := H0.call hB2
 refine sy (v := .bool (true)) (y_assign rfl) ?_
 refine c_nil ?_
 refine n_then ?_
 refine c_seq ?_
 refine c_reg ?_
 refine sy (v := v0) (y_move rfl) ?_
 refine st (ow_call fn5 rfl (wide_c (v0) (lk) _ ((hK.st H3)).nil (by omega)) ⟨rfl, trivial⟩) ?_
 rintro _ w5 ⟨g4, rfl, H6⟩
 have hw7 := wlen lk
 have H8 : St w _ [_] w5 := H3.app H6
 refine sy (v := .slice (some (bs g4)) (lk.length + 8) (lk.length + 8)) (y_assign rfl) ?_
 refine c_nil ?_
 refine n_then ?_
 refine c_seq ?_
 refine c_reg ?_
 refine sy (v := v1) (y_move rfl) ?_
 refine st (ow_call fn5 rfl (wide_c (v1) (b) _ ((hR.st H8)).nil (by omega)) ⟨rfl, trivial⟩) ?_
 rintro _ w10 ⟨g9, rfl, H11⟩
 have hw12 := wlen b
 have H13 : St w _ [_, _] w10 := H8.app H11
 refine sy (v := .slice (some (bs g9)) (b.length + 8) (b.length + 8)) (y_assign rfl) ?_
 refine c_nil ?_
 refine n_then ?_
 refine c_seq ?_
 refine c_reg ?_
 refine sy (v := v0) (y_move rfl) ?_
 refine sy (v := v1) (y_move rfl) ?_
 refine st (ow_call fn6 rfl (ropen_c (v0) (v1) lk b _ ((hK.st H13)).nil ((hR.st H13)).nil (by omega) (by omega)) ⟨rfl, rfl, trivial⟩) ?_
 rintro _ w14 ⟨v15, E16, rfl, ho17, H18⟩
 have H19 : St w _ [_, _, _] w14 := H13.app H18
 refine sy (v := .tuple #[.agg ([I ((opF lk b : Nat) : Int), I ((opT lk b : Nat) : Int), v15]).toArray, I ((erN (opE lk b) : Nat) : Int), I (plN (opE lk b))]) (y_move rfl) ?_
 refine sy (v := .agg ([I ((opF lk b : Nat) : Int), I ((opT lk b : Nat) : Int), v15]).toArray) (y_extract (i := 0) rfl rfl) ?_
 refine sy (v := I ((erN (opE lk b) : Nat) : Int)) (y_extract (i := 1) rfl rfl) ?_
 refine sy (v := I (plN (opE lk b))) (y_extract (i := 2) rfl rfl) ?_
 refine st (ow_alloc (l := [I ((0 : Nat) : Int), I ((0 : Nat) : Int), .slice none 0 0]) H19 zr26 rfl) ?_
 rintro _ w21 ⟨g20, rfl, H22⟩
 refine s0 (ow_storeW (us := [I ((opF lk b : Nat) : Int), I ((opT lk b : Nat) : Int), v15]) H22 sz26 rfl rfl rfl (by intro u hu; simp only [List.mem_cons, List.not_mem_nil, or_false] at hu; rcases hu with rfl | rfl | rfl <;> first | rfl | exact Rd.one (ho17.rd H22 1 rfl)) (by simp [*])) ?_
 rintro _ w23 H24'
 have H24 : St w _ [[(g20, Rw 26 ([I ((opF lk b : Nat) : Int), I ((opT lk b : Nat) : Int), v15]))], _, _, _] w23 := H24'
 refine sy (v := I ((erN (opE lk b) : Nat) : Int)) (y_assign rfl) ?_
 refine sy (v := I (plN (opE lk b))) (y_assign rfl) ?_
 refine c_nil ?_
 refine n_then ?_
 refine c_seq ?_
 refine c_cut (n := 216) (fun f25 w26 => ∃ (gn_5 : Nat), ∃ (ev_5 : Value), ∃ (EE_5 : Part), ∃ (bv_5 : Value), ∃ (EB_5 : Part), f25 0 = v0 ∧ f25 1 = v1 ∧ f25 5 = .bool (true) ∧ f25 6 = .slice (some (bs g4)) (lk.length + 8) (lk.length + 8) ∧ f25 7 = .slice (some (bs g9)) (b.length + 8) (b.length + 8) ∧ f25 8 = Ad (bs g20) (0) ∧ f25 9 = I ((erN (opE lk b) : Nat) : Int) ∧ f25 10 = I (plN (opE lk b)) ∧ f25 11 = Ad (bs gn_5) (0) ∧ f25 12 = ev_5 ∧ EO (opE lk b) ev_5 EE_5 ∧ OS 5 1 bv_5 (opB lk b).length ((opB lk b).map B8) EB_5 ∧ St w [] [[(gn_5, Rw 26 ([I ((opF lk b : Nat) : Int), I ((opT lk b : Nat) : Int), bv_5]))], EE_5, EB_5, [(g20, Rw 26 ([I ((opF lk b : Nat) : Int), I ((opT lk b : Nat) : Int), v15]))], E16, [(g9, Rw 5 ((b ++ marks).map B8))], [(g4, Rw 5 ((lk ++ marks).map B8))]] w26) ?_ ?_
 ·
  refine drawS (.step 0 0 (.step 0 1 (.step 0 2 (.step 0 3 (.step 0 4 (.step 0 5 (.step 0 6 (.step 0 7 (.alt 8 (.step 0 9 (.step 0 10 (.step 0 11 (.step 1 12 (.step 1 13 (.step 0 14 .nil)))))) (.alt 12 (.step 1 8 (.step 0 9 (.step 0 10 (.step 0 11 (.step 1 13 (.step 0 14 .nil)))))) .stop)))))))))) mixed H24 (by kernel_rfl) (by kernel_rfl) (by kernel_rfl) ?_
  intro w27 H28
  refine pt (v := .slice (some (bs g4)) (lk.length + 8) (lk.length + 8)) rfl (fun wS HS => y_move rfl) ?_
  refine pt (v := v0) rfl (fun wS HS => y_move rfl) ?_
  refine pt (v := I ((lk.length : Nat) : Int)) rfl (fun wS HS => y_lenR Tryd.underlying22 (hK.st HS) rfl) ?_
  have hL29 : ((lk ++ marks).take lk.length).length = lk.length := by rw [List.length_take]; omega
  refine pt (v := slv 1 0 lk.length (.slice (some (bs g4)) (lk.length + 8) (lk.length + 8))) rfl (fun wS HS => y_slR (k1 := .i64) (k2 := .i64) (l := 0) (h := lk.length) Tryd.underlying22 sz5 (rd_arr HS 3 rfl hw7 (by unfold maxLen; omega)) rfl (.inl ⟨rfl, rfl⟩) (.inr ⟨_, rfl, rfl⟩) (by omega) (by omega)) ?_
  refine pt (v := .slice (some (bs g9)) (b.length + 8) (b.length + 8)) rfl (fun wS HS => y_move rfl) ?_
  refine pt (v := v1) rfl (fun wS HS => y_move rfl) ?_
  refine pt (v := I ((b.length : Nat) : Int)) rfl (fun wS HS => y_lenR Tryd.underlying22 (hR.st HS) rfl) ?_
  have hL30 : ((b ++ marks).take b.length).length = b.length := by rw [List.length_take]; omega
  refine pt (v := slv 1 0 b.length (.slice (some (bs g9)) (b.length + 8) (b.length + 8))) rfl (fun wS HS => y_slR (k1 := .i64) (k2 := .i64) (l := 0) (h := b.length) Tryd.underlying22 sz5 (rd_arr HS 2 rfl hw12 (by unfold maxLen; omega)) rfl (.inl ⟨rfl, rfl⟩) (.inr ⟨_, rfl, rfl⟩) (by omega) (by omega)) ?_
  refine al rfl (ow_call fn7 rfl (open_c (slv 1 0 lk.length (.slice (some (bs g4)) (lk.length + 8) (lk.length + 8))) (slv 1 0 b.length (.slice (some (bs g9)) (b.length + 8) (b.length + 8))) lk b _ (by have h9 : Rd [] _ 1 (slv 1 0 lk.length (.slice (some (bs g4)) (lk.length + 8) (lk.length + 8))) ((lk ++ marks).take lk.length).length (((lk ++ marks).take lk.length).map B8) := ((rdb_pre (rd_arr H28 3 rfl hw7 (by unfold maxLen; omega)) (by omega))).nil; rw [take_w] at h9; exact h9) (by have h9 : Rd [] _ 1 (slv 1 0 b.length (.slice (some (bs g9)) (b.length + 8) (b.length + 8))) ((b ++ marks).take b.length).length (((b ++ marks).take b.length).map B8) := ((rdb_pre (rd_arr H28 2 rfl hw12 (by unfold maxLen; omega)) (by omega))).nil; rw [take_w] at h9; exact h9) (by omega) (by omega)) ⟨rfl, rfl, trivial⟩) ?_ ?_
  ·
   rintro _ w31 ⟨ev32, E33, v35, E36, ⟨rfl, -⟩, hE34, ho37, H38⟩
   have H39 : St w _ [_, _, _, _, _, _] w31 := H28.app H38
   have H40 : St w _ [_, _, _, _, _, _] w31 := H39.foc 5 rfl rfl
   have H41 : St w _ [_, _, _, _, _, _] w31 := H40.foc 5 rfl rfl
   have H42 : St w _ [_, _, _, _, _, _] w31 := H41.foc 5 rfl rfl
   have H43 : St w _ [_, _, _, _, _, _] w31 := H42.foc 5 rfl rfl
   have H44 : St w _ [_, _, _, _] w31 := H43.take 4 rfl
   refine ⟨H44, ?_⟩
   refine pt (v := .tuple #[.agg ([I ((opF lk b : Nat) : Int), I ((opT lk b : Nat) : Int), v35]).toArray, ev32]) rfl (fun wS HS => y_move rfl) ?_
   refine pt (v := .agg ([I ((opF lk b : Nat) : Int), I ((opT lk b : Nat) : Int), v35]).toArray) rfl (fun wS HS => y_extract (i := 0) rfl rfl) ?_
   refine pt (v := ev32) rfl (fun wS HS => y_extract (i := 1) rfl rfl) ?_
   refine pl rfl (ow_alloc (l := [I ((0 : Nat) : Int), I ((0 : Nat) : Int), .slice none 0 0]) H39 zr26 rfl) ?_
   rintro _ w46 ⟨g45, rfl, H47⟩
   have H48 : St w _ [_, _, _, _, _, _, _] w46 := H47.foc 6 rfl rfl
   have H49 : St w _ [_, _, _, _, _, _, _] w46 := H48.foc 6 rfl rfl
   have H50 : St w _ [_, _, _, _, _, _, _] w46 := H49.foc 6 rfl rfl
   have H51 : St w _ [_, _, _, _, _, _, _] w46 := H50.foc 6 rfl rfl
   have H52 : St w _ [_, _, _, _] w46 := H51.take 4 rfl
   refine ⟨H52, ?_⟩
   refine p0 rfl (ow_storeW (us := [I ((opF lk b : Nat) : Int), I ((opT lk b : Nat) : Int), v35]) H47 sz26 rfl rfl rfl (by intro u hu; simp only [List.mem_cons, List.not_mem_nil, or_false] at hu; rcases hu with rfl | rfl | rfl <;> first | rfl | exact Rd.one (ho37.rd H47 2 rfl)) (by simp [*])) ?_
   rintro _ w53 H54'
   have H54 : St w _ [[(g45, Rw 26 ([I ((opF lk b : Nat) : Int), I ((opT lk b : Nat) : Int), v35]))], _, _, _, _, _, _] w53 := H54'
   have H55 : St w _ [_, _, _, _, _, _, _] w53 := H54.foc 6 rfl rfl
   have H56 : St w _ [_, _, _, _, _, _, _] w53 := H55.foc 6 rfl rfl
   have H57 : St w _ [_, _, _, _, _, _, _] w53 := H56.foc 6 rfl rfl
   have H58 : St w _ [_, _, _, _, _, _, _] w53 := H57.foc 6 rfl rfl
   have H59 : St w _ [_, _, _, _] w53 := H58.take 4 rfl
   refine ⟨H59, ?_⟩
   refine pt (v := ev32) rfl (fun wS HS => y_assign rfl) ?_
   refine p_nil ?_
   exact qj_n ⟨g45, ev32, E33, v35, E36, rfl, rfl, rfl, rfl, rfl, rfl, rfl, rfl, rfl, rfl, hE34, ho37, H54⟩
  refine al rfl (ow_alloc (l := [I ((0 : Nat) : Int), I ((0 : Nat) : Int), .slice none 0 0]) H28 zr26 rfl) ?_ ?_
  ·
   rintro _ w61 ⟨g60, rfl, H62⟩
   have H63 : St w _ [_, _, _, _, _] w61 := H62.foc 4 rfl rfl
   have H64 : St w _ [_, _, _, _, _] w61 := H63.foc 4 rfl rfl
   have H65 : St w _ [_, _, _, _, _] w61 := H64.foc 4 rfl rfl
   have H66 : St w _ [_, _, _, _, _] w61 := H65.foc 4 rfl rfl
   have H67 : St w _ [_, _, _, _] w61 := H66.take 4 rfl
   refine ⟨H67, ?_⟩
   refine pl rfl (ow_call fn7 rfl (open_c (slv 1 0 lk.length (.slice (some (bs g4)) (lk.length + 8) (lk.length + 8))) (slv 1 0 b.length (.slice (some (bs g9)) (b.length + 8) (b.length + 8))) lk b _ (by have h9 : Rd [] _ 1 (slv 1 0 lk.length (.slice (some (bs g4)) (lk.length + 8) (lk.length + 8))) ((lk ++ marks).take lk.length).length (((lk ++ marks).take lk.length).map B8) := ((rdb_pre (rd_arr H62 4 rfl hw7 (by unfold maxLen; omega)) (by omega))).nil; rw [take_w] at h9; exact h9) (by have h9 : Rd [] _ 1 (slv 1 0 b.length (.slice (some (bs g9)) (b.length + 8) (b.length + 8))) ((b ++ marks).take b.length).length (((b ++ marks).take b.length).map B8) := ((rdb_pre (rd_arr H62 3 rfl hw12 (by unfold maxLen; omega)) (by omega))).nil; rw [take_w] at h9; exact h9) (by omega) (by omega)) ⟨rfl, rfl, trivial⟩) ?_
   rintro _ w68 ⟨ev69, E70, v72, E73, ⟨rfl, -⟩, hE71, ho74, H75⟩
   have H76 : St w _ [_, _, _, _, _, _, _] w68 := H62.app H75
   have H77 : St w _ [_, _, _, _, _, _, _] w68 := H76.foc 6 rfl rfl
   have H78 : St w _ [_, _, _, _, _, _, _] w68 := H77.foc 6 rfl rfl
   have H79 : St w _ [_, _, _, _, _, _, _] w68 := H78.foc 6 rfl rfl
   have H80 : St w _ [_, _, _, _, _, _, _] w68 := H79.foc 6 rfl rfl
   have H81 : St w _ [_, _, _, _] w68 := H80.take 4 rfl
   refine ⟨H81, ?_⟩
   refine pt (v := .tuple #[.agg ([I ((opF lk b : Nat) : Int), I ((opT lk b : Nat) : Int), v72]).toArray, ev69]) rfl (fun wS HS => y_move rfl) ?_
   refine pt (v := .agg ([I ((opF lk b : Nat) : Int), I ((opT lk b : Nat) : Int), v72]).toArray) rfl (fun wS HS => y_extract (i := 0) rfl rfl) ?_
   refine pt (v := ev69) rfl (fun wS HS => y_extract (i := 1) rfl rfl) ?_
   have H82 : St w _ [_, _, _, _, _, _, _] w68 := H76.foc 2 rfl rfl
   refine p0 rfl (ow_storeW (us := [I ((opF lk b : Nat) : Int), I ((opT lk b : Nat) : Int), v72]) H82 sz26 rfl rfl rfl (by intro u hu; simp only [List.mem_cons, List.not_mem_nil, or_false] at hu; rcases hu with rfl | rfl | rfl <;> first | rfl | exact Rd.one (ho74.rd H82 2 rfl)) (by simp [*])) ?_
   rintro _ w83 H84'
   have H84 : St w _ [[(g60, Rw 26 ([I ((opF lk b : Nat) : Int), I ((opT lk b : Nat) : Int), v72]))], _, _, _, _, _, _] w83 := H84'
   have H85 : St w _ [_, _, _, _, _, _, _] w83 := H84.foc 6 rfl rfl
   have H86 : St w _ [_, _, _, _, _, _, _] w83 := H85.foc 6 rfl rfl
   have H87 : St w _ [_, _, _, _, _, _, _] w83 := H86.foc 6 rfl rfl
   have H88 : St w _ [_, _, _, _, _, _, _] w83 := H87.foc 6 rfl rfl
   have H89 : St w _ [_, _, _, _] w83 := H88.take 4 rfl
   refine ⟨H89, ?_⟩
   refine pt (v := ev69) rfl (fun wS HS => y_assign rfl) ?_
   refine p_nil ?_
   exact qj_n ⟨g60, ev69, E70, v72, E73, rfl, rfl, rfl, rfl, rfl, rfl, rfl, rfl, rfl, rfl, hE71, ho74, H84⟩
  exact a_stop
 ·
  rintro f25 w26 ⟨gn_5, ev_5, EE_5, bv_5, EB_5, s0_90, s1_90, s5_90, s6_90, s7_90, s8_90, s9_90, s10_90, s11_90, s12_90, hE_5, ho_5, H90⟩
  refine n_then ?_
  refine c_seq ?_
  refine c_cut (n := 216) (fun f91 w92 => ∃ (gn_6 : Nat), ∃ (ev_6 : Value), ∃ (EE_6 : Part), ∃ (bv_6 : Value), ∃ (EB_6 : Part), f91 0 = v0 ∧ f91 1 = v1 ∧ f91 5 = .bool (true) ∧ f91 6 = .slice (some (bs g4)) (lk.length + 8) (lk.length + 8) ∧ f91 7 = .slice (some (bs g9)) (b.length + 8) (b.length + 8) ∧ f91 8 = Ad (bs g20) (0) ∧ f91 9 = I ((erN (opE lk b) : Nat) : Int) ∧ f91 10 = I (plN (opE lk b)) ∧ f91 11 = Ad (bs gn_5) (0) ∧ f91 12 = ev_5 ∧ f91 13 = Ad (bs gn_6) (0) ∧ f91 14 = ev_6 ∧ EO (opE lk b) ev_6 EE_6 ∧ OS 5 1 bv_6 (opB lk b).length ((opB lk b).map B8) EB_6 ∧ St w [] [[(gn_6, Rw 26 ([I ((opF lk b : Nat) : Int), I ((opT lk b : Nat) : Int), bv_6]))], EE_6, EB_6, [(gn_5, Rw 26 ([I ((opF lk b : Nat) : Int), I ((opT lk b : Nat) : Int), bv_5]))], EE_5, EB_5, [(g20, Rw 26 ([I ((opF lk b : Nat) : Int), I ((opT lk b : Nat) : Int), v15]))], E16, [(g9, Rw 5 ((b ++ marks).map B8))], [(g4, Rw 5 ((lk ++ marks).map B8))]] w92) ?_ ?_
  ·
   refine drawS (.step 0 0 (.step 0 1 (.step 0 2 (.step 0 3 (.step 0 4 (.step 0 5 (.step 0 6 (.step 0 7 (.alt 8 (.step 0 9 (.step 0 10 (.step 0 11 (.step 1 12 (.step 1 13 (.step 0 14 .nil)))))) (.alt 12 (.step 1 8 (.step 0 9 (.step 0 10 (.step 0 11 (.step 1 13 (.step 0 14 .nil)))))) .stop)))))))))) mixed H90 (by kernel_rfl) (by kernel_rfl) (by kernel_rfl) ?_
   intro w93 H94
   refine pt (v := .slice (some (bs g4)) (lk.length + 8) (lk.length + 8)) rfl (fun wS HS => y_move s6_90) ?_
   refine pt (v := v0) rfl (fun wS HS => y_move s0_90) ?_
   refine pt (v := I ((lk.length : Nat) : Int)) rfl (fun wS HS => y_lenR Tryd.underlying22 (hK.st HS) rfl) ?_
   have hL95 : ((lk ++ marks).take lk.length).length = lk.length := by rw [List.length_take]; omega
   refine pt (v := slv 1 0 lk.length (.slice (some (bs g4)) (lk.length + 8) (lk.length + 8))) rfl (fun wS HS => y_slR (k1 := .i64) (k2 := .i64) (l := 0) (h := lk.length) Tryd.underlying22 sz5 (rd_arr HS 6 rfl hw7 (by unfold maxLen; omega)) rfl (.inl ⟨rfl, rfl⟩) (.inr ⟨_, rfl, rfl⟩) (by omega) (by omega)) ?_
   refine pt (v := .slice (some (bs g9)) (b.length + 8) (b.length + 8)) rfl (fun wS HS => y_move s7_90) ?_
   refine pt (v := v1) rfl (fun wS HS => y_move s1_90) ?_
   refine pt (v := I ((b.length : Nat) : Int)) rfl (fun wS HS => y_lenR Tryd.underlying22 (hR.st HS) rfl) ?_
   have hL96 : ((b ++ marks).take b.length).length = b.length := by rw [List.length_take]; omega
   refine pt (v := slv 1 0 b.length (.slice (some (bs g9)) (b.length + 8) (b.length + 8))) rfl (fun wS HS => y_slR (k1 := .i64) (k2 := .i64) (l := 0) (h := b.length) Tryd.underlying22 sz5 (rd_arr HS 5 rfl hw12 (by unfold maxLen; omega)) rfl (.inl ⟨rfl, rfl⟩) (.inr ⟨_, rfl, rfl⟩) (by omega) (by omega)) ?_
   refine al rfl (ow_call fn7 rfl (open_c (slv 1 0 lk.length (.slice (some (bs g4)) (lk.length + 8) (lk.length + 8))) (slv 1 0 b.length (.slice (some (bs g9)) (b.length + 8) (b.length + 8))) lk b _ (by have h9 : Rd [] _ 1 (slv 1 0 lk.length (.slice (some (bs g4)) (lk.length + 8) (lk.length + 8))) ((lk ++ marks).take lk.length).length (((lk ++ marks).take lk.length).map B8) := ((rdb_pre (rd_arr H94 6 rfl hw7 (by unfold maxLen; omega)) (by omega))).nil; rw [take_w] at h9; exact h9) (by have h9 : Rd [] _ 1 (slv 1 0 b.length (.slice (some (bs g9)) (b.length + 8) (b.length + 8))) ((b ++ marks).take b.length).length (((b ++ marks).take b.length).map B8) := ((rdb_pre (rd_arr H94 5 rfl hw12 (by unfold maxLen; omega)) (by omega))).nil; rw [take_w] at h9; exact h9) (by omega) (by omega)) ⟨rfl, rfl, trivial⟩) ?_ ?_
   ·
    rintro _ w97 ⟨ev98, E99, v101, E102, ⟨rfl, -⟩, hE100, ho103, H104⟩
    have H105 : St w _ [_, _, _, _, _, _, _, _, _] w97 := H94.app H104
    have H106 : St w _ [_, _, _, _, _, _, _, _, _] w97 := H105.foc 8 rfl rfl
    have H107 : St w _ [_, _, _, _, _, _, _, _, _] w97 := H106.foc 8 rfl rfl
    have H108 : St w _ [_, _, _, _, _, _, _, _, _] w97 := H107.foc 8 rfl rfl
    have H109 : St w _ [_, _, _, _, _, _, _, _, _] w97 := H108.foc 8 rfl rfl
    have H110 : St w _ [_, _, _, _, _, _, _, _, _] w97 := H109.foc 8 rfl rfl
    have H111 : St w _ [_, _, _, _, _, _, _, _, _] w97 := H110.foc 8 rfl rfl
    have H112 : St w _ [_, _, _, _, _, _, _, _, _] w97 := H111.foc 8 rfl rfl
    have H113 : St w _ [_, _, _, _, _, _, _] w97 := H112.take 7 rfl
    refine ⟨H113, ?_⟩
    refine pt (v := .tuple #[.agg ([I ((opF lk b : Nat) : Int), I ((opT lk b : Nat) : Int), v101]).toArray, ev98]) rfl (fun wS HS => y_move rfl) ?_
    refine pt (v := .agg ([I ((opF lk b : Nat) : Int), I ((opT lk b : Nat) : Int), v101]).toArray) rfl (fun wS HS => y_extract (i := 0) rfl rfl) ?_
    refine pt (v := ev98) rfl (fun wS HS => y_extract (i := 1) rfl rfl) ?_
    refine pl rfl (ow_alloc (l := [I ((0 : Nat) : Int), I ((0 : Nat) : Int), .slice none 0 0]) H105 zr26 rfl) ?_
    rintro _ w115 ⟨g114, rfl, H116⟩
    have H117 : St w _ [_, _, _, _, _, _, _, _, _, _] w115 := H116.foc 9 rfl rfl
    have H118 : St w _ [_, _, _, _, _, _, _, _, _, _] w115 := H117.foc 9 rfl rfl
    have H119 : St w _ [_, _, _, _, _, _, _, _, _, _] w115 := H118.foc 9 rfl rfl
    have H120 : St w _ [_, _, _, _, _, _, _, _, _, _] w115 := H119.foc 9 rfl rfl
    have H121 : St w _ [_, _, _, _, _, _, _, _, _, _] w115 := H120.foc 9 rfl rfl
    have H122 : St w _ [_, _, _, _, _, _, _, _, _, _] w115 := H121.foc 9 rfl rfl
    have H123 : St w _ [_, _, _, _, _, _, _, _, _, _] w115 := H122.foc 9 rfl rfl
    have H124 : St w _ [_, _, _, _, _, _, _] w115 := H123.take 7 rfl
    refine ⟨H124, ?_⟩
    refine p0 rfl (ow_storeW (us := [I ((opF lk b : Nat) : Int), I ((opT lk b : Nat) : Int), v101]) H116 sz26 rfl rfl rfl (by intro u hu; simp only [List.mem_cons, List.not_mem_nil, or_false] at hu; rcases hu with rfl | rfl | rfl <;> first | rfl | exact Rd.one (ho103.rd H116 2 rfl)) (by simp [*])) ?_
    rintro _ w125 H126'
    have H126 : St w _ [[(g114, Rw 26 ([I ((opF lk b : Nat) : Int), I ((opT lk b : Nat) : Int), v101]))], _, _, _, _, _, _, _, _, _] w125 := H126'
    have H127 : St w _ [_, _, _, _, _, _, _, _, _, _] w125 := H126.foc 9 rfl rfl
    have H128 : St w _ [_, _, _, _, _, _, _, _, _, _] w125 := H127.foc 9 rfl rfl
    have H129 : St w _ [_, _, _, _, _, _, _, _, _, _] w125 := H128.foc 9 rfl rfl
    have H130 : St w _ [_, _, _, _, _, _, _, _, _, _] w125 := H129.foc 9 rfl rfl
    have H131 : St w _ [_, _, _, _, _, _, _, _, _, _] w125 := H130.foc 9 rfl rfl
    have H132 : St w _ [_, _, _, _, _, _, _, _, _, _] w125 := H131.foc 9 rfl rfl
    have H133 : St w _ [_, _, _, _, _, _, _, _, _, _] w125 := H132.foc 9 rfl rfl
    have H134 : St w _ [_, _, _, _, _, _, _] w125 := H133.take 7 rfl
    refine ⟨H134, ?_⟩
    refine pt (v := ev98) rfl (fun wS HS => y_assign rfl) ?_
    refine p_nil ?_
    exact qj_n ⟨g114, ev98, E99, v101, E102, s0_90, s1_90, s5_90, s6_90, s7_90, s8_90, s9_90, s10_90, s11_90, s12_90, rfl, rfl, hE100, ho103, H126⟩
   refine al rfl (ow_alloc (l := [I ((0 : Nat) : Int), I ((0 : Nat) : Int), .slice none 0 0]) H94 zr26 rfl) ?_ ?_
   ·
    rintro _ w136 ⟨g135, rfl, H137⟩
    have H138 : St w _ [_, _, _, _, _, _, _, _] w136 := H137.foc 7 rfl rfl
    have H139 : St w _ [_, _, _, _, _, _, _, _] w136 := H138.foc 7 rfl rfl
    have H140 : St w _ [_, _, _, _, _, _, _, _] w136 := H139.foc 7 rfl rfl
    have H141 : St w _ [_, _, _, _, _, _, _, _] w136 := H140.foc 7 rfl rfl
    have H142 : St w _ [_, _, _, _, _, _, _, _] w136 := H141.foc 7 rfl rfl
    have H143 : St w _ [_, _, _, _, _, _, _, _] w136 := H142.foc 7 rfl rfl
    have H144 : St w _ [_, _, _, _, _, _, _, _] w136 := H143.foc 7 rfl rfl
    have H145 : St w _ [_, _, _, _, _, _, _] w136 := H144.take 7 rfl
    refine ⟨H145, ?_⟩
    refine pl rfl (ow_call fn7 rfl (open_c (slv 1 0 lk.length (.slice (some (bs g4)) (lk.length + 8) (lk.length + 8))) (slv 1 0 b.length (.slice (some (bs g9)) (b.length + 8) (b.length + 8))) lk b _ (by have h9 : Rd [] _ 1 (slv 1 0 lk.length (.slice (some (bs g4)) (lk.length + 8) (lk.length + 8))) ((lk ++ marks).take lk.length).length (((lk ++ marks).take lk.length).map B8) := ((rdb_pre (rd_arr H137 7 rfl hw7 (by unfold maxLen; omega)) (by omega))).nil; rw [take_w] at h9; exact h9) (by have h9 : Rd [] _ 1 (slv 1 0 b.length (.slice (some (bs g9)) (b.length + 8) (b.length + 8))) ((b ++ marks).take b.length).length (((b ++ marks).take b.length).map B8) := ((rdb_pre (rd_arr H137 6 rfl hw12 (by unfold maxLen; omega)) (by omega))).nil; rw [take_w] at h9; exact h9) (by omega) (by omega)) ⟨rfl, rfl, trivial⟩) ?_
    rintro _ w146 ⟨ev147, E148, v150, E151, ⟨rfl, -⟩, hE149, ho152, H153⟩
    have H154 : St w _ [_, _, _, _, _, _, _, _, _, _] w146 := H137.app H153
    have H155 : St w _ [_, _, _, _, _, _, _, _, _, _] w146 := H154.foc 9 rfl rfl
    have H156 : St w _ [_, _, _, _, _, _, _, _, _, _] w146 := H155.foc 9 rfl rfl
    have H157 : St w _ [_, _, _, _, _, _, _, _, _, _] w146 := H156.foc 9 rfl rfl
    have H158 : St w _ [_, _, _, _, _, _, _, _, _, _] w146 := H157.foc 9 rfl rfl
    have H159 : St w _ [_, _, _, _, _, _, _, _, _, _] w146 := H158.foc 9 rfl rfl
    have H160 : St w _ [_, _, _, _, _, _, _, _, _, _] w146 := H159.foc 9 rfl rfl
    have H161 : St w _ [_, _, _, _, _, _, _, _, _, _] w146 := H160.foc 9 rfl rfl
    have H162 : St w _ [_, _, _, _, _, _, _] w146 := H161.take 7 rfl
    refine ⟨H162, ?_⟩
    refine pt (v := .tuple #[.agg ([I ((opF lk b : Nat) : Int), I ((opT lk b : Nat) : Int), v150]).toArray, ev147]) rfl (fun wS HS => y_move rfl) ?_
    refine pt (v := .agg ([I ((opF lk b : Nat) : Int), I ((opT lk b : Nat) : Int), v150]).toArray) rfl (fun wS HS => y_extract (i := 0) rfl rfl) ?_
    refine pt (v := ev147) rfl (fun wS HS => y_extract (i := 1) rfl rfl) ?_
    have H163 : St w _ [_, _, _, _, _, _, _, _, _, _] w146 := H154.foc 2 rfl rfl
    refine p0 rfl (ow_storeW (us := [I ((opF lk b : Nat) : Int), I ((opT lk b : Nat) : Int), v150]) H163 sz26 rfl rfl rfl (by intro u hu; simp only [List.mem_cons, List.not_mem_nil, or_false] at hu; rcases hu with rfl | rfl | rfl <;> first | rfl | exact Rd.one (ho152.rd H163 2 rfl)) (by simp [*])) ?_
    rintro _ w164 H165'
    have H165 : St w _ [[(g135, Rw 26 ([I ((opF lk b : Nat) : Int), I ((opT lk b : Nat) : Int), v150]))], _, _, _, _, _, _, _, _, _] w164 := H165'
    have H166 : St w _ [_, _, _, _, _, _, _, _, _, _] w164 := H165.foc 9 rfl rfl
    have H167 : St w _ [_, _, _, _, _, _, _, _, _, _] w164 := H166.foc 9 rfl rfl
    have H168 : St w _ [_, _, _, _, _, _, _, _, _, _] w164 := H167.foc 9 rfl rfl
    have H169 : St w _ [_, _, _, _, _, _, _, _, _, _] w164 := H168.foc 9 rfl rfl
    have H170 : St w _ [_, _, _, _, _, _, _, _, _, _] w164 := H169.foc 9 rfl rfl
    have H171 : St w _ [_, _, _, _, _, _, _, _, _, _] w164 := H170.foc 9 rfl rfl
    have H172 : St w _ [_, _, _, _, _, _, _, _, _, _] w164 := H171.foc 9 rfl rfl
    have H173 : St w _ [_, _, _, _, _, _, _] w164 := H172.take 7 rfl
    refine ⟨H173, ?_⟩
    refine pt (v := ev147) rfl (fun wS HS => y_assign rfl) ?_
    refine p_nil ?_
    exact qj_n ⟨g135, ev147, E148, v150, E151, s0_90, s1_90, s5_90, s6_90, s7_90, s8_90, s9_90, s10_90, s11_90, s12_90, rfl, rfl, hE149, ho152, H165⟩
   exact a_stop
  ·
   rintro f91 w92 ⟨gn_6, ev_6, EE_6, bv_6, EB_6, s0_174, s1_174, s5_174, s6_174, s7_174, s8_174, s9_174, s10_174, s11_174, s12_174, s13_174, s14_174, hE_6, ho_6, H174⟩
   refine n_then ?_
   refine c_seq ?_
   refine c_reg ?_
   refine sy (v := .slice (some (bs g4)) (lk.length + 8) (lk.length + 8)) (y_move s6_174) ?_
   refine sy (v := v0) (y_move s0_174) ?_
   refine st (ow_call fn8 rfl (kept_c (.slice (some (bs g4)) (lk.length + 8) (lk.length + 8)) (v0) (lk) _ ((rd_arr H174 9 rfl hw7 (by unfold maxLen; omega))).nil ((hK.st H174)).nil (by omega)) ⟨rfl, rfl, trivial⟩) ?_
   rintro _ w175 ⟨rfl, hB176⟩
   have H177 : St w _ [_, _, _, _, _, _, _, _, _, _] w175 := H174.call hB176
   refine sy (v := .bool (true)) (y_assign rfl) ?_
   refine c_nil ?_
   refine n_then ?_
   refine c_seq ?_
   refine c_reg ?_
   refine sy (v := .slice (some (bs g9)) (b.length + 8) (b.length + 8)) (y_move s7_174) ?_
   refine sy (v := v1) (y_move s1_174) ?_
   refine st (ow_call fn8 rfl (kept_c (.slice (some (bs g9)) (b.length + 8) (b.length + 8)) (v1) (b) _ ((rd_arr H177 8 rfl hw12 (by unfold maxLen; omega))).nil ((hR.st H177)).nil (by omega)) ⟨rfl, rfl, trivial⟩) ?_
   rintro _ w178 ⟨rfl, hB179⟩
   have H180 : St w _ [_, _, _, _, _, _, _, _, _, _] w178 := H177.call hB179
   refine sy (v := .bool (true)) (y_assign rfl) ?_
   refine c_nil ?_
   refine n_then ?_
   refine c_seq ?_
   refine c_reg ?_
   refine sy (v := ev_5) (y_move s12_174) ?_
   refine sy (v := I ((erN (opE lk b) : Nat) : Int)) (y_move s9_174) ?_
   refine sy (v := I (plN (opE lk b))) (y_move s10_174) ?_
   have H181 : St w _ [_, _, _, _, _, _, _, _, _, _] w178 := H180.foc 4 rfl rfl
   refine st (ow_call fn9 rfl (told_c (opE lk b) ev_5 EE_5 _ hE_5 opE_nz (fun p hp => H181.own _ List.mem_cons_self p hp) (gTyp.st hg H181 (by simp))) ⟨rfl, rfl, rfl, trivial⟩) ?_
   rintro _ w182 ⟨rfl, H183⟩
   have H184 : St w _ [_, _, _, _, _, _, _, _, _, _] w182 := H181.appE H183
   refine sy (v := .bool (true)) (y_assign rfl) ?_
   refine c_nil ?_
   refine n_then ?_
   refine c_seq ?_
   refine c_reg ?_
   refine sy (v := ev_6) (y_move s14_174) ?_
   refine sy (v := I ((erN (opE lk b) : Nat) : Int)) (y_move s9_174) ?_
   refine sy (v := I (plN (opE lk b))) (y_move s10_174) ?_
   have H185 : St w _ [_, _, _, _, _, _, _, _, _, _] w182 := H184.foc 2 rfl rfl
   refine st (ow_call fn9 rfl (told_c (opE lk b) ev_6 EE_6 _ hE_6 opE_nz (fun p hp => H185.own _ List.mem_cons_self p hp) (gTyp.st hg H185 (by simp))) ⟨rfl, rfl, rfl, trivial⟩) ?_
   rintro _ w186 ⟨rfl, H187⟩
   have H188 : St w _ [_, _, _, _, _, _, _, _, _, _] w186 := H185.appE H187
   refine sy (v := .bool (true)) (y_assign rfl) ?_
   refine c_nil ?_
   refine n_then ?_
   refine c_seq ?_
   refine c_reg ?_
   refine sy (v := Ad (bs gn_5) (0 + 2)) (y_fld Tryd.underlying26 rfl rfl sz22 (by decide) s11_174) ?_
   refine sy (v := bv_5) (y_load sc22 rfl (H188.cell 4 rfl rfl)) ?_
   refine sy (v := Ad (bs g20) (0 + 2)) (y_fld Tryd.underlying26 rfl rfl sz22 (by decide) s8_174) ?_
   refine sy (v := v15) (y_load sc22 rfl (H188.cell 6 rfl rfl)) ?_
   refine st (ow_call fn10 rfl (same_c (bv_5) (v15) (opB lk b) (opB lk b) _ ((ho_5.rd H188 5 rfl)).nil ((ho17.rd H188 7 rfl)).nil) ⟨rfl, rfl, trivial⟩) ?_
   rintro _ w189 ⟨rfl, hB190⟩
   have H191 : St w _ [_, _, _, _, _, _, _, _, _, _] w189 := H188.call hB190
   refine sy (v := .bool (decide ((opB lk b) = (opB lk b)))) (y_assign rfl) ?_
   refine c_nil ?_
   refine n_then ?_
   refine c_seq ?_
   refine c_reg ?_
   refine sy (v := Ad (bs gn_6) (0 + 2)) (y_fld Tryd.underlying26 rfl rfl sz22 (by decide) s13_174) ?_
   refine sy (v := bv_6) (y_load sc22 rfl (H191.cell 2 rfl rfl)) ?_
   refine sy (v := Ad (bs g20) (0 + 2)) (y_fld Tryd.underlying26 rfl rfl sz22 (by decide) s8_174) ?_
   refine sy (v := v15) (y_load sc22 rfl (H191.cell 6 rfl rfl)) ?_
   refine st (ow_call fn10 rfl (same_c (bv_6) (v15) (opB lk b) (opB lk b) _ ((ho_6.rd H191 3 rfl)).nil ((ho17.rd H191 7 rfl)).nil) ⟨rfl, rfl, trivial⟩) ?_
   rintro _ w192 ⟨rfl, hB193⟩
   have H194 : St w _ [_, _, _, _, _, _, _, _, _, _] w192 := H191.call hB193
   refine sy (v := .bool (decide ((opB lk b) = (opB lk b)))) (y_assign rfl) ?_
   refine c_nil ?_
   refine n_then ?_
   refine c_seq ?_
   refine c_seq ?_
   refine c_reg ?_
   refine sy (v := .bool (true)) (y_move s5_174) ?_
   refine sy (v := .bool (false)) (y_not (p := true) rfl) ?_
   refine sy (v := .bool (false)) (y_move rfl) ?_
   refine gsy (v := .bool (true)) (gv_of (t := 91) rfl rfl rfl) (rfl) (y_move rfl) ?_
   refine gsy (v := .bool (false)) (gv_of (t := 91) rfl rfl rfl) (rfl) (y_not (p := true) rfl) ?_
   refine sy (v := .bool (false)) (y_pickF rfl (rfl) rfl) ?_
   refine sy (v := .bool (false)) (y_move rfl) ?_
   refine gsy (v := .bool (true)) (gv_of (t := 95) rfl rfl rfl) (rfl) (y_move rfl) ?_
   refine gsy (v := .bool (false)) (gv_of (t := 95) rfl rfl rfl) (rfl) (y_not (p := true) rfl) ?_
   refine sy (v := .bool (false)) (y_pickF rfl (rfl) rfl) ?_
   refine sy (v := .bool (false)) (y_move rfl) ?_
   refine gsy (v := .bool (true)) (gv_of (t := 99) rfl rfl rfl) (rfl) (y_move rfl) ?_
   refine gsy (v := .bool (false)) (gv_of (t := 99) rfl rfl rfl) (rfl) (y_not (p := true) rfl) ?_
   refine sy (v := .bool (false)) (y_pickF rfl (rfl) rfl) ?_
   refine sy (v := .bool (false)) (y_move rfl) ?_
   refine gsy (v := .bool (true)) (gv_of (t := 103) rfl rfl rfl) (rfl) (y_move rfl) ?_
   refine gsy (v := .bool (false)) (gv_of (t := 103) rfl rfl rfl) (rfl) (y_not (p := true) rfl) ?_
   refine sy (v := .bool (false)) (y_pickF rfl (rfl) rfl) ?_
   refine sy (v := .bool (false)) (y_move rfl) ?_
   refine gsy (v := .bool (decide ((opB lk b) = (opB lk b)))) (gv_of (t := 107) rfl rfl rfl) (rfl) (y_move rfl) ?_
   refine gsy (v := .bool (decide (¬ ((opB lk b) = (opB lk b))))) (gv_of (t := 107) rfl rfl rfl) (rfl) (y_notP rfl) ?_
   refine sy (v := .bool (decide (¬ ((opB lk b) = (opB lk b))))) (y_pickF rfl (rfl) rfl) ?_
   refine sy (v := .bool (decide (¬ ((opB lk b) = (opB lk b))))) (y_move rfl) ?_
   have hq195 : (opB lk b) = (opB lk b) := rfl
   refine gsy (v := .bool (decide ((opB lk b) = (opB lk b)))) (gv_of (t := 111) rfl rfl rfl) (decide_eq_false (not_not_intro hq195)) (y_move rfl) ?_
   refine gsy (v := .bool (decide (¬ ((opB lk b) = (opB lk b))))) (gv_of (t := 111) rfl rfl rfl) (decide_eq_false (not_not_intro hq195)) (y_notP rfl) ?_
   refine sy (v := .bool (decide (¬ ((opB lk b) = (opB lk b))))) (y_pickF rfl (decide_eq_false (not_not_intro hq195)) rfl) ?_
   refine sy (v := .bool (decide (¬ ((opB lk b) = (opB lk b))))) (y_move rfl) ?_
   refine gsy (v := Ad (bs gn_5) (0 + 0)) (gv_of (t := 115) rfl rfl rfl) (decide_eq_false (not_not_intro hq195)) (y_fld Tryd.underlying26 rfl rfl sz3 (by decide) s11_174) ?_
   refine gsy (v := I ((opF lk b : Nat) : Int)) (gv_of (t := 115) rfl rfl rfl) (decide_eq_false (not_not_intro hq195)) (y_load sc3 rfl (H194.cell 4 rfl rfl)) ?_
   refine gsy (v := Ad (bs g20) (0 + 0)) (gv_of (t := 115) rfl rfl rfl) (decide_eq_false (not_not_intro hq195)) (y_fld Tryd.underlying26 rfl rfl sz3 (by decide) s8_174) ?_
   refine gsy (v := I ((opF lk b : Nat) : Int)) (gv_of (t := 115) rfl rfl rfl) (decide_eq_false (not_not_intro hq195)) (y_load sc3 rfl (H194.cell 6 rfl rfl)) ?_
   refine gsy (v := .bool (decide ((opF lk b) ≠ (opF lk b)))) (gv_of (t := 115) rfl rfl rfl) (decide_eq_false (not_not_intro hq195)) (n_neq (a := opF lk b) (b := opF lk b) rfl rfl) ?_
   refine sy (v := .bool (decide ((opF lk b) ≠ (opF lk b)))) (y_pickF rfl (decide_eq_false (not_not_intro hq195)) rfl) ?_
   refine sy (v := .bool (decide ((opF lk b) ≠ (opF lk b)))) (y_move rfl) ?_
   have hq196 : ¬ ((opF lk b) ≠ (opF lk b)) := (fun h => h rfl)
   refine gsy (v := Ad (bs gn_5) (0 + 1)) (gv_of (t := 122) rfl rfl rfl) (decide_eq_false hq196) (y_fld Tryd.underlying26 rfl rfl sz3 (by decide) s11_174) ?_
   refine gsy (v := I ((opT lk b : Nat) : Int)) (gv_of (t := 122) rfl rfl rfl) (decide_eq_false hq196) (y_load sc3 rfl (H194.cell 4 rfl rfl)) ?_
   refine gsy (v := Ad (bs g20) (0 + 1)) (gv_of (t := 122) rfl rfl rfl) (decide_eq_false hq196) (y_fld Tryd.underlying26 rfl rfl sz3 (by decide) s8_174) ?_
   refine gsy (v := I ((opT lk b : Nat) : Int)) (gv_of (t := 122) rfl rfl rfl) (decide_eq_false hq196) (y_load sc3 rfl (H194.cell 6 rfl rfl)) ?_
   refine gsy (v := .bool (decide ((opT lk b) ≠ (opT lk b)))) (gv_of (t := 122) rfl rfl rfl) (decide_eq_false hq196) (n_neq (a := opT lk b) (b := opT lk b) rfl rfl) ?_
   refine sy (v := .bool (decide ((opT lk b) ≠ (opT lk b)))) (y_pickF rfl (decide_eq_false hq196) rfl) ?_
   refine sy (v := .bool (decide ((opT lk b) ≠ (opT lk b)))) (y_move rfl) ?_
   have hq197 : ¬ ((opT lk b) ≠ (opT lk b)) := (fun h => h rfl)
   refine gsy (v := Ad (bs gn_6) (0 + 0)) (gv_of (t := 129) rfl rfl rfl) (decide_eq_false hq197) (y_fld Tryd.underlying26 rfl rfl sz3 (by decide) s13_174) ?_
   refine gsy (v := I ((opF lk b : Nat) : Int)) (gv_of (t := 129) rfl rfl rfl) (decide_eq_false hq197) (y_load sc3 rfl (H194.cell 2 rfl rfl)) ?_
   refine gsy (v := Ad (bs g20) (0 + 0)) (gv_of (t := 129) rfl rfl rfl) (decide_eq_false hq197) (y_fld Tryd.underlying26 rfl rfl sz3 (by decide) s8_174) ?_
   refine gsy (v := I ((opF lk b : Nat) : Int)) (gv_of (t := 129) rfl rfl rfl) (decide_eq_false hq197) (y_load sc3 rfl (H194.cell 6 rfl rfl)) ?_
   refine gsy (v := .bool (decide ((opF lk b) ≠ (opF lk b)))) (gv_of (t := 129) rfl rfl rfl) (decide_eq_false hq197) (n_neq (a := opF lk b) (b := opF lk b) rfl rfl) ?_
   refine sy (v := .bool (decide ((opF lk b) ≠ (opF lk b)))) (y_pickF rfl (decide_eq_false hq197) rfl) ?_
   refine sy (v := .bool (decide ((opF lk b) ≠ (opF lk b)))) (y_move rfl) ?_
   refine gsy (v := Ad (bs gn_6) (0 + 1)) (gv_of (t := 136) rfl rfl rfl) (decide_eq_false hq196) (y_fld Tryd.underlying26 rfl rfl sz3 (by decide) s13_174) ?_
   refine gsy (v := I ((opT lk b : Nat) : Int)) (gv_of (t := 136) rfl rfl rfl) (decide_eq_false hq196) (y_load sc3 rfl (H194.cell 2 rfl rfl)) ?_
   refine gsy (v := Ad (bs g20) (0 + 1)) (gv_of (t := 136) rfl rfl rfl) (decide_eq_false hq196) (y_fld Tryd.underlying26 rfl rfl sz3 (by decide) s8_174) ?_
   refine gsy (v := I ((opT lk b : Nat) : Int)) (gv_of (t := 136) rfl rfl rfl) (decide_eq_false hq196) (y_load sc3 rfl (H194.cell 6 rfl rfl)) ?_
   refine gsy (v := .bool (decide ((opT lk b) ≠ (opT lk b)))) (gv_of (t := 136) rfl rfl rfl) (decide_eq_false hq196) (n_neq (a := opT lk b) (b := opT lk b) rfl rfl) ?_
   refine sy (v := .bool (decide ((opT lk b) ≠ (opT lk b)))) (y_pickF rfl (decide_eq_false hq196) rfl) ?_
   refine c_nil ?_
   refine n_then ?_
   refine c_f rfl (decide_eq_false hq197) ?_
   refine wp_skip ?_
   refine n_then ?_
   refine c_seq ?_
   refine c_reg ?_
   refine sy (v := .slice (some (bs g9)) (b.length + 8) (b.length + 8)) (y_move s7_174) ?_
   have H198 : St w _ [_, _, _, _, _, _, _, _, _, _] w192 := H194.foc 8 rfl rfl
   refine st (ow_call fn11 rfl (mturned_c g9 b _ (H198.get 0 rfl) (by omega)) ⟨rfl, trivial⟩) ?_
   rintro _ w199 ⟨rfl, l201, hl202, H200⟩
   have hw203 : (l201 ++ marks).length = (b).length + 8 := (wlen l201).trans (by rw [hl202])
   have H204 : St w _ [_, _, _, _, _, _, _, _, _, _] w199 := H198.app1 H200
   refine c_nil ?_
   refine n_then ?_
   refine c_seq ?_
   refine c_cut (n := 216) (fun f205 w206 => ∃ (gn_16 : Nat), ∃ (bv_16 : Value), ∃ (EB_16 : Part), f205 0 = v0 ∧ f205 1 = v1 ∧ f205 6 = .slice (some (bs g4)) (lk.length + 8) (lk.length + 8) ∧ f205 7 = .slice (some (bs g9)) (b.length + 8) (b.length + 8) ∧ f205 8 = Ad (bs g20) (0) ∧ f205 11 = Ad (bs gn_5) (0) ∧ f205 13 = Ad (bs gn_6) (0) ∧ f205 21 = Ad (bs gn_16) (0) ∧ f205 22 = I ((erN (opE lk l201) : Nat) : Int) ∧ f205 23 = I (plN (opE lk l201)) ∧ OS 5 1 bv_16 (opB lk l201).length ((opB lk l201).map B8) EB_16 ∧ St w [] [[(gn_16, Rw 26 ([I ((opF lk l201 : Nat) : Int), I ((opT lk l201 : Nat) : Int), bv_16]))], EB_16, [(g9, Rw 5 ((l201 ++ marks).map B8))], EE_6, EE_5, [(gn_6, Rw 26 ([I ((opF lk b : Nat) : Int), I ((opT lk b : Nat) : Int), bv_6]))], EB_6, [(gn_5, Rw 26 ([I ((opF lk b : Nat) : Int), I ((opT lk b : Nat) : Int), bv_5]))], EB_5, [(g20, Rw 26 ([I ((opF lk b : Nat) : Int), I ((opT lk b : Nat) : Int), v15]))], E16, [(g4, Rw 5 ((lk ++ marks).map B8))]] w206) ?_ ?_
   ·
    refine drawS (.step 0 0 (.step 0 1 (.step 0 2 (.step 0 3 (.step 0 4 (.step 0 5 (.step 0 6 (.step 0 7 (.alt 8 (.step 0 9 (.step 0 10 (.step 0 11 (.step 0 12 (.step 1 13 (.step 1 14 (.step 0 15 (.step 0 16 .nil)))))))) (.alt 13 (.step 1 8 (.step 0 9 (.step 0 10 (.step 0 11 (.step 0 12 (.step 1 14 (.step 0 15 (.step 0 16 .nil)))))))) .stop)))))))))) mixed H204 (by kernel_rfl) (by kernel_rfl) (by kernel_rfl) ?_
    intro w207 H208
    refine pt (v := .slice (some (bs g4)) (lk.length + 8) (lk.length + 8)) rfl (fun wS HS => y_move s6_174) ?_
    refine pt (v := v0) rfl (fun wS HS => y_move s0_174) ?_
    refine pt (v := I ((lk.length : Nat) : Int)) rfl (fun wS HS => y_lenR Tryd.underlying22 (hK.st HS) rfl) ?_
    have hL209 : ((lk ++ marks).take lk.length).length = lk.length := by rw [List.length_take]; omega
    refine pt (v := slv 1 0 lk.length (.slice (some (bs g4)) (lk.length + 8) (lk.length + 8))) rfl (fun wS HS => y_slR (k1 := .i64) (k2 := .i64) (l := 0) (h := lk.length) Tryd.underlying22 sz5 (rd_arr HS 9 rfl hw7 (by unfold maxLen; omega)) rfl (.inl ⟨rfl, rfl⟩) (.inr ⟨_, rfl, rfl⟩) (by omega) (by omega)) ?_
    refine pt (v := .slice (some (bs g9)) (b.length + 8) (b.length + 8)) rfl (fun wS HS => y_move s7_174) ?_
    refine pt (v := v1) rfl (fun wS HS => y_move s1_174) ?_
    refine pt (v := I ((b.length : Nat) : Int)) rfl (fun wS HS => y_lenR Tryd.underlying22 (hR.st HS) rfl) ?_
    have hL210 : ((l201 ++ marks).take b.length).length = b.length := by rw [List.length_take]; omega
    refine pt (v := slv 1 0 b.length (.slice (some (bs g9)) (b.length + 8) (b.length + 8))) rfl (fun wS HS => y_slR (k1 := .i64) (k2 := .i64) (l := 0) (h := b.length) Tryd.underlying22 sz5 (rd_arr HS 0 rfl hw203 (by unfold maxLen; omega)) rfl (.inl ⟨rfl, rfl⟩) (.inr ⟨_, rfl, rfl⟩) (by omega) (by omega)) ?_
    refine al rfl (ow_call fn6 rfl (ropen_c (slv 1 0 lk.length (.slice (some (bs g4)) (lk.length + 8) (lk.length + 8))) (slv 1 0 b.length (.slice (some (bs g9)) (b.length + 8) (b.length + 8))) lk l201 _ (by have h9 : Rd [] _ 1 (slv 1 0 lk.length (.slice (some (bs g4)) (lk.length + 8) (lk.length + 8))) ((lk ++ marks).take lk.length).length (((lk ++ marks).take lk.length).map B8) := ((rdb_pre (rd_arr H208 9 rfl hw7 (by unfold maxLen; omega)) (by omega))).nil; rw [take_w] at h9; exact h9) (by have h9 : Rd [] _ 1 (slv 1 0 b.length (.slice (some (bs g9)) (b.length + 8) (b.length + 8))) ((l201 ++ marks).take b.length).length (((l201 ++ marks).take b.length).map B8) := ((rdb_pre (rd_arr H208 0 rfl hw203 (by unfold maxLen; omega)) (by omega))).nil; rw [take_w2 hl202] at h9; exact h9) (by omega) (by omega)) ⟨rfl, rfl, trivial⟩) ?_ ?_
    ·
     rintro _ w211 ⟨v212, E213, rfl, ho214, H215⟩
     have H216 : St w _ [_, _, _, _, _, _, _, _, _, _, _] w211 := H208.app H215
     have H217 : St w _ [_, _, _, _, _, _, _, _, _, _, _] w211 := H216.foc 10 rfl rfl
     have H218 : St w _ [_, _, _, _, _, _, _, _, _, _, _] w211 := H217.foc 10 rfl rfl
     have H219 : St w _ [_, _, _, _, _, _, _, _, _, _, _] w211 := H218.foc 10 rfl rfl
     have H220 : St w _ [_, _, _, _, _, _, _, _, _, _, _] w211 := H219.foc 10 rfl rfl
     have H221 : St w _ [_, _, _, _, _, _, _, _, _, _, _] w211 := H220.foc 10 rfl rfl
     have H222 : St w _ [_, _, _, _, _, _, _, _, _, _, _] w211 := H221.foc 10 rfl rfl
     have H223 : St w _ [_, _, _, _, _, _, _, _, _, _, _] w211 := H222.foc 10 rfl rfl
     have H224 : St w _ [_, _, _, _, _, _, _, _, _, _, _] w211 := H223.foc 10 rfl rfl
     have H225 : St w _ [_, _, _, _, _, _, _, _, _, _, _] w211 := H224.foc 10 rfl rfl
     have H226 : St w _ [_, _, _, _, _, _, _, _, _, _, _] w211 := H225.foc 10 rfl rfl
     have H227 : St w _ [_, _, _, _, _, _, _, _, _, _] w211 := H226.take 10 rfl
     refine ⟨H227, ?_⟩
     refine pt (v := .tuple #[.agg ([I ((opF lk l201 : Nat) : Int), I ((opT lk l201 : Nat) : Int), v212]).toArray, I ((erN (opE lk l201) : Nat) : Int), I (plN (opE lk l201))]) rfl (fun wS HS => y_move rfl) ?_
     refine pt (v := .agg ([I ((opF lk l201 : Nat) : Int), I ((opT lk l201 : Nat) : Int), v212]).toArray) rfl (fun wS HS => y_extract (i := 0) rfl rfl) ?_
     refine pt (v := I ((erN (opE lk l201) : Nat) : Int)) rfl (fun wS HS => y_extract (i := 1) rfl rfl) ?_
     refine pt (v := I (plN (opE lk l201))) rfl (fun wS HS => y_extract (i := 2) rfl rfl) ?_
     refine pl rfl (ow_alloc (l := [I ((0 : Nat) : Int), I ((0 : Nat) : Int), .slice none 0 0]) H216 zr26 rfl) ?_
     rintro _ w229 ⟨g228, rfl, H230⟩
     have H231 : St w _ [_, _, _, _, _, _, _, _, _, _, _, _] w229 := H230.foc 11 rfl rfl
     have H232 : St w _ [_, _, _, _, _, _, _, _, _, _, _, _] w229 := H231.foc 11 rfl rfl
     have H233 : St w _ [_, _, _, _, _, _, _, _, _, _, _, _] w229 := H232.foc 11 rfl rfl
     have H234 : St w _ [_, _, _, _, _, _, _, _, _, _, _, _] w229 := H233.foc 11 rfl rfl
     have H235 : St w _ [_, _, _, _, _, _, _, _, _, _, _, _] w229 := H234.foc 11 rfl rfl
     have H236 : St w _ [_, _, _, _, _, _, _, _, _, _, _, _] w229 := H235.foc 11 rfl rfl
     have H237 : St w _ [_, _, _, _, _, _, _, _, _, _, _, _] w229 := H236.foc 11 rfl rfl
     have H238 : St w _ [_, _, _, _, _, _, _, _, _, _, _, _] w229 := H237.foc 11 rfl rfl
     have H239 : St w _ [_, _, _, _, _, _, _, _, _, _, _, _] w229 := H238.foc 11 rfl rfl
     have H240 : St w _ [_, _, _, _, _, _, _, _, _, _, _, _] w229 := H239.foc 11 rfl rfl
     have H241 : St w _ [_, _, _, _, _, _, _, _, _, _] w229 := H240.take 10 rfl
     refine ⟨H241, ?_⟩
     refine p0 rfl (ow_storeW (us := [I ((opF lk l201 : Nat) : Int), I ((opT lk l201 : Nat) : Int), v212]) H230 sz26 rfl rfl rfl (by intro u hu; simp only [List.mem_cons, List.not_mem_nil, or_false] at hu; rcases hu with rfl | rfl | rfl <;> first | rfl | exact Rd.one (ho214.rd H230 1 rfl)) (by simp [*])) ?_
     rintro _ w242 H243'
     have H243 : St w _ [[(g228, Rw 26 ([I ((opF lk l201 : Nat) : Int), I ((opT lk l201 : Nat) : Int), v212]))], _, _, _, _, _, _, _, _, _, _, _] w242 := H243'
     have H244 : St w _ [_, _, _, _, _, _, _, _, _, _, _, _] w242 := H243.foc 11 rfl rfl
     have H245 : St w _ [_, _, _, _, _, _, _, _, _, _, _, _] w242 := H244.foc 11 rfl rfl
     have H246 : St w _ [_, _, _, _, _, _, _, _, _, _, _, _] w242 := H245.foc 11 rfl rfl
     have H247 : St w _ [_, _, _, _, _, _, _, _, _, _, _, _] w242 := H246.foc 11 rfl rfl
     have H248 : St w _ [_, _, _, _, _, _, _, _, _, _, _, _] w242 := H247.foc 11 rfl rfl
     have H249 : St w _ [_, _, _, _, _, _, _, _, _, _, _, _] w242 := H248.foc 11 rfl rfl
     have H250 : St w _ [_, _, _, _, _, _, _, _, _, _, _, _] w242 := H249.foc 11 rfl rfl
     have H251 : St w _ [_, _, _, _, _, _, _, _, _, _, _, _] w242 := H250.foc 11 rfl rfl
     have H252 : St w _ [_, _, _, _, _, _, _, _, _, _, _, _] w242 := H251.foc 11 rfl rfl
     have H253 : St w _ [_, _, _, _, _, _, _, _, _, _, _, _] w242 := H252.foc 11 rfl rfl
     have H254 : St w _ [_, _, _, _, _, _, _, _, _, _] w242 := H253.take 10 rfl
     refine ⟨H254, ?_⟩
     refine pt (v := I ((erN (opE lk l201) : Nat) : Int)) rfl (fun wS HS => y_assign rfl) ?_
     refine pt (v := I (plN (opE lk l201))) rfl (fun wS HS => y_assign rfl) ?_
     refine p_nil ?_
     exact qj_n ⟨g228, v212, E213, s0_174, s1_174, s6_174, s7_174, s8_174, s11_174, s13_174, rfl, rfl, rfl, ho214, H243⟩
    refine al rfl (ow_alloc (l := [I ((0 : Nat) : Int), I ((0 : Nat) : Int), .slice none 0 0]) H208 zr26 rfl) ?_ ?_
    ·
     rintro _ w256 ⟨g255, rfl, H257⟩
     have H258 : St w _ [_, _, _, _, _, _, _, _, _, _, _] w256 := H257.foc 10 rfl rfl
     have H259 : St w _ [_, _, _, _, _, _, _, _, _, _, _] w256 := H258.foc 10 rfl rfl
     have H260 : St w _ [_, _, _, _, _, _, _, _, _, _, _] w256 := H259.foc 10 rfl rfl
     have H261 : St w _ [_, _, _, _, _, _, _, _, _, _, _] w256 := H260.foc 10 rfl rfl
     have H262 : St w _ [_, _, _, _, _, _, _, _, _, _, _] w256 := H261.foc 10 rfl rfl
     have H263 : St w _ [_, _, _, _, _, _, _, _, _, _, _] w256 := H262.foc 10 rfl rfl
     have H264 : St w _ [_, _, _, _, _, _, _, _, _, _, _] w256 := H263.foc 10 rfl rfl
     have H265 : St w _ [_, _, _, _, _, _, _, _, _, _, _] w256 := H264.foc 10 rfl rfl
     have H266 : St w _ [_, _, _, _, _, _, _, _, _, _, _] w256 := H265.foc 10 rfl rfl
     have H267 : St w _ [_, _, _, _, _, _, _, _, _, _, _] w256 := H266.foc 10 rfl rfl
     have H268 : St w _ [_, _, _, _, _, _, _, _, _, _] w256 := H267.take 10 rfl
     refine ⟨H268, ?_⟩
     refine pl rfl (ow_call fn6 rfl (ropen_c (slv 1 0 lk.length (.slice (some (bs g4)) (lk.length + 8) (lk.length + 8))) (slv 1 0 b.length (.slice (some (bs g9)) (b.length + 8) (b.length + 8))) lk l201 _ (by have h9 : Rd [] _ 1 (slv 1 0 lk.length (.slice (some (bs g4)) (lk.length + 8) (lk.length + 8))) ((lk ++ marks).take lk.length).length (((lk ++ marks).take lk.length).map B8) := ((rdb_pre (rd_arr H257 10 rfl hw7 (by unfold maxLen; omega)) (by omega))).nil; rw [take_w] at h9; exact h9) (by have h9 : Rd [] _ 1 (slv 1 0 b.length (.slice (some (bs g9)) (b.length + 8) (b.length + 8))) ((l201 ++ marks).take b.length).length (((l201 ++ marks).take b.length).map B8) := ((rdb_pre (rd_arr H257 1 rfl hw203 (by unfold maxLen; omega)) (by omega))).nil; rw [take_w2 hl202] at h9; exact h9) (by omega) (by omega)) ⟨rfl, rfl, trivial⟩) ?_
     rintro _ w269 ⟨v270, E271, rfl, ho272, H273⟩
     have H274 : St w _ [_, _, _, _, _, _, _, _, _, _, _, _] w269 := H257.app H273
     have H275 : St w _ [_, _, _, _, _, _, _, _, _, _, _, _] w269 := H274.foc 11 rfl rfl
     have H276 : St w _ [_, _, _, _, _, _, _, _, _, _, _, _] w269 := H275.foc 11 rfl rfl
     have H277 : St w _ [_, _, _, _, _, _, _, _, _, _, _, _] w269 := H276.foc 11 rfl rfl
     have H278 : St w _ [_, _, _, _, _, _, _, _, _, _, _, _] w269 := H277.foc 11 rfl rfl
     have H279 : St w _ [_, _, _, _, _, _, _, _, _, _, _, _] w269 := H278.foc 11 rfl rfl
     have H280 : St w _ [_, _, _, _, _, _, _, _, _, _, _, _] w269 := H279.foc 11 rfl rfl
     have H281 : St w _ [_, _, _, _, _, _, _, _, _, _, _, _] w269 := H280.foc 11 rfl rfl
     have H282 : St w _ [_, _, _, _, _, _, _, _, _, _, _, _] w269 := H281.foc 11 rfl rfl
     have H283 : St w _ [_, _, _, _, _, _, _, _, _, _, _, _] w269 := H282.foc 11 rfl rfl
     have H284 : St w _ [_, _, _, _, _, _, _, _, _, _, _, _] w269 := H283.foc 11 rfl rfl
     have H285 : St w _ [_, _, _, _, _, _, _, _, _, _] w269 := H284.take 10 rfl
     refine ⟨H285, ?_⟩
     refine pt (v := .tuple #[.agg ([I ((opF lk l201 : Nat) : Int), I ((opT lk l201 : Nat) : Int), v270]).toArray, I ((erN (opE lk l201) : Nat) : Int), I (plN (opE lk l201))]) rfl (fun wS HS => y_move rfl) ?_
     refine pt (v := .agg ([I ((opF lk l201 : Nat) : Int), I ((opT lk l201 : Nat) : Int), v270]).toArray) rfl (fun wS HS => y_extract (i := 0) rfl rfl) ?_
     refine pt (v := I ((erN (opE lk l201) : Nat) : Int)) rfl (fun wS HS => y_extract (i := 1) rfl rfl) ?_
     refine pt (v := I (plN (opE lk l201))) rfl (fun wS HS => y_extract (i := 2) rfl rfl) ?_
     have H286 : St w _ [_, _, _, _, _, _, _, _, _, _, _, _] w269 := H274.foc 1 rfl rfl
     refine p0 rfl (ow_storeW (us := [I ((opF lk l201 : Nat) : Int), I ((opT lk l201 : Nat) : Int), v270]) H286 sz26 rfl rfl rfl (by intro u hu; simp only [List.mem_cons, List.not_mem_nil, or_false] at hu; rcases hu with rfl | rfl | rfl <;> first | rfl | exact Rd.one (ho272.rd H286 1 rfl)) (by simp [*])) ?_
     rintro _ w287 H288'
     have H288 : St w _ [[(g255, Rw 26 ([I ((opF lk l201 : Nat) : Int), I ((opT lk l201 : Nat) : Int), v270]))], _, _, _, _, _, _, _, _, _, _, _] w287 := H288'
     have H289 : St w _ [_, _, _, _, _, _, _, _, _, _, _, _] w287 := H288.foc 11 rfl rfl
     have H290 : St w _ [_, _, _, _, _, _, _, _, _, _, _, _] w287 := H289.foc 11 rfl rfl
     have H291 : St w _ [_, _, _, _, _, _, _, _, _, _, _, _] w287 := H290.foc 11 rfl rfl
     have H292 : St w _ [_, _, _, _, _, _, _, _, _, _, _, _] w287 := H291.foc 11 rfl rfl
     have H293 : St w _ [_, _, _, _, _, _, _, _, _, _, _, _] w287 := H292.foc 11 rfl rfl
     have H294 : St w _ [_, _, _, _, _, _, _, _, _, _, _, _] w287 := H293.foc 11 rfl rfl
     have H295 : St w _ [_, _, _, _, _, _, _, _, _, _, _, _] w287 := H294.foc 11 rfl rfl
     have H296 : St w _ [_, _, _, _, _, _, _, _, _, _, _, _] w287 := H295.foc 11 rfl rfl
     have H297 : St w _ [_, _, _, _, _, _, _, _, _, _, _, _] w287 := H296.foc 11 rfl rfl
     have H298 : St w _ [_, _, _, _, _, _, _, _, _, _, _, _] w287 := H297.foc 11 rfl rfl
     have H299 : St w _ [_, _, _, _, _, _, _, _, _, _] w287 := H298.take 10 rfl
     refine ⟨H299, ?_⟩
     refine pt (v := I ((erN (opE lk l201) : Nat) : Int)) rfl (fun wS HS => y_assign rfl) ?_
     refine pt (v := I (plN (opE lk l201))) rfl (fun wS HS => y_assign rfl) ?_
     refine p_nil ?_
     exact qj_n ⟨g255, v270, E271, s0_174, s1_174, s6_174, s7_174, s8_174, s11_174, s13_174, rfl, rfl, rfl, ho272, H288⟩
    exact a_stop
   ·
    rintro f205 w206 ⟨gn_16, bv_16, EB_16, s0_300, s1_300, s6_300, s7_300, s8_300, s11_300, s13_300, s21_300, s22_300, s23_300, ho_16, H300⟩
    refine n_then ?_
    refine c_seq ?_
    refine c_cut (n := 216) (fun f301 w302 => ∃ (gn_17 : Nat), ∃ (ev_17 : Value), ∃ (EE_17 : Part), ∃ (bv_17 : Value), ∃ (EB_17 : Part), f301 8 = Ad (bs g20) (0) ∧ f301 11 = Ad (bs gn_5) (0) ∧ f301 13 = Ad (bs gn_6) (0) ∧ f301 21 = Ad (bs gn_16) (0) ∧ f301 22 = I ((erN (opE lk l201) : Nat) : Int) ∧ f301 23 = I (plN (opE lk l201)) ∧ f301 24 = Ad (bs gn_17) (0) ∧ f301 25 = ev_17 ∧ EO (opE lk l201) ev_17 EE_17 ∧ OS 5 1 bv_17 (opB lk l201).length ((opB lk l201).map B8) EB_17 ∧ St w [] [[(gn_17, Rw 26 ([I ((opF lk l201 : Nat) : Int), I ((opT lk l201 : Nat) : Int), bv_17]))], EE_17, EB_17, [(gn_16, Rw 26 ([I ((opF lk l201 : Nat) : Int), I ((opT lk l201 : Nat) : Int), bv_16]))], EB_16, [(g9, Rw 5 ((l201 ++ marks).map B8))], EE_6, EE_5, [(gn_6, Rw 26 ([I ((opF lk b : Nat) : Int), I ((opT lk b : Nat) : Int), bv_6]))], EB_6, [(gn_5, Rw 26 ([I ((opF lk b : Nat) : Int), I ((opT lk b : Nat) : Int), bv_5]))], EB_5, [(g20, Rw 26 ([I ((opF lk b : Nat) : Int), I ((opT lk b : Nat) : Int), v15]))], E16, [(g4, Rw 5 ((lk ++ marks).map B8))]] w302) ?_ ?_
    ·
     refine drawS (.step 0 0 (.step 0 1 (.step 0 2 (.step 0 3 (.step 0 4 (.step 0 5 (.step 0 6 (.step 0 7 (.alt 8 (.step 0 9 (.step 0 10 (.step 0 11 (.step 1 12 (.step 1 13 (.step 0 14 .nil)))))) (.alt 12 (.step 1 8 (.step 0 9 (.step 0 10 (.step 0 11 (.step 1 13 (.step 0 14 .nil)))))) .stop)))))))))) mixed H300 (by kernel_rfl) (by kernel_rfl) (by kernel_rfl) ?_
     intro w303 H304
     refine pt (v := .slice (some (bs g4)) (lk.length + 8) (lk.length + 8)) rfl (fun wS HS => y_move s6_300) ?_
     refine pt (v := v0) rfl (fun wS HS => y_move s0_300) ?_
     refine pt (v := I ((lk.length : Nat) : Int)) rfl (fun wS HS => y_lenR Tryd.underlying22 (hK.st HS) rfl) ?_
     have hL305 : ((lk ++ marks).take lk.length).length = lk.length := by rw [List.length_take]; omega
     refine pt (v := slv 1 0 lk.length (.slice (some (bs g4)) (lk.length + 8) (lk.length + 8))) rfl (fun wS HS => y_slR (k1 := .i64) (k2 := .i64) (l := 0) (h := lk.length) Tryd.underlying22 sz5 (rd_arr HS 11 rfl hw7 (by unfold maxLen; omega)) rfl (.inl ⟨rfl, rfl⟩) (.inr ⟨_, rfl, rfl⟩) (by omega) (by omega)) ?_
     refine pt (v := .slice (some (bs g9)) (b.length + 8) (b.length + 8)) rfl (fun wS HS => y_move s7_300) ?_
     refine pt (v := v1) rfl (fun wS HS => y_move s1_300) ?_
     refine pt (v := I ((b.length : Nat) : Int)) rfl (fun wS HS => y_lenR Tryd.underlying22 (hR.st HS) rfl) ?_
     have hL306 : ((l201 ++ marks).take b.length).length = b.length := by rw [List.length_take]; omega
     refine pt (v := slv 1 0 b.length (.slice (some (bs g9)) (b.length + 8) (b.length + 8))) rfl (fun wS HS => y_slR (k1 := .i64) (k2 := .i64) (l := 0) (h := b.length) Tryd.underlying22 sz5 (rd_arr HS 2 rfl hw203 (by unfold maxLen; omega)) rfl (.inl ⟨rfl, rfl⟩) (.inr ⟨_, rfl, rfl⟩) (by omega) (by omega)) ?_
     refine al rfl (ow_call fn7 rfl (open_c (slv 1 0 lk.length (.slice (some (bs g4)) (lk.length + 8) (lk.length + 8))) (slv 1 0 b.length (.slice (some (bs g9)) (b.length + 8) (b.length + 8))) lk l201 _ (by have h9 : Rd [] _ 1 (slv 1 0 lk.length (.slice (some (bs g4)) (lk.length + 8) (lk.length + 8))) ((lk ++ marks).take lk.length).length (((lk ++ marks).take lk.length).map B8) := ((rdb_pre (rd_arr H304 11 rfl hw7 (by unfold maxLen; omega)) (by omega))).nil; rw [take_w] at h9; exact h9) (by have h9 : Rd [] _ 1 (slv 1 0 b.length (.slice (some (bs g9)) (b.length + 8) (b.length + 8))) ((l201 ++ marks).take b.length).length (((l201 ++ marks).take b.length).map B8) := ((rdb_pre (rd_arr H304 2 rfl hw203 (by unfold maxLen; omega)) (by omega))).nil; rw [take_w2 hl202] at h9; exact h9) (by omega) (by omega)) ⟨rfl, rfl, trivial⟩) ?_ ?_
     ·
      rintro _ w307 ⟨ev308, E309, v311, E312, ⟨rfl, -⟩, hE310, ho313, H314⟩
      have H315 : St w _ [_, _, _, _, _, _, _, _, _, _, _, _, _, _] w307 := H304.app H314
      have H316 : St w _ [_, _, _, _, _, _, _, _, _, _, _, _, _, _] w307 := H315.foc 13 rfl rfl
      have H317 : St w _ [_, _, _, _, _, _, _, _, _, _, _, _, _, _] w307 := H316.foc 13 rfl rfl
      have H318 : St w _ [_, _, _, _, _, _, _, _, _, _, _, _, _, _] w307 := H317.foc 13 rfl rfl
      have H319 : St w _ [_, _, _, _, _, _, _, _, _, _, _, _, _, _] w307 := H318.foc 13 rfl rfl
      have H320 : St w _ [_, _, _, _, _, _, _, _, _, _, _, _, _, _] w307 := H319.foc 13 rfl rfl
      have H321 : St w _ [_, _, _, _, _, _, _, _, _, _, _, _, _, _] w307 := H320.foc 13 rfl rfl
      have H322 : St w _ [_, _, _, _, _, _, _, _, _, _, _, _, _, _] w307 := H321.foc 13 rfl rfl
      have H323 : St w _ [_, _, _, _, _, _, _, _, _, _, _, _, _, _] w307 := H322.foc 13 rfl rfl
      have H324 : St w _ [_, _, _, _, _, _, _, _, _, _, _, _, _, _] w307 := H323.foc 13 rfl rfl
      have H325 : St w _ [_, _, _, _, _, _, _, _, _, _, _, _, _, _] w307 := H324.foc 13 rfl rfl
      have H326 : St w _ [_, _, _, _, _, _, _, _, _, _, _, _, _, _] w307 := H325.foc 13 rfl rfl
      have H327 : St w _ [_, _, _, _, _, _, _, _, _, _, _, _, _, _] w307 := H326.foc 13 rfl rfl
      have H328 : St w _ [_, _, _, _, _, _, _, _, _, _, _, _] w307 := H327.take 12 rfl
      refine ⟨H328, ?_⟩
      refine pt (v := .tuple #[.agg ([I ((opF lk l201 : Nat) : Int), I ((opT lk l201 : Nat) : Int), v311]).toArray, ev308]) rfl (fun wS HS => y_move rfl) ?_
      refine pt (v := .agg ([I ((opF lk l201 : Nat) : Int), I ((opT lk l201 : Nat) : Int), v311]).toArray) rfl (fun wS HS => y_extract (i := 0) rfl rfl) ?_
      refine pt (v := ev308) rfl (fun wS HS => y_extract (i := 1) rfl rfl) ?_
      refine pl rfl (ow_alloc (l := [I ((0 : Nat) : Int), I ((0 : Nat) : Int), .slice none 0 0]) H315 zr26 rfl) ?_
      rintro _ w330 ⟨g329, rfl, H331⟩
      have H332 : St w _ [_, _, _, _, _, _, _, _, _, _, _, _, _, _, _] w330 := H331.foc 14 rfl rfl
      have H333 : St w _ [_, _, _, _, _, _, _, _, _, _, _, _, _, _, _] w330 := H332.foc 14 rfl rfl
      have H334 : St w _ [_, _, _, _, _, _, _, _, _, _, _, _, _, _, _] w330 := H333.foc 14 rfl rfl
      have H335 : St w _ [_, _, _, _, _, _, _, _, _, _, _, _, _, _, _] w330 := H334.foc 14 rfl rfl
      have H336 : St w _ [_, _, _, _, _, _, _, _, _, _, _, _, _, _, _] w330 := H335.foc 14 rfl rfl
      have H337 : St w _ [_, _, _, _, _, _, _, _, _, _, _, _, _, _, _] w330 := H336.foc 14 rfl rfl
      have H338 : St w _ [_, _, _, _, _, _, _, _, _, _, _, _, _, _, _] w330 := H337.foc 14 rfl rfl
      have H339 : St w _ [_, _, _, _, _, _, _, _, _, _, _, _, _, _, _] w330 := H338.foc 14 rfl rfl
      have H340 : St w _ [_, _, _, _, _, _, _, _, _, _, _, _, _, _, _] w330 := H339.foc 14 rfl rfl
      have H341 : St w _ [_, _, _, _, _, _, _, _, _, _, _, _, _, _, _] w330 := H340.foc 14 rfl rfl
      have H342 : St w _ [_, _, _, _, _, _, _, _, _, _, _, _, _, _, _] w330 := H341.foc 14 rfl rfl
      have H343 : St w _ [_, _, _, _, _, _, _, _, _, _, _, _, _, _, _] w330 := H342.foc 14 rfl rfl
      have H344 : St w _ [_, _, _, _, _, _, _, _, _, _, _, _] w330 := H343.take 12 rfl
      refine ⟨H344, ?_⟩
      refine p0 rfl (ow_storeW (us := [I ((opF lk l201 : Nat) : Int), I ((opT lk l201 : Nat) : Int), v311]) H331 sz26 rfl rfl rfl (by intro u hu; simp only [List.mem_cons, List.not_mem_nil, or_false] at hu; rcases hu with rfl | rfl | rfl <;> first | rfl | exact Rd.one (ho313.rd H331 2 rfl)) (by simp [*])) ?_
      rintro _ w345 H346'
      have H346 : St w _ [[(g329, Rw 26 ([I ((opF lk l201 : Nat) : Int), I ((opT lk l201 : Nat) : Int), v311]))], _, _, _, _, _, _, _, _, _, _, _, _, _, _] w345 := H346'
      have H347 : St w _ [_, _, _, _, _, _, _, _, _, _, _, _, _, _, _] w345 := H346.foc 14 rfl rfl
      have H348 : St w _ [_, _, _, _, _, _, _, _, _, _, _, _, _, _, _] w345 := H347.foc 14 rfl rfl
      have H349 : St w _ [_, _, _, _, _, _, _, _, _, _, _, _, _, _, _] w345 := H348.foc 14 rfl rfl
      have H350 : St w _ [_, _, _, _, _, _, _, _, _, _, _, _, _, _, _] w345 := H349.foc 14 rfl rfl
      have H351 : St w _ [_, _, _, _, _, _, _, _, _, _, _, _, _, _, _] w345 := H350.foc 14 rfl rfl
      have H352 : St w _ [_, _, _, _, _, _, _, _, _, _, _, _, _, _, _] w345 := H351.foc 14 rfl rfl
      have H353 : St w _ [_, _, _, _, _, _, _, _, _, _, _, _, _, _, _] w345 := H352.foc 14 rfl rfl
      have H354 : St w _ [_, _, _, _, _, _, _, _, _, _, _, _, _, _, _] w345 := H353.foc 14 rfl rfl
      have H355 : St w _ [_, _, _, _, _, _, _, _, _, _, _, _, _, _, _] w345 := H354.foc 14 rfl rfl
      have H356 : St w _ [_, _, _, _, _, _, _, _, _, _, _, _, _, _, _] w345 := H355.foc 14 rfl rfl
      have H357 : St w _ [_, _, _, _, _, _, _, _, _, _, _, _, _, _, _] w345 := H356.foc 14 rfl rfl
      have H358 : St w _ [_, _, _, _, _, _, _, _, _, _, _, _, _, _, _] w345 := H357.foc 14 rfl rfl
      have H359 : St w _ [_, _, _, _, _, _, _, _, _, _, _, _] w345 := H358.take 12 rfl
      refine ⟨H359, ?_⟩
      refine pt (v := ev308) rfl (fun wS HS => y_assign rfl) ?_
      refine p_nil ?_
      exact qj_n ⟨g329, ev308, E309, v311, E312, s8_300, s11_300, s13_300, s21_300, s22_300, s23_300, rfl, rfl, hE310, ho313, H346⟩
     refine al rfl (ow_alloc (l := [I ((0 : Nat) : Int), I ((0 : Nat) : Int), .slice none 0 0]) H304 zr26 rfl) ?_ ?_
     ·
      rintro _ w361 ⟨g360, rfl, H362⟩
      have H363 : St w _ [_, _, _, _, _, _, _, _, _, _, _, _, _] w361 := H362.foc 12 rfl rfl
      have H364 : St w _ [_, _, _, _, _, _, _, _, _, _, _, _, _] w361 := H363.foc 12 rfl rfl
      have H365 : St w _ [_, _, _, _, _, _, _, _, _, _, _, _, _] w361 := H364.foc 12 rfl rfl
      have H366 : St w _ [_, _, _, _, _, _, _, _, _, _, _, _, _] w361 := H365.foc 12 rfl rfl
      have H367 : St w _ [_, _, _, _, _, _, _, _, _, _, _, _, _] w361 := H366.foc 12 rfl rfl
      have H368 : St w _ [_, _, _, _, _, _, _, _, _, _, _, _, _] w361 := H367.foc 12 rfl rfl
      have H369 : St w _ [_, _, _, _, _, _, _, _, _, _, _, _, _] w361 := H368.foc 12 rfl rfl
      have H370 : St w _ [_, _, _, _, _, _, _, _, _, _, _, _, _] w361 := H369.foc 12 rfl rfl
      have H371 : St w _ [_, _, _, _, _, _, _, _, _, _, _, _, _] w361 := H370.foc 12 rfl rfl
      have H372 : St w _ [_, _, _, _, _, _, _, _, _, _, _, _, _] w361 := H371.foc 12 rfl rfl
      have H373 : St w _ [_, _, _, _, _, _, _, _, _, _, _, _, _] w361 := H372.foc 12 rfl rfl
      have H374 : St w _ [_, _, _, _, _, _, _, _, _, _, _, _, _] w361 := H373.foc 12 rfl rfl
      have H375 : St w _ [_, _, _, _, _, _, _, _, _, _, _, _] w361 := H374.take 12 rfl
      refine ⟨H375, ?_⟩
      refine pl rfl (ow_call fn7 rfl (open_c (slv 1 0 lk.length (.slice (some (bs g4)) (lk.length + 8) (lk.length + 8))) (slv 1 0 b.length (.slice (some (bs g9)) (b.length + 8) (b.length + 8))) lk l201 _ (by have h9 : Rd [] _ 1 (slv 1 0 lk.length (.slice (some (bs g4)) (lk.length + 8) (lk.length + 8))) ((lk ++ marks).take lk.length).length (((lk ++ marks).take lk.length).map B8) := ((rdb_pre (rd_arr H362 12 rfl hw7 (by unfold maxLen; omega)) (by omega))).nil; rw [take_w] at h9; exact h9) (by have h9 : Rd [] _ 1 (slv 1 0 b.length (.slice (some (bs g9)) (b.length + 8) (b.length + 8))) ((l201 ++ marks).take b.length).length (((l201 ++ marks).take b.length).map B8) := ((rdb_pre (rd_arr H362 3 rfl hw203 (by unfold maxLen; omega)) (by omega))).nil; rw [take_w2 hl202] at h9; exact h9) (by omega) (by omega)) ⟨rfl, rfl, trivial⟩) ?_
      rintro _ w376 ⟨ev377, E378, v380, E381, ⟨rfl, -⟩, hE379, ho382, H383⟩
      have H384 : St w _ [_, _, _, _, _, _, _, _, _, _, _, _, _, _, _] w376 := H362.app H383
      have H385 : St w _ [_, _, _, _, _, _, _, _, _, _, _, _, _, _, _] w376 := H384.foc 14 rfl rfl
      have H386 : St w _ [_, _, _, _, _, _, _, _, _, _, _, _, _, _, _] w376 := H385.foc 14 rfl rfl
      have H387 : St w _ [_, _, _, _, _, _, _, _, _, _, _, _, _, _, _] w376 := H386.foc 14 rfl rfl
      have H388 : St w _ [_, _, _, _, _, _, _, _, _, _, _, _, _, _, _] w376 := H387.foc 14 rfl rfl
      have H389 : St w _ [_, _, _, _, _, _, _, _, _, _, _, _, _, _, _] w376 := H388.foc 14 rfl rfl
      have H390 : St w _ [_, _, _, _, _, _, _, _, _, _, _, _, _, _, _] w376 := H389.foc 14 rfl rfl
      have H391 : St w _ [_, _, _, _, _, _, _, _, _, _, _, _, _, _, _] w376 := H390.foc 14 rfl rfl
      have H392 : St w _ [_, _, _, _, _, _, _, _, _, _, _, _, _, _, _] w376 := H391.foc 14 rfl rfl
      have H393 : St w _ [_, _, _, _, _, _, _, _, _, _, _, _, _, _, _] w376 := H392.foc 14 rfl rfl
      have H394 : St w _ [_, _, _, _, _, _, _, _, _, _, _, _, _, _, _] w376 := H393.foc 14 rfl rfl
      have H395 : St w _ [_, _, _, _, _, _, _, _, _, _, _, _, _, _, _] w376 := H394.foc 14 rfl rfl
      have H396 : St w _ [_, _, _, _, _, _, _, _, _, _, _, _, _, _, _] w376 := H395.foc 14 rfl rfl
      have H397 : St w _ [_, _, _, _, _, _, _, _, _, _, _, _] w376 := H396.take 12 rfl
      refine ⟨H397, ?_⟩
      refine pt (v := .tuple #[.agg ([I ((opF lk l201 : Nat) : Int), I ((opT lk l201 : Nat) : Int), v380]).toArray, ev377]) rfl (fun wS HS => y_move rfl) ?_
      refine pt (v := .agg ([I ((opF lk l201 : Nat) : Int), I ((opT lk l201 : Nat) : Int), v380]).toArray) rfl (fun wS HS => y_extract (i := 0) rfl rfl) ?_
      refine pt (v := ev377) rfl (fun wS HS => y_extract (i := 1) rfl rfl) ?_
      have H398 : St w _ [_, _, _, _, _, _, _, _, _, _, _, _, _, _, _] w376 := H384.foc 2 rfl rfl
      refine p0 rfl (ow_storeW (us := [I ((opF lk l201 : Nat) : Int), I ((opT lk l201 : Nat) : Int), v380]) H398 sz26 rfl rfl rfl (by intro u hu; simp only [List.mem_cons, List.not_mem_nil, or_false] at hu; rcases hu with rfl | rfl | rfl <;> first | rfl | exact Rd.one (ho382.rd H398 2 rfl)) (by simp [*])) ?_
      rintro _ w399 H400'
      have H400 : St w _ [[(g360, Rw 26 ([I ((opF lk l201 : Nat) : Int), I ((opT lk l201 : Nat) : Int), v380]))], _, _, _, _, _, _, _, _, _, _, _, _, _, _] w399 := H400'
      have H401 : St w _ [_, _, _, _, _, _, _, _, _, _, _, _, _, _, _] w399 := H400.foc 14 rfl rfl
      have H402 : St w _ [_, _, _, _, _, _, _, _, _, _, _, _, _, _, _] w399 := H401.foc 14 rfl rfl
      have H403 : St w _ [_, _, _, _, _, _, _, _, _, _, _, _, _, _, _] w399 := H402.foc 14 rfl rfl
      have H404 : St w _ [_, _, _, _, _, _, _, _, _, _, _, _, _, _, _] w399 := H403.foc 14 rfl rfl
      have H405 : St w _ [_, _, _, _, _, _, _, _, _, _, _, _, _, _, _] w399 := H404.foc 14 rfl rfl
      have H406 : St w _ [_, _, _, _, _, _, _, _, _, _, _, _, _, _, _] w399 := H405.foc 14 rfl rfl
      have H407 : St w _ [_, _, _, _, _, _, _, _, _, _, _, _, _, _, _] w399 := H406.foc 14 rfl rfl
      have H408 : St w _ [_, _, _, _, _, _, _, _, _, _, _, _, _, _, _] w399 := H407.foc 14 rfl rfl
      have H409 : St w _ [_, _, _, _, _, _, _, _, _, _, _, _, _, _, _] w399 := H408.foc 14 rfl rfl
      have H410 : St w _ [_, _, _, _, _, _, _, _, _, _, _, _, _, _, _] w399 := H409.foc 14 rfl rfl
      have H411 : St w _ [_, _, _, _, _, _, _, _, _, _, _, _, _, _, _] w399 := H410.foc 14 rfl rfl
      have H412 : St w _ [_, _, _, _, _, _, _, _, _, _, _, _, _, _, _] w399 := H411.foc 14 rfl rfl
      have H413 : St w _ [_, _, _, _, _, _, _, _, _, _, _, _] w399 := H412.take 12 rfl
      refine ⟨H413, ?_⟩
      refine pt (v := ev377) rfl (fun wS HS => y_assign rfl) ?_
      refine p_nil ?_
      exact qj_n ⟨g360, ev377, E378, v380, E381, s8_300, s11_300, s13_300, s21_300, s22_300, s23_300, rfl, rfl, hE379, ho382, H400⟩
     exact a_stop
    ·
     rintro f301 w302 ⟨gn_17, ev_17, EE_17, bv_17, EB_17, s8_414, s11_414, s13_414, s21_414, s22_414, s23_414, s24_414, s25_414, hE_17, ho_17, H414⟩
     refine n_then ?_
     refine c_seq ?_
     refine c_reg ?_
     refine sy (v := ev_17) (y_move s25_414) ?_
     refine sy (v := I ((erN (opE lk l201) : Nat) : Int)) (y_move s22_414) ?_
     refine sy (v := I (plN (opE lk l201))) (y_move s23_414) ?_
     have H415 : St w _ [_, _, _, _, _, _, _, _, _, _, _, _, _, _, _] w302 := H414.foc 1 rfl rfl
     refine st (ow_call fn9 rfl (told_c (opE lk l201) ev_17 EE_17 _ hE_17 opE_nz (fun p hp => H415.own _ List.mem_cons_self p hp) (gTyp.st hg H415 (by simp))) ⟨rfl, rfl, rfl, trivial⟩) ?_
     rintro _ w416 ⟨rfl, H417⟩
     have H418 : St w _ [_, _, _, _, _, _, _, _, _, _, _, _, _, _, _] w416 := H415.appE H417
     refine sy (v := .bool (true)) (y_assign rfl) ?_
     refine c_nil ?_
     refine n_then ?_
     refine c_seq ?_
     refine c_reg ?_
     refine sy (v := Ad (bs gn_17) (0 + 2)) (y_fld Tryd.underlying26 rfl rfl sz22 (by decide) s24_414) ?_
     refine sy (v := bv_17) (y_load sc22 rfl (H418.cell 1 rfl rfl)) ?_
     refine sy (v := Ad (bs gn_16) (0 + 2)) (y_fld Tryd.underlying26 rfl rfl sz22 (by decide) s21_414) ?_
     refine sy (v := bv_16) (y_load sc22 rfl (H418.cell 3 rfl rfl)) ?_
     refine st (ow_call fn10 rfl (same_c (bv_17) (bv_16) (opB lk l201) (opB lk l201) _ ((ho_17.rd H418 2 rfl)).nil ((ho_16.rd H418 4 rfl)).nil) ⟨rfl, rfl, trivial⟩) ?_
     rintro _ w419 ⟨rfl, hB420⟩
     have H421 : St w _ [_, _, _, _, _, _, _, _, _, _, _, _, _, _, _] w419 := H418.call hB420
     refine sy (v := .bool (decide ((opB lk l201) = (opB lk l201)))) (y_assign rfl) ?_
     refine c_nil ?_
     refine n_then ?_
     refine c_seq ?_
     refine c_reg ?_
     refine sy (v := Ad (bs gn_5) (0 + 2)) (y_fld Tryd.underlying26 rfl rfl sz22 (by decide) s11_414) ?_
     refine sy (v := bv_5) (y_load sc22 rfl (H421.cell 10 rfl rfl)) ?_
     refine sy (v := Ad (bs g20) (0 + 2)) (y_fld Tryd.underlying26 rfl rfl sz22 (by decide) s8_414) ?_
     refine sy (v := v15) (y_load sc22 rfl (H421.cell 12 rfl rfl)) ?_
     refine st (ow_call fn10 rfl (same_c (bv_5) (v15) (opB lk b) (opB lk b) _ ((ho_5.rd H421 11 rfl)).nil ((ho17.rd H421 13 rfl)).nil) ⟨rfl, rfl, trivial⟩) ?_
     rintro _ w422 ⟨rfl, hB423⟩
     have H424 : St w _ [_, _, _, _, _, _, _, _, _, _, _, _, _, _, _] w422 := H421.call hB423
     refine sy (v := .bool (decide ((opB lk b) = (opB lk b)))) (y_assign rfl) ?_
     refine c_nil ?_
     refine n_then ?_
     refine c_seq ?_
     refine c_seq ?_
     refine c_reg ?_
     refine sy (v := .bool (true)) (y_move rfl) ?_
     refine sy (v := .bool (false)) (y_not (p := true) rfl) ?_
     refine sy (v := .bool (false)) (y_move rfl) ?_
     refine gsy (v := .bool (decide ((opB lk l201) = (opB lk l201)))) (gv_of (t := 186) rfl rfl rfl) (rfl) (y_move rfl) ?_
     refine gsy (v := .bool (decide (¬ ((opB lk l201) = (opB lk l201))))) (gv_of (t := 186) rfl rfl rfl) (rfl) (y_notP rfl) ?_
     refine sy (v := .bool (decide (¬ ((opB lk l201) = (opB lk l201))))) (y_pickF rfl (rfl) rfl) ?_
     refine sy (v := .bool (decide (¬ ((opB lk l201) = (opB lk l201))))) (y_move rfl) ?_
     have hq425 : (opB lk l201) = (opB lk l201) := rfl
     refine gsy (v := .bool (decide ((opB lk b) = (opB lk b)))) (gv_of (t := 190) rfl rfl rfl) (decide_eq_false (not_not_intro hq425)) (y_move rfl) ?_
     refine gsy (v := .bool (decide (¬ ((opB lk b) = (opB lk b))))) (gv_of (t := 190) rfl rfl rfl) (decide_eq_false (not_not_intro hq425)) (y_notP rfl) ?_
     refine sy (v := .bool (decide (¬ ((opB lk b) = (opB lk b))))) (y_pickF rfl (decide_eq_false (not_not_intro hq425)) rfl) ?_
     refine sy (v := .bool (decide (¬ ((opB lk b) = (opB lk b))))) (y_move rfl) ?_
     have hq426 : (opB lk b) = (opB lk b) := rfl
     refine gsy (v := Ad (bs gn_17) (0 + 0)) (gv_of (t := 194) rfl rfl rfl) (decide_eq_false (not_not_intro hq426)) (y_fld Tryd.underlying26 rfl rfl sz3 (by decide) s24_414) ?_
     refine gsy (v := I ((opF lk l201 : Nat) : Int)) (gv_of (t := 194) rfl rfl rfl) (decide_eq_false (not_not_intro hq426)) (y_load sc3 rfl (H424.cell 1 rfl rfl)) ?_
     refine gsy (v := Ad (bs gn_16) (0 + 0)) (gv_of (t := 194) rfl rfl rfl) (decide_eq_false (not_not_intro hq426)) (y_fld Tryd.underlying26 rfl rfl sz3 (by decide) s21_414) ?_
     refine gsy (v := I ((opF lk l201 : Nat) : Int)) (gv_of (t := 194) rfl rfl rfl) (decide_eq_false (not_not_intro hq426)) (y_load sc3 rfl (H424.cell 3 rfl rfl)) ?_
     refine gsy (v := .bool (decide ((opF lk l201) ≠ (opF lk l201)))) (gv_of (t := 194) rfl rfl rfl) (decide_eq_false (not_not_intro hq426)) (n_neq (a := opF lk l201) (b := opF lk l201) rfl rfl) ?_
     refine sy (v := .bool (decide ((opF lk l201) ≠ (opF lk l201)))) (y_pickF rfl (decide_eq_false (not_not_intro hq426)) rfl) ?_
     refine sy (v := .bool (decide ((opF lk l201) ≠ (opF lk l201)))) (y_move rfl) ?_
     have hq427 : ¬ ((opF lk l201) ≠ (opF lk l201)) := (fun h => h rfl)
     refine gsy (v := Ad (bs gn_17) (0 + 1)) (gv_of (t := 201) rfl rfl rfl) (decide_eq_false hq427) (y_fld Tryd.underlying26 rfl rfl sz3 (by decide) s24_414) ?_
     refine gsy (v := I ((opT lk l201 : Nat) : Int)) (gv_of (t := 201) rfl rfl rfl) (decide_eq_false hq427) (y_load sc3 rfl (H424.cell 1 rfl rfl)) ?_
     refine gsy (v := Ad (bs gn_16) (0 + 1)) (gv_of (t := 201) rfl rfl rfl) (decide_eq_false hq427) (y_fld Tryd.underlying26 rfl rfl sz3 (by decide) s21_414) ?_
     refine gsy (v := I ((opT lk l201 : Nat) : Int)) (gv_of (t := 201) rfl rfl rfl) (decide_eq_false hq427) (y_load sc3 rfl (H424.cell 3 rfl rfl)) ?_
     refine gsy (v := .bool (decide ((opT lk l201) ≠ (opT lk l201)))) (gv_of (t := 201) rfl rfl rfl) (decide_eq_false hq427) (n_neq (a := opT lk l201) (b := opT lk l201) rfl rfl) ?_
     refine sy (v := .bool (decide ((opT lk l201) ≠ (opT lk l201)))) (y_pickF rfl (decide_eq_false hq427) rfl) ?_
     refine c_nil ?_
     refine n_then ?_
     have hq428 : ¬ ((opT lk l201) ≠ (opT lk l201)) := (fun h => h rfl)
     refine c_f rfl (decide_eq_false hq428) ?_
     refine wp_skip ?_
     refine n_then ?_
     refine c_seq ?_
     refine c_reg ?_
     refine sy (v := Ad (bs gn_5) (0 + 2)) (y_fld Tryd.underlying26 rfl rfl sz22 (by decide) s11_414) ?_
     refine sy (v := bv_5) (y_load sc22 rfl (H424.cell 10 rfl rfl)) ?_
     refine sy (v := Ad (bs gn_6) (0 + 2)) (y_fld Tryd.underlying26 rfl rfl sz22 (by decide) s13_414) ?_
     refine sy (v := bv_6) (y_load sc22 rfl (H424.cell 8 rfl rfl)) ?_
     refine sy (v := Ad (bs gn_17) (0 + 2)) (y_fld Tryd.underlying26 rfl rfl sz22 (by decide) s24_414) ?_
     refine sy (v := bv_17) (y_load sc22 rfl (H424.cell 1 rfl rfl)) ?_
     refine st (ow_buildSlice (pv := [(0, bv_5), (1, bv_6), (2, bv_17)]) (us := [bv_5, bv_6, bv_17]) Tryd.underlying38 sz22 zr22 H424 ⟨⟨rfl, rfl⟩, ⟨rfl, rfl⟩, ⟨rfl, rfl⟩, trivial⟩ (by decide) (fill3 (ho_5.rd H424 11 rfl).cells (ho_6.rd H424 9 rfl).cells (ho_17.rd H424 2 rfl).cells)) ?_
     rintro _ w430 ⟨g429, rfl, H431⟩
     have H434 : St w _ [_, _, _, _, _, _, _, _, _, _, _, _, _, _, _, _] w430 := H431.foc 3 rfl rfl
     have H435 : St w _ [_, _, _, _, _, _, _, _, _, _, _, _, _, _, _, _] w430 := H434.foc 10 rfl rfl
     have H436 : St w _ [_, _, _, _, _, _, _, _, _, _, _, _, _, _, _, _] w430 := H435.foc 12 rfl rfl
     have H437 : St w _ [_, _, _, _] w430 := H436.take 4 rfl
     refine st (ow_call fn12 rfl (grown_c w _ (bv_5) (bv_6) (bv_17) (opB lk b) (opB lk b) (opB lk l201) EB_5 EB_6 EB_17 g429 H437 ho_5 ho_6 ho_17 (opB_le _ _) (opB_le _ _) (opB_le _ _)) ⟨rfl, trivial⟩) ?_
     rintro _ w432 ⟨rfl, hB433⟩
     have H438 : St w [] [] w432 := ⟨hB433.os, hB433.tape, hB433.output, hB433.size, fun k hk _ => hB433.block k hk, by simp, by simp, .nil⟩
     refine sy (v := .bool (true)) (y_assign rfl) ?_
     refine c_nil ?_
     refine n_then ?_
     refine wp_ret ?_
     refine e_r1 Tryd.results3 (rv_t rfl) ?_
     exact ⟨_, rfl, rfl, H438.below⟩

end Go.Proofs.YtdcmbcjkdhdohaaDoor
