/- The walk of SealMakes. -/
import Derived.Test.YtdcmbcjkdhdohaaSeal4
namespace Go.Proofs.Ytdcmbcjkdhdohaa
open Go Go.RowKit
set_option linter.unusedSimpArgs false
set_option linter.unusedVariables false
attribute [local irreducible] wpList wpP Code.wp

set_option maxHeartbeats 4000000 in
theorem sealMakes_c (v0 bv : Value) (lk : List UInt8) (fr to : Int) (l : List UInt8) (w : World) (hK : Rd [] w 1 v0 lk.length (lk.map B8)) (hR : Rd [] w 1 bv l.length (l.map B8)) (hlk : lk.length ≤ 140737488351232) (hl : l.length ≤ 140737488351232) :
    Calls Try.prog 5 (([v0, .agg ([I (fr), I (to), bv]).toArray] : List Value).toArray) w (fun e w' => ∃ v, e = .returned v ∧ v = .bool true ∧ Below w.heap.size w w') := by
  refine calls_mk Try.func5 rfl 160 Try.ntmps5 rfl ?_
  have H0 : St w [] [] w := St.refl w
  refine c_seq ?_
  refine c_reg ?_
  refine st (ow_box (l := [I (fr), I (to), bv]) H0 rfl rfl) ?_
  rintro _ w2 ⟨g1, rfl, H3⟩
  refine sy (v := .bool (false)) (y_assign (v := .bool (false)) rfl) ?_
  refine c_nil ?_
  refine n_then ?_
  refine c_seq ?_
  refine c_reg ?_
  refine st (ow_call fn21 rfl (fixed_c _) trivial) ?_
  rintro _ w4 ⟨rfl, hB5⟩
  have H6 : St w [] [[(g1, Rw 31 ([I (fr), I (to), bv]))]] w4 := H3.call hB5
  refine sy (v := .bool (true)) (y_assign rfl) ?_
  refine c_nil ?_
  refine n_then ?_
  refine c_seq ?_
  refine c_reg ?_
  refine sy (v := v0) (y_move rfl) ?_
  refine st (ow_call fn22 rfl (wide_c (v0) (lk) _ ((hK.st H6)).nil (by omega)) ⟨rfl, trivial⟩) ?_
  rintro _ w8 ⟨g7, rfl, H9⟩
  have hw10 := wlen lk
  have H11 : St w [] [[(g7, Rw 5 ((lk ++ marks).map B8))], [(g1, Rw 31 ([I (fr), I (to), bv]))]] w8 := H6.app H9
  refine sy (v := .slice (some (bs g7)) ((lk).length + 8) ((lk).length + 8)) (y_assign rfl) ?_
  refine c_nil ?_
  refine n_then ?_
  refine c_seq ?_
  refine c_reg ?_
  refine sy (v := Ad (bs g1) (0 + 2)) (y_fld Try.underlying31 rfl rfl sz23 (by decide) rfl) ?_
  refine sy (v := bv) (y_load sc23 rfl (H11.cell 1 rfl rfl)) ?_
  refine st (ow_call fn22 rfl (wide_c (bv) (l) _ ((hR.st H11)).nil (by omega)) ⟨rfl, trivial⟩) ?_
  rintro _ w13 ⟨g12, rfl, H14⟩
  have hw15 := wlen l
  have H16 : St w [] [[(g12, Rw 5 ((l ++ marks).map B8))], [(g7, Rw 5 ((lk ++ marks).map B8))], [(g1, Rw 31 ([I (fr), I (to), bv]))]] w13 := H11.app H14
  refine sy (v := .slice (some (bs g12)) ((l).length + 8) ((l).length + 8)) (y_assign rfl) ?_
  refine c_nil ?_
  refine n_then ?_
  refine c_seq ?_
  refine drawS (.step 0 0 (.step 0 1 (.step 0 2 (.step 0 3 (.step 0 4 (.step 0 5 (.step 0 6 (.step 0 7 (.step 0 8 (.step 0 9 (.step 1 10 (.step 2 11 .nil)))))))))))) mixed H16 (by kernel_rfl) (by kernel_rfl) (by kernel_rfl) ?_
  intro w17 H18
  refine pt (v := Ad (bs g1) (0 + 0)) rfl (fun wS HS => y_fld Try.underlying31 rfl rfl sz3 (by decide) rfl) ?_
  refine pt (v := I (fr)) rfl (fun wS HS => y_load sc3 rfl (HS.cell 2 rfl rfl)) ?_
  refine pt (v := Ad (bs g1) (0 + 1)) rfl (fun wS HS => y_fld Try.underlying31 rfl rfl sz3 (by decide) rfl) ?_
  refine pt (v := I (to)) rfl (fun wS HS => y_load sc3 rfl (HS.cell 2 rfl rfl)) ?_
  refine pt (v := .slice (some (bs g12)) ((l).length + 8) ((l).length + 8)) rfl (fun wS HS => y_move rfl) ?_
  refine pt (v := Ad (bs g1) (0 + 2)) rfl (fun wS HS => y_fld Try.underlying31 rfl rfl sz23 (by decide) rfl) ?_
  refine pt (v := bv) rfl (fun wS HS => y_load sc23 rfl (HS.cell 2 rfl rfl)) ?_
  refine pt (v := I ((l.length : Nat) : Int)) rfl (fun wS HS => y_lenR Try.underlying23 (hR.st HS) rfl) ?_
  have hL19 : ((l ++ marks).take l.length).length = l.length := by rw [List.length_take]; omega
  refine pt (v := slv 1 (0) (l.length) (.slice (some (bs g12)) ((l).length + 8) ((l).length + 8))) rfl (fun wS HS => y_slR (k1 := .i64) (k2 := .i64) (l := 0) (h := l.length) Try.underlying23 sz5 (rd_arr HS 0 rfl hw15 (by unfold maxLen; omega)) rfl (.inl ⟨rfl, rfl⟩) (.inr ⟨_, rfl, rfl⟩) (by omega) (by omega)) ?_
  refine pt (v := .agg ([I (fr), I (to), slv 1 (0) (l.length) (.slice (some (bs g12)) ((l).length + 8) ((l).length + 8))]).toArray) rfl (fun wS HS => y_build (pv := [(0, I (fr)), (1, I (to)), (2, slv 1 (0) (l.length) (.slice (some (bs g12)) ((l).length + 8) ((l).length + 8)))]) (us := [I (fr), I (to), slv 1 (0) (l.length) (.slice (some (bs g12)) ((l).length + 8) ((l).length + 8))]) ⟨⟨rfl, rfl⟩, ⟨rfl, rfl⟩, ⟨rfl, rfl⟩, trivial⟩ (by kernel_rfl)) ?_
  refine pl rfl (ow_alloc (l := [I ((0 : Nat) : Int), I ((0 : Nat) : Int), .slice none 0 0]) H18 zr31 rfl) ?_
  rintro _ w21 ⟨g20, rfl, H22⟩
  have H23 : St w [] [[(g1, Rw 31 ([I (fr), I (to), bv]))], [(g20, Rw 31 ([I ((0 : Nat) : Int), I ((0 : Nat) : Int), .slice none 0 0]))], [(g12, Rw 5 ((l ++ marks).map B8))], [(g7, Rw 5 ((lk ++ marks).map B8))]] w21 := H22.foc 3 rfl rfl
  have H24 : St w [] [[(g7, Rw 5 ((lk ++ marks).map B8))], [(g1, Rw 31 ([I (fr), I (to), bv]))], [(g20, Rw 31 ([I ((0 : Nat) : Int), I ((0 : Nat) : Int), .slice none 0 0]))], [(g12, Rw 5 ((l ++ marks).map B8))]] w21 := H23.foc 3 rfl rfl
  have H25 : St w [] [[(g12, Rw 5 ((l ++ marks).map B8))], [(g7, Rw 5 ((lk ++ marks).map B8))], [(g1, Rw 31 ([I (fr), I (to), bv]))], [(g20, Rw 31 ([I ((0 : Nat) : Int), I ((0 : Nat) : Int), .slice none 0 0]))]] w21 := H24.foc 3 rfl rfl
  have H26 : St w [] [[(g12, Rw 5 ((l ++ marks).map B8))], [(g7, Rw 5 ((lk ++ marks).map B8))], [(g1, Rw 31 ([I (fr), I (to), bv]))]] w21 := H25.take 3 rfl
  refine ⟨H26, ?_⟩
  refine t0 rfl (ow_storeW (us := [I (fr), I (to), slv 1 (0) (l.length) (.slice (some (bs g12)) ((l).length + 8) ((l).length + 8))]) H22 sz31 rfl rfl rfl (by intro u hu; simp only [List.mem_cons, List.not_mem_nil, or_false] at hu; rcases hu with rfl | rfl | rfl <;> first | rfl | exact Rd.one (rdb_pre (rd_arr H22 1 rfl hw15 (by unfold maxLen; omega)) (by omega))) (by simp [*])) ?_
  rintro _ w27 H28'
  have H28 : St w [] [[(g20, Rw 31 ([I (fr), I (to), slv 1 (0) (l.length) (.slice (some (bs g12)) ((l).length + 8) ((l).length + 8))]))], [(g12, Rw 5 ((l ++ marks).map B8))], [(g7, Rw 5 ((lk ++ marks).map B8))], [(g1, Rw 31 ([I (fr), I (to), bv]))]] w27 := H28'
  refine p_nil ?_
  refine n_then ?_
  refine c_seq ?_
  refine c_reg ?_
  refine sy (v := v0) (y_move rfl) ?_
  refine sy (v := .agg ([I (fr), I (to), bv]).toArray) (y_loadA (us := [I (fr), I (to), bv]) ag31 sz31 rfl rfl (fun j u hu => (H28.cell 3 rfl (by rw [Nat.zero_add]; exact hu)))) ?_
  refine st (ow_call fn27 rfl (rseal_c (v0) (bv) (lk) (fr) (to) (l) _ ((hK.st H28)).nil ((hR.st H28)).nil (by first | omega | (simp only [List.length_take]; omega))) ⟨rfl, rfl, trivial⟩) ?_
  rintro _ w30 ⟨v29, E31, rfl, ho32, H33⟩
  have H34 : St w [] [E31, [(g20, Rw 31 ([I (fr), I (to), slv 1 (0) (l.length) (.slice (some (bs g12)) ((l).length + 8) ((l).length + 8))]))], [(g12, Rw 5 ((l ++ marks).map B8))], [(g7, Rw 5 ((lk ++ marks).map B8))], [(g1, Rw 31 ([I (fr), I (to), bv]))]] w30 := H28.app H33
  refine sy (v := .tuple #[v29, I ((sealEr (lk) (fr) (to) (l) : Nat) : Int)]) (y_move rfl) ?_
  refine sy (v := v29) (y_extract (i := 0) rfl rfl) ?_
  refine sy (v := I ((sealEr (lk) (fr) (to) (l) : Nat) : Int)) (y_extract (i := 1) rfl rfl) ?_
  refine sy (v := v29) (y_assign rfl) ?_
  refine sy (v := I ((sealEr (lk) (fr) (to) (l) : Nat) : Int)) (y_assign rfl) ?_
  refine c_nil ?_
  refine n_then ?_
  refine c_seq ?_
  refine drawS (.step 0 0 (.step 0 1 (.step 0 2 (.step 0 3 (.step 0 4 (.step 1 5 (.step 0 6 (.step 0 7 (.step 0 8 (.step 0 9 (.step 2 10 .nil))))))))))) mixed H34 (by kernel_rfl) (by kernel_rfl) (by kernel_rfl) ?_
  intro w35 H36
  refine pt (v := .slice (some (bs g7)) ((lk).length + 8) ((lk).length + 8)) rfl (fun wS HS => y_move rfl) ?_
  refine pt (v := v0) rfl (fun wS HS => y_move rfl) ?_
  refine pt (v := I ((lk.length : Nat) : Int)) rfl (fun wS HS => y_lenR Try.underlying23 (hK.st HS) rfl) ?_
  have hL37 : ((lk ++ marks).take lk.length).length = lk.length := by rw [List.length_take]; omega
  refine pt (v := slv 1 (0) (lk.length) (.slice (some (bs g7)) ((lk).length + 8) ((lk).length + 8))) rfl (fun wS HS => y_slR (k1 := .i64) (k2 := .i64) (l := 0) (h := lk.length) Try.underlying23 sz5 (rd_arr HS 3 rfl hw10 (by unfold maxLen; omega)) rfl (.inl ⟨rfl, rfl⟩) (.inr ⟨_, rfl, rfl⟩) (by omega) (by omega)) ?_
  refine pt (v := .agg ([I (fr), I (to), slv 1 (0) (l.length) (.slice (some (bs g12)) ((l).length + 8) ((l).length + 8))]).toArray) rfl (fun wS HS => y_loadA (us := [I (fr), I (to), slv 1 (0) (l.length) (.slice (some (bs g12)) ((l).length + 8) ((l).length + 8))]) ag31 sz31 rfl rfl (fun j u hu => (HS.cell 1 rfl (by rw [Nat.zero_add]; exact hu)))) ?_
  refine pl rfl (ow_call fn28 rfl (seal_c (slv 1 (0) (lk.length) (.slice (some (bs g7)) ((lk).length + 8) ((lk).length + 8))) (slv 1 (0) (l.length) (.slice (some (bs g12)) ((l).length + 8) ((l).length + 8))) ((lk ++ marks).take lk.length) (fr) (to) ((l ++ marks).take l.length) _ ((rdb_pre (rd_arr H36 3 rfl hw10 (by unfold maxLen; omega)) (by omega))).nil ((rdb_pre (rd_arr H36 2 rfl hw15 (by unfold maxLen; omega)) (by omega))).nil (by first | omega | (simp only [List.length_take]; omega))) ⟨rfl, rfl, trivial⟩) ?_
  rintro _ w39 ⟨v38, E40, rfl, ho41, H42⟩
  have H43 : St w [] [E40, E31, [(g20, Rw 31 ([I (fr), I (to), slv 1 (0) (l.length) (.slice (some (bs g12)) ((l).length + 8) ((l).length + 8))]))], [(g12, Rw 5 ((l ++ marks).map B8))], [(g7, Rw 5 ((lk ++ marks).map B8))], [(g1, Rw 31 ([I (fr), I (to), bv]))]] w39 := H36.app H42
  have H44 : St w [] [[(g1, Rw 31 ([I (fr), I (to), bv]))], E40, E31, [(g20, Rw 31 ([I (fr), I (to), slv 1 (0) (l.length) (.slice (some (bs g12)) ((l).length + 8) ((l).length + 8))]))], [(g12, Rw 5 ((l ++ marks).map B8))], [(g7, Rw 5 ((lk ++ marks).map B8))]] w39 := H43.foc 5 rfl rfl
  have H45 : St w [] [[(g7, Rw 5 ((lk ++ marks).map B8))], [(g1, Rw 31 ([I (fr), I (to), bv]))], E40, E31, [(g20, Rw 31 ([I (fr), I (to), slv 1 (0) (l.length) (.slice (some (bs g12)) ((l).length + 8) ((l).length + 8))]))], [(g12, Rw 5 ((l ++ marks).map B8))]] w39 := H44.foc 5 rfl rfl
  have H46 : St w [] [[(g12, Rw 5 ((l ++ marks).map B8))], [(g7, Rw 5 ((lk ++ marks).map B8))], [(g1, Rw 31 ([I (fr), I (to), bv]))], E40, E31, [(g20, Rw 31 ([I (fr), I (to), slv 1 (0) (l.length) (.slice (some (bs g12)) ((l).length + 8) ((l).length + 8))]))]] w39 := H45.foc 5 rfl rfl
  have H47 : St w [] [[(g20, Rw 31 ([I (fr), I (to), slv 1 (0) (l.length) (.slice (some (bs g12)) ((l).length + 8) ((l).length + 8))]))], [(g12, Rw 5 ((l ++ marks).map B8))], [(g7, Rw 5 ((lk ++ marks).map B8))], [(g1, Rw 31 ([I (fr), I (to), bv]))], E40, E31] w39 := H46.foc 5 rfl rfl
  have H48 : St w [] [E31, [(g20, Rw 31 ([I (fr), I (to), slv 1 (0) (l.length) (.slice (some (bs g12)) ((l).length + 8) ((l).length + 8))]))], [(g12, Rw 5 ((l ++ marks).map B8))], [(g7, Rw 5 ((lk ++ marks).map B8))], [(g1, Rw 31 ([I (fr), I (to), bv]))], E40] w39 := H47.foc 5 rfl rfl
  have H49 : St w [] [E31, [(g20, Rw 31 ([I (fr), I (to), slv 1 (0) (l.length) (.slice (some (bs g12)) ((l).length + 8) ((l).length + 8))]))], [(g12, Rw 5 ((l ++ marks).map B8))], [(g7, Rw 5 ((lk ++ marks).map B8))], [(g1, Rw 31 ([I (fr), I (to), bv]))]] w39 := H48.take 5 rfl
  refine ⟨H49, ?_⟩
  refine pt (v := .tuple #[v38, I ((sealEr ((lk ++ marks).take lk.length) (fr) (to) ((l ++ marks).take l.length) : Nat) : Int)]) rfl (fun wS HS => y_move rfl) ?_
  refine pt (v := v38) rfl (fun wS HS => y_extract (i := 0) rfl rfl) ?_
  refine pt (v := I ((sealEr ((lk ++ marks).take lk.length) (fr) (to) ((l ++ marks).take l.length) : Nat) : Int)) rfl (fun wS HS => y_extract (i := 1) rfl rfl) ?_
  refine pt (v := v38) rfl (fun wS HS => y_assign rfl) ?_
  refine tly (v := I ((sealEr ((lk ++ marks).take lk.length) (fr) (to) ((l ++ marks).take l.length) : Nat) : Int)) rfl (y_assign rfl) ?_
  refine p_nil ?_
  refine n_then ?_
  refine c_seq ?_
  refine drawS (.step 0 0 (.step 0 1 (.step 0 2 (.step 0 3 (.step 0 4 (.step 1 5 (.step 0 6 (.step 0 7 (.step 0 8 (.step 0 9 (.step 2 10 .nil))))))))))) mixed H43 (by kernel_rfl) (by kernel_rfl) (by kernel_rfl) ?_
  intro w50 H51
  refine pt (v := .slice (some (bs g7)) ((lk).length + 8) ((lk).length + 8)) rfl (fun wS HS => y_move rfl) ?_
  refine pt (v := v0) rfl (fun wS HS => y_move rfl) ?_
  refine pt (v := I ((lk.length : Nat) : Int)) rfl (fun wS HS => y_lenR Try.underlying23 (hK.st HS) rfl) ?_
  have hL52 : ((lk ++ marks).take lk.length).length = lk.length := by rw [List.length_take]; omega
  refine pt (v := slv 1 (0) (lk.length) (.slice (some (bs g7)) ((lk).length + 8) ((lk).length + 8))) rfl (fun wS HS => y_slR (k1 := .i64) (k2 := .i64) (l := 0) (h := lk.length) Try.underlying23 sz5 (rd_arr HS 4 rfl hw10 (by unfold maxLen; omega)) rfl (.inl ⟨rfl, rfl⟩) (.inr ⟨_, rfl, rfl⟩) (by omega) (by omega)) ?_
  refine pt (v := .agg ([I (fr), I (to), slv 1 (0) (l.length) (.slice (some (bs g12)) ((l).length + 8) ((l).length + 8))]).toArray) rfl (fun wS HS => y_loadA (us := [I (fr), I (to), slv 1 (0) (l.length) (.slice (some (bs g12)) ((l).length + 8) ((l).length + 8))]) ag31 sz31 rfl rfl (fun j u hu => (HS.cell 2 rfl (by rw [Nat.zero_add]; exact hu)))) ?_
  refine pl rfl (ow_call fn28 rfl (seal_c (slv 1 (0) (lk.length) (.slice (some (bs g7)) ((lk).length + 8) ((lk).length + 8))) (slv 1 (0) (l.length) (.slice (some (bs g12)) ((l).length + 8) ((l).length + 8))) ((lk ++ marks).take lk.length) (fr) (to) ((l ++ marks).take l.length) _ ((rdb_pre (rd_arr H51 4 rfl hw10 (by unfold maxLen; omega)) (by omega))).nil ((rdb_pre (rd_arr H51 3 rfl hw15 (by unfold maxLen; omega)) (by omega))).nil (by first | omega | (simp only [List.length_take]; omega))) ⟨rfl, rfl, trivial⟩) ?_
  rintro _ w54 ⟨v53, E55, rfl, ho56, H57⟩
  have H58 : St w [] [E55, E40, E31, [(g20, Rw 31 ([I (fr), I (to), slv 1 (0) (l.length) (.slice (some (bs g12)) ((l).length + 8) ((l).length + 8))]))], [(g12, Rw 5 ((l ++ marks).map B8))], [(g7, Rw 5 ((lk ++ marks).map B8))], [(g1, Rw 31 ([I (fr), I (to), bv]))]] w54 := H51.app H57
  have H59 : St w [] [[(g1, Rw 31 ([I (fr), I (to), bv]))], E55, E40, E31, [(g20, Rw 31 ([I (fr), I (to), slv 1 (0) (l.length) (.slice (some (bs g12)) ((l).length + 8) ((l).length + 8))]))], [(g12, Rw 5 ((l ++ marks).map B8))], [(g7, Rw 5 ((lk ++ marks).map B8))]] w54 := H58.foc 6 rfl rfl
  have H60 : St w [] [[(g7, Rw 5 ((lk ++ marks).map B8))], [(g1, Rw 31 ([I (fr), I (to), bv]))], E55, E40, E31, [(g20, Rw 31 ([I (fr), I (to), slv 1 (0) (l.length) (.slice (some (bs g12)) ((l).length + 8) ((l).length + 8))]))], [(g12, Rw 5 ((l ++ marks).map B8))]] w54 := H59.foc 6 rfl rfl
  have H61 : St w [] [[(g12, Rw 5 ((l ++ marks).map B8))], [(g7, Rw 5 ((lk ++ marks).map B8))], [(g1, Rw 31 ([I (fr), I (to), bv]))], E55, E40, E31, [(g20, Rw 31 ([I (fr), I (to), slv 1 (0) (l.length) (.slice (some (bs g12)) ((l).length + 8) ((l).length + 8))]))]] w54 := H60.foc 6 rfl rfl
  have H62 : St w [] [[(g20, Rw 31 ([I (fr), I (to), slv 1 (0) (l.length) (.slice (some (bs g12)) ((l).length + 8) ((l).length + 8))]))], [(g12, Rw 5 ((l ++ marks).map B8))], [(g7, Rw 5 ((lk ++ marks).map B8))], [(g1, Rw 31 ([I (fr), I (to), bv]))], E55, E40, E31] w54 := H61.foc 6 rfl rfl
  have H63 : St w [] [E31, [(g20, Rw 31 ([I (fr), I (to), slv 1 (0) (l.length) (.slice (some (bs g12)) ((l).length + 8) ((l).length + 8))]))], [(g12, Rw 5 ((l ++ marks).map B8))], [(g7, Rw 5 ((lk ++ marks).map B8))], [(g1, Rw 31 ([I (fr), I (to), bv]))], E55, E40] w54 := H62.foc 6 rfl rfl
  have H64 : St w [] [E40, E31, [(g20, Rw 31 ([I (fr), I (to), slv 1 (0) (l.length) (.slice (some (bs g12)) ((l).length + 8) ((l).length + 8))]))], [(g12, Rw 5 ((l ++ marks).map B8))], [(g7, Rw 5 ((lk ++ marks).map B8))], [(g1, Rw 31 ([I (fr), I (to), bv]))], E55] w54 := H63.foc 6 rfl rfl
  have H65 : St w [] [E40, E31, [(g20, Rw 31 ([I (fr), I (to), slv 1 (0) (l.length) (.slice (some (bs g12)) ((l).length + 8) ((l).length + 8))]))], [(g12, Rw 5 ((l ++ marks).map B8))], [(g7, Rw 5 ((lk ++ marks).map B8))], [(g1, Rw 31 ([I (fr), I (to), bv]))]] w54 := H64.take 6 rfl
  refine ⟨H65, ?_⟩
  refine pt (v := .tuple #[v53, I ((sealEr ((lk ++ marks).take lk.length) (fr) (to) ((l ++ marks).take l.length) : Nat) : Int)]) rfl (fun wS HS => y_move rfl) ?_
  refine pt (v := v53) rfl (fun wS HS => y_extract (i := 0) rfl rfl) ?_
  refine pt (v := I ((sealEr ((lk ++ marks).take lk.length) (fr) (to) ((l ++ marks).take l.length) : Nat) : Int)) rfl (fun wS HS => y_extract (i := 1) rfl rfl) ?_
  refine pt (v := v53) rfl (fun wS HS => y_assign rfl) ?_
  refine tly (v := I ((sealEr ((lk ++ marks).take lk.length) (fr) (to) ((l ++ marks).take l.length) : Nat) : Int)) rfl (y_assign rfl) ?_
  refine p_nil ?_
  refine n_then ?_
  refine c_seq ?_
  refine c_reg ?_
  refine sy (v := .slice (some (bs g7)) ((lk).length + 8) ((lk).length + 8)) (y_move rfl) ?_
  refine sy (v := v0) (y_move rfl) ?_
  refine st (ow_call fn25 rfl (kept_c (.slice (some (bs g7)) ((lk).length + 8) ((lk).length + 8)) (v0) (lk) _ ((rd_arr H58 5 rfl hw10 (by unfold maxLen; omega))).nil ((hK.st H58)).nil (by omega)) ⟨rfl, rfl, trivial⟩) ?_
  rintro _ w66 ⟨rfl, hB67⟩
  have H68 : St w [] [E55, E40, E31, [(g20, Rw 31 ([I (fr), I (to), slv 1 (0) (l.length) (.slice (some (bs g12)) ((l).length + 8) ((l).length + 8))]))], [(g12, Rw 5 ((l ++ marks).map B8))], [(g7, Rw 5 ((lk ++ marks).map B8))], [(g1, Rw 31 ([I (fr), I (to), bv]))]] w66 := H58.call hB67
  refine sy (v := .bool (true)) (y_assign rfl) ?_
  refine c_nil ?_
  refine n_then ?_
  refine c_seq ?_
  refine c_reg ?_
  refine sy (v := .slice (some (bs g12)) ((l).length + 8) ((l).length + 8)) (y_move rfl) ?_
  refine sy (v := Ad (bs g1) (0 + 2)) (y_fld Try.underlying31 rfl rfl sz23 (by decide) rfl) ?_
  refine sy (v := bv) (y_load sc23 rfl (H68.cell 6 rfl rfl)) ?_
  refine st (ow_call fn25 rfl (kept_c (.slice (some (bs g12)) ((l).length + 8) ((l).length + 8)) (bv) (l) _ ((rd_arr H68 4 rfl hw15 (by unfold maxLen; omega))).nil ((hR.st H68)).nil (by omega)) ⟨rfl, rfl, trivial⟩) ?_
  rintro _ w69 ⟨rfl, hB70⟩
  have H71 : St w [] [E55, E40, E31, [(g20, Rw 31 ([I (fr), I (to), slv 1 (0) (l.length) (.slice (some (bs g12)) ((l).length + 8) ((l).length + 8))]))], [(g12, Rw 5 ((l ++ marks).map B8))], [(g7, Rw 5 ((lk ++ marks).map B8))], [(g1, Rw 31 ([I (fr), I (to), bv]))]] w69 := H68.call hB70
  refine sy (v := .bool (true)) (y_assign rfl) ?_
  refine c_nil ?_
  refine n_then ?_
  refine c_seq ?_
  refine c_reg ?_
  refine sy (v := v38) (y_move rfl) ?_
  refine sy (v := v29) (y_move rfl) ?_
  refine st (ow_call fn29 rfl (same_c (v38) (v29) (sealL ((lk ++ marks).take lk.length) (fr) (to) ((l ++ marks).take l.length)) (sealL (lk) (fr) (to) (l)) _ ((ho41.rd H71 1 rfl)).nil ((ho32.rd H71 2 rfl)).nil) ⟨rfl, rfl, trivial⟩) ?_
  rintro _ w72 ⟨rfl, hB73⟩
  have H74 : St w [] [E55, E40, E31, [(g20, Rw 31 ([I (fr), I (to), slv 1 (0) (l.length) (.slice (some (bs g12)) ((l).length + 8) ((l).length + 8))]))], [(g12, Rw 5 ((l ++ marks).map B8))], [(g7, Rw 5 ((lk ++ marks).map B8))], [(g1, Rw 31 ([I (fr), I (to), bv]))]] w72 := H71.call hB73
  refine sy (v := .bool (decide ((sealL ((lk ++ marks).take lk.length) (fr) (to) ((l ++ marks).take l.length)) = (sealL (lk) (fr) (to) (l))))) (y_assign rfl) ?_
  refine c_nil ?_
  refine n_then ?_
  refine c_seq ?_
  refine c_reg ?_
  refine sy (v := v53) (y_move rfl) ?_
  refine sy (v := v29) (y_move rfl) ?_
  refine st (ow_call fn29 rfl (same_c (v53) (v29) (sealL ((lk ++ marks).take lk.length) (fr) (to) ((l ++ marks).take l.length)) (sealL (lk) (fr) (to) (l)) _ ((ho56.rd H74 0 rfl)).nil ((ho32.rd H74 2 rfl)).nil) ⟨rfl, rfl, trivial⟩) ?_
  rintro _ w75 ⟨rfl, hB76⟩
  have H77 : St w [] [E55, E40, E31, [(g20, Rw 31 ([I (fr), I (to), slv 1 (0) (l.length) (.slice (some (bs g12)) ((l).length + 8) ((l).length + 8))]))], [(g12, Rw 5 ((l ++ marks).map B8))], [(g7, Rw 5 ((lk ++ marks).map B8))], [(g1, Rw 31 ([I (fr), I (to), bv]))]] w75 := H74.call hB76
  refine sy (v := .bool (decide ((sealL ((lk ++ marks).take lk.length) (fr) (to) ((l ++ marks).take l.length)) = (sealL (lk) (fr) (to) (l))))) (y_assign rfl) ?_
  refine c_nil ?_
  refine n_then ?_
  refine c_seq ?_
  refine c_seq ?_
  refine c_reg ?_
  refine sy (v := .bool (true)) (y_move rfl) ?_
  refine sy (v := .bool (false)) (y_not (p := true) rfl) ?_
  refine sy (v := .bool (false)) (y_move rfl) ?_
  refine gsy (v := .bool (true)) (gv_of (t := 81) rfl rfl rfl) (rfl) (y_move rfl) ?_
  refine gsy (v := .bool (false)) (gv_of (t := 81) rfl rfl rfl) (rfl) (y_not (p := true) rfl) ?_
  refine sy (v := .bool (false)) (y_pickF rfl (rfl) rfl) ?_
  refine sy (v := .bool (false)) (y_move rfl) ?_
  refine gsy (v := .bool (true)) (gv_of (t := 85) rfl rfl rfl) (rfl) (y_move rfl) ?_
  refine gsy (v := .bool (false)) (gv_of (t := 85) rfl rfl rfl) (rfl) (y_not (p := true) rfl) ?_
  refine sy (v := .bool (false)) (y_pickF rfl (rfl) rfl) ?_
  refine sy (v := .bool (false)) (y_move rfl) ?_
  refine gsy (v := .bool (decide ((sealL ((lk ++ marks).take lk.length) (fr) (to) ((l ++ marks).take l.length)) = (sealL (lk) (fr) (to) (l))))) (gv_of (t := 89) rfl rfl rfl) (rfl) (y_move rfl) ?_
  refine gsy (v := .bool (decide (¬ ((sealL ((lk ++ marks).take lk.length) (fr) (to) ((l ++ marks).take l.length)) = (sealL (lk) (fr) (to) (l)))))) (gv_of (t := 89) rfl rfl rfl) (rfl) (y_notP rfl) ?_
  refine sy (v := .bool (decide (¬ ((sealL ((lk ++ marks).take lk.length) (fr) (to) ((l ++ marks).take l.length)) = (sealL (lk) (fr) (to) (l)))))) (y_pickF rfl (rfl) rfl) ?_
  refine sy (v := .bool (decide (¬ ((sealL ((lk ++ marks).take lk.length) (fr) (to) ((l ++ marks).take l.length)) = (sealL (lk) (fr) (to) (l)))))) (y_move rfl) ?_
  have hq78 : (sealL ((lk ++ marks).take lk.length) (fr) (to) ((l ++ marks).take l.length)) = (sealL (lk) (fr) (to) (l)) := (by rw [take_w, take_w])
  refine gsy (v := .bool (decide ((sealL ((lk ++ marks).take lk.length) (fr) (to) ((l ++ marks).take l.length)) = (sealL (lk) (fr) (to) (l))))) (gv_of (t := 93) rfl rfl rfl) (decide_eq_false (not_not_intro hq78)) (y_move rfl) ?_
  refine gsy (v := .bool (decide (¬ ((sealL ((lk ++ marks).take lk.length) (fr) (to) ((l ++ marks).take l.length)) = (sealL (lk) (fr) (to) (l)))))) (gv_of (t := 93) rfl rfl rfl) (decide_eq_false (not_not_intro hq78)) (y_notP rfl) ?_
  refine sy (v := .bool (decide (¬ ((sealL ((lk ++ marks).take lk.length) (fr) (to) ((l ++ marks).take l.length)) = (sealL (lk) (fr) (to) (l)))))) (y_pickF rfl (decide_eq_false (not_not_intro hq78)) rfl) ?_
  refine sy (v := .bool (decide (¬ ((sealL ((lk ++ marks).take lk.length) (fr) (to) ((l ++ marks).take l.length)) = (sealL (lk) (fr) (to) (l)))))) (y_move rfl) ?_
  refine gsy (v := I ((sealEr ((lk ++ marks).take lk.length) (fr) (to) ((l ++ marks).take l.length) : Nat) : Int)) (gv_of (t := 97) rfl rfl rfl) (decide_eq_false (not_not_intro hq78)) (y_move rfl) ?_
  refine gsy (v := I ((sealEr (lk) (fr) (to) (l) : Nat) : Int)) (gv_of (t := 97) rfl rfl rfl) (decide_eq_false (not_not_intro hq78)) (y_move rfl) ?_
  refine gsy (v := .bool (decide ((sealEr ((lk ++ marks).take lk.length) (fr) (to) ((l ++ marks).take l.length)) ≠ (sealEr (lk) (fr) (to) (l))))) (gv_of (t := 97) rfl rfl rfl) (decide_eq_false (not_not_intro hq78)) (n_neq (a := sealEr ((lk ++ marks).take lk.length) (fr) (to) ((l ++ marks).take l.length)) (b := sealEr (lk) (fr) (to) (l)) rfl rfl) ?_
  refine sy (v := .bool (decide ((sealEr ((lk ++ marks).take lk.length) (fr) (to) ((l ++ marks).take l.length)) ≠ (sealEr (lk) (fr) (to) (l))))) (y_pickF rfl (decide_eq_false (not_not_intro hq78)) rfl) ?_
  refine sy (v := .bool (decide ((sealEr ((lk ++ marks).take lk.length) (fr) (to) ((l ++ marks).take l.length)) ≠ (sealEr (lk) (fr) (to) (l))))) (y_move rfl) ?_
  have hq79 : ¬ ((sealEr ((lk ++ marks).take lk.length) (fr) (to) ((l ++ marks).take l.length)) ≠ (sealEr (lk) (fr) (to) (l))) := (by rw [take_w, take_w]; exact fun h => h rfl)
  refine gsy (v := I ((sealEr ((lk ++ marks).take lk.length) (fr) (to) ((l ++ marks).take l.length) : Nat) : Int)) (gv_of (t := 102) rfl rfl rfl) (decide_eq_false hq79) (y_move rfl) ?_
  refine gsy (v := I ((sealEr (lk) (fr) (to) (l) : Nat) : Int)) (gv_of (t := 102) rfl rfl rfl) (decide_eq_false hq79) (y_move rfl) ?_
  refine gsy (v := .bool (decide ((sealEr ((lk ++ marks).take lk.length) (fr) (to) ((l ++ marks).take l.length)) ≠ (sealEr (lk) (fr) (to) (l))))) (gv_of (t := 102) rfl rfl rfl) (decide_eq_false hq79) (n_neq (a := sealEr ((lk ++ marks).take lk.length) (fr) (to) ((l ++ marks).take l.length)) (b := sealEr (lk) (fr) (to) (l)) rfl rfl) ?_
  refine sy (v := .bool (decide ((sealEr ((lk ++ marks).take lk.length) (fr) (to) ((l ++ marks).take l.length)) ≠ (sealEr (lk) (fr) (to) (l))))) (y_pickF rfl (decide_eq_false hq79) rfl) ?_
  refine c_nil ?_
  refine n_then ?_
  refine c_f rfl (decide_eq_false hq79) ?_
  refine wp_skip ?_
  refine n_then ?_
  refine c_seq ?_
  refine c_reg ?_
  refine sy (v := .slice (some (bs g7)) ((lk).length + 8) ((lk).length + 8)) (y_move rfl) ?_
  have H80 : St w [] [[(g7, Rw 5 ((lk ++ marks).map B8))], E55, E40, E31, [(g20, Rw 31 ([I (fr), I (to), slv 1 (0) (l.length) (.slice (some (bs g12)) ((l).length + 8) ((l).length + 8))]))], [(g12, Rw 5 ((l ++ marks).map B8))], [(g1, Rw 31 ([I (fr), I (to), bv]))]] w75 := H77.foc 5 rfl rfl
  refine st (ow_call fn26 rfl (mturned_c g7 lk _ (H80.get 0 rfl) (by omega)) ⟨rfl, trivial⟩) ?_
  rintro _ w81 ⟨rfl, l83, hl84, H82⟩
  have hw85 : (l83 ++ marks).length = (lk).length + 8 := (wlen l83).trans (by rw [hl84])
  have H86 : St w [] [[(g7, Rw 5 ((l83 ++ marks).map B8))], E55, E40, E31, [(g20, Rw 31 ([I (fr), I (to), slv 1 (0) (l.length) (.slice (some (bs g12)) ((l).length + 8) ((l).length + 8))]))], [(g12, Rw 5 ((l ++ marks).map B8))], [(g1, Rw 31 ([I (fr), I (to), bv]))]] w81 := H80.app1 H82
  refine c_nil ?_
  refine n_then ?_
  refine c_seq ?_
  refine c_reg ?_
  refine sy (v := .slice (some (bs g12)) ((l).length + 8) ((l).length + 8)) (y_move rfl) ?_
  have H87 : St w [] [[(g12, Rw 5 ((l ++ marks).map B8))], [(g7, Rw 5 ((l83 ++ marks).map B8))], E55, E40, E31, [(g20, Rw 31 ([I (fr), I (to), slv 1 (0) (l.length) (.slice (some (bs g12)) ((l).length + 8) ((l).length + 8))]))], [(g1, Rw 31 ([I (fr), I (to), bv]))]] w81 := H86.foc 5 rfl rfl
  refine st (ow_call fn26 rfl (mturned_c g12 l _ (H87.get 0 rfl) (by omega)) ⟨rfl, trivial⟩) ?_
  rintro _ w88 ⟨rfl, l90, hl91, H89⟩
  have hw92 : (l90 ++ marks).length = (l).length + 8 := (wlen l90).trans (by rw [hl91])
  have H93 : St w [] [[(g12, Rw 5 ((l90 ++ marks).map B8))], [(g7, Rw 5 ((l83 ++ marks).map B8))], E55, E40, E31, [(g20, Rw 31 ([I (fr), I (to), slv 1 (0) (l.length) (.slice (some (bs g12)) ((l).length + 8) ((l).length + 8))]))], [(g1, Rw 31 ([I (fr), I (to), bv]))]] w88 := H87.app1 H89
  refine c_nil ?_
  refine n_then ?_
  refine c_seq ?_
  refine c_cut (n := 160) (fun f94 w95 => ∃ (gtw : Nat), ∃ (tw : Value), ∃ (ETW : Part), f94 0 = v0 ∧ f94 6 = .slice (some (bs g7)) ((lk).length + 8) ((lk).length + 8) ∧ f94 8 = Ad (bs g20) (0) ∧ f94 9 = v29 ∧ f94 11 = v38 ∧ f94 13 = v53 ∧ f94 19 = Ad (bs gtw) (0) ∧ OS 5 1 tw ((l90 ++ marks).take l.length).length (((l90 ++ marks).take l.length).map B8) ETW ∧ St w [] [[(gtw, Rw 31 ([I (fr), I (to), tw]))], ETW, [(g12, Rw 5 ((l90 ++ marks).map B8))], [(g7, Rw 5 ((l83 ++ marks).map B8))], E55, E40, E31, [(g20, Rw 31 ([I (fr), I (to), slv 1 (0) (l.length) (.slice (some (bs g12)) ((l).length + 8) ((l).length + 8))]))], [(g1, Rw 31 ([I (fr), I (to), bv]))]] w95) ?_ ?_
  · skip
    refine drawS (.step 0 0 (.step 0 1 (.step 0 2 (.step 0 3 (.step 0 5 (.step 0 6 (.alt 4 (.alt 7 (.step 0 8 (.step 1 9 (.step 1 10 .nil))) (.alt 9 (.step 1 7 (.step 0 8 (.step 1 10 .nil))) .stop)) (.alt 9 (.step 1 4 (.step 1 7 (.step 0 8 (.step 1 10 .nil)))) .stop)))))))) mixed H93 (by kernel_rfl) (by kernel_rfl) (by kernel_rfl) ?_
    intro w96 H97
    refine pt (v := Ad (bs g1) (0 + 0)) rfl (fun wS HS => y_fld Try.underlying31 rfl rfl sz3 (by decide) rfl) ?_
    refine pt (v := I (fr)) rfl (fun wS HS => y_load sc3 rfl (HS.cell 6 rfl rfl)) ?_
    refine pt (v := Ad (bs g1) (0 + 1)) rfl (fun wS HS => y_fld Try.underlying31 rfl rfl sz3 (by decide) rfl) ?_
    refine pt (v := I (to)) rfl (fun wS HS => y_load sc3 rfl (HS.cell 6 rfl rfl)) ?_
    refine pt (v := Ad (bs g20) (0 + 2)) rfl (fun wS HS => y_fld Try.underlying31 rfl rfl sz23 (by decide) rfl) ?_
    refine pt (v := slv 1 (0) (l.length) (.slice (some (bs g12)) ((l).length + 8) ((l).length + 8))) rfl (fun wS HS => y_load sc23 rfl (HS.cell 5 rfl rfl)) ?_
    refine al rfl (ow_buildSlice (pv := []) (us := []) Try.underlying23 sz5 zr5 H97 trivial (by decide) fill0) ?_ ?_
    · skip
      rintro _ w99 ⟨g98, rfl, H100⟩
      have H101 : St w [] [[(g1, Rw 31 ([I (fr), I (to), bv]))], [(g98, Rw 5 ([]))], [(g12, Rw 5 ((l90 ++ marks).map B8))], [(g7, Rw 5 ((l83 ++ marks).map B8))], E55, E40, E31, [(g20, Rw 31 ([I (fr), I (to), slv 1 (0) (l.length) (.slice (some (bs g12)) ((l).length + 8) ((l).length + 8))]))]] w99 := H100.foc 7 rfl rfl
      have H102 : St w [] [[(g20, Rw 31 ([I (fr), I (to), slv 1 (0) (l.length) (.slice (some (bs g12)) ((l).length + 8) ((l).length + 8))]))], [(g1, Rw 31 ([I (fr), I (to), bv]))], [(g98, Rw 5 ([]))], [(g12, Rw 5 ((l90 ++ marks).map B8))], [(g7, Rw 5 ((l83 ++ marks).map B8))], E55, E40, E31] w99 := H101.foc 7 rfl rfl
      have H103 : St w [] [E31, [(g20, Rw 31 ([I (fr), I (to), slv 1 (0) (l.length) (.slice (some (bs g12)) ((l).length + 8) ((l).length + 8))]))], [(g1, Rw 31 ([I (fr), I (to), bv]))], [(g98, Rw 5 ([]))], [(g12, Rw 5 ((l90 ++ marks).map B8))], [(g7, Rw 5 ((l83 ++ marks).map B8))], E55, E40] w99 := H102.foc 7 rfl rfl
      have H104 : St w [] [E40, E31, [(g20, Rw 31 ([I (fr), I (to), slv 1 (0) (l.length) (.slice (some (bs g12)) ((l).length + 8) ((l).length + 8))]))], [(g1, Rw 31 ([I (fr), I (to), bv]))], [(g98, Rw 5 ([]))], [(g12, Rw 5 ((l90 ++ marks).map B8))], [(g7, Rw 5 ((l83 ++ marks).map B8))], E55] w99 := H103.foc 7 rfl rfl
      have H105 : St w [] [E55, E40, E31, [(g20, Rw 31 ([I (fr), I (to), slv 1 (0) (l.length) (.slice (some (bs g12)) ((l).length + 8) ((l).length + 8))]))], [(g1, Rw 31 ([I (fr), I (to), bv]))], [(g98, Rw 5 ([]))], [(g12, Rw 5 ((l90 ++ marks).map B8))], [(g7, Rw 5 ((l83 ++ marks).map B8))]] w99 := H104.foc 7 rfl rfl
      have H106 : St w [] [[(g7, Rw 5 ((l83 ++ marks).map B8))], E55, E40, E31, [(g20, Rw 31 ([I (fr), I (to), slv 1 (0) (l.length) (.slice (some (bs g12)) ((l).length + 8) ((l).length + 8))]))], [(g1, Rw 31 ([I (fr), I (to), bv]))], [(g98, Rw 5 ([]))], [(g12, Rw 5 ((l90 ++ marks).map B8))]] w99 := H105.foc 7 rfl rfl
      have H107 : St w [] [[(g12, Rw 5 ((l90 ++ marks).map B8))], [(g7, Rw 5 ((l83 ++ marks).map B8))], E55, E40, E31, [(g20, Rw 31 ([I (fr), I (to), slv 1 (0) (l.length) (.slice (some (bs g12)) ((l).length + 8) ((l).length + 8))]))], [(g1, Rw 31 ([I (fr), I (to), bv]))], [(g98, Rw 5 ([]))]] w99 := H106.foc 7 rfl rfl
      have H108 : St w [] [[(g12, Rw 5 ((l90 ++ marks).map B8))], [(g7, Rw 5 ((l83 ++ marks).map B8))], E55, E40, E31, [(g20, Rw 31 ([I (fr), I (to), slv 1 (0) (l.length) (.slice (some (bs g12)) ((l).length + 8) ((l).length + 8))]))], [(g1, Rw 31 ([I (fr), I (to), bv]))]] w99 := H107.take 7 rfl
      refine ⟨H108, ?_⟩
      refine al rfl (ow_append Try.underlying23 sz5 zr5 bt5 rfl (os_lit (k := 0) rfl (by simp [maxLen])) H100 rfl rfl ((rdb_pre (rd_arr H100 1 rfl hw92 (by unfold maxLen; omega)) (by omega)).src Try.underlying23 (map_one (F := B8) (fun _ => rfl) _)) (by first | omega | (simp only [List.length_append, List.length_cons, List.length_nil, List.length_take, List.length_drop, hmac_length, sha_length, List.length_replicate]; omega)) (by first | omega | (simp only [List.length_append, List.length_cons, List.length_nil, List.length_take, List.length_drop, hmac_length, sha_length, List.length_replicate]; omega))) ?_ ?_
      · skip
        rintro v110 w111 ⟨E109, ho113', H112⟩
        have ho113 : OS 5 1 v110 ((l90 ++ marks).take l.length).length (((l90 ++ marks).take l.length).map B8) E109 := by first | (have h := ho113'; rw [Nat.zero_add, List.nil_append] at h; exact h) | simpa using ho113'
        have H114 : St w [] [[(g1, Rw 31 ([I (fr), I (to), bv]))], E109, [(g12, Rw 5 ((l90 ++ marks).map B8))], [(g7, Rw 5 ((l83 ++ marks).map B8))], E55, E40, E31, [(g20, Rw 31 ([I (fr), I (to), slv 1 (0) (l.length) (.slice (some (bs g12)) ((l).length + 8) ((l).length + 8))]))]] w111 := H112.foc 7 rfl rfl
        have H115 : St w [] [[(g20, Rw 31 ([I (fr), I (to), slv 1 (0) (l.length) (.slice (some (bs g12)) ((l).length + 8) ((l).length + 8))]))], [(g1, Rw 31 ([I (fr), I (to), bv]))], E109, [(g12, Rw 5 ((l90 ++ marks).map B8))], [(g7, Rw 5 ((l83 ++ marks).map B8))], E55, E40, E31] w111 := H114.foc 7 rfl rfl
        have H116 : St w [] [E31, [(g20, Rw 31 ([I (fr), I (to), slv 1 (0) (l.length) (.slice (some (bs g12)) ((l).length + 8) ((l).length + 8))]))], [(g1, Rw 31 ([I (fr), I (to), bv]))], E109, [(g12, Rw 5 ((l90 ++ marks).map B8))], [(g7, Rw 5 ((l83 ++ marks).map B8))], E55, E40] w111 := H115.foc 7 rfl rfl
        have H117 : St w [] [E40, E31, [(g20, Rw 31 ([I (fr), I (to), slv 1 (0) (l.length) (.slice (some (bs g12)) ((l).length + 8) ((l).length + 8))]))], [(g1, Rw 31 ([I (fr), I (to), bv]))], E109, [(g12, Rw 5 ((l90 ++ marks).map B8))], [(g7, Rw 5 ((l83 ++ marks).map B8))], E55] w111 := H116.foc 7 rfl rfl
        have H118 : St w [] [E55, E40, E31, [(g20, Rw 31 ([I (fr), I (to), slv 1 (0) (l.length) (.slice (some (bs g12)) ((l).length + 8) ((l).length + 8))]))], [(g1, Rw 31 ([I (fr), I (to), bv]))], E109, [(g12, Rw 5 ((l90 ++ marks).map B8))], [(g7, Rw 5 ((l83 ++ marks).map B8))]] w111 := H117.foc 7 rfl rfl
        have H119 : St w [] [[(g7, Rw 5 ((l83 ++ marks).map B8))], E55, E40, E31, [(g20, Rw 31 ([I (fr), I (to), slv 1 (0) (l.length) (.slice (some (bs g12)) ((l).length + 8) ((l).length + 8))]))], [(g1, Rw 31 ([I (fr), I (to), bv]))], E109, [(g12, Rw 5 ((l90 ++ marks).map B8))]] w111 := H118.foc 7 rfl rfl
        have H120 : St w [] [[(g12, Rw 5 ((l90 ++ marks).map B8))], [(g7, Rw 5 ((l83 ++ marks).map B8))], E55, E40, E31, [(g20, Rw 31 ([I (fr), I (to), slv 1 (0) (l.length) (.slice (some (bs g12)) ((l).length + 8) ((l).length + 8))]))], [(g1, Rw 31 ([I (fr), I (to), bv]))], E109] w111 := H119.foc 7 rfl rfl
        have H121 : St w [] [[(g12, Rw 5 ((l90 ++ marks).map B8))], [(g7, Rw 5 ((l83 ++ marks).map B8))], E55, E40, E31, [(g20, Rw 31 ([I (fr), I (to), slv 1 (0) (l.length) (.slice (some (bs g12)) ((l).length + 8) ((l).length + 8))]))], [(g1, Rw 31 ([I (fr), I (to), bv]))]] w111 := H120.take 7 rfl
        refine ⟨H121, ?_⟩
        obtain ⟨pa122, pc123, rfl, -⟩ := (ho113.rd H112 0 rfl).shape
        refine pt (v := .agg ([I (fr), I (to), (.slice pa122 (((l90 ++ marks).take l.length).length) pc123)]).toArray) rfl (fun wS HS => y_build (pv := [(0, I (fr)), (1, I (to)), (2, (.slice pa122 (((l90 ++ marks).take l.length).length) pc123))]) (us := [I (fr), I (to), (.slice pa122 (((l90 ++ marks).take l.length).length) pc123)]) ⟨⟨rfl, rfl⟩, ⟨rfl, rfl⟩, ⟨rfl, rfl⟩, trivial⟩ (by kernel_rfl)) ?_
        refine pl rfl (ow_alloc (l := [I ((0 : Nat) : Int), I ((0 : Nat) : Int), .slice none 0 0]) H112 zr31 rfl) ?_
        rintro _ w125 ⟨g124, rfl, H126⟩
        have H127 : St w [] [[(g1, Rw 31 ([I (fr), I (to), bv]))], [(g124, Rw 31 ([I ((0 : Nat) : Int), I ((0 : Nat) : Int), .slice none 0 0]))], E109, [(g12, Rw 5 ((l90 ++ marks).map B8))], [(g7, Rw 5 ((l83 ++ marks).map B8))], E55, E40, E31, [(g20, Rw 31 ([I (fr), I (to), slv 1 (0) (l.length) (.slice (some (bs g12)) ((l).length + 8) ((l).length + 8))]))]] w125 := H126.foc 8 rfl rfl
        have H128 : St w [] [[(g20, Rw 31 ([I (fr), I (to), slv 1 (0) (l.length) (.slice (some (bs g12)) ((l).length + 8) ((l).length + 8))]))], [(g1, Rw 31 ([I (fr), I (to), bv]))], [(g124, Rw 31 ([I ((0 : Nat) : Int), I ((0 : Nat) : Int), .slice none 0 0]))], E109, [(g12, Rw 5 ((l90 ++ marks).map B8))], [(g7, Rw 5 ((l83 ++ marks).map B8))], E55, E40, E31] w125 := H127.foc 8 rfl rfl
        have H129 : St w [] [E31, [(g20, Rw 31 ([I (fr), I (to), slv 1 (0) (l.length) (.slice (some (bs g12)) ((l).length + 8) ((l).length + 8))]))], [(g1, Rw 31 ([I (fr), I (to), bv]))], [(g124, Rw 31 ([I ((0 : Nat) : Int), I ((0 : Nat) : Int), .slice none 0 0]))], E109, [(g12, Rw 5 ((l90 ++ marks).map B8))], [(g7, Rw 5 ((l83 ++ marks).map B8))], E55, E40] w125 := H128.foc 8 rfl rfl
        have H130 : St w [] [E40, E31, [(g20, Rw 31 ([I (fr), I (to), slv 1 (0) (l.length) (.slice (some (bs g12)) ((l).length + 8) ((l).length + 8))]))], [(g1, Rw 31 ([I (fr), I (to), bv]))], [(g124, Rw 31 ([I ((0 : Nat) : Int), I ((0 : Nat) : Int), .slice none 0 0]))], E109, [(g12, Rw 5 ((l90 ++ marks).map B8))], [(g7, Rw 5 ((l83 ++ marks).map B8))], E55] w125 := H129.foc 8 rfl rfl
        have H131 : St w [] [E55, E40, E31, [(g20, Rw 31 ([I (fr), I (to), slv 1 (0) (l.length) (.slice (some (bs g12)) ((l).length + 8) ((l).length + 8))]))], [(g1, Rw 31 ([I (fr), I (to), bv]))], [(g124, Rw 31 ([I ((0 : Nat) : Int), I ((0 : Nat) : Int), .slice none 0 0]))], E109, [(g12, Rw 5 ((l90 ++ marks).map B8))], [(g7, Rw 5 ((l83 ++ marks).map B8))]] w125 := H130.foc 8 rfl rfl
        have H132 : St w [] [[(g7, Rw 5 ((l83 ++ marks).map B8))], E55, E40, E31, [(g20, Rw 31 ([I (fr), I (to), slv 1 (0) (l.length) (.slice (some (bs g12)) ((l).length + 8) ((l).length + 8))]))], [(g1, Rw 31 ([I (fr), I (to), bv]))], [(g124, Rw 31 ([I ((0 : Nat) : Int), I ((0 : Nat) : Int), .slice none 0 0]))], E109, [(g12, Rw 5 ((l90 ++ marks).map B8))]] w125 := H131.foc 8 rfl rfl
        have H133 : St w [] [[(g12, Rw 5 ((l90 ++ marks).map B8))], [(g7, Rw 5 ((l83 ++ marks).map B8))], E55, E40, E31, [(g20, Rw 31 ([I (fr), I (to), slv 1 (0) (l.length) (.slice (some (bs g12)) ((l).length + 8) ((l).length + 8))]))], [(g1, Rw 31 ([I (fr), I (to), bv]))], [(g124, Rw 31 ([I ((0 : Nat) : Int), I ((0 : Nat) : Int), .slice none 0 0]))], E109] w125 := H132.foc 8 rfl rfl
        have H134 : St w [] [[(g12, Rw 5 ((l90 ++ marks).map B8))], [(g7, Rw 5 ((l83 ++ marks).map B8))], E55, E40, E31, [(g20, Rw 31 ([I (fr), I (to), slv 1 (0) (l.length) (.slice (some (bs g12)) ((l).length + 8) ((l).length + 8))]))], [(g1, Rw 31 ([I (fr), I (to), bv]))]] w125 := H133.take 7 rfl
        refine ⟨H134, ?_⟩
        refine p0 rfl (ow_storeW (us := [I (fr), I (to), (.slice pa122 (((l90 ++ marks).take l.length).length) pc123)]) H126 sz31 rfl rfl rfl (by intro u hu; simp only [List.mem_cons, List.not_mem_nil, or_false] at hu; rcases hu with rfl | rfl | rfl <;> first | rfl | exact Rd.one (ho113.rd H126 1 rfl)) (by simp [*])) ?_
        rintro _ w135 H136'
        have H136 : St w [] [[(g124, Rw 31 ([I (fr), I (to), (.slice pa122 (((l90 ++ marks).take l.length).length) pc123)]))], E109, [(g12, Rw 5 ((l90 ++ marks).map B8))], [(g7, Rw 5 ((l83 ++ marks).map B8))], E55, E40, E31, [(g20, Rw 31 ([I (fr), I (to), slv 1 (0) (l.length) (.slice (some (bs g12)) ((l).length + 8) ((l).length + 8))]))], [(g1, Rw 31 ([I (fr), I (to), bv]))]] w135 := H136'
        have H137 : St w [] [[(g1, Rw 31 ([I (fr), I (to), bv]))], [(g124, Rw 31 ([I (fr), I (to), (.slice pa122 (((l90 ++ marks).take l.length).length) pc123)]))], E109, [(g12, Rw 5 ((l90 ++ marks).map B8))], [(g7, Rw 5 ((l83 ++ marks).map B8))], E55, E40, E31, [(g20, Rw 31 ([I (fr), I (to), slv 1 (0) (l.length) (.slice (some (bs g12)) ((l).length + 8) ((l).length + 8))]))]] w135 := H136.foc 8 rfl rfl
        have H138 : St w [] [[(g20, Rw 31 ([I (fr), I (to), slv 1 (0) (l.length) (.slice (some (bs g12)) ((l).length + 8) ((l).length + 8))]))], [(g1, Rw 31 ([I (fr), I (to), bv]))], [(g124, Rw 31 ([I (fr), I (to), (.slice pa122 (((l90 ++ marks).take l.length).length) pc123)]))], E109, [(g12, Rw 5 ((l90 ++ marks).map B8))], [(g7, Rw 5 ((l83 ++ marks).map B8))], E55, E40, E31] w135 := H137.foc 8 rfl rfl
        have H139 : St w [] [E31, [(g20, Rw 31 ([I (fr), I (to), slv 1 (0) (l.length) (.slice (some (bs g12)) ((l).length + 8) ((l).length + 8))]))], [(g1, Rw 31 ([I (fr), I (to), bv]))], [(g124, Rw 31 ([I (fr), I (to), (.slice pa122 (((l90 ++ marks).take l.length).length) pc123)]))], E109, [(g12, Rw 5 ((l90 ++ marks).map B8))], [(g7, Rw 5 ((l83 ++ marks).map B8))], E55, E40] w135 := H138.foc 8 rfl rfl
        have H140 : St w [] [E40, E31, [(g20, Rw 31 ([I (fr), I (to), slv 1 (0) (l.length) (.slice (some (bs g12)) ((l).length + 8) ((l).length + 8))]))], [(g1, Rw 31 ([I (fr), I (to), bv]))], [(g124, Rw 31 ([I (fr), I (to), (.slice pa122 (((l90 ++ marks).take l.length).length) pc123)]))], E109, [(g12, Rw 5 ((l90 ++ marks).map B8))], [(g7, Rw 5 ((l83 ++ marks).map B8))], E55] w135 := H139.foc 8 rfl rfl
        have H141 : St w [] [E55, E40, E31, [(g20, Rw 31 ([I (fr), I (to), slv 1 (0) (l.length) (.slice (some (bs g12)) ((l).length + 8) ((l).length + 8))]))], [(g1, Rw 31 ([I (fr), I (to), bv]))], [(g124, Rw 31 ([I (fr), I (to), (.slice pa122 (((l90 ++ marks).take l.length).length) pc123)]))], E109, [(g12, Rw 5 ((l90 ++ marks).map B8))], [(g7, Rw 5 ((l83 ++ marks).map B8))]] w135 := H140.foc 8 rfl rfl
        have H142 : St w [] [[(g7, Rw 5 ((l83 ++ marks).map B8))], E55, E40, E31, [(g20, Rw 31 ([I (fr), I (to), slv 1 (0) (l.length) (.slice (some (bs g12)) ((l).length + 8) ((l).length + 8))]))], [(g1, Rw 31 ([I (fr), I (to), bv]))], [(g124, Rw 31 ([I (fr), I (to), (.slice pa122 (((l90 ++ marks).take l.length).length) pc123)]))], E109, [(g12, Rw 5 ((l90 ++ marks).map B8))]] w135 := H141.foc 8 rfl rfl
        have H143 : St w [] [[(g12, Rw 5 ((l90 ++ marks).map B8))], [(g7, Rw 5 ((l83 ++ marks).map B8))], E55, E40, E31, [(g20, Rw 31 ([I (fr), I (to), slv 1 (0) (l.length) (.slice (some (bs g12)) ((l).length + 8) ((l).length + 8))]))], [(g1, Rw 31 ([I (fr), I (to), bv]))], [(g124, Rw 31 ([I (fr), I (to), (.slice pa122 (((l90 ++ marks).take l.length).length) pc123)]))], E109] w135 := H142.foc 8 rfl rfl
        have H144 : St w [] [[(g12, Rw 5 ((l90 ++ marks).map B8))], [(g7, Rw 5 ((l83 ++ marks).map B8))], E55, E40, E31, [(g20, Rw 31 ([I (fr), I (to), slv 1 (0) (l.length) (.slice (some (bs g12)) ((l).length + 8) ((l).length + 8))]))], [(g1, Rw 31 ([I (fr), I (to), bv]))]] w135 := H143.take 7 rfl
        refine ⟨H144, ?_⟩
        refine p_nil ?_
        exact qj_n ⟨g124, (.slice pa122 (((l90 ++ marks).take l.length).length) pc123), E109, rfl, rfl, rfl, rfl, rfl, rfl, rfl, ho113, H136⟩
      refine al rfl (ow_alloc (l := [I ((0 : Nat) : Int), I ((0 : Nat) : Int), .slice none 0 0]) H100 zr31 rfl) ?_ ?_
      · skip
        rintro _ w146 ⟨g145, rfl, H147⟩
        have H148 : St w [] [[(g1, Rw 31 ([I (fr), I (to), bv]))], [(g145, Rw 31 ([I ((0 : Nat) : Int), I ((0 : Nat) : Int), .slice none 0 0]))], [(g98, Rw 5 ([]))], [(g12, Rw 5 ((l90 ++ marks).map B8))], [(g7, Rw 5 ((l83 ++ marks).map B8))], E55, E40, E31, [(g20, Rw 31 ([I (fr), I (to), slv 1 (0) (l.length) (.slice (some (bs g12)) ((l).length + 8) ((l).length + 8))]))]] w146 := H147.foc 8 rfl rfl
        have H149 : St w [] [[(g20, Rw 31 ([I (fr), I (to), slv 1 (0) (l.length) (.slice (some (bs g12)) ((l).length + 8) ((l).length + 8))]))], [(g1, Rw 31 ([I (fr), I (to), bv]))], [(g145, Rw 31 ([I ((0 : Nat) : Int), I ((0 : Nat) : Int), .slice none 0 0]))], [(g98, Rw 5 ([]))], [(g12, Rw 5 ((l90 ++ marks).map B8))], [(g7, Rw 5 ((l83 ++ marks).map B8))], E55, E40, E31] w146 := H148.foc 8 rfl rfl
        have H150 : St w [] [E31, [(g20, Rw 31 ([I (fr), I (to), slv 1 (0) (l.length) (.slice (some (bs g12)) ((l).length + 8) ((l).length + 8))]))], [(g1, Rw 31 ([I (fr), I (to), bv]))], [(g145, Rw 31 ([I ((0 : Nat) : Int), I ((0 : Nat) : Int), .slice none 0 0]))], [(g98, Rw 5 ([]))], [(g12, Rw 5 ((l90 ++ marks).map B8))], [(g7, Rw 5 ((l83 ++ marks).map B8))], E55, E40] w146 := H149.foc 8 rfl rfl
        have H151 : St w [] [E40, E31, [(g20, Rw 31 ([I (fr), I (to), slv 1 (0) (l.length) (.slice (some (bs g12)) ((l).length + 8) ((l).length + 8))]))], [(g1, Rw 31 ([I (fr), I (to), bv]))], [(g145, Rw 31 ([I ((0 : Nat) : Int), I ((0 : Nat) : Int), .slice none 0 0]))], [(g98, Rw 5 ([]))], [(g12, Rw 5 ((l90 ++ marks).map B8))], [(g7, Rw 5 ((l83 ++ marks).map B8))], E55] w146 := H150.foc 8 rfl rfl
        have H152 : St w [] [E55, E40, E31, [(g20, Rw 31 ([I (fr), I (to), slv 1 (0) (l.length) (.slice (some (bs g12)) ((l).length + 8) ((l).length + 8))]))], [(g1, Rw 31 ([I (fr), I (to), bv]))], [(g145, Rw 31 ([I ((0 : Nat) : Int), I ((0 : Nat) : Int), .slice none 0 0]))], [(g98, Rw 5 ([]))], [(g12, Rw 5 ((l90 ++ marks).map B8))], [(g7, Rw 5 ((l83 ++ marks).map B8))]] w146 := H151.foc 8 rfl rfl
        have H153 : St w [] [[(g7, Rw 5 ((l83 ++ marks).map B8))], E55, E40, E31, [(g20, Rw 31 ([I (fr), I (to), slv 1 (0) (l.length) (.slice (some (bs g12)) ((l).length + 8) ((l).length + 8))]))], [(g1, Rw 31 ([I (fr), I (to), bv]))], [(g145, Rw 31 ([I ((0 : Nat) : Int), I ((0 : Nat) : Int), .slice none 0 0]))], [(g98, Rw 5 ([]))], [(g12, Rw 5 ((l90 ++ marks).map B8))]] w146 := H152.foc 8 rfl rfl
        have H154 : St w [] [[(g12, Rw 5 ((l90 ++ marks).map B8))], [(g7, Rw 5 ((l83 ++ marks).map B8))], E55, E40, E31, [(g20, Rw 31 ([I (fr), I (to), slv 1 (0) (l.length) (.slice (some (bs g12)) ((l).length + 8) ((l).length + 8))]))], [(g1, Rw 31 ([I (fr), I (to), bv]))], [(g145, Rw 31 ([I ((0 : Nat) : Int), I ((0 : Nat) : Int), .slice none 0 0]))], [(g98, Rw 5 ([]))]] w146 := H153.foc 8 rfl rfl
        have H155 : St w [] [[(g12, Rw 5 ((l90 ++ marks).map B8))], [(g7, Rw 5 ((l83 ++ marks).map B8))], E55, E40, E31, [(g20, Rw 31 ([I (fr), I (to), slv 1 (0) (l.length) (.slice (some (bs g12)) ((l).length + 8) ((l).length + 8))]))], [(g1, Rw 31 ([I (fr), I (to), bv]))]] w146 := H154.take 7 rfl
        refine ⟨H155, ?_⟩
        have H156 : St w [] [[(g98, Rw 5 ([]))], [(g145, Rw 31 ([I ((0 : Nat) : Int), I ((0 : Nat) : Int), .slice none 0 0]))], [(g12, Rw 5 ((l90 ++ marks).map B8))], [(g7, Rw 5 ((l83 ++ marks).map B8))], E55, E40, E31, [(g20, Rw 31 ([I (fr), I (to), slv 1 (0) (l.length) (.slice (some (bs g12)) ((l).length + 8) ((l).length + 8))]))], [(g1, Rw 31 ([I (fr), I (to), bv]))]] w146 := H147.foc 1 rfl rfl
        refine pl rfl (ow_append Try.underlying23 sz5 zr5 bt5 rfl (os_lit (k := 0) rfl (by simp [maxLen])) H156 rfl rfl ((rdb_pre (rd_arr H147 2 rfl hw92 (by unfold maxLen; omega)) (by omega)).src Try.underlying23 (map_one (F := B8) (fun _ => rfl) _)) (by first | omega | (simp only [List.length_append, List.length_cons, List.length_nil, List.length_take, List.length_drop, hmac_length, sha_length, List.length_replicate]; omega)) (by first | omega | (simp only [List.length_append, List.length_cons, List.length_nil, List.length_take, List.length_drop, hmac_length, sha_length, List.length_replicate]; omega))) ?_
        rintro v158 w159 ⟨E157, ho161', H160⟩
        have ho161 : OS 5 1 v158 ((l90 ++ marks).take l.length).length (((l90 ++ marks).take l.length).map B8) E157 := by first | (have h := ho161'; rw [Nat.zero_add, List.nil_append] at h; exact h) | simpa using ho161'
        have H162 : St w [] [[(g1, Rw 31 ([I (fr), I (to), bv]))], E157, [(g145, Rw 31 ([I ((0 : Nat) : Int), I ((0 : Nat) : Int), .slice none 0 0]))], [(g12, Rw 5 ((l90 ++ marks).map B8))], [(g7, Rw 5 ((l83 ++ marks).map B8))], E55, E40, E31, [(g20, Rw 31 ([I (fr), I (to), slv 1 (0) (l.length) (.slice (some (bs g12)) ((l).length + 8) ((l).length + 8))]))]] w159 := H160.foc 8 rfl rfl
        have H163 : St w [] [[(g20, Rw 31 ([I (fr), I (to), slv 1 (0) (l.length) (.slice (some (bs g12)) ((l).length + 8) ((l).length + 8))]))], [(g1, Rw 31 ([I (fr), I (to), bv]))], E157, [(g145, Rw 31 ([I ((0 : Nat) : Int), I ((0 : Nat) : Int), .slice none 0 0]))], [(g12, Rw 5 ((l90 ++ marks).map B8))], [(g7, Rw 5 ((l83 ++ marks).map B8))], E55, E40, E31] w159 := H162.foc 8 rfl rfl
        have H164 : St w [] [E31, [(g20, Rw 31 ([I (fr), I (to), slv 1 (0) (l.length) (.slice (some (bs g12)) ((l).length + 8) ((l).length + 8))]))], [(g1, Rw 31 ([I (fr), I (to), bv]))], E157, [(g145, Rw 31 ([I ((0 : Nat) : Int), I ((0 : Nat) : Int), .slice none 0 0]))], [(g12, Rw 5 ((l90 ++ marks).map B8))], [(g7, Rw 5 ((l83 ++ marks).map B8))], E55, E40] w159 := H163.foc 8 rfl rfl
        have H165 : St w [] [E40, E31, [(g20, Rw 31 ([I (fr), I (to), slv 1 (0) (l.length) (.slice (some (bs g12)) ((l).length + 8) ((l).length + 8))]))], [(g1, Rw 31 ([I (fr), I (to), bv]))], E157, [(g145, Rw 31 ([I ((0 : Nat) : Int), I ((0 : Nat) : Int), .slice none 0 0]))], [(g12, Rw 5 ((l90 ++ marks).map B8))], [(g7, Rw 5 ((l83 ++ marks).map B8))], E55] w159 := H164.foc 8 rfl rfl
        have H166 : St w [] [E55, E40, E31, [(g20, Rw 31 ([I (fr), I (to), slv 1 (0) (l.length) (.slice (some (bs g12)) ((l).length + 8) ((l).length + 8))]))], [(g1, Rw 31 ([I (fr), I (to), bv]))], E157, [(g145, Rw 31 ([I ((0 : Nat) : Int), I ((0 : Nat) : Int), .slice none 0 0]))], [(g12, Rw 5 ((l90 ++ marks).map B8))], [(g7, Rw 5 ((l83 ++ marks).map B8))]] w159 := H165.foc 8 rfl rfl
        have H167 : St w [] [[(g7, Rw 5 ((l83 ++ marks).map B8))], E55, E40, E31, [(g20, Rw 31 ([I (fr), I (to), slv 1 (0) (l.length) (.slice (some (bs g12)) ((l).length + 8) ((l).length + 8))]))], [(g1, Rw 31 ([I (fr), I (to), bv]))], E157, [(g145, Rw 31 ([I ((0 : Nat) : Int), I ((0 : Nat) : Int), .slice none 0 0]))], [(g12, Rw 5 ((l90 ++ marks).map B8))]] w159 := H166.foc 8 rfl rfl
        have H168 : St w [] [[(g12, Rw 5 ((l90 ++ marks).map B8))], [(g7, Rw 5 ((l83 ++ marks).map B8))], E55, E40, E31, [(g20, Rw 31 ([I (fr), I (to), slv 1 (0) (l.length) (.slice (some (bs g12)) ((l).length + 8) ((l).length + 8))]))], [(g1, Rw 31 ([I (fr), I (to), bv]))], E157, [(g145, Rw 31 ([I ((0 : Nat) : Int), I ((0 : Nat) : Int), .slice none 0 0]))]] w159 := H167.foc 8 rfl rfl
        have H169 : St w [] [[(g12, Rw 5 ((l90 ++ marks).map B8))], [(g7, Rw 5 ((l83 ++ marks).map B8))], E55, E40, E31, [(g20, Rw 31 ([I (fr), I (to), slv 1 (0) (l.length) (.slice (some (bs g12)) ((l).length + 8) ((l).length + 8))]))], [(g1, Rw 31 ([I (fr), I (to), bv]))]] w159 := H168.take 7 rfl
        refine ⟨H169, ?_⟩
        obtain ⟨pa170, pc171, rfl, -⟩ := (ho161.rd H160 0 rfl).shape
        refine pt (v := .agg ([I (fr), I (to), (.slice pa170 (((l90 ++ marks).take l.length).length) pc171)]).toArray) rfl (fun wS HS => y_build (pv := [(0, I (fr)), (1, I (to)), (2, (.slice pa170 (((l90 ++ marks).take l.length).length) pc171))]) (us := [I (fr), I (to), (.slice pa170 (((l90 ++ marks).take l.length).length) pc171)]) ⟨⟨rfl, rfl⟩, ⟨rfl, rfl⟩, ⟨rfl, rfl⟩, trivial⟩ (by kernel_rfl)) ?_
        have H172 : St w [] [[(g145, Rw 31 ([I ((0 : Nat) : Int), I ((0 : Nat) : Int), .slice none 0 0]))], E157, [(g12, Rw 5 ((l90 ++ marks).map B8))], [(g7, Rw 5 ((l83 ++ marks).map B8))], E55, E40, E31, [(g20, Rw 31 ([I (fr), I (to), slv 1 (0) (l.length) (.slice (some (bs g12)) ((l).length + 8) ((l).length + 8))]))], [(g1, Rw 31 ([I (fr), I (to), bv]))]] w159 := H160.foc 1 rfl rfl
        refine p0 rfl (ow_storeW (us := [I (fr), I (to), (.slice pa170 (((l90 ++ marks).take l.length).length) pc171)]) H172 sz31 rfl rfl rfl (by intro u hu; simp only [List.mem_cons, List.not_mem_nil, or_false] at hu; rcases hu with rfl | rfl | rfl <;> first | rfl | exact Rd.one (ho161.rd H172 1 rfl)) (by simp [*])) ?_
        rintro _ w173 H174'
        have H174 : St w [] [[(g145, Rw 31 ([I (fr), I (to), (.slice pa170 (((l90 ++ marks).take l.length).length) pc171)]))], E157, [(g12, Rw 5 ((l90 ++ marks).map B8))], [(g7, Rw 5 ((l83 ++ marks).map B8))], E55, E40, E31, [(g20, Rw 31 ([I (fr), I (to), slv 1 (0) (l.length) (.slice (some (bs g12)) ((l).length + 8) ((l).length + 8))]))], [(g1, Rw 31 ([I (fr), I (to), bv]))]] w173 := H174'
        have H175 : St w [] [[(g1, Rw 31 ([I (fr), I (to), bv]))], [(g145, Rw 31 ([I (fr), I (to), (.slice pa170 (((l90 ++ marks).take l.length).length) pc171)]))], E157, [(g12, Rw 5 ((l90 ++ marks).map B8))], [(g7, Rw 5 ((l83 ++ marks).map B8))], E55, E40, E31, [(g20, Rw 31 ([I (fr), I (to), slv 1 (0) (l.length) (.slice (some (bs g12)) ((l).length + 8) ((l).length + 8))]))]] w173 := H174.foc 8 rfl rfl
        have H176 : St w [] [[(g20, Rw 31 ([I (fr), I (to), slv 1 (0) (l.length) (.slice (some (bs g12)) ((l).length + 8) ((l).length + 8))]))], [(g1, Rw 31 ([I (fr), I (to), bv]))], [(g145, Rw 31 ([I (fr), I (to), (.slice pa170 (((l90 ++ marks).take l.length).length) pc171)]))], E157, [(g12, Rw 5 ((l90 ++ marks).map B8))], [(g7, Rw 5 ((l83 ++ marks).map B8))], E55, E40, E31] w173 := H175.foc 8 rfl rfl
        have H177 : St w [] [E31, [(g20, Rw 31 ([I (fr), I (to), slv 1 (0) (l.length) (.slice (some (bs g12)) ((l).length + 8) ((l).length + 8))]))], [(g1, Rw 31 ([I (fr), I (to), bv]))], [(g145, Rw 31 ([I (fr), I (to), (.slice pa170 (((l90 ++ marks).take l.length).length) pc171)]))], E157, [(g12, Rw 5 ((l90 ++ marks).map B8))], [(g7, Rw 5 ((l83 ++ marks).map B8))], E55, E40] w173 := H176.foc 8 rfl rfl
        have H178 : St w [] [E40, E31, [(g20, Rw 31 ([I (fr), I (to), slv 1 (0) (l.length) (.slice (some (bs g12)) ((l).length + 8) ((l).length + 8))]))], [(g1, Rw 31 ([I (fr), I (to), bv]))], [(g145, Rw 31 ([I (fr), I (to), (.slice pa170 (((l90 ++ marks).take l.length).length) pc171)]))], E157, [(g12, Rw 5 ((l90 ++ marks).map B8))], [(g7, Rw 5 ((l83 ++ marks).map B8))], E55] w173 := H177.foc 8 rfl rfl
        have H179 : St w [] [E55, E40, E31, [(g20, Rw 31 ([I (fr), I (to), slv 1 (0) (l.length) (.slice (some (bs g12)) ((l).length + 8) ((l).length + 8))]))], [(g1, Rw 31 ([I (fr), I (to), bv]))], [(g145, Rw 31 ([I (fr), I (to), (.slice pa170 (((l90 ++ marks).take l.length).length) pc171)]))], E157, [(g12, Rw 5 ((l90 ++ marks).map B8))], [(g7, Rw 5 ((l83 ++ marks).map B8))]] w173 := H178.foc 8 rfl rfl
        have H180 : St w [] [[(g7, Rw 5 ((l83 ++ marks).map B8))], E55, E40, E31, [(g20, Rw 31 ([I (fr), I (to), slv 1 (0) (l.length) (.slice (some (bs g12)) ((l).length + 8) ((l).length + 8))]))], [(g1, Rw 31 ([I (fr), I (to), bv]))], [(g145, Rw 31 ([I (fr), I (to), (.slice pa170 (((l90 ++ marks).take l.length).length) pc171)]))], E157, [(g12, Rw 5 ((l90 ++ marks).map B8))]] w173 := H179.foc 8 rfl rfl
        have H181 : St w [] [[(g12, Rw 5 ((l90 ++ marks).map B8))], [(g7, Rw 5 ((l83 ++ marks).map B8))], E55, E40, E31, [(g20, Rw 31 ([I (fr), I (to), slv 1 (0) (l.length) (.slice (some (bs g12)) ((l).length + 8) ((l).length + 8))]))], [(g1, Rw 31 ([I (fr), I (to), bv]))], [(g145, Rw 31 ([I (fr), I (to), (.slice pa170 (((l90 ++ marks).take l.length).length) pc171)]))], E157] w173 := H180.foc 8 rfl rfl
        have H182 : St w [] [[(g12, Rw 5 ((l90 ++ marks).map B8))], [(g7, Rw 5 ((l83 ++ marks).map B8))], E55, E40, E31, [(g20, Rw 31 ([I (fr), I (to), slv 1 (0) (l.length) (.slice (some (bs g12)) ((l).length + 8) ((l).length + 8))]))], [(g1, Rw 31 ([I (fr), I (to), bv]))]] w173 := H181.take 7 rfl
        refine ⟨H182, ?_⟩
        refine p_nil ?_
        exact qj_n ⟨g145, (.slice pa170 (((l90 ++ marks).take l.length).length) pc171), E157, rfl, rfl, rfl, rfl, rfl, rfl, rfl, ho161, H174⟩
      exact a_stop
    refine al rfl (ow_alloc (l := [I ((0 : Nat) : Int), I ((0 : Nat) : Int), .slice none 0 0]) H97 zr31 rfl) ?_ ?_
    · skip
      rintro _ w184 ⟨g183, rfl, H185⟩
      have H186 : St w [] [[(g1, Rw 31 ([I (fr), I (to), bv]))], [(g183, Rw 31 ([I ((0 : Nat) : Int), I ((0 : Nat) : Int), .slice none 0 0]))], [(g12, Rw 5 ((l90 ++ marks).map B8))], [(g7, Rw 5 ((l83 ++ marks).map B8))], E55, E40, E31, [(g20, Rw 31 ([I (fr), I (to), slv 1 (0) (l.length) (.slice (some (bs g12)) ((l).length + 8) ((l).length + 8))]))]] w184 := H185.foc 7 rfl rfl
      have H187 : St w [] [[(g20, Rw 31 ([I (fr), I (to), slv 1 (0) (l.length) (.slice (some (bs g12)) ((l).length + 8) ((l).length + 8))]))], [(g1, Rw 31 ([I (fr), I (to), bv]))], [(g183, Rw 31 ([I ((0 : Nat) : Int), I ((0 : Nat) : Int), .slice none 0 0]))], [(g12, Rw 5 ((l90 ++ marks).map B8))], [(g7, Rw 5 ((l83 ++ marks).map B8))], E55, E40, E31] w184 := H186.foc 7 rfl rfl
      have H188 : St w [] [E31, [(g20, Rw 31 ([I (fr), I (to), slv 1 (0) (l.length) (.slice (some (bs g12)) ((l).length + 8) ((l).length + 8))]))], [(g1, Rw 31 ([I (fr), I (to), bv]))], [(g183, Rw 31 ([I ((0 : Nat) : Int), I ((0 : Nat) : Int), .slice none 0 0]))], [(g12, Rw 5 ((l90 ++ marks).map B8))], [(g7, Rw 5 ((l83 ++ marks).map B8))], E55, E40] w184 := H187.foc 7 rfl rfl
      have H189 : St w [] [E40, E31, [(g20, Rw 31 ([I (fr), I (to), slv 1 (0) (l.length) (.slice (some (bs g12)) ((l).length + 8) ((l).length + 8))]))], [(g1, Rw 31 ([I (fr), I (to), bv]))], [(g183, Rw 31 ([I ((0 : Nat) : Int), I ((0 : Nat) : Int), .slice none 0 0]))], [(g12, Rw 5 ((l90 ++ marks).map B8))], [(g7, Rw 5 ((l83 ++ marks).map B8))], E55] w184 := H188.foc 7 rfl rfl
      have H190 : St w [] [E55, E40, E31, [(g20, Rw 31 ([I (fr), I (to), slv 1 (0) (l.length) (.slice (some (bs g12)) ((l).length + 8) ((l).length + 8))]))], [(g1, Rw 31 ([I (fr), I (to), bv]))], [(g183, Rw 31 ([I ((0 : Nat) : Int), I ((0 : Nat) : Int), .slice none 0 0]))], [(g12, Rw 5 ((l90 ++ marks).map B8))], [(g7, Rw 5 ((l83 ++ marks).map B8))]] w184 := H189.foc 7 rfl rfl
      have H191 : St w [] [[(g7, Rw 5 ((l83 ++ marks).map B8))], E55, E40, E31, [(g20, Rw 31 ([I (fr), I (to), slv 1 (0) (l.length) (.slice (some (bs g12)) ((l).length + 8) ((l).length + 8))]))], [(g1, Rw 31 ([I (fr), I (to), bv]))], [(g183, Rw 31 ([I ((0 : Nat) : Int), I ((0 : Nat) : Int), .slice none 0 0]))], [(g12, Rw 5 ((l90 ++ marks).map B8))]] w184 := H190.foc 7 rfl rfl
      have H192 : St w [] [[(g12, Rw 5 ((l90 ++ marks).map B8))], [(g7, Rw 5 ((l83 ++ marks).map B8))], E55, E40, E31, [(g20, Rw 31 ([I (fr), I (to), slv 1 (0) (l.length) (.slice (some (bs g12)) ((l).length + 8) ((l).length + 8))]))], [(g1, Rw 31 ([I (fr), I (to), bv]))], [(g183, Rw 31 ([I ((0 : Nat) : Int), I ((0 : Nat) : Int), .slice none 0 0]))]] w184 := H191.foc 7 rfl rfl
      have H193 : St w [] [[(g12, Rw 5 ((l90 ++ marks).map B8))], [(g7, Rw 5 ((l83 ++ marks).map B8))], E55, E40, E31, [(g20, Rw 31 ([I (fr), I (to), slv 1 (0) (l.length) (.slice (some (bs g12)) ((l).length + 8) ((l).length + 8))]))], [(g1, Rw 31 ([I (fr), I (to), bv]))]] w184 := H192.take 7 rfl
      refine ⟨H193, ?_⟩
      refine pl rfl (ow_buildSlice (pv := []) (us := []) Try.underlying23 sz5 zr5 H185 trivial (by decide) fill0) ?_
      rintro _ w195 ⟨g194, rfl, H196⟩
      have H197 : St w [] [[(g1, Rw 31 ([I (fr), I (to), bv]))], [(g194, Rw 5 ([]))], [(g183, Rw 31 ([I ((0 : Nat) : Int), I ((0 : Nat) : Int), .slice none 0 0]))], [(g12, Rw 5 ((l90 ++ marks).map B8))], [(g7, Rw 5 ((l83 ++ marks).map B8))], E55, E40, E31, [(g20, Rw 31 ([I (fr), I (to), slv 1 (0) (l.length) (.slice (some (bs g12)) ((l).length + 8) ((l).length + 8))]))]] w195 := H196.foc 8 rfl rfl
      have H198 : St w [] [[(g20, Rw 31 ([I (fr), I (to), slv 1 (0) (l.length) (.slice (some (bs g12)) ((l).length + 8) ((l).length + 8))]))], [(g1, Rw 31 ([I (fr), I (to), bv]))], [(g194, Rw 5 ([]))], [(g183, Rw 31 ([I ((0 : Nat) : Int), I ((0 : Nat) : Int), .slice none 0 0]))], [(g12, Rw 5 ((l90 ++ marks).map B8))], [(g7, Rw 5 ((l83 ++ marks).map B8))], E55, E40, E31] w195 := H197.foc 8 rfl rfl
      have H199 : St w [] [E31, [(g20, Rw 31 ([I (fr), I (to), slv 1 (0) (l.length) (.slice (some (bs g12)) ((l).length + 8) ((l).length + 8))]))], [(g1, Rw 31 ([I (fr), I (to), bv]))], [(g194, Rw 5 ([]))], [(g183, Rw 31 ([I ((0 : Nat) : Int), I ((0 : Nat) : Int), .slice none 0 0]))], [(g12, Rw 5 ((l90 ++ marks).map B8))], [(g7, Rw 5 ((l83 ++ marks).map B8))], E55, E40] w195 := H198.foc 8 rfl rfl
      have H200 : St w [] [E40, E31, [(g20, Rw 31 ([I (fr), I (to), slv 1 (0) (l.length) (.slice (some (bs g12)) ((l).length + 8) ((l).length + 8))]))], [(g1, Rw 31 ([I (fr), I (to), bv]))], [(g194, Rw 5 ([]))], [(g183, Rw 31 ([I ((0 : Nat) : Int), I ((0 : Nat) : Int), .slice none 0 0]))], [(g12, Rw 5 ((l90 ++ marks).map B8))], [(g7, Rw 5 ((l83 ++ marks).map B8))], E55] w195 := H199.foc 8 rfl rfl
      have H201 : St w [] [E55, E40, E31, [(g20, Rw 31 ([I (fr), I (to), slv 1 (0) (l.length) (.slice (some (bs g12)) ((l).length + 8) ((l).length + 8))]))], [(g1, Rw 31 ([I (fr), I (to), bv]))], [(g194, Rw 5 ([]))], [(g183, Rw 31 ([I ((0 : Nat) : Int), I ((0 : Nat) : Int), .slice none 0 0]))], [(g12, Rw 5 ((l90 ++ marks).map B8))], [(g7, Rw 5 ((l83 ++ marks).map B8))]] w195 := H200.foc 8 rfl rfl
      have H202 : St w [] [[(g7, Rw 5 ((l83 ++ marks).map B8))], E55, E40, E31, [(g20, Rw 31 ([I (fr), I (to), slv 1 (0) (l.length) (.slice (some (bs g12)) ((l).length + 8) ((l).length + 8))]))], [(g1, Rw 31 ([I (fr), I (to), bv]))], [(g194, Rw 5 ([]))], [(g183, Rw 31 ([I ((0 : Nat) : Int), I ((0 : Nat) : Int), .slice none 0 0]))], [(g12, Rw 5 ((l90 ++ marks).map B8))]] w195 := H201.foc 8 rfl rfl
      have H203 : St w [] [[(g12, Rw 5 ((l90 ++ marks).map B8))], [(g7, Rw 5 ((l83 ++ marks).map B8))], E55, E40, E31, [(g20, Rw 31 ([I (fr), I (to), slv 1 (0) (l.length) (.slice (some (bs g12)) ((l).length + 8) ((l).length + 8))]))], [(g1, Rw 31 ([I (fr), I (to), bv]))], [(g194, Rw 5 ([]))], [(g183, Rw 31 ([I ((0 : Nat) : Int), I ((0 : Nat) : Int), .slice none 0 0]))]] w195 := H202.foc 8 rfl rfl
      have H204 : St w [] [[(g12, Rw 5 ((l90 ++ marks).map B8))], [(g7, Rw 5 ((l83 ++ marks).map B8))], E55, E40, E31, [(g20, Rw 31 ([I (fr), I (to), slv 1 (0) (l.length) (.slice (some (bs g12)) ((l).length + 8) ((l).length + 8))]))], [(g1, Rw 31 ([I (fr), I (to), bv]))]] w195 := H203.take 7 rfl
      refine ⟨H204, ?_⟩
      refine pl rfl (ow_append Try.underlying23 sz5 zr5 bt5 rfl (os_lit (k := 0) rfl (by simp [maxLen])) H196 rfl rfl ((rdb_pre (rd_arr H196 2 rfl hw92 (by unfold maxLen; omega)) (by omega)).src Try.underlying23 (map_one (F := B8) (fun _ => rfl) _)) (by first | omega | (simp only [List.length_append, List.length_cons, List.length_nil, List.length_take, List.length_drop, hmac_length, sha_length, List.length_replicate]; omega)) (by first | omega | (simp only [List.length_append, List.length_cons, List.length_nil, List.length_take, List.length_drop, hmac_length, sha_length, List.length_replicate]; omega))) ?_
      rintro v206 w207 ⟨E205, ho209', H208⟩
      have ho209 : OS 5 1 v206 ((l90 ++ marks).take l.length).length (((l90 ++ marks).take l.length).map B8) E205 := by first | (have h := ho209'; rw [Nat.zero_add, List.nil_append] at h; exact h) | simpa using ho209'
      have H210 : St w [] [[(g1, Rw 31 ([I (fr), I (to), bv]))], E205, [(g183, Rw 31 ([I ((0 : Nat) : Int), I ((0 : Nat) : Int), .slice none 0 0]))], [(g12, Rw 5 ((l90 ++ marks).map B8))], [(g7, Rw 5 ((l83 ++ marks).map B8))], E55, E40, E31, [(g20, Rw 31 ([I (fr), I (to), slv 1 (0) (l.length) (.slice (some (bs g12)) ((l).length + 8) ((l).length + 8))]))]] w207 := H208.foc 8 rfl rfl
      have H211 : St w [] [[(g20, Rw 31 ([I (fr), I (to), slv 1 (0) (l.length) (.slice (some (bs g12)) ((l).length + 8) ((l).length + 8))]))], [(g1, Rw 31 ([I (fr), I (to), bv]))], E205, [(g183, Rw 31 ([I ((0 : Nat) : Int), I ((0 : Nat) : Int), .slice none 0 0]))], [(g12, Rw 5 ((l90 ++ marks).map B8))], [(g7, Rw 5 ((l83 ++ marks).map B8))], E55, E40, E31] w207 := H210.foc 8 rfl rfl
      have H212 : St w [] [E31, [(g20, Rw 31 ([I (fr), I (to), slv 1 (0) (l.length) (.slice (some (bs g12)) ((l).length + 8) ((l).length + 8))]))], [(g1, Rw 31 ([I (fr), I (to), bv]))], E205, [(g183, Rw 31 ([I ((0 : Nat) : Int), I ((0 : Nat) : Int), .slice none 0 0]))], [(g12, Rw 5 ((l90 ++ marks).map B8))], [(g7, Rw 5 ((l83 ++ marks).map B8))], E55, E40] w207 := H211.foc 8 rfl rfl
      have H213 : St w [] [E40, E31, [(g20, Rw 31 ([I (fr), I (to), slv 1 (0) (l.length) (.slice (some (bs g12)) ((l).length + 8) ((l).length + 8))]))], [(g1, Rw 31 ([I (fr), I (to), bv]))], E205, [(g183, Rw 31 ([I ((0 : Nat) : Int), I ((0 : Nat) : Int), .slice none 0 0]))], [(g12, Rw 5 ((l90 ++ marks).map B8))], [(g7, Rw 5 ((l83 ++ marks).map B8))], E55] w207 := H212.foc 8 rfl rfl
      have H214 : St w [] [E55, E40, E31, [(g20, Rw 31 ([I (fr), I (to), slv 1 (0) (l.length) (.slice (some (bs g12)) ((l).length + 8) ((l).length + 8))]))], [(g1, Rw 31 ([I (fr), I (to), bv]))], E205, [(g183, Rw 31 ([I ((0 : Nat) : Int), I ((0 : Nat) : Int), .slice none 0 0]))], [(g12, Rw 5 ((l90 ++ marks).map B8))], [(g7, Rw 5 ((l83 ++ marks).map B8))]] w207 := H213.foc 8 rfl rfl
      have H215 : St w [] [[(g7, Rw 5 ((l83 ++ marks).map B8))], E55, E40, E31, [(g20, Rw 31 ([I (fr), I (to), slv 1 (0) (l.length) (.slice (some (bs g12)) ((l).length + 8) ((l).length + 8))]))], [(g1, Rw 31 ([I (fr), I (to), bv]))], E205, [(g183, Rw 31 ([I ((0 : Nat) : Int), I ((0 : Nat) : Int), .slice none 0 0]))], [(g12, Rw 5 ((l90 ++ marks).map B8))]] w207 := H214.foc 8 rfl rfl
      have H216 : St w [] [[(g12, Rw 5 ((l90 ++ marks).map B8))], [(g7, Rw 5 ((l83 ++ marks).map B8))], E55, E40, E31, [(g20, Rw 31 ([I (fr), I (to), slv 1 (0) (l.length) (.slice (some (bs g12)) ((l).length + 8) ((l).length + 8))]))], [(g1, Rw 31 ([I (fr), I (to), bv]))], E205, [(g183, Rw 31 ([I ((0 : Nat) : Int), I ((0 : Nat) : Int), .slice none 0 0]))]] w207 := H215.foc 8 rfl rfl
      have H217 : St w [] [[(g12, Rw 5 ((l90 ++ marks).map B8))], [(g7, Rw 5 ((l83 ++ marks).map B8))], E55, E40, E31, [(g20, Rw 31 ([I (fr), I (to), slv 1 (0) (l.length) (.slice (some (bs g12)) ((l).length + 8) ((l).length + 8))]))], [(g1, Rw 31 ([I (fr), I (to), bv]))]] w207 := H216.take 7 rfl
      refine ⟨H217, ?_⟩
      obtain ⟨pa218, pc219, rfl, -⟩ := (ho209.rd H208 0 rfl).shape
      refine pt (v := .agg ([I (fr), I (to), (.slice pa218 (((l90 ++ marks).take l.length).length) pc219)]).toArray) rfl (fun wS HS => y_build (pv := [(0, I (fr)), (1, I (to)), (2, (.slice pa218 (((l90 ++ marks).take l.length).length) pc219))]) (us := [I (fr), I (to), (.slice pa218 (((l90 ++ marks).take l.length).length) pc219)]) ⟨⟨rfl, rfl⟩, ⟨rfl, rfl⟩, ⟨rfl, rfl⟩, trivial⟩ (by kernel_rfl)) ?_
      have H220 : St w [] [[(g183, Rw 31 ([I ((0 : Nat) : Int), I ((0 : Nat) : Int), .slice none 0 0]))], E205, [(g12, Rw 5 ((l90 ++ marks).map B8))], [(g7, Rw 5 ((l83 ++ marks).map B8))], E55, E40, E31, [(g20, Rw 31 ([I (fr), I (to), slv 1 (0) (l.length) (.slice (some (bs g12)) ((l).length + 8) ((l).length + 8))]))], [(g1, Rw 31 ([I (fr), I (to), bv]))]] w207 := H208.foc 1 rfl rfl
      refine p0 rfl (ow_storeW (us := [I (fr), I (to), (.slice pa218 (((l90 ++ marks).take l.length).length) pc219)]) H220 sz31 rfl rfl rfl (by intro u hu; simp only [List.mem_cons, List.not_mem_nil, or_false] at hu; rcases hu with rfl | rfl | rfl <;> first | rfl | exact Rd.one (ho209.rd H220 1 rfl)) (by simp [*])) ?_
      rintro _ w221 H222'
      have H222 : St w [] [[(g183, Rw 31 ([I (fr), I (to), (.slice pa218 (((l90 ++ marks).take l.length).length) pc219)]))], E205, [(g12, Rw 5 ((l90 ++ marks).map B8))], [(g7, Rw 5 ((l83 ++ marks).map B8))], E55, E40, E31, [(g20, Rw 31 ([I (fr), I (to), slv 1 (0) (l.length) (.slice (some (bs g12)) ((l).length + 8) ((l).length + 8))]))], [(g1, Rw 31 ([I (fr), I (to), bv]))]] w221 := H222'
      have H223 : St w [] [[(g1, Rw 31 ([I (fr), I (to), bv]))], [(g183, Rw 31 ([I (fr), I (to), (.slice pa218 (((l90 ++ marks).take l.length).length) pc219)]))], E205, [(g12, Rw 5 ((l90 ++ marks).map B8))], [(g7, Rw 5 ((l83 ++ marks).map B8))], E55, E40, E31, [(g20, Rw 31 ([I (fr), I (to), slv 1 (0) (l.length) (.slice (some (bs g12)) ((l).length + 8) ((l).length + 8))]))]] w221 := H222.foc 8 rfl rfl
      have H224 : St w [] [[(g20, Rw 31 ([I (fr), I (to), slv 1 (0) (l.length) (.slice (some (bs g12)) ((l).length + 8) ((l).length + 8))]))], [(g1, Rw 31 ([I (fr), I (to), bv]))], [(g183, Rw 31 ([I (fr), I (to), (.slice pa218 (((l90 ++ marks).take l.length).length) pc219)]))], E205, [(g12, Rw 5 ((l90 ++ marks).map B8))], [(g7, Rw 5 ((l83 ++ marks).map B8))], E55, E40, E31] w221 := H223.foc 8 rfl rfl
      have H225 : St w [] [E31, [(g20, Rw 31 ([I (fr), I (to), slv 1 (0) (l.length) (.slice (some (bs g12)) ((l).length + 8) ((l).length + 8))]))], [(g1, Rw 31 ([I (fr), I (to), bv]))], [(g183, Rw 31 ([I (fr), I (to), (.slice pa218 (((l90 ++ marks).take l.length).length) pc219)]))], E205, [(g12, Rw 5 ((l90 ++ marks).map B8))], [(g7, Rw 5 ((l83 ++ marks).map B8))], E55, E40] w221 := H224.foc 8 rfl rfl
      have H226 : St w [] [E40, E31, [(g20, Rw 31 ([I (fr), I (to), slv 1 (0) (l.length) (.slice (some (bs g12)) ((l).length + 8) ((l).length + 8))]))], [(g1, Rw 31 ([I (fr), I (to), bv]))], [(g183, Rw 31 ([I (fr), I (to), (.slice pa218 (((l90 ++ marks).take l.length).length) pc219)]))], E205, [(g12, Rw 5 ((l90 ++ marks).map B8))], [(g7, Rw 5 ((l83 ++ marks).map B8))], E55] w221 := H225.foc 8 rfl rfl
      have H227 : St w [] [E55, E40, E31, [(g20, Rw 31 ([I (fr), I (to), slv 1 (0) (l.length) (.slice (some (bs g12)) ((l).length + 8) ((l).length + 8))]))], [(g1, Rw 31 ([I (fr), I (to), bv]))], [(g183, Rw 31 ([I (fr), I (to), (.slice pa218 (((l90 ++ marks).take l.length).length) pc219)]))], E205, [(g12, Rw 5 ((l90 ++ marks).map B8))], [(g7, Rw 5 ((l83 ++ marks).map B8))]] w221 := H226.foc 8 rfl rfl
      have H228 : St w [] [[(g7, Rw 5 ((l83 ++ marks).map B8))], E55, E40, E31, [(g20, Rw 31 ([I (fr), I (to), slv 1 (0) (l.length) (.slice (some (bs g12)) ((l).length + 8) ((l).length + 8))]))], [(g1, Rw 31 ([I (fr), I (to), bv]))], [(g183, Rw 31 ([I (fr), I (to), (.slice pa218 (((l90 ++ marks).take l.length).length) pc219)]))], E205, [(g12, Rw 5 ((l90 ++ marks).map B8))]] w221 := H227.foc 8 rfl rfl
      have H229 : St w [] [[(g12, Rw 5 ((l90 ++ marks).map B8))], [(g7, Rw 5 ((l83 ++ marks).map B8))], E55, E40, E31, [(g20, Rw 31 ([I (fr), I (to), slv 1 (0) (l.length) (.slice (some (bs g12)) ((l).length + 8) ((l).length + 8))]))], [(g1, Rw 31 ([I (fr), I (to), bv]))], [(g183, Rw 31 ([I (fr), I (to), (.slice pa218 (((l90 ++ marks).take l.length).length) pc219)]))], E205] w221 := H228.foc 8 rfl rfl
      have H230 : St w [] [[(g12, Rw 5 ((l90 ++ marks).map B8))], [(g7, Rw 5 ((l83 ++ marks).map B8))], E55, E40, E31, [(g20, Rw 31 ([I (fr), I (to), slv 1 (0) (l.length) (.slice (some (bs g12)) ((l).length + 8) ((l).length + 8))]))], [(g1, Rw 31 ([I (fr), I (to), bv]))]] w221 := H229.take 7 rfl
      refine ⟨H230, ?_⟩
      refine p_nil ?_
      exact qj_n ⟨g183, (.slice pa218 (((l90 ++ marks).take l.length).length) pc219), E205, rfl, rfl, rfl, rfl, rfl, rfl, rfl, ho209, H222⟩
    exact a_stop
  · skip
    rintro f94 w95 ⟨gtw, tw, ETW, s0_231, s6_231, s8_231, s9_231, s11_231, s13_231, s19_231, hoTW, H231⟩
    refine n_then ?_
    refine c_seq ?_
    refine drawS (.step 0 0 (.step 0 1 (.step 0 2 (.step 0 3 (.step 0 4 (.step 1 5 (.step 0 6 (.step 0 7 (.step 0 8 (.step 0 9 (.step 2 10 .nil))))))))))) mixed H231 (by kernel_rfl) (by kernel_rfl) (by kernel_rfl) ?_
    intro w232 H233
    refine pt (v := .slice (some (bs g7)) ((lk).length + 8) ((lk).length + 8)) rfl (fun wS HS => y_move s6_231) ?_
    refine pt (v := v0) rfl (fun wS HS => y_move s0_231) ?_
    refine pt (v := I ((lk.length : Nat) : Int)) rfl (fun wS HS => y_lenR Try.underlying23 (hK.st HS) rfl) ?_
    have hL234 : ((l83 ++ marks).take lk.length).length = lk.length := by rw [List.length_take]; omega
    refine pt (v := slv 1 (0) (lk.length) (.slice (some (bs g7)) ((lk).length + 8) ((lk).length + 8))) rfl (fun wS HS => y_slR (k1 := .i64) (k2 := .i64) (l := 0) (h := lk.length) Try.underlying23 sz5 (rd_arr HS 3 rfl hw85 (by unfold maxLen; omega)) rfl (.inl ⟨rfl, rfl⟩) (.inr ⟨_, rfl, rfl⟩) (by omega) (by omega)) ?_
    refine pt (v := .agg ([I (fr), I (to), tw]).toArray) rfl (fun wS HS => y_loadA (us := [I (fr), I (to), tw]) ag31 sz31 rfl s19_231 (fun j u hu => (HS.cell 0 rfl (by rw [Nat.zero_add]; exact hu)))) ?_
    refine pl rfl (ow_call fn27 rfl (rseal_c (slv 1 (0) (lk.length) (.slice (some (bs g7)) ((lk).length + 8) ((lk).length + 8))) (tw) ((l83 ++ marks).take lk.length) (fr) (to) ((l90 ++ marks).take l.length) _ ((rdb_pre (rd_arr H233 3 rfl hw85 (by unfold maxLen; omega)) (by omega))).nil ((hoTW.rd H233 1 rfl)).nil (by first | omega | (simp only [List.length_take]; omega))) ⟨rfl, rfl, trivial⟩) ?_
    rintro _ w236 ⟨v235, E237, rfl, ho238, H239⟩
    have H240 : St w [] [E237, [(gtw, Rw 31 ([I (fr), I (to), tw]))], ETW, [(g12, Rw 5 ((l90 ++ marks).map B8))], [(g7, Rw 5 ((l83 ++ marks).map B8))], E55, E40, E31, [(g20, Rw 31 ([I (fr), I (to), slv 1 (0) (l.length) (.slice (some (bs g12)) ((l).length + 8) ((l).length + 8))]))], [(g1, Rw 31 ([I (fr), I (to), bv]))]] w236 := H233.app H239
    have H241 : St w [] [[(g1, Rw 31 ([I (fr), I (to), bv]))], E237, [(gtw, Rw 31 ([I (fr), I (to), tw]))], ETW, [(g12, Rw 5 ((l90 ++ marks).map B8))], [(g7, Rw 5 ((l83 ++ marks).map B8))], E55, E40, E31, [(g20, Rw 31 ([I (fr), I (to), slv 1 (0) (l.length) (.slice (some (bs g12)) ((l).length + 8) ((l).length + 8))]))]] w236 := H240.foc 9 rfl rfl
    have H242 : St w [] [[(g20, Rw 31 ([I (fr), I (to), slv 1 (0) (l.length) (.slice (some (bs g12)) ((l).length + 8) ((l).length + 8))]))], [(g1, Rw 31 ([I (fr), I (to), bv]))], E237, [(gtw, Rw 31 ([I (fr), I (to), tw]))], ETW, [(g12, Rw 5 ((l90 ++ marks).map B8))], [(g7, Rw 5 ((l83 ++ marks).map B8))], E55, E40, E31] w236 := H241.foc 9 rfl rfl
    have H243 : St w [] [E31, [(g20, Rw 31 ([I (fr), I (to), slv 1 (0) (l.length) (.slice (some (bs g12)) ((l).length + 8) ((l).length + 8))]))], [(g1, Rw 31 ([I (fr), I (to), bv]))], E237, [(gtw, Rw 31 ([I (fr), I (to), tw]))], ETW, [(g12, Rw 5 ((l90 ++ marks).map B8))], [(g7, Rw 5 ((l83 ++ marks).map B8))], E55, E40] w236 := H242.foc 9 rfl rfl
    have H244 : St w [] [E40, E31, [(g20, Rw 31 ([I (fr), I (to), slv 1 (0) (l.length) (.slice (some (bs g12)) ((l).length + 8) ((l).length + 8))]))], [(g1, Rw 31 ([I (fr), I (to), bv]))], E237, [(gtw, Rw 31 ([I (fr), I (to), tw]))], ETW, [(g12, Rw 5 ((l90 ++ marks).map B8))], [(g7, Rw 5 ((l83 ++ marks).map B8))], E55] w236 := H243.foc 9 rfl rfl
    have H245 : St w [] [E55, E40, E31, [(g20, Rw 31 ([I (fr), I (to), slv 1 (0) (l.length) (.slice (some (bs g12)) ((l).length + 8) ((l).length + 8))]))], [(g1, Rw 31 ([I (fr), I (to), bv]))], E237, [(gtw, Rw 31 ([I (fr), I (to), tw]))], ETW, [(g12, Rw 5 ((l90 ++ marks).map B8))], [(g7, Rw 5 ((l83 ++ marks).map B8))]] w236 := H244.foc 9 rfl rfl
    have H246 : St w [] [[(g7, Rw 5 ((l83 ++ marks).map B8))], E55, E40, E31, [(g20, Rw 31 ([I (fr), I (to), slv 1 (0) (l.length) (.slice (some (bs g12)) ((l).length + 8) ((l).length + 8))]))], [(g1, Rw 31 ([I (fr), I (to), bv]))], E237, [(gtw, Rw 31 ([I (fr), I (to), tw]))], ETW, [(g12, Rw 5 ((l90 ++ marks).map B8))]] w236 := H245.foc 9 rfl rfl
    have H247 : St w [] [[(g12, Rw 5 ((l90 ++ marks).map B8))], [(g7, Rw 5 ((l83 ++ marks).map B8))], E55, E40, E31, [(g20, Rw 31 ([I (fr), I (to), slv 1 (0) (l.length) (.slice (some (bs g12)) ((l).length + 8) ((l).length + 8))]))], [(g1, Rw 31 ([I (fr), I (to), bv]))], E237, [(gtw, Rw 31 ([I (fr), I (to), tw]))], ETW] w236 := H246.foc 9 rfl rfl
    have H248 : St w [] [ETW, [(g12, Rw 5 ((l90 ++ marks).map B8))], [(g7, Rw 5 ((l83 ++ marks).map B8))], E55, E40, E31, [(g20, Rw 31 ([I (fr), I (to), slv 1 (0) (l.length) (.slice (some (bs g12)) ((l).length + 8) ((l).length + 8))]))], [(g1, Rw 31 ([I (fr), I (to), bv]))], E237, [(gtw, Rw 31 ([I (fr), I (to), tw]))]] w236 := H247.foc 9 rfl rfl
    have H249 : St w [] [[(gtw, Rw 31 ([I (fr), I (to), tw]))], ETW, [(g12, Rw 5 ((l90 ++ marks).map B8))], [(g7, Rw 5 ((l83 ++ marks).map B8))], E55, E40, E31, [(g20, Rw 31 ([I (fr), I (to), slv 1 (0) (l.length) (.slice (some (bs g12)) ((l).length + 8) ((l).length + 8))]))], [(g1, Rw 31 ([I (fr), I (to), bv]))], E237] w236 := H248.foc 9 rfl rfl
    have H250 : St w [] [[(gtw, Rw 31 ([I (fr), I (to), tw]))], ETW, [(g12, Rw 5 ((l90 ++ marks).map B8))], [(g7, Rw 5 ((l83 ++ marks).map B8))], E55, E40, E31, [(g20, Rw 31 ([I (fr), I (to), slv 1 (0) (l.length) (.slice (some (bs g12)) ((l).length + 8) ((l).length + 8))]))], [(g1, Rw 31 ([I (fr), I (to), bv]))]] w236 := H249.take 9 rfl
    refine ⟨H250, ?_⟩
    refine pt (v := .tuple #[v235, I ((sealEr ((l83 ++ marks).take lk.length) (fr) (to) ((l90 ++ marks).take l.length) : Nat) : Int)]) rfl (fun wS HS => y_move rfl) ?_
    refine pt (v := v235) rfl (fun wS HS => y_extract (i := 0) rfl rfl) ?_
    refine pt (v := I ((sealEr ((l83 ++ marks).take lk.length) (fr) (to) ((l90 ++ marks).take l.length) : Nat) : Int)) rfl (fun wS HS => y_extract (i := 1) rfl rfl) ?_
    refine pt (v := v235) rfl (fun wS HS => y_assign rfl) ?_
    refine tly (v := I ((sealEr ((l83 ++ marks).take lk.length) (fr) (to) ((l90 ++ marks).take l.length) : Nat) : Int)) rfl (y_assign rfl) ?_
    refine p_nil ?_
    refine n_then ?_
    refine c_seq ?_
    refine drawS (.step 0 0 (.step 0 1 (.step 0 2 (.step 0 3 (.step 0 4 (.step 1 5 (.step 0 6 (.step 0 7 (.step 0 8 (.step 0 9 (.step 2 10 .nil))))))))))) mixed H240 (by kernel_rfl) (by kernel_rfl) (by kernel_rfl) ?_
    intro w251 H252
    refine pt (v := .slice (some (bs g7)) ((lk).length + 8) ((lk).length + 8)) rfl (fun wS HS => y_move s6_231) ?_
    refine pt (v := v0) rfl (fun wS HS => y_move s0_231) ?_
    refine pt (v := I ((lk.length : Nat) : Int)) rfl (fun wS HS => y_lenR Try.underlying23 (hK.st HS) rfl) ?_
    have hL253 : ((l83 ++ marks).take lk.length).length = lk.length := by rw [List.length_take]; omega
    refine pt (v := slv 1 (0) (lk.length) (.slice (some (bs g7)) ((lk).length + 8) ((lk).length + 8))) rfl (fun wS HS => y_slR (k1 := .i64) (k2 := .i64) (l := 0) (h := lk.length) Try.underlying23 sz5 (rd_arr HS 4 rfl hw85 (by unfold maxLen; omega)) rfl (.inl ⟨rfl, rfl⟩) (.inr ⟨_, rfl, rfl⟩) (by omega) (by omega)) ?_
    refine pt (v := .agg ([I (fr), I (to), slv 1 (0) (l.length) (.slice (some (bs g12)) ((l).length + 8) ((l).length + 8))]).toArray) rfl (fun wS HS => y_loadA (us := [I (fr), I (to), slv 1 (0) (l.length) (.slice (some (bs g12)) ((l).length + 8) ((l).length + 8))]) ag31 sz31 rfl s8_231 (fun j u hu => (HS.cell 8 rfl (by rw [Nat.zero_add]; exact hu)))) ?_
    refine pl rfl (ow_call fn28 rfl (seal_c (slv 1 (0) (lk.length) (.slice (some (bs g7)) ((lk).length + 8) ((lk).length + 8))) (slv 1 (0) (l.length) (.slice (some (bs g12)) ((l).length + 8) ((l).length + 8))) ((l83 ++ marks).take lk.length) (fr) (to) ((l90 ++ marks).take l.length) _ ((rdb_pre (rd_arr H252 4 rfl hw85 (by unfold maxLen; omega)) (by omega))).nil ((rdb_pre (rd_arr H252 3 rfl hw92 (by unfold maxLen; omega)) (by omega))).nil (by first | omega | (simp only [List.length_take]; omega))) ⟨rfl, rfl, trivial⟩) ?_
    rintro _ w255 ⟨v254, E256, rfl, ho257, H258⟩
    have H259 : St w [] [E256, E237, [(gtw, Rw 31 ([I (fr), I (to), tw]))], ETW, [(g12, Rw 5 ((l90 ++ marks).map B8))], [(g7, Rw 5 ((l83 ++ marks).map B8))], E55, E40, E31, [(g20, Rw 31 ([I (fr), I (to), slv 1 (0) (l.length) (.slice (some (bs g12)) ((l).length + 8) ((l).length + 8))]))], [(g1, Rw 31 ([I (fr), I (to), bv]))]] w255 := H252.app H258
    have H260 : St w [] [[(g1, Rw 31 ([I (fr), I (to), bv]))], E256, E237, [(gtw, Rw 31 ([I (fr), I (to), tw]))], ETW, [(g12, Rw 5 ((l90 ++ marks).map B8))], [(g7, Rw 5 ((l83 ++ marks).map B8))], E55, E40, E31, [(g20, Rw 31 ([I (fr), I (to), slv 1 (0) (l.length) (.slice (some (bs g12)) ((l).length + 8) ((l).length + 8))]))]] w255 := H259.foc 10 rfl rfl
    have H261 : St w [] [[(g20, Rw 31 ([I (fr), I (to), slv 1 (0) (l.length) (.slice (some (bs g12)) ((l).length + 8) ((l).length + 8))]))], [(g1, Rw 31 ([I (fr), I (to), bv]))], E256, E237, [(gtw, Rw 31 ([I (fr), I (to), tw]))], ETW, [(g12, Rw 5 ((l90 ++ marks).map B8))], [(g7, Rw 5 ((l83 ++ marks).map B8))], E55, E40, E31] w255 := H260.foc 10 rfl rfl
    have H262 : St w [] [E31, [(g20, Rw 31 ([I (fr), I (to), slv 1 (0) (l.length) (.slice (some (bs g12)) ((l).length + 8) ((l).length + 8))]))], [(g1, Rw 31 ([I (fr), I (to), bv]))], E256, E237, [(gtw, Rw 31 ([I (fr), I (to), tw]))], ETW, [(g12, Rw 5 ((l90 ++ marks).map B8))], [(g7, Rw 5 ((l83 ++ marks).map B8))], E55, E40] w255 := H261.foc 10 rfl rfl
    have H263 : St w [] [E40, E31, [(g20, Rw 31 ([I (fr), I (to), slv 1 (0) (l.length) (.slice (some (bs g12)) ((l).length + 8) ((l).length + 8))]))], [(g1, Rw 31 ([I (fr), I (to), bv]))], E256, E237, [(gtw, Rw 31 ([I (fr), I (to), tw]))], ETW, [(g12, Rw 5 ((l90 ++ marks).map B8))], [(g7, Rw 5 ((l83 ++ marks).map B8))], E55] w255 := H262.foc 10 rfl rfl
    have H264 : St w [] [E55, E40, E31, [(g20, Rw 31 ([I (fr), I (to), slv 1 (0) (l.length) (.slice (some (bs g12)) ((l).length + 8) ((l).length + 8))]))], [(g1, Rw 31 ([I (fr), I (to), bv]))], E256, E237, [(gtw, Rw 31 ([I (fr), I (to), tw]))], ETW, [(g12, Rw 5 ((l90 ++ marks).map B8))], [(g7, Rw 5 ((l83 ++ marks).map B8))]] w255 := H263.foc 10 rfl rfl
    have H265 : St w [] [[(g7, Rw 5 ((l83 ++ marks).map B8))], E55, E40, E31, [(g20, Rw 31 ([I (fr), I (to), slv 1 (0) (l.length) (.slice (some (bs g12)) ((l).length + 8) ((l).length + 8))]))], [(g1, Rw 31 ([I (fr), I (to), bv]))], E256, E237, [(gtw, Rw 31 ([I (fr), I (to), tw]))], ETW, [(g12, Rw 5 ((l90 ++ marks).map B8))]] w255 := H264.foc 10 rfl rfl
    have H266 : St w [] [[(g12, Rw 5 ((l90 ++ marks).map B8))], [(g7, Rw 5 ((l83 ++ marks).map B8))], E55, E40, E31, [(g20, Rw 31 ([I (fr), I (to), slv 1 (0) (l.length) (.slice (some (bs g12)) ((l).length + 8) ((l).length + 8))]))], [(g1, Rw 31 ([I (fr), I (to), bv]))], E256, E237, [(gtw, Rw 31 ([I (fr), I (to), tw]))], ETW] w255 := H265.foc 10 rfl rfl
    have H267 : St w [] [ETW, [(g12, Rw 5 ((l90 ++ marks).map B8))], [(g7, Rw 5 ((l83 ++ marks).map B8))], E55, E40, E31, [(g20, Rw 31 ([I (fr), I (to), slv 1 (0) (l.length) (.slice (some (bs g12)) ((l).length + 8) ((l).length + 8))]))], [(g1, Rw 31 ([I (fr), I (to), bv]))], E256, E237, [(gtw, Rw 31 ([I (fr), I (to), tw]))]] w255 := H266.foc 10 rfl rfl
    have H268 : St w [] [[(gtw, Rw 31 ([I (fr), I (to), tw]))], ETW, [(g12, Rw 5 ((l90 ++ marks).map B8))], [(g7, Rw 5 ((l83 ++ marks).map B8))], E55, E40, E31, [(g20, Rw 31 ([I (fr), I (to), slv 1 (0) (l.length) (.slice (some (bs g12)) ((l).length + 8) ((l).length + 8))]))], [(g1, Rw 31 ([I (fr), I (to), bv]))], E256, E237] w255 := H267.foc 10 rfl rfl
    have H269 : St w [] [E237, [(gtw, Rw 31 ([I (fr), I (to), tw]))], ETW, [(g12, Rw 5 ((l90 ++ marks).map B8))], [(g7, Rw 5 ((l83 ++ marks).map B8))], E55, E40, E31, [(g20, Rw 31 ([I (fr), I (to), slv 1 (0) (l.length) (.slice (some (bs g12)) ((l).length + 8) ((l).length + 8))]))], [(g1, Rw 31 ([I (fr), I (to), bv]))], E256] w255 := H268.foc 10 rfl rfl
    have H270 : St w [] [E237, [(gtw, Rw 31 ([I (fr), I (to), tw]))], ETW, [(g12, Rw 5 ((l90 ++ marks).map B8))], [(g7, Rw 5 ((l83 ++ marks).map B8))], E55, E40, E31, [(g20, Rw 31 ([I (fr), I (to), slv 1 (0) (l.length) (.slice (some (bs g12)) ((l).length + 8) ((l).length + 8))]))], [(g1, Rw 31 ([I (fr), I (to), bv]))]] w255 := H269.take 10 rfl
    refine ⟨H270, ?_⟩
    refine pt (v := .tuple #[v254, I ((sealEr ((l83 ++ marks).take lk.length) (fr) (to) ((l90 ++ marks).take l.length) : Nat) : Int)]) rfl (fun wS HS => y_move rfl) ?_
    refine pt (v := v254) rfl (fun wS HS => y_extract (i := 0) rfl rfl) ?_
    refine pt (v := I ((sealEr ((l83 ++ marks).take lk.length) (fr) (to) ((l90 ++ marks).take l.length) : Nat) : Int)) rfl (fun wS HS => y_extract (i := 1) rfl rfl) ?_
    refine pt (v := v254) rfl (fun wS HS => y_assign rfl) ?_
    refine tly (v := I ((sealEr ((l83 ++ marks).take lk.length) (fr) (to) ((l90 ++ marks).take l.length) : Nat) : Int)) rfl (y_assign rfl) ?_
    refine p_nil ?_
    refine n_then ?_
    refine c_seq ?_
    refine c_reg ?_
    refine sy (v := v254) (y_move rfl) ?_
    refine sy (v := v235) (y_move rfl) ?_
    refine st (ow_call fn29 rfl (same_c (v254) (v235) (sealL ((l83 ++ marks).take lk.length) (fr) (to) ((l90 ++ marks).take l.length)) (sealL ((l83 ++ marks).take lk.length) (fr) (to) ((l90 ++ marks).take l.length)) _ ((ho257.rd H259 0 rfl)).nil ((ho238.rd H259 1 rfl)).nil) ⟨rfl, rfl, trivial⟩) ?_
    rintro _ w271 ⟨rfl, hB272⟩
    have H273 : St w [] [E256, E237, [(gtw, Rw 31 ([I (fr), I (to), tw]))], ETW, [(g12, Rw 5 ((l90 ++ marks).map B8))], [(g7, Rw 5 ((l83 ++ marks).map B8))], E55, E40, E31, [(g20, Rw 31 ([I (fr), I (to), slv 1 (0) (l.length) (.slice (some (bs g12)) ((l).length + 8) ((l).length + 8))]))], [(g1, Rw 31 ([I (fr), I (to), bv]))]] w271 := H259.call hB272
    refine sy (v := .bool (decide ((sealL ((l83 ++ marks).take lk.length) (fr) (to) ((l90 ++ marks).take l.length)) = (sealL ((l83 ++ marks).take lk.length) (fr) (to) ((l90 ++ marks).take l.length))))) (y_assign rfl) ?_
    refine c_nil ?_
    refine n_then ?_
    refine c_seq ?_
    refine c_reg ?_
    refine sy (v := v38) (y_move s11_231) ?_
    refine sy (v := v29) (y_move s9_231) ?_
    refine st (ow_call fn29 rfl (same_c (v38) (v29) (sealL ((lk ++ marks).take lk.length) (fr) (to) ((l ++ marks).take l.length)) (sealL (lk) (fr) (to) (l)) _ ((ho41.rd H273 7 rfl)).nil ((ho32.rd H273 8 rfl)).nil) ⟨rfl, rfl, trivial⟩) ?_
    rintro _ w274 ⟨rfl, hB275⟩
    have H276 : St w [] [E256, E237, [(gtw, Rw 31 ([I (fr), I (to), tw]))], ETW, [(g12, Rw 5 ((l90 ++ marks).map B8))], [(g7, Rw 5 ((l83 ++ marks).map B8))], E55, E40, E31, [(g20, Rw 31 ([I (fr), I (to), slv 1 (0) (l.length) (.slice (some (bs g12)) ((l).length + 8) ((l).length + 8))]))], [(g1, Rw 31 ([I (fr), I (to), bv]))]] w274 := H273.call hB275
    refine sy (v := .bool (decide ((sealL ((lk ++ marks).take lk.length) (fr) (to) ((l ++ marks).take l.length)) = (sealL (lk) (fr) (to) (l))))) (y_assign rfl) ?_
    refine c_nil ?_
    refine n_then ?_
    refine c_seq ?_
    refine c_seq ?_
    refine c_reg ?_
    refine sy (v := .bool (decide ((sealL ((l83 ++ marks).take lk.length) (fr) (to) ((l90 ++ marks).take l.length)) = (sealL ((l83 ++ marks).take lk.length) (fr) (to) ((l90 ++ marks).take l.length))))) (y_move rfl) ?_
    refine sy (v := .bool (decide (¬ ((sealL ((l83 ++ marks).take lk.length) (fr) (to) ((l90 ++ marks).take l.length)) = (sealL ((l83 ++ marks).take lk.length) (fr) (to) ((l90 ++ marks).take l.length)))))) (y_notP rfl) ?_
    refine sy (v := .bool (decide (¬ ((sealL ((l83 ++ marks).take lk.length) (fr) (to) ((l90 ++ marks).take l.length)) = (sealL ((l83 ++ marks).take lk.length) (fr) (to) ((l90 ++ marks).take l.length)))))) (y_move rfl) ?_
    have hq277 : (sealL ((l83 ++ marks).take lk.length) (fr) (to) ((l90 ++ marks).take l.length)) = (sealL ((l83 ++ marks).take lk.length) (fr) (to) ((l90 ++ marks).take l.length)) := rfl
    refine gsy (v := .bool (decide ((sealL ((lk ++ marks).take lk.length) (fr) (to) ((l ++ marks).take l.length)) = (sealL (lk) (fr) (to) (l))))) (gv_of (t := 146) rfl rfl rfl) (decide_eq_false (not_not_intro hq277)) (y_move rfl) ?_
    refine gsy (v := .bool (decide (¬ ((sealL ((lk ++ marks).take lk.length) (fr) (to) ((l ++ marks).take l.length)) = (sealL (lk) (fr) (to) (l)))))) (gv_of (t := 146) rfl rfl rfl) (decide_eq_false (not_not_intro hq277)) (y_notP rfl) ?_
    refine sy (v := .bool (decide (¬ ((sealL ((lk ++ marks).take lk.length) (fr) (to) ((l ++ marks).take l.length)) = (sealL (lk) (fr) (to) (l)))))) (y_pickF rfl (decide_eq_false (not_not_intro hq277)) rfl) ?_
    refine sy (v := .bool (decide (¬ ((sealL ((lk ++ marks).take lk.length) (fr) (to) ((l ++ marks).take l.length)) = (sealL (lk) (fr) (to) (l)))))) (y_move rfl) ?_
    have hq278 : (sealL ((lk ++ marks).take lk.length) (fr) (to) ((l ++ marks).take l.length)) = (sealL (lk) (fr) (to) (l)) := (by rw [take_w, take_w])
    refine gsy (v := I ((sealEr ((l83 ++ marks).take lk.length) (fr) (to) ((l90 ++ marks).take l.length) : Nat) : Int)) (gv_of (t := 150) rfl rfl rfl) (decide_eq_false (not_not_intro hq278)) (y_move rfl) ?_
    refine gsy (v := I ((sealEr ((l83 ++ marks).take lk.length) (fr) (to) ((l90 ++ marks).take l.length) : Nat) : Int)) (gv_of (t := 150) rfl rfl rfl) (decide_eq_false (not_not_intro hq278)) (y_move rfl) ?_
    refine gsy (v := .bool (decide ((sealEr ((l83 ++ marks).take lk.length) (fr) (to) ((l90 ++ marks).take l.length)) ≠ (sealEr ((l83 ++ marks).take lk.length) (fr) (to) ((l90 ++ marks).take l.length))))) (gv_of (t := 150) rfl rfl rfl) (decide_eq_false (not_not_intro hq278)) (n_neq (a := sealEr ((l83 ++ marks).take lk.length) (fr) (to) ((l90 ++ marks).take l.length)) (b := sealEr ((l83 ++ marks).take lk.length) (fr) (to) ((l90 ++ marks).take l.length)) rfl rfl) ?_
    refine sy (v := .bool (decide ((sealEr ((l83 ++ marks).take lk.length) (fr) (to) ((l90 ++ marks).take l.length)) ≠ (sealEr ((l83 ++ marks).take lk.length) (fr) (to) ((l90 ++ marks).take l.length))))) (y_pickF rfl (decide_eq_false (not_not_intro hq278)) rfl) ?_
    refine c_nil ?_
    refine n_then ?_
    have hq279 : ¬ ((sealEr ((l83 ++ marks).take lk.length) (fr) (to) ((l90 ++ marks).take l.length)) ≠ (sealEr ((l83 ++ marks).take lk.length) (fr) (to) ((l90 ++ marks).take l.length))) := (fun h => h rfl)
    refine c_f rfl (decide_eq_false hq279) ?_
    refine wp_skip ?_
    refine n_then ?_
    refine c_seq ?_
    refine c_reg ?_
    refine sy (v := v38) (y_move s11_231) ?_
    refine sy (v := v53) (y_move s13_231) ?_
    refine sy (v := v254) (y_move rfl) ?_
    refine st (ow_buildSlice (pv := [(0, v38), (1, v53), (2, v254)]) (us := [v38, v53, v254]) Try.underlying36 sz23 zr23 H276 ⟨⟨rfl, rfl⟩, ⟨rfl, rfl⟩, ⟨rfl, rfl⟩, trivial⟩ (by decide) (fill3 (ho41.rd H276 7 rfl).cells (ho56.rd H276 6 rfl).cells (ho257.rd H276 0 rfl).cells)) ?_
    rintro _ w281 ⟨g280, rfl, H282⟩
    have H285 : St w [] [E256, [(g280, Rw 23 ([v38, v53, v254]))], E237, [(gtw, Rw 31 ([I (fr), I (to), tw]))], ETW, [(g12, Rw 5 ((l90 ++ marks).map B8))], [(g7, Rw 5 ((l83 ++ marks).map B8))], E55, E40, E31, [(g20, Rw 31 ([I (fr), I (to), slv 1 (0) (l.length) (.slice (some (bs g12)) ((l).length + 8) ((l).length + 8))]))], [(g1, Rw 31 ([I (fr), I (to), bv]))]] w281 := H282.foc 1 rfl rfl
    have H286 : St w [] [E55, E256, [(g280, Rw 23 ([v38, v53, v254]))], E237, [(gtw, Rw 31 ([I (fr), I (to), tw]))], ETW, [(g12, Rw 5 ((l90 ++ marks).map B8))], [(g7, Rw 5 ((l83 ++ marks).map B8))], E40, E31, [(g20, Rw 31 ([I (fr), I (to), slv 1 (0) (l.length) (.slice (some (bs g12)) ((l).length + 8) ((l).length + 8))]))], [(g1, Rw 31 ([I (fr), I (to), bv]))]] w281 := H285.foc 7 rfl rfl
    have H287 : St w [] [E40, E55, E256, [(g280, Rw 23 ([v38, v53, v254]))], E237, [(gtw, Rw 31 ([I (fr), I (to), tw]))], ETW, [(g12, Rw 5 ((l90 ++ marks).map B8))], [(g7, Rw 5 ((l83 ++ marks).map B8))], E31, [(g20, Rw 31 ([I (fr), I (to), slv 1 (0) (l.length) (.slice (some (bs g12)) ((l).length + 8) ((l).length + 8))]))], [(g1, Rw 31 ([I (fr), I (to), bv]))]] w281 := H286.foc 8 rfl rfl
    have H288 : St w [] [E40, E55, E256, [(g280, Rw 23 ([v38, v53, v254]))]] w281 := H287.take 4 rfl
    refine st (ow_call fn30 rfl (grown_c w _ (v38) (v53) (v254) (sealL ((lk ++ marks).take lk.length) (fr) (to) ((l ++ marks).take l.length)) (sealL ((lk ++ marks).take lk.length) (fr) (to) ((l ++ marks).take l.length)) (sealL ((l83 ++ marks).take lk.length) (fr) (to) ((l90 ++ marks).take l.length)) E40 E55 E256 g280 H288 ho41 ho56 ho257 (sealL_le _ _ _ _) (sealL_le _ _ _ _) (sealL_le _ _ _ _)) ⟨rfl, trivial⟩) ?_
    rintro _ w283 ⟨rfl, hB284⟩
    have H289 : St w [] [] w283 := ⟨hB284.os, hB284.tape, hB284.output, hB284.size, fun k hk _ => hB284.block k hk, by simp, by simp, .nil⟩
    refine sy (v := .bool (true)) (y_assign rfl) ?_
    refine c_nil ?_
    refine n_then ?_
    refine wp_ret ?_
    refine e_r1 Try.results5 (rv_t rfl) ?_
    exact ⟨_, rfl, rfl, H289.below⟩

end Go.Proofs.Ytdcmbcjkdhdohaa
