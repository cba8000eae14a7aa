/- The walk of BloomMakes. -/
import Derived.Test.YtdcmbcjkdhdohaaBloom6
import Derived.Test.YtdcmbcjkdhdohaaHashS
namespace Go.Proofs.Ytdcmbcjkdhdohaa
open Go Go.RowKit
set_option linter.unusedSimpArgs false
set_option linter.unusedVariables false
attribute [local irreducible] wpList wpP Code.wp

theorem bloomOf_le (x : UInt64) (hs : List (List UInt8)) : (bloomOf x hs).length ≤ 1099511627776 := by
  rw [bloomOf_length]; have := okS_le (okS_bsz hs.length); omega
theorem take3 {hs : List (List UInt8)} {a b c : List UInt8} : (hs ++ [a, b, c]).take hs.length = hs := List.take_left

set_option maxHeartbeats 4000000 in
set_option maxRecDepth 20000 in
theorem bloomMakes_c (x : UInt64) (lv : Value) (hs : List (List UInt8)) (h : List UInt8) (w : World) (hh : H32 hs) (hH : Rd [] w 32 lv hs.length (hs.flatten.map B8)) (hlen : hs.length * 32 ≤ 140737488351232) (hl32 : h.length = 32) :
    Calls Try.prog 10 (([.agg (U64 x :: lv :: h.map B8).toArray] : List Value).toArray) w (fun e w' => ∃ v, e = .returned v ∧ v = .bool true ∧ Below w.heap.size w w') := by
  refine calls_mk Try.func10 rfl 177 Try.ntmps10 rfl ?_
  have H0 : St w [] [] w := St.refl w
  refine c_seq ?_
  refine c_reg ?_
  refine st (ow_box (l := U64 x :: lv :: h.map B8) H0 rfl rfl) ?_
  rintro _ w2 ⟨g1, rfl, H3⟩
  refine sy (v := .bool (false)) (y_assign (v := .bool (false)) rfl) ?_
  refine c_nil ?_
  refine n_then ?_
  refine c_seq ?_
  refine c_reg ?_
  refine st (ow_call fn31 rfl (bfixed_c _) trivial) ?_
  rintro _ w4 ⟨rfl, hB5⟩
  have H6 : St w [] [[(g1, Rw 76 (U64 x :: lv :: h.map B8))]] w4 := H3.call hB5
  refine sy (v := .bool (true)) (y_assign rfl) ?_
  refine c_nil ?_
  refine n_then ?_
  refine c_seq ?_
  refine c_reg ?_
  refine sy (v := Ad (bs g1) (0 + 1)) (y_fld Try.underlying76 rfl rfl sz72 (by decide) rfl) ?_
  refine sy (v := lv) (y_load sc72 rfl (H6.cell 0 rfl rfl)) ?_
  refine sy (v := I ((hs.length : Nat) : Int)) (y_lenR Try.underlying72 (hH.st H6) rfl) ?_
  refine sy (v := I ((hs.length + 3 : Nat) : Int)) (n_add (a := hs.length) (b := 3) rfl rfl (by omega)) ?_
  refine st (ow_make (l := hs.length + 3) (c := hs.length + 3) Try.underlying72 sz26 zr26 bt26 rfl H6 rfl rfl (by omega) (by omega) (by omega)) ?_
  rintro _ w8 ⟨g7, rfl, H9'⟩
  have hh10 : H32 (List.replicate (hs.length + 3) (hq 0)) := fun q hq0 => by rw [List.eq_of_mem_replicate hq0]; exact hq_len 0
  have hn11 : (List.replicate (hs.length + 3) (hq 0)).length = hs.length + 3 := List.length_replicate
  have H9 : St w [] [[(g7, Rw 26 ((List.replicate (hs.length + 3) (hq 0)).flatten.map B8))], [(g1, Rw 76 (U64 x :: lv :: h.map B8))]] w8 := H9'.eq1 (made_hash rfl)
  refine sy (v := .slice (some (bs g7)) (hs.length + 3) (hs.length + 3)) (y_assign rfl) ?_
  refine c_nil ?_
  refine n_then ?_
  refine c_seq ?_
  refine c_reg ?_
  refine sy (v := .slice (some (bs g7)) (hs.length + 3) (hs.length + 3)) (y_move rfl) ?_
  refine sy (v := Ad (bs g1) (0 + 1)) (y_fld Try.underlying76 rfl rfl sz72 (by decide) rfl) ?_
  refine sy (v := lv) (y_load sc72 rfl (H9.cell 1 rfl rfl)) ?_
  refine st (ow_copyS (k := hs.length) Try.underlying72 sz26 H9 rfl rfl (hH.st H9) (map_one (F := B8) (fun _ => rfl) _) (by omega) (by rw [flat_len hh10, hn11]; omega)) ?_
  rintro _ w12 ⟨rfl, H13'⟩
  have hh14 : H32 (hs ++ [hq 0, hq 0, hq 0]) := hh3 hh (hq_len 0) (hq_len 0) (hq_len 0)
  have hn15 : (hs ++ [hq 0, hq 0, hq 0]).length = hs.length + 3 := len3
  have H13 : St w [] [[(g7, Rw 26 ((hs ++ [hq 0, hq 0, hq 0]).flatten.map B8))], [(g1, Rw 76 (U64 x :: lv :: h.map B8))]] w12 := H13'.eq1 (copy_hash (hq_len 0) hh)
  refine c_nil ?_
  refine n_then ?_
  refine c_seq ?_
  refine c_reg ?_
  refine sy (v := .slice (some (bs g7)) (hs.length + 3) (hs.length + 3)) (y_move rfl) ?_
  refine sy (v := Ad (bs g1) (0 + 1)) (y_fld Try.underlying76 rfl rfl sz72 (by decide) rfl) ?_
  refine sy (v := lv) (y_load sc72 rfl (H13.cell 1 rfl rfl)) ?_
  refine sy (v := I ((hs.length : Nat) : Int)) (y_lenR Try.underlying72 (hH.st H13) rfl) ?_
  refine sy (v := .agg (([7, 0, 0, 0, 0, 0, 0, 0, 0, 0, 0, 0, 0, 0, 0, 0, 0, 0, 0, 0, 0, 0, 0, 0, 0, 0, 0, 0, 0, 0, 0, 0]).map B8).toArray) (y_build (pv := [(0, B8 (7))]) (us := ([7, 0, 0, 0, 0, 0, 0, 0, 0, 0, 0, 0, 0, 0, 0, 0, 0, 0, 0, 0, 0, 0, 0, 0, 0, 0, 0, 0, 0, 0, 0, 0]).map B8) ⟨⟨rfl, rfl⟩, trivial⟩ (by kernel_rfl)) ?_
  refine sy (v := Ad (bs g7) (hs.length * 32)) (y_ixS (m := hs.length) Try.underlying72 sz26 rfl rfl rfl (by omega)) ?_
  refine s0 (ow_storeA (us := ([7, 0, 0, 0, 0, 0, 0, 0, 0, 0, 0, 0, 0, 0, 0, 0, 0, 0, 0, 0, 0, 0, 0, 0, 0, 0, 0, 0, 0, 0, 0, 0]).map B8) H13 sz26 ((List.length_map _).trans (by simp [*])) rfl rfl (map_one (F := B8) (fun _ => rfl) _) (by rw [flat_len hh14, hn15]; omega)) ?_
  rintro _ w16 H17'
  have hh18 : H32 ((hs ++ [hq 0, hq 0, hq 0]).set hs.length ([7, 0, 0, 0, 0, 0, 0, 0, 0, 0, 0, 0, 0, 0, 0, 0, 0, 0, 0, 0, 0, 0, 0, 0, 0, 0, 0, 0, 0, 0, 0, 0])) := hh_set hh14 (by simp [*])
  have hn19 : ((hs ++ [hq 0, hq 0, hq 0]).set hs.length ([7, 0, 0, 0, 0, 0, 0, 0, 0, 0, 0, 0, 0, 0, 0, 0, 0, 0, 0, 0, 0, 0, 0, 0, 0, 0, 0, 0, 0, 0, 0, 0])).length = hs.length + 3 := by rw [List.length_set]; exact hn15
  have H17 : St w [] [[(g7, Rw 26 (((hs ++ [hq 0, hq 0, hq 0]).set hs.length ([7, 0, 0, 0, 0, 0, 0, 0, 0, 0, 0, 0, 0, 0, 0, 0, 0, 0, 0, 0, 0, 0, 0, 0, 0, 0, 0, 0, 0, 0, 0, 0])).flatten.map B8))], [(g1, Rw 76 (U64 x :: lv :: h.map B8))]] w16 := H17'.eq1 (flat_set hh14 (by rw [hn15]; omega))
  refine c_nil ?_
  refine n_then ?_
  refine c_seq ?_
  have ehh20 : (hs ++ [hq 0, hq 0, hq 0]).set hs.length ([7, 0, 0, 0, 0, 0, 0, 0, 0, 0, 0, 0, 0, 0, 0, 0, 0, 0, 0, 0, 0, 0, 0, 0, 0, 0, 0, 0, 0, 0, 0, 0]) = hs ++ [hq 7, hq 0, hq 0] := set3_0
  have hh20 : H32 (hs ++ [hq 7, hq 0, hq 0]) := by rw [← ehh20]; exact hh18
  have hn21 : (hs ++ [hq 7, hq 0, hq 0]).length = hs.length + 3 := len3
  have H22 : St w [] [[(g7, Rw 26 ((hs ++ [hq 7, hq 0, hq 0]).flatten.map B8))], [(g1, Rw 76 (U64 x :: lv :: h.map B8))]] w16 := H17.eq1 (by rw [ehh20])
  refine c_reg ?_
  refine sy (v := .slice (some (bs g7)) (hs.length + 3) (hs.length + 3)) (y_move rfl) ?_
  refine sy (v := Ad (bs g1) (0 + 1)) (y_fld Try.underlying76 rfl rfl sz72 (by decide) rfl) ?_
  refine sy (v := lv) (y_load sc72 rfl (H22.cell 1 rfl rfl)) ?_
  refine sy (v := I ((hs.length : Nat) : Int)) (y_lenR Try.underlying72 (hH.st H22) rfl) ?_
  refine sy (v := I ((hs.length + 1 : Nat) : Int)) (n_add (a := hs.length) (b := 1) rfl rfl (by omega)) ?_
  refine sy (v := .agg (([8, 0, 0, 0, 0, 0, 0, 0, 0, 0, 0, 0, 0, 0, 0, 0, 0, 0, 0, 0, 0, 0, 0, 0, 0, 0, 0, 0, 0, 0, 0, 0]).map B8).toArray) (y_build (pv := [(0, B8 (8))]) (us := ([8, 0, 0, 0, 0, 0, 0, 0, 0, 0, 0, 0, 0, 0, 0, 0, 0, 0, 0, 0, 0, 0, 0, 0, 0, 0, 0, 0, 0, 0, 0, 0]).map B8) ⟨⟨rfl, rfl⟩, trivial⟩ (by kernel_rfl)) ?_
  refine sy (v := Ad (bs g7) ((hs.length + 1) * 32)) (y_ixS (m := hs.length + 1) Try.underlying72 sz26 rfl rfl rfl (by omega)) ?_
  refine s0 (ow_storeA (us := ([8, 0, 0, 0, 0, 0, 0, 0, 0, 0, 0, 0, 0, 0, 0, 0, 0, 0, 0, 0, 0, 0, 0, 0, 0, 0, 0, 0, 0, 0, 0, 0]).map B8) H22 sz26 ((List.length_map _).trans (by simp [*])) rfl rfl (map_one (F := B8) (fun _ => rfl) _) (by rw [flat_len hh20, hn21]; omega)) ?_
  rintro _ w23 H24'
  have hh25 : H32 ((hs ++ [hq 7, hq 0, hq 0]).set (hs.length + 1) ([8, 0, 0, 0, 0, 0, 0, 0, 0, 0, 0, 0, 0, 0, 0, 0, 0, 0, 0, 0, 0, 0, 0, 0, 0, 0, 0, 0, 0, 0, 0, 0])) := hh_set hh20 (by simp [*])
  have hn26 : ((hs ++ [hq 7, hq 0, hq 0]).set (hs.length + 1) ([8, 0, 0, 0, 0, 0, 0, 0, 0, 0, 0, 0, 0, 0, 0, 0, 0, 0, 0, 0, 0, 0, 0, 0, 0, 0, 0, 0, 0, 0, 0, 0])).length = hs.length + 3 := by rw [List.length_set]; exact hn21
  have H24 : St w [] [[(g7, Rw 26 (((hs ++ [hq 7, hq 0, hq 0]).set (hs.length + 1) ([8, 0, 0, 0, 0, 0, 0, 0, 0, 0, 0, 0, 0, 0, 0, 0, 0, 0, 0, 0, 0, 0, 0, 0, 0, 0, 0, 0, 0, 0, 0, 0])).flatten.map B8))], [(g1, Rw 76 (U64 x :: lv :: h.map B8))]] w23 := H24'.eq1 (flat_set hh20 (by rw [hn21]; omega))
  refine c_nil ?_
  refine n_then ?_
  refine c_seq ?_
  have ehh27 : (hs ++ [hq 7, hq 0, hq 0]).set (hs.length + 1) ([8, 0, 0, 0, 0, 0, 0, 0, 0, 0, 0, 0, 0, 0, 0, 0, 0, 0, 0, 0, 0, 0, 0, 0, 0, 0, 0, 0, 0, 0, 0, 0]) = hs ++ [hq 7, hq 8, hq 0] := set3_1
  have hh27 : H32 (hs ++ [hq 7, hq 8, hq 0]) := by rw [← ehh27]; exact hh25
  have hn28 : (hs ++ [hq 7, hq 8, hq 0]).length = hs.length + 3 := len3
  have H29 : St w [] [[(g7, Rw 26 ((hs ++ [hq 7, hq 8, hq 0]).flatten.map B8))], [(g1, Rw 76 (U64 x :: lv :: h.map B8))]] w23 := H24.eq1 (by rw [ehh27])
  refine c_reg ?_
  refine sy (v := .slice (some (bs g7)) (hs.length + 3) (hs.length + 3)) (y_move rfl) ?_
  refine sy (v := Ad (bs g1) (0 + 1)) (y_fld Try.underlying76 rfl rfl sz72 (by decide) rfl) ?_
  refine sy (v := lv) (y_load sc72 rfl (H29.cell 1 rfl rfl)) ?_
  refine sy (v := I ((hs.length : Nat) : Int)) (y_lenR Try.underlying72 (hH.st H29) rfl) ?_
  refine sy (v := I ((hs.length + 2 : Nat) : Int)) (n_add (a := hs.length) (b := 2) rfl rfl (by omega)) ?_
  refine sy (v := .agg (([9, 0, 0, 0, 0, 0, 0, 0, 0, 0, 0, 0, 0, 0, 0, 0, 0, 0, 0, 0, 0, 0, 0, 0, 0, 0, 0, 0, 0, 0, 0, 0]).map B8).toArray) (y_build (pv := [(0, B8 (9))]) (us := ([9, 0, 0, 0, 0, 0, 0, 0, 0, 0, 0, 0, 0, 0, 0, 0, 0, 0, 0, 0, 0, 0, 0, 0, 0, 0, 0, 0, 0, 0, 0, 0]).map B8) ⟨⟨rfl, rfl⟩, trivial⟩ (by kernel_rfl)) ?_
  refine sy (v := Ad (bs g7) ((hs.length + 2) * 32)) (y_ixS (m := hs.length + 2) Try.underlying72 sz26 rfl rfl rfl (by omega)) ?_
  refine s0 (ow_storeA (us := ([9, 0, 0, 0, 0, 0, 0, 0, 0, 0, 0, 0, 0, 0, 0, 0, 0, 0, 0, 0, 0, 0, 0, 0, 0, 0, 0, 0, 0, 0, 0, 0]).map B8) H29 sz26 ((List.length_map _).trans (by simp [*])) rfl rfl (map_one (F := B8) (fun _ => rfl) _) (by rw [flat_len hh27, hn28]; omega)) ?_
  rintro _ w30 H31'
  have hh32 : H32 ((hs ++ [hq 7, hq 8, hq 0]).set (hs.length + 2) ([9, 0, 0, 0, 0, 0, 0, 0, 0, 0, 0, 0, 0, 0, 0, 0, 0, 0, 0, 0, 0, 0, 0, 0, 0, 0, 0, 0, 0, 0, 0, 0])) := hh_set hh27 (by simp [*])
  have hn33 : ((hs ++ [hq 7, hq 8, hq 0]).set (hs.length + 2) ([9, 0, 0, 0, 0, 0, 0, 0, 0, 0, 0, 0, 0, 0, 0, 0, 0, 0, 0, 0, 0, 0, 0, 0, 0, 0, 0, 0, 0, 0, 0, 0])).length = hs.length + 3 := by rw [List.length_set]; exact hn28
  have H31 : St w [] [[(g7, Rw 26 (((hs ++ [hq 7, hq 8, hq 0]).set (hs.length + 2) ([9, 0, 0, 0, 0, 0, 0, 0, 0, 0, 0, 0, 0, 0, 0, 0, 0, 0, 0, 0, 0, 0, 0, 0, 0, 0, 0, 0, 0, 0, 0, 0])).flatten.map B8))], [(g1, Rw 76 (U64 x :: lv :: h.map B8))]] w30 := H31'.eq1 (flat_set hh27 (by rw [hn28]; omega))
  refine c_nil ?_
  refine n_then ?_
  refine c_seq ?_
  have ehh34 : (hs ++ [hq 7, hq 8, hq 0]).set (hs.length + 2) ([9, 0, 0, 0, 0, 0, 0, 0, 0, 0, 0, 0, 0, 0, 0, 0, 0, 0, 0, 0, 0, 0, 0, 0, 0, 0, 0, 0, 0, 0, 0, 0]) = hs ++ [hq 7, hq 8, hq 9] := set3_2
  have hh34 : H32 (hs ++ [hq 7, hq 8, hq 9]) := by rw [← ehh34]; exact hh32
  have hn35 : (hs ++ [hq 7, hq 8, hq 9]).length = hs.length + 3 := len3
  have H36 : St w [] [[(g7, Rw 26 ((hs ++ [hq 7, hq 8, hq 9]).flatten.map B8))], [(g1, Rw 76 (U64 x :: lv :: h.map B8))]] w30 := H31.eq1 (by rw [ehh34])
  refine c_reg ?_
  refine sy (v := Ad (bs g1) (0 + 0)) (y_fld Try.underlying76 rfl rfl sz59 (by decide) rfl) ?_
  refine sy (v := U64 (x)) (y_load sc59 rfl (H36.cell 1 rfl rfl)) ?_
  refine sy (v := Ad (bs g1) (0 + 1)) (y_fld Try.underlying76 rfl rfl sz72 (by decide) rfl) ?_
  refine sy (v := lv) (y_load sc72 rfl (H36.cell 1 rfl rfl)) ?_
  refine st (ow_call fn54 rfl (rof54_os (x) (lv) hs _ ((hH.st H36)).nil hh (by first | omega | (simp only [List.length_take]; omega))) ⟨rfl, rfl, trivial⟩) ?_
  rintro v37 w38 ⟨E39, ho40, H41⟩
  have H42 : St w [] [E39, [(g7, Rw 26 ((hs ++ [hq 7, hq 8, hq 9]).flatten.map B8))], [(g1, Rw 76 (U64 x :: lv :: h.map B8))]] w38 := H36.app H41
  refine sy (v := v37) (y_assign rfl) ?_
  refine c_nil ?_
  refine n_then ?_
  refine c_seq ?_
  refine drawS (.step 0 0 (.step 0 1 (.step 0 2 (.step 0 3 (.step 0 4 (.step 0 5 (.step 0 6 (.step 1 7 (.step 2 8 .nil))))))))) mixed H42 (by kernel_rfl) (by kernel_rfl) (by kernel_rfl) ?_
  intro w43 H44
  refine pt (v := Ad (bs g1) (0 + 0)) rfl (fun wS HS => y_fld Try.underlying76 rfl rfl sz59 (by decide) rfl) ?_
  refine pt (v := U64 (x)) rfl (fun wS HS => y_load sc59 rfl (HS.cell 2 rfl rfl)) ?_
  refine pt (v := .slice (some (bs g7)) (hs.length + 3) (hs.length + 3)) rfl (fun wS HS => y_move rfl) ?_
  refine pt (v := Ad (bs g1) (0 + 1)) rfl (fun wS HS => y_fld Try.underlying76 rfl rfl sz72 (by decide) rfl) ?_
  refine pt (v := lv) rfl (fun wS HS => y_load sc72 rfl (HS.cell 2 rfl rfl)) ?_
  refine pt (v := I ((hs.length : Nat) : Int)) rfl (fun wS HS => y_lenR Try.underlying72 (hH.st HS) rfl) ?_
  refine pt (v := slv 32 0 hs.length (.slice (some (bs g7)) (hs.length + 3) (hs.length + 3))) rfl (fun wS HS => y_slR (k1 := .i64) (k2 := .i64) (l := 0) (h := hs.length) Try.underlying72 sz26 (rd_hblk HS 1 rfl hh34 hn35 (by unfold maxLen; omega)) rfl (.inl ⟨rfl, rfl⟩) (.inr ⟨_, rfl, rfl⟩) (by omega) (by rw [hn35]; omega)) ?_
  refine pl rfl (ow_call fn55 rfl (of55_os (x) (slv 32 0 hs.length (.slice (some (bs g7)) (hs.length + 3) (hs.length + 3))) ((hs ++ [hq 7, hq 8, hq 9]).take hs.length) _ ((rdh_pre (rd_hblk H44 1 rfl hh34 hn35 (by unfold maxLen; omega)) (by rw [hn35]; omega) hh34)).nil (hh_take hh34) (by first | omega | (simp only [List.length_take]; omega))) ⟨rfl, rfl, trivial⟩) ?_
  rintro v45 w46 ⟨E47, ho48, H49⟩
  have H50 : St w [] [E47, E39, [(g7, Rw 26 ((hs ++ [hq 7, hq 8, hq 9]).flatten.map B8))], [(g1, Rw 76 (U64 x :: lv :: h.map B8))]] w46 := H44.app H49
  have H51 : St w [] [[(g1, Rw 76 (U64 x :: lv :: h.map B8))], E47, E39, [(g7, Rw 26 ((hs ++ [hq 7, hq 8, hq 9]).flatten.map B8))]] w46 := H50.foc 3 rfl rfl
  have H52 : St w [] [[(g7, Rw 26 ((hs ++ [hq 7, hq 8, hq 9]).flatten.map B8))], [(g1, Rw 76 (U64 x :: lv :: h.map B8))], E47, E39] w46 := H51.foc 3 rfl rfl
  have H53 : St w [] [E39, [(g7, Rw 26 ((hs ++ [hq 7, hq 8, hq 9]).flatten.map B8))], [(g1, Rw 76 (U64 x :: lv :: h.map B8))], E47] w46 := H52.foc 3 rfl rfl
  have H54 : St w [] [E39, [(g7, Rw 26 ((hs ++ [hq 7, hq 8, hq 9]).flatten.map B8))], [(g1, Rw 76 (U64 x :: lv :: h.map B8))]] w46 := H53.take 3 rfl
  refine ⟨H54, ?_⟩
  refine tly (v := v45) rfl (y_assign rfl) ?_
  refine p_nil ?_
  refine n_then ?_
  refine c_seq ?_
  refine drawS (.step 0 0 (.step 0 1 (.step 0 2 (.step 0 3 (.step 0 4 (.step 0 5 (.step 0 6 (.step 1 7 (.step 2 8 .nil))))))))) mixed H50 (by kernel_rfl) (by kernel_rfl) (by kernel_rfl) ?_
  intro w55 H56
  refine pt (v := Ad (bs g1) (0 + 0)) rfl (fun wS HS => y_fld Try.underlying76 rfl rfl sz59 (by decide) rfl) ?_
  refine pt (v := U64 (x)) rfl (fun wS HS => y_load sc59 rfl (HS.cell 3 rfl rfl)) ?_
  refine pt (v := .slice (some (bs g7)) (hs.length + 3) (hs.length + 3)) rfl (fun wS HS => y_move rfl) ?_
  refine pt (v := Ad (bs g1) (0 + 1)) rfl (fun wS HS => y_fld Try.underlying76 rfl rfl sz72 (by decide) rfl) ?_
  refine pt (v := lv) rfl (fun wS HS => y_load sc72 rfl (HS.cell 3 rfl rfl)) ?_
  refine pt (v := I ((hs.length : Nat) : Int)) rfl (fun wS HS => y_lenR Try.underlying72 (hH.st HS) rfl) ?_
  refine pt (v := slv 32 0 hs.length (.slice (some (bs g7)) (hs.length + 3) (hs.length + 3))) rfl (fun wS HS => y_slR (k1 := .i64) (k2 := .i64) (l := 0) (h := hs.length) Try.underlying72 sz26 (rd_hblk HS 2 rfl hh34 hn35 (by unfold maxLen; omega)) rfl (.inl ⟨rfl, rfl⟩) (.inr ⟨_, rfl, rfl⟩) (by omega) (by rw [hn35]; omega)) ?_
  refine pl rfl (ow_call fn55 rfl (of55_os (x) (slv 32 0 hs.length (.slice (some (bs g7)) (hs.length + 3) (hs.length + 3))) ((hs ++ [hq 7, hq 8, hq 9]).take hs.length) _ ((rdh_pre (rd_hblk H56 2 rfl hh34 hn35 (by unfold maxLen; omega)) (by rw [hn35]; omega) hh34)).nil (hh_take hh34) (by first | omega | (simp only [List.length_take]; omega))) ⟨rfl, rfl, trivial⟩) ?_
  rintro v57 w58 ⟨E59, ho60, H61⟩
  have H62 : St w [] [E59, E47, E39, [(g7, Rw 26 ((hs ++ [hq 7, hq 8, hq 9]).flatten.map B8))], [(g1, Rw 76 (U64 x :: lv :: h.map B8))]] w58 := H56.app H61
  have H63 : St w [] [[(g1, Rw 76 (U64 x :: lv :: h.map B8))], E59, E47, E39, [(g7, Rw 26 ((hs ++ [hq 7, hq 8, hq 9]).flatten.map B8))]] w58 := H62.foc 4 rfl rfl
  have H64 : St w [] [[(g7, Rw 26 ((hs ++ [hq 7, hq 8, hq 9]).flatten.map B8))], [(g1, Rw 76 (U64 x :: lv :: h.map B8))], E59, E47, E39] w58 := H63.foc 4 rfl rfl
  have H65 : St w [] [E39, [(g7, Rw 26 ((hs ++ [hq 7, hq 8, hq 9]).flatten.map B8))], [(g1, Rw 76 (U64 x :: lv :: h.map B8))], E59, E47] w58 := H64.foc 4 rfl rfl
  have H66 : St w [] [E47, E39, [(g7, Rw 26 ((hs ++ [hq 7, hq 8, hq 9]).flatten.map B8))], [(g1, Rw 76 (U64 x :: lv :: h.map B8))], E59] w58 := H65.foc 4 rfl rfl
  have H67 : St w [] [E47, E39, [(g7, Rw 26 ((hs ++ [hq 7, hq 8, hq 9]).flatten.map B8))], [(g1, Rw 76 (U64 x :: lv :: h.map B8))]] w58 := H66.take 4 rfl
  refine ⟨H67, ?_⟩
  refine tly (v := v57) rfl (y_assign rfl) ?_
  refine p_nil ?_
  refine n_then ?_
  refine c_seq ?_
  refine c_reg ?_
  refine sy (v := v45) (y_move rfl) ?_
  refine sy (v := v37) (y_move rfl) ?_
  refine st (ow_call fn56 rfl (bsame_c (v45) (v37) (bloomOf x ((hs ++ [hq 7, hq 8, hq 9]).take hs.length)) (bloomOf x hs) _ ((ho48.rd H62 1 rfl)).nil ((ho40.rd H62 2 rfl)).nil) ⟨rfl, rfl, trivial⟩) ?_
  rintro _ w68 ⟨rfl, hB69⟩
  have H70 : St w [] [E59, E47, E39, [(g7, Rw 26 ((hs ++ [hq 7, hq 8, hq 9]).flatten.map B8))], [(g1, Rw 76 (U64 x :: lv :: h.map B8))]] w68 := H62.call hB69
  refine sy (v := .bool (decide ((bloomOf x ((hs ++ [hq 7, hq 8, hq 9]).take hs.length)) = (bloomOf x hs)))) (y_assign rfl) ?_
  refine c_nil ?_
  refine n_then ?_
  refine c_seq ?_
  refine c_reg ?_
  refine sy (v := v57) (y_move rfl) ?_
  refine sy (v := v37) (y_move rfl) ?_
  refine st (ow_call fn56 rfl (bsame_c (v57) (v37) (bloomOf x ((hs ++ [hq 7, hq 8, hq 9]).take hs.length)) (bloomOf x hs) _ ((ho60.rd H70 0 rfl)).nil ((ho40.rd H70 2 rfl)).nil) ⟨rfl, rfl, trivial⟩) ?_
  rintro _ w71 ⟨rfl, hB72⟩
  have H73 : St w [] [E59, E47, E39, [(g7, Rw 26 ((hs ++ [hq 7, hq 8, hq 9]).flatten.map B8))], [(g1, Rw 76 (U64 x :: lv :: h.map B8))]] w71 := H70.call hB72
  refine sy (v := .bool (decide ((bloomOf x ((hs ++ [hq 7, hq 8, hq 9]).take hs.length)) = (bloomOf x hs)))) (y_assign rfl) ?_
  refine c_nil ?_
  refine n_then ?_
  refine c_seq ?_
  refine c_seq ?_
  refine c_reg ?_
  refine sy (v := .bool (true)) (y_move rfl) ?_
  refine sy (v := .bool (false)) (y_not (p := true) rfl) ?_
  refine sy (v := .bool (false)) (y_move rfl) ?_
  refine gsy (v := .bool (decide ((bloomOf x ((hs ++ [hq 7, hq 8, hq 9]).take hs.length)) = (bloomOf x hs)))) (gv_of (t := 73) rfl rfl rfl) (rfl) (y_move rfl) ?_
  refine gsy (v := .bool (decide (¬ ((bloomOf x ((hs ++ [hq 7, hq 8, hq 9]).take hs.length)) = (bloomOf x hs))))) (gv_of (t := 73) rfl rfl rfl) (rfl) (y_notP rfl) ?_
  refine sy (v := .bool (decide (¬ ((bloomOf x ((hs ++ [hq 7, hq 8, hq 9]).take hs.length)) = (bloomOf x hs))))) (y_pickF rfl (rfl) rfl) ?_
  refine sy (v := .bool (decide (¬ ((bloomOf x ((hs ++ [hq 7, hq 8, hq 9]).take hs.length)) = (bloomOf x hs))))) (y_move rfl) ?_
  have hq74 : (bloomOf x ((hs ++ [hq 7, hq 8, hq 9]).take hs.length)) = (bloomOf x hs) := (by first | rfl | rw [take3])
  refine gsy (v := .bool (decide ((bloomOf x ((hs ++ [hq 7, hq 8, hq 9]).take hs.length)) = (bloomOf x hs)))) (gv_of (t := 77) rfl rfl rfl) (decide_eq_false (not_not_intro hq74)) (y_move rfl) ?_
  refine gsy (v := .bool (decide (¬ ((bloomOf x ((hs ++ [hq 7, hq 8, hq 9]).take hs.length)) = (bloomOf x hs))))) (gv_of (t := 77) rfl rfl rfl) (decide_eq_false (not_not_intro hq74)) (y_notP rfl) ?_
  refine sy (v := .bool (decide (¬ ((bloomOf x ((hs ++ [hq 7, hq 8, hq 9]).take hs.length)) = (bloomOf x hs))))) (y_pickF rfl (decide_eq_false (not_not_intro hq74)) rfl) ?_
  refine sy (v := .bool (decide (¬ ((bloomOf x ((hs ++ [hq 7, hq 8, hq 9]).take hs.length)) = (bloomOf x hs))))) (y_move rfl) ?_
  refine gsy (v := .slice (some (bs g7)) (hs.length + 3) (hs.length + 3)) (gv_of (t := 81) rfl rfl rfl) (decide_eq_false (not_not_intro hq74)) (y_move rfl) ?_
  refine gsy (v := Ad (bs g1) (0 + 1)) (gv_of (t := 81) rfl rfl rfl) (decide_eq_false (not_not_intro hq74)) (y_fld Try.underlying76 rfl rfl sz72 (by decide) rfl) ?_
  refine gsy (v := lv) (gv_of (t := 81) rfl rfl rfl) (decide_eq_false (not_not_intro hq74)) (y_load sc72 rfl (H73.cell 4 rfl rfl)) ?_
  refine gsy (v := I ((hs.length : Nat) : Int)) (gv_of (t := 81) rfl rfl rfl) (decide_eq_false (not_not_intro hq74)) (y_lenR Try.underlying72 (hH.st H73) rfl) ?_
  refine gsy (v := Ad (bs g7) (hs.length * 32)) (gv_of (t := 81) rfl rfl rfl) (decide_eq_false (not_not_intro hq74)) (y_ixS (m := hs.length) Try.underlying72 sz26 rfl rfl rfl (by omega)) ?_
  refine gsy (v := .agg (((hs ++ [hq 7, hq 8, hq 9]).getD hs.length []).map B8).toArray) (gv_of (t := 81) rfl rfl rfl) (decide_eq_false (not_not_intro hq74)) (y_loadA (us := ((hs ++ [hq 7, hq 8, hq 9]).getD hs.length []).map B8) ag26 sz26 ((List.length_map _).trans (getD_len hh34 (by rw [hn35]; omega))) rfl (fun j u hu => (H73.cell 3 rfl (flat_get hh34 (by rw [hn35]; omega) hu)))) ?_
  refine gsy (v := .agg (([7, 0, 0, 0, 0, 0, 0, 0, 0, 0, 0, 0, 0, 0, 0, 0, 0, 0, 0, 0, 0, 0, 0, 0, 0, 0, 0, 0, 0, 0, 0, 0]).map B8).toArray) (gv_of (t := 81) rfl rfl rfl) (decide_eq_false (not_not_intro hq74)) (y_build (pv := [(0, B8 (7))]) (us := ([7, 0, 0, 0, 0, 0, 0, 0, 0, 0, 0, 0, 0, 0, 0, 0, 0, 0, 0, 0, 0, 0, 0, 0, 0, 0, 0, 0, 0, 0, 0, 0]).map B8) ⟨⟨rfl, rfl⟩, trivial⟩ (by kernel_rfl)) ?_
  refine gsy (v := .bool (decide (((hs ++ [hq 7, hq 8, hq 9]).getD hs.length []) ≠ ([7, 0, 0, 0, 0, 0, 0, 0, 0, 0, 0, 0, 0, 0, 0, 0, 0, 0, 0, 0, 0, 0, 0, 0, 0, 0, 0, 0, 0, 0, 0, 0])))) (gv_of (t := 81) rfl rfl rfl) (decide_eq_false (not_not_intro hq74)) (y_neqArr (l1 := (hs ++ [hq 7, hq 8, hq 9]).getD hs.length []) (l2 := [7, 0, 0, 0, 0, 0, 0, 0, 0, 0, 0, 0, 0, 0, 0, 0, 0, 0, 0, 0, 0, 0, 0, 0, 0, 0, 0, 0, 0, 0, 0, 0]) Try.underlying26 sz5 sc5 Try.underlying5 gt26 (getD_len hh34 (by rw [hn35]; omega)) (by simp [*]) rfl rfl) ?_
  refine sy (v := .bool (decide (((hs ++ [hq 7, hq 8, hq 9]).getD hs.length []) ≠ ([7, 0, 0, 0, 0, 0, 0, 0, 0, 0, 0, 0, 0, 0, 0, 0, 0, 0, 0, 0, 0, 0, 0, 0, 0, 0, 0, 0, 0, 0, 0, 0])))) (y_pickF rfl (decide_eq_false (not_not_intro hq74)) rfl) ?_
  refine sy (v := .bool (decide (((hs ++ [hq 7, hq 8, hq 9]).getD hs.length []) ≠ ([7, 0, 0, 0, 0, 0, 0, 0, 0, 0, 0, 0, 0, 0, 0, 0, 0, 0, 0, 0, 0, 0, 0, 0, 0, 0, 0, 0, 0, 0, 0, 0])))) (y_move rfl) ?_
  have hq75 : ¬ (((hs ++ [hq 7, hq 8, hq 9]).getD hs.length []) ≠ ([7, 0, 0, 0, 0, 0, 0, 0, 0, 0, 0, 0, 0, 0, 0, 0, 0, 0, 0, 0, 0, 0, 0, 0, 0, 0, 0, 0, 0, 0, 0, 0])) := (by rw [get3_0]; exact fun h => h rfl)
  refine gsy (v := .slice (some (bs g7)) (hs.length + 3) (hs.length + 3)) (gv_of (t := 91) rfl rfl rfl) (decide_eq_false hq75) (y_move rfl) ?_
  refine gsy (v := Ad (bs g1) (0 + 1)) (gv_of (t := 91) rfl rfl rfl) (decide_eq_false hq75) (y_fld Try.underlying76 rfl rfl sz72 (by decide) rfl) ?_
  refine gsy (v := lv) (gv_of (t := 91) rfl rfl rfl) (decide_eq_false hq75) (y_load sc72 rfl (H73.cell 4 rfl rfl)) ?_
  refine gsy (v := I ((hs.length : Nat) : Int)) (gv_of (t := 91) rfl rfl rfl) (decide_eq_false hq75) (y_lenR Try.underlying72 (hH.st H73) rfl) ?_
  refine gsy (v := I ((hs.length + 1 : Nat) : Int)) (gv_of (t := 91) rfl rfl rfl) (decide_eq_false hq75) (n_add (a := hs.length) (b := 1) rfl rfl (by omega)) ?_
  refine gsy (v := Ad (bs g7) ((hs.length + 1) * 32)) (gv_of (t := 91) rfl rfl rfl) (decide_eq_false hq75) (y_ixS (m := hs.length + 1) Try.underlying72 sz26 rfl rfl rfl (by omega)) ?_
  refine gsy (v := .agg (((hs ++ [hq 7, hq 8, hq 9]).getD (hs.length + 1) []).map B8).toArray) (gv_of (t := 91) rfl rfl rfl) (decide_eq_false hq75) (y_loadA (us := ((hs ++ [hq 7, hq 8, hq 9]).getD (hs.length + 1) []).map B8) ag26 sz26 ((List.length_map _).trans (getD_len hh34 (by rw [hn35]; omega))) rfl (fun j u hu => (H73.cell 3 rfl (flat_get hh34 (by rw [hn35]; omega) hu)))) ?_
  refine gsy (v := .agg (([8, 0, 0, 0, 0, 0, 0, 0, 0, 0, 0, 0, 0, 0, 0, 0, 0, 0, 0, 0, 0, 0, 0, 0, 0, 0, 0, 0, 0, 0, 0, 0]).map B8).toArray) (gv_of (t := 91) rfl rfl rfl) (decide_eq_false hq75) (y_build (pv := [(0, B8 (8))]) (us := ([8, 0, 0, 0, 0, 0, 0, 0, 0, 0, 0, 0, 0, 0, 0, 0, 0, 0, 0, 0, 0, 0, 0, 0, 0, 0, 0, 0, 0, 0, 0, 0]).map B8) ⟨⟨rfl, rfl⟩, trivial⟩ (by kernel_rfl)) ?_
  refine gsy (v := .bool (decide (((hs ++ [hq 7, hq 8, hq 9]).getD (hs.length + 1) []) ≠ ([8, 0, 0, 0, 0, 0, 0, 0, 0, 0, 0, 0, 0, 0, 0, 0, 0, 0, 0, 0, 0, 0, 0, 0, 0, 0, 0, 0, 0, 0, 0, 0])))) (gv_of (t := 91) rfl rfl rfl) (decide_eq_false hq75) (y_neqArr (l1 := (hs ++ [hq 7, hq 8, hq 9]).getD (hs.length + 1) []) (l2 := [8, 0, 0, 0, 0, 0, 0, 0, 0, 0, 0, 0, 0, 0, 0, 0, 0, 0, 0, 0, 0, 0, 0, 0, 0, 0, 0, 0, 0, 0, 0, 0]) Try.underlying26 sz5 sc5 Try.underlying5 gt26 (getD_len hh34 (by rw [hn35]; omega)) (by simp [*]) rfl rfl) ?_
  refine sy (v := .bool (decide (((hs ++ [hq 7, hq 8, hq 9]).getD (hs.length + 1) []) ≠ ([8, 0, 0, 0, 0, 0, 0, 0, 0, 0, 0, 0, 0, 0, 0, 0, 0, 0, 0, 0, 0, 0, 0, 0, 0, 0, 0, 0, 0, 0, 0, 0])))) (y_pickF rfl (decide_eq_false hq75) rfl) ?_
  refine sy (v := .bool (decide (((hs ++ [hq 7, hq 8, hq 9]).getD (hs.length + 1) []) ≠ ([8, 0, 0, 0, 0, 0, 0, 0, 0, 0, 0, 0, 0, 0, 0, 0, 0, 0, 0, 0, 0, 0, 0, 0, 0, 0, 0, 0, 0, 0, 0, 0])))) (y_move rfl) ?_
  have hq76 : ¬ (((hs ++ [hq 7, hq 8, hq 9]).getD (hs.length + 1) []) ≠ ([8, 0, 0, 0, 0, 0, 0, 0, 0, 0, 0, 0, 0, 0, 0, 0, 0, 0, 0, 0, 0, 0, 0, 0, 0, 0, 0, 0, 0, 0, 0, 0])) := (by rw [get3_1]; exact fun h => h rfl)
  refine gsy (v := .slice (some (bs g7)) (hs.length + 3) (hs.length + 3)) (gv_of (t := 102) rfl rfl rfl) (decide_eq_false hq76) (y_move rfl) ?_
  refine gsy (v := Ad (bs g1) (0 + 1)) (gv_of (t := 102) rfl rfl rfl) (decide_eq_false hq76) (y_fld Try.underlying76 rfl rfl sz72 (by decide) rfl) ?_
  refine gsy (v := lv) (gv_of (t := 102) rfl rfl rfl) (decide_eq_false hq76) (y_load sc72 rfl (H73.cell 4 rfl rfl)) ?_
  refine gsy (v := I ((hs.length : Nat) : Int)) (gv_of (t := 102) rfl rfl rfl) (decide_eq_false hq76) (y_lenR Try.underlying72 (hH.st H73) rfl) ?_
  refine gsy (v := I ((hs.length + 2 : Nat) : Int)) (gv_of (t := 102) rfl rfl rfl) (decide_eq_false hq76) (n_add (a := hs.length) (b := 2) rfl rfl (by omega)) ?_
  refine gsy (v := Ad (bs g7) ((hs.length + 2) * 32)) (gv_of (t := 102) rfl rfl rfl) (decide_eq_false hq76) (y_ixS (m := hs.length + 2) Try.underlying72 sz26 rfl rfl rfl (by omega)) ?_
  refine gsy (v := .agg (((hs ++ [hq 7, hq 8, hq 9]).getD (hs.length + 2) []).map B8).toArray) (gv_of (t := 102) rfl rfl rfl) (decide_eq_false hq76) (y_loadA (us := ((hs ++ [hq 7, hq 8, hq 9]).getD (hs.length + 2) []).map B8) ag26 sz26 ((List.length_map _).trans (getD_len hh34 (by rw [hn35]; omega))) rfl (fun j u hu => (H73.cell 3 rfl (flat_get hh34 (by rw [hn35]; omega) hu)))) ?_
  refine gsy (v := .agg (([9, 0, 0, 0, 0, 0, 0, 0, 0, 0, 0, 0, 0, 0, 0, 0, 0, 0, 0, 0, 0, 0, 0, 0, 0, 0, 0, 0, 0, 0, 0, 0]).map B8).toArray) (gv_of (t := 102) rfl rfl rfl) (decide_eq_false hq76) (y_build (pv := [(0, B8 (9))]) (us := ([9, 0, 0, 0, 0, 0, 0, 0, 0, 0, 0, 0, 0, 0, 0, 0, 0, 0, 0, 0, 0, 0, 0, 0, 0, 0, 0, 0, 0, 0, 0, 0]).map B8) ⟨⟨rfl, rfl⟩, trivial⟩ (by kernel_rfl)) ?_
  refine gsy (v := .bool (decide (((hs ++ [hq 7, hq 8, hq 9]).getD (hs.length + 2) []) ≠ ([9, 0, 0, 0, 0, 0, 0, 0, 0, 0, 0, 0, 0, 0, 0, 0, 0, 0, 0, 0, 0, 0, 0, 0, 0, 0, 0, 0, 0, 0, 0, 0])))) (gv_of (t := 102) rfl rfl rfl) (decide_eq_false hq76) (y_neqArr (l1 := (hs ++ [hq 7, hq 8, hq 9]).getD (hs.length + 2) []) (l2 := [9, 0, 0, 0, 0, 0, 0, 0, 0, 0, 0, 0, 0, 0, 0, 0, 0, 0, 0, 0, 0, 0, 0, 0, 0, 0, 0, 0, 0, 0, 0, 0]) Try.underlying26 sz5 sc5 Try.underlying5 gt26 (getD_len hh34 (by rw [hn35]; omega)) (by simp [*]) rfl rfl) ?_
  refine sy (v := .bool (decide (((hs ++ [hq 7, hq 8, hq 9]).getD (hs.length + 2) []) ≠ ([9, 0, 0, 0, 0, 0, 0, 0, 0, 0, 0, 0, 0, 0, 0, 0, 0, 0, 0, 0, 0, 0, 0, 0, 0, 0, 0, 0, 0, 0, 0, 0])))) (y_pickF rfl (decide_eq_false hq76) rfl) ?_
  refine c_nil ?_
  refine n_then ?_
  have hq77 : ¬ (((hs ++ [hq 7, hq 8, hq 9]).getD (hs.length + 2) []) ≠ ([9, 0, 0, 0, 0, 0, 0, 0, 0, 0, 0, 0, 0, 0, 0, 0, 0, 0, 0, 0, 0, 0, 0, 0, 0, 0, 0, 0, 0, 0, 0, 0])) := (by rw [get3_2]; exact fun h => h rfl)
  refine c_f rfl (decide_eq_false hq77) ?_
  refine wp_skip ?_
  refine n_then ?_
  refine c_seq ?_
  refine c_seq ?_
  refine c_reg ?_
  refine sy (v := I ((0 : Nat) : Int)) (y_assign (v := I ((0 : Nat) : Int)) rfl) ?_
  refine c_nil ?_
  refine n_then ?_
  refine wp_block ?_
  refine c_loop (fun (i : Nat) f78 w79 => ∃ (ks : List (List UInt8)), f78 1 = Ad (bs g1) (0) ∧ f78 4 = .slice (some (bs g7)) (hs.length + 3) (hs.length + 3) ∧ f78 5 = v37 ∧ f78 6 = v45 ∧ f78 7 = v57 ∧ f78 10 = I ((i : Nat) : Int) ∧ i ≤ hs.length ∧ H32 ks ∧ ks.length = hs.length + 3 ∧ (∀ j, i ≤ j → j < hs.length → ks.getD j [] = hs.getD j []) ∧ St w [] [E59, E47, E39, [(g7, Rw 26 ((ks).flatten.map B8))], [(g1, Rw 76 (U64 x :: lv :: h.map B8))]] w79) (fun i => hs.length - i) 0 ⟨_, rfl, rfl, rfl, rfl, rfl, rfl, (Nat.zero_le _), hh34, hn35, (fun j _ hj => get3_l hj), H73⟩ ?_
  rintro i f78 w79 ⟨ks, s1_80, s4_80, s5_80, s6_80, s7_80, s10_80, hi, hK, hkn, hkk, H80⟩
  refine c_seq ?_
  refine c_seq ?_
  refine c_reg ?_
  refine sy (v := I ((i : Nat) : Int)) (y_move s10_80) ?_
  refine sy (v := Ad (bs g1) (0 + 1)) (y_fld Try.underlying76 rfl rfl sz72 (by decide) s1_80) ?_
  refine sy (v := lv) (y_load sc72 rfl (H80.cell 4 rfl rfl)) ?_
  refine sy (v := I ((hs.length : Nat) : Int)) (y_lenR Try.underlying72 (hH.st H80) rfl) ?_
  refine sy (v := .bool (decide (i < hs.length))) (n_lss (a := i) (b := hs.length) rfl rfl) ?_
  refine c_nil ?_
  refine n_then ?_
  refine c_if rfl (fun hc81 => ?_) (fun hc81 => ?_)
  · skip
    refine wp_skip ?_
    refine n_then ?_
    refine c_seq ?_
    refine wp_block ?_
    refine c_seq ?_
    refine c_seq ?_
    refine drawS (.step 0 0 (.step 0 1 (.step 0 2 (.step 0 3 (.step 0 4 (.step 0 5 (.step 0 6 (.step 0 7 (.step 0 8 (.step 0 9 .nil)))))))))) mixed H80 (by kernel_rfl) (by kernel_rfl) (by kernel_rfl) ?_
    intro w82 H83
    refine pt (v := .slice (some (bs g7)) (hs.length + 3) (hs.length + 3)) rfl (fun wS HS => y_move s4_80) ?_
    refine pt (v := I ((i : Nat) : Int)) rfl (fun wS HS => y_move s10_80) ?_
    refine pt (v := Ad (bs g7) (i * 32)) rfl (fun wS HS => y_ixS (m := i) Try.underlying72 sz26 rfl rfl rfl (by omega)) ?_
    refine pt (v := .agg ((ks.getD i []).map B8).toArray) rfl (fun wS HS => y_loadA (us := ((ks).getD i []).map B8) ag26 sz26 ((List.length_map _).trans (getD_len hK (by rw [hkn]; omega))) rfl (fun j u hu => (HS.cell 3 rfl (flat_get hK (by rw [hkn]; omega) hu)))) ?_
    refine pt (v := Ad (bs g1) (0 + 1)) rfl (fun wS HS => y_fld Try.underlying76 rfl rfl sz72 (by decide) s1_80) ?_
    refine pt (v := lv) rfl (fun wS HS => y_load sc72 rfl (HS.cell 4 rfl rfl)) ?_
    refine pt (v := I ((i : Nat) : Int)) rfl (fun wS HS => y_move s10_80) ?_
    refine pt (v := Ad (sp (lv)) (i * 32)) rfl (fun wS HS => y_ixR (m := i) Try.underlying72 sz26 (hH.st HS) (by decide) rfl rfl rfl (by omega)) ?_
    refine pt (v := .agg ((hs.getD i []).map B8).toArray) rfl (fun wS HS => y_loadA (us := (hs.getD i []).map B8) ag26 sz26 ((List.length_map _).trans (getD_len hh (by omega))) rfl (fun j u hu => (hH.st HS).cell _ _ (flat_get hh (by omega) hu))) ?_
    refine pt (v := .bool (decide ((ks.getD i []) ≠ (hs.getD i [])))) rfl (fun wS HS => y_neqArr (l1 := (ks).getD i []) (l2 := hs.getD i []) Try.underlying26 sz5 sc5 Try.underlying5 gt26 (getD_len hK (by rw [hkn]; omega)) (getD_len hh (by omega)) rfl rfl) ?_
    refine p_nil ?_
    refine n_then ?_
    have hq84 : ¬ ((ks.getD i []) ≠ (hs.getD i [])) := (fun h => h (hkk i (Nat.le_refl _) (by omega)))
    refine c_f rfl (decide_eq_false hq84) ?_
    refine wp_skip ?_
    refine n_then ?_
    refine c_seq ?_
    refine c_reg ?_
    refine sy (v := .slice (some (bs g7)) (hs.length + 3) (hs.length + 3)) (y_move s4_80) ?_
    refine sy (v := I ((i : Nat) : Int)) (y_move s10_80) ?_
    refine sy (v := Ad (bs g1) (0 + 2)) (y_fld Try.underlying76 rfl rfl sz26 (by decide) s1_80) ?_
    refine sy (v := .agg (h.map B8).toArray) (y_loadA (us := h.map B8) ag26 sz26 ((List.length_map _).trans hl32) rfl (fun j u hu => (H83.cell 4 rfl (by rw [show 0 + 2 + j = j + 2 by omega]; exact hu)))) ?_
    refine sy (v := Ad (bs g7) (i * 32)) (y_ixS (m := i) Try.underlying72 sz26 rfl rfl rfl (by omega)) ?_
    have H85 : St w [] [[(g7, Rw 26 ((ks).flatten.map B8))], E59, E47, E39, [(g1, Rw 76 (U64 x :: lv :: h.map B8))]] w82 := H83.foc 3 rfl rfl
    refine s0 (ow_storeA (us := (h).map B8) H85 sz26 ((List.length_map _).trans hl32) rfl rfl (map_one (F := B8) (fun _ => rfl) _) (by rw [flat_len hK, hkn]; omega)) ?_
    rintro _ w86 H87'
    have hh88 : H32 ((ks).set i (h)) := hh_set hK hl32
    have hn89 : ((ks).set i (h)).length = hs.length + 3 := by rw [List.length_set]; exact hkn
    have H87 : St w [] [[(g7, Rw 26 (((ks).set i (h)).flatten.map B8))], E59, E47, E39, [(g1, Rw 76 (U64 x :: lv :: h.map B8))]] w86 := H87'.eq1 (flat_set hK (by rw [hkn]; omega))
    refine c_nil ?_
    refine n_then ?_
    refine drawSub (.step 0 0 (.step 0 1 (.step 0 2 (.step 0 3 (.step 0 5 (.step 0 6 (.step 0 8 (.step 1 4 (.step 0 7 (.step 0 9 (.step 1 10 .nil))))))))))) mixed H87 (fun _ h => h.drop) (by kernel_rfl) (by kernel_rfl) (by kernel_rfl) ?_
    intro w90 H91
    refine pt (v := .slice (some (bs g7)) (hs.length + 3) (hs.length + 3)) rfl (fun wS HS => y_move s4_80) ?_
    refine pt (v := I ((i : Nat) : Int)) rfl (fun wS HS => y_move s10_80) ?_
    refine pt (v := Ad (bs g7) (i * 32)) rfl (fun wS HS => y_ixS (m := i) Try.underlying72 sz26 rfl rfl rfl (by omega)) ?_
    refine pt (v := Ad (bs g7) ((i * 32) + 0 * 1)) rfl (fun wS HS => y_ixA (m := 0) Try.underlying26 sz5 rfl rfl rfl (by omega)) ?_
    refine pt (v := I ((i : Nat) : Int)) rfl (fun wS HS => y_move s10_80) ?_
    refine pt (v := B8 (b8 ((i : Nat)))) rfl (fun wS HS => y_conv_I_8 Try.underlying3 Try.underlying5 rfl) ?_
    refine pt (v := Ad (bs g7) (i * 32)) rfl (fun wS HS => y_ixS (m := i) Try.underlying72 sz26 rfl rfl rfl (by omega)) ?_
    have H92 : St w [] [[(g1, Rw 76 (U64 x :: lv :: h.map B8))], [(g7, Rw 26 (((ks).set i (h)).flatten.map B8))], E59, E47, E39] w90 := H91.foc 4 rfl rfl
    have H93 : St w [] [E39, [(g1, Rw 76 (U64 x :: lv :: h.map B8))], [(g7, Rw 26 (((ks).set i (h)).flatten.map B8))], E59, E47] w90 := H92.foc 4 rfl rfl
    have H94 : St w [] [E47, E39, [(g1, Rw 76 (U64 x :: lv :: h.map B8))], [(g7, Rw 26 (((ks).set i (h)).flatten.map B8))], E59] w90 := H93.foc 4 rfl rfl
    have H95 : St w [] [E59, E47, E39, [(g1, Rw 76 (U64 x :: lv :: h.map B8))], [(g7, Rw 26 (((ks).set i (h)).flatten.map B8))]] w90 := H94.foc 4 rfl rfl
    have H96 : St w [] [E59, E47, E39, [(g1, Rw 76 (U64 x :: lv :: h.map B8))]] w90 := H95.take 4 rfl
    refine ply (v := B8 (((ks.set i h).getD i []).getD 0 0)) rfl (y_load sc5 rfl (H91.cell 0 rfl (flat_getB (j := 0 * 1) hh88 (by rw [hn89]; omega) (by omega)))) H96 ?_
    refine pt (v := B8 ((((ks.set i h).getD i []).getD 0 0) ^^^ (b8 ((i : Nat))))) rfl (fun wS HS => y_xor8 (a := ((ks.set i h).getD i []).getD 0 0) (b := b8 ((i : Nat))) rfl rfl) ?_
    refine pt (v := Ad (bs g7) ((i * 32) + 0 * 1)) rfl (fun wS HS => y_ixA (m := 0) Try.underlying26 sz5 rfl rfl rfl (by omega)) ?_
    refine p0 rfl (ow_store (j := i * 32 + 0) H91 sz5 rfl rfl rfl (by first | rfl | omega) (by rw [flat_len hh88, hn89]; omega)) ?_
    rintro _ w97 H98'
    have hh99 : H32 (((ks).set i (h)).set i ((((ks).set i (h)).getD i []).set 0 ((((ks.set i h).getD i []).getD 0 0) ^^^ (b8 ((i : Nat)))))) := hh_set hh88 (by rw [List.length_set]; exact getD_len hh88 (by rw [hn89]; omega))
    have hn100 : (((ks).set i (h)).set i ((((ks).set i (h)).getD i []).set 0 ((((ks.set i h).getD i []).getD 0 0) ^^^ (b8 ((i : Nat)))))).length = hs.length + 3 := by rw [List.length_set]; exact hn89
    have H98 : St w [] [[(g7, Rw 26 ((((ks).set i (h)).set i ((((ks).set i (h)).getD i []).set 0 ((((ks.set i h).getD i []).getD 0 0) ^^^ (b8 ((i : Nat)))))).flatten.map B8))], E59, E47, E39, [(g1, Rw 76 (U64 x :: lv :: h.map B8))]] w97 := H98'.eq1 (flat_setB hh88 (by rw [hn89]; omega) (by omega))
    have H101 : St w [] [[(g1, Rw 76 (U64 x :: lv :: h.map B8))], [(g7, Rw 26 ((((ks).set i (h)).set i ((((ks).set i (h)).getD i []).set 0 ((((ks.set i h).getD i []).getD 0 0) ^^^ (b8 ((i : Nat)))))).flatten.map B8))], E59, E47, E39] w97 := H98.foc 4 rfl rfl
    have H102 : St w [] [E39, [(g1, Rw 76 (U64 x :: lv :: h.map B8))], [(g7, Rw 26 ((((ks).set i (h)).set i ((((ks).set i (h)).getD i []).set 0 ((((ks.set i h).getD i []).getD 0 0) ^^^ (b8 ((i : Nat)))))).flatten.map B8))], E59, E47] w97 := H101.foc 4 rfl rfl
    have H103 : St w [] [E47, E39, [(g1, Rw 76 (U64 x :: lv :: h.map B8))], [(g7, Rw 26 ((((ks).set i (h)).set i ((((ks).set i (h)).getD i []).set 0 ((((ks.set i h).getD i []).getD 0 0) ^^^ (b8 ((i : Nat)))))).flatten.map B8))], E59] w97 := H102.foc 4 rfl rfl
    have H104 : St w [] [E59, E47, E39, [(g1, Rw 76 (U64 x :: lv :: h.map B8))], [(g7, Rw 26 ((((ks).set i (h)).set i ((((ks).set i (h)).getD i []).set 0 ((((ks.set i h).getD i []).getD 0 0) ^^^ (b8 ((i : Nat)))))).flatten.map B8))]] w97 := H103.foc 4 rfl rfl
    have H105 : St w [] [E59, E47, E39, [(g1, Rw 76 (U64 x :: lv :: h.map B8))]] w97 := H104.take 4 rfl
    refine ⟨H105, ?_⟩
    refine p_nil ?_
    refine n_block (n_then ?_)
    refine c_reg ?_
    refine sy (v := I ((i : Nat) : Int)) (y_move s10_80) ?_
    refine sy (v := I ((i + 1 : Nat) : Int)) (n_add (a := i) (b := 1) rfl rfl (by omega)) ?_
    refine sy (v := I ((i + 1 : Nat) : Int)) (y_assign rfl) ?_
    refine c_nil ?_
    have H106 : St w [] [[(g1, Rw 76 (U64 x :: lv :: h.map B8))], [(g7, Rw 26 ((((ks).set i (h)).set i ((((ks).set i (h)).getD i []).set 0 ((((ks.set i h).getD i []).getD 0 0) ^^^ (b8 ((i : Nat)))))).flatten.map B8))], E59, E47, E39] w97 := H98.foc 4 rfl rfl
    have H107 : St w [] [[(g7, Rw 26 ((((ks).set i (h)).set i ((((ks).set i (h)).getD i []).set 0 ((((ks.set i h).getD i []).getD 0 0) ^^^ (b8 ((i : Nat)))))).flatten.map B8))], [(g1, Rw 76 (U64 x :: lv :: h.map B8))], E59, E47, E39] w97 := H106.foc 1 rfl rfl
    have H108 : St w [] [E39, [(g7, Rw 26 ((((ks).set i (h)).set i ((((ks).set i (h)).getD i []).set 0 ((((ks.set i h).getD i []).getD 0 0) ^^^ (b8 ((i : Nat)))))).flatten.map B8))], [(g1, Rw 76 (U64 x :: lv :: h.map B8))], E59, E47] w97 := H107.foc 4 rfl rfl
    have H109 : St w [] [E47, E39, [(g7, Rw 26 ((((ks).set i (h)).set i ((((ks).set i (h)).getD i []).set 0 ((((ks.set i h).getD i []).getD 0 0) ^^^ (b8 ((i : Nat)))))).flatten.map B8))], [(g1, Rw 76 (U64 x :: lv :: h.map B8))], E59] w97 := H108.foc 4 rfl rfl
    have H110 : St w [] [E59, E47, E39, [(g7, Rw 26 ((((ks).set i (h)).set i ((((ks).set i (h)).getD i []).set 0 ((((ks.set i h).getD i []).getD 0 0) ^^^ (b8 ((i : Nat)))))).flatten.map B8))], [(g1, Rw 76 (U64 x :: lv :: h.map B8))]] w97 := H109.foc 4 rfl rfl
    exact lp_next (i + 1) ⟨_, s1_80, s4_80, s5_80, s6_80, s7_80, rfl, (by omega), hh99, hn100, (fun j h1 h2 => by rw [getD_set_ne (by omega), getD_set_ne (by omega)]; exact hkk j (by omega) h2), H110⟩ (by show _ < _; omega)
  · skip
    refine wp_exit ?_
    refine x_then (x_then (x_hit (n_then ?_)))
    refine c_seq ?_
    refine drawS (.step 0 0 (.step 0 1 (.step 0 2 (.step 0 3 (.step 0 4 (.step 0 5 (.step 0 6 (.step 1 7 (.step 2 8 .nil))))))))) mixed H80 (by kernel_rfl) (by kernel_rfl) (by kernel_rfl) ?_
    intro w111 H112
    refine pt (v := Ad (bs g1) (0 + 0)) rfl (fun wS HS => y_fld Try.underlying76 rfl rfl sz59 (by decide) s1_80) ?_
    refine pt (v := U64 (x)) rfl (fun wS HS => y_load sc59 rfl (HS.cell 4 rfl rfl)) ?_
    refine pt (v := .slice (some (bs g7)) (hs.length + 3) (hs.length + 3)) rfl (fun wS HS => y_move s4_80) ?_
    refine pt (v := Ad (bs g1) (0 + 1)) rfl (fun wS HS => y_fld Try.underlying76 rfl rfl sz72 (by decide) s1_80) ?_
    refine pt (v := lv) rfl (fun wS HS => y_load sc72 rfl (HS.cell 4 rfl rfl)) ?_
    refine pt (v := I ((hs.length : Nat) : Int)) rfl (fun wS HS => y_lenR Try.underlying72 (hH.st HS) rfl) ?_
    refine pt (v := slv 32 0 hs.length (.slice (some (bs g7)) (hs.length + 3) (hs.length + 3))) rfl (fun wS HS => y_slR (k1 := .i64) (k2 := .i64) (l := 0) (h := hs.length) Try.underlying72 sz26 (rd_hblk HS 3 rfl hK hkn (by unfold maxLen; omega)) rfl (.inl ⟨rfl, rfl⟩) (.inr ⟨_, rfl, rfl⟩) (by omega) (by rw [hkn]; omega)) ?_
    refine pl rfl (ow_call fn55 rfl (of55_os (x) (slv 32 0 hs.length (.slice (some (bs g7)) (hs.length + 3) (hs.length + 3))) ((ks).take hs.length) _ ((rdh_pre (rd_hblk H112 3 rfl hK hkn (by unfold maxLen; omega)) (by rw [hkn]; omega) hK)).nil (hh_take hK) (by first | omega | (simp only [List.length_take]; omega))) ⟨rfl, rfl, trivial⟩) ?_
    rintro v113 w114 ⟨E115, ho116, H117⟩
    have H118 : St w [] [E115, E59, E47, E39, [(g7, Rw 26 ((ks).flatten.map B8))], [(g1, Rw 76 (U64 x :: lv :: h.map B8))]] w114 := H112.app H117
    have H119 : St w [] [[(g1, Rw 76 (U64 x :: lv :: h.map B8))], E115, E59, E47, E39, [(g7, Rw 26 ((ks).flatten.map B8))]] w114 := H118.foc 5 rfl rfl
    have H120 : St w [] [[(g7, Rw 26 ((ks).flatten.map B8))], [(g1, Rw 76 (U64 x :: lv :: h.map B8))], E115, E59, E47, E39] w114 := H119.foc 5 rfl rfl
    have H121 : St w [] [E39, [(g7, Rw 26 ((ks).flatten.map B8))], [(g1, Rw 76 (U64 x :: lv :: h.map B8))], E115, E59, E47] w114 := H120.foc 5 rfl rfl
    have H122 : St w [] [E47, E39, [(g7, Rw 26 ((ks).flatten.map B8))], [(g1, Rw 76 (U64 x :: lv :: h.map B8))], E115, E59] w114 := H121.foc 5 rfl rfl
    have H123 : St w [] [E59, E47, E39, [(g7, Rw 26 ((ks).flatten.map B8))], [(g1, Rw 76 (U64 x :: lv :: h.map B8))], E115] w114 := H122.foc 5 rfl rfl
    have H124 : St w [] [E59, E47, E39, [(g7, Rw 26 ((ks).flatten.map B8))], [(g1, Rw 76 (U64 x :: lv :: h.map B8))]] w114 := H123.take 5 rfl
    refine ⟨H124, ?_⟩
    refine tly (v := v113) rfl (y_assign rfl) ?_
    refine p_nil ?_
    refine n_then ?_
    refine c_seq ?_
    refine drawS (.step 0 0 (.step 0 1 (.step 0 2 (.step 0 3 (.step 0 4 (.step 0 5 (.step 0 6 (.step 0 7 (.step 1 8 (.step 1 9 (.step 2 10 .nil))))))))))) mixed H118 (by kernel_rfl) (by kernel_rfl) (by kernel_rfl) ?_
    intro w125 H126
    refine pt (v := v113) rfl (fun wS HS => y_move rfl) ?_
    refine pt (v := Ad (bs g1) (0 + 0)) rfl (fun wS HS => y_fld Try.underlying76 rfl rfl sz59 (by decide) s1_80) ?_
    refine pt (v := U64 (x)) rfl (fun wS HS => y_load sc59 rfl (HS.cell 5 rfl rfl)) ?_
    refine pt (v := .slice (some (bs g7)) (hs.length + 3) (hs.length + 3)) rfl (fun wS HS => y_move s4_80) ?_
    refine pt (v := Ad (bs g1) (0 + 1)) rfl (fun wS HS => y_fld Try.underlying76 rfl rfl sz72 (by decide) s1_80) ?_
    refine pt (v := lv) rfl (fun wS HS => y_load sc72 rfl (HS.cell 5 rfl rfl)) ?_
    refine pt (v := I ((hs.length : Nat) : Int)) rfl (fun wS HS => y_lenR Try.underlying72 (hH.st HS) rfl) ?_
    refine pt (v := slv 32 0 hs.length (.slice (some (bs g7)) (hs.length + 3) (hs.length + 3))) rfl (fun wS HS => y_slR (k1 := .i64) (k2 := .i64) (l := 0) (h := hs.length) Try.underlying72 sz26 (rd_hblk HS 4 rfl hK hkn (by unfold maxLen; omega)) rfl (.inl ⟨rfl, rfl⟩) (.inr ⟨_, rfl, rfl⟩) (by omega) (by rw [hkn]; omega)) ?_
    refine pl rfl (ow_call fn54 rfl (rof54_os (x) (slv 32 0 hs.length (.slice (some (bs g7)) (hs.length + 3) (hs.length + 3))) ((ks).take hs.length) _ ((rdh_pre (rd_hblk H126 4 rfl hK hkn (by unfold maxLen; omega)) (by rw [hkn]; omega) hK)).nil (hh_take hK) (by first | omega | (simp only [List.length_take]; omega))) ⟨rfl, rfl, trivial⟩) ?_
    rintro v127 w128 ⟨E129, ho130, H131⟩
    have H132 : St w [] [E129, E115, E59, E47, E39, [(g7, Rw 26 ((ks).flatten.map B8))], [(g1, Rw 76 (U64 x :: lv :: h.map B8))]] w128 := H126.app H131
    have H133 : St w [] [[(g1, Rw 76 (U64 x :: lv :: h.map B8))], E129, E115, E59, E47, E39, [(g7, Rw 26 ((ks).flatten.map B8))]] w128 := H132.foc 6 rfl rfl
    have H134 : St w [] [[(g7, Rw 26 ((ks).flatten.map B8))], [(g1, Rw 76 (U64 x :: lv :: h.map B8))], E129, E115, E59, E47, E39] w128 := H133.foc 6 rfl rfl
    have H135 : St w [] [E39, [(g7, Rw 26 ((ks).flatten.map B8))], [(g1, Rw 76 (U64 x :: lv :: h.map B8))], E129, E115, E59, E47] w128 := H134.foc 6 rfl rfl
    have H136 : St w [] [E47, E39, [(g7, Rw 26 ((ks).flatten.map B8))], [(g1, Rw 76 (U64 x :: lv :: h.map B8))], E129, E115, E59] w128 := H135.foc 6 rfl rfl
    have H137 : St w [] [E59, E47, E39, [(g7, Rw 26 ((ks).flatten.map B8))], [(g1, Rw 76 (U64 x :: lv :: h.map B8))], E129, E115] w128 := H136.foc 6 rfl rfl
    have H138 : St w [] [E115, E59, E47, E39, [(g7, Rw 26 ((ks).flatten.map B8))], [(g1, Rw 76 (U64 x :: lv :: h.map B8))], E129] w128 := H137.foc 6 rfl rfl
    have H139 : St w [] [E115, E59, E47, E39, [(g7, Rw 26 ((ks).flatten.map B8))], [(g1, Rw 76 (U64 x :: lv :: h.map B8))]] w128 := H138.take 6 rfl
    refine ⟨H139, ?_⟩
    refine pl rfl (ow_call fn56 rfl (bsame_c (v113) (v127) (bloomOf x (ks.take hs.length)) (bloomOf x (ks.take hs.length)) _ ((ho116.rd H132 1 rfl)).nil ((ho130.rd H132 0 rfl)).nil) ⟨rfl, rfl, trivial⟩) ?_
    rintro _ w140 ⟨rfl, hB141⟩
    have H142 : St w [] [E129, E115, E59, E47, E39, [(g7, Rw 26 ((ks).flatten.map B8))], [(g1, Rw 76 (U64 x :: lv :: h.map B8))]] w140 := H132.call hB141
    have H143 : St w [] [[(g1, Rw 76 (U64 x :: lv :: h.map B8))], E129, E115, E59, E47, E39, [(g7, Rw 26 ((ks).flatten.map B8))]] w140 := H142.foc 6 rfl rfl
    have H144 : St w [] [[(g7, Rw 26 ((ks).flatten.map B8))], [(g1, Rw 76 (U64 x :: lv :: h.map B8))], E129, E115, E59, E47, E39] w140 := H143.foc 6 rfl rfl
    have H145 : St w [] [E39, [(g7, Rw 26 ((ks).flatten.map B8))], [(g1, Rw 76 (U64 x :: lv :: h.map B8))], E129, E115, E59, E47] w140 := H144.foc 6 rfl rfl
    have H146 : St w [] [E47, E39, [(g7, Rw 26 ((ks).flatten.map B8))], [(g1, Rw 76 (U64 x :: lv :: h.map B8))], E129, E115, E59] w140 := H145.foc 6 rfl rfl
    have H147 : St w [] [E59, E47, E39, [(g7, Rw 26 ((ks).flatten.map B8))], [(g1, Rw 76 (U64 x :: lv :: h.map B8))], E129, E115] w140 := H146.foc 6 rfl rfl
    have H148 : St w [] [E115, E59, E47, E39, [(g7, Rw 26 ((ks).flatten.map B8))], [(g1, Rw 76 (U64 x :: lv :: h.map B8))], E129] w140 := H147.foc 6 rfl rfl
    have H149 : St w [] [E115, E59, E47, E39, [(g7, Rw 26 ((ks).flatten.map B8))], [(g1, Rw 76 (U64 x :: lv :: h.map B8))]] w140 := H148.take 6 rfl
    refine ⟨H149, ?_⟩
    refine tly (v := .bool (decide ((bloomOf x (ks.take hs.length)) = (bloomOf x (ks.take hs.length))))) rfl (y_assign rfl) ?_
    refine p_nil ?_
    refine n_then ?_
    refine c_seq ?_
    refine c_reg ?_
    refine sy (v := v45) (y_move s6_80) ?_
    refine sy (v := v37) (y_move s5_80) ?_
    refine st (ow_call fn56 rfl (bsame_c (v45) (v37) (bloomOf x ((hs ++ [hq 7, hq 8, hq 9]).take hs.length)) (bloomOf x hs) _ ((ho48.rd H142 3 rfl)).nil ((ho40.rd H142 4 rfl)).nil) ⟨rfl, rfl, trivial⟩) ?_
    rintro _ w150 ⟨rfl, hB151⟩
    have H152 : St w [] [E129, E115, E59, E47, E39, [(g7, Rw 26 ((ks).flatten.map B8))], [(g1, Rw 76 (U64 x :: lv :: h.map B8))]] w150 := H142.call hB151
    refine sy (v := .bool (decide ((bloomOf x ((hs ++ [hq 7, hq 8, hq 9]).take hs.length)) = (bloomOf x hs)))) (y_assign rfl) ?_
    refine c_nil ?_
    refine n_then ?_
    refine c_seq ?_
    refine c_seq ?_
    refine c_reg ?_
    refine sy (v := .bool (decide ((bloomOf x (ks.take hs.length)) = (bloomOf x (ks.take hs.length))))) (y_move rfl) ?_
    refine sy (v := .bool (decide (¬ ((bloomOf x (ks.take hs.length)) = (bloomOf x (ks.take hs.length)))))) (y_notP rfl) ?_
    refine sy (v := .bool (decide (¬ ((bloomOf x (ks.take hs.length)) = (bloomOf x (ks.take hs.length)))))) (y_move rfl) ?_
    have hq153 : (bloomOf x (ks.take hs.length)) = (bloomOf x (ks.take hs.length)) := (by first | rfl | rw [take3])
    refine gsy (v := .bool (decide ((bloomOf x ((hs ++ [hq 7, hq 8, hq 9]).take hs.length)) = (bloomOf x hs)))) (gv_of (t := 168) rfl rfl rfl) (decide_eq_false (not_not_intro hq153)) (y_move rfl) ?_
    refine gsy (v := .bool (decide (¬ ((bloomOf x ((hs ++ [hq 7, hq 8, hq 9]).take hs.length)) = (bloomOf x hs))))) (gv_of (t := 168) rfl rfl rfl) (decide_eq_false (not_not_intro hq153)) (y_notP rfl) ?_
    refine sy (v := .bool (decide (¬ ((bloomOf x ((hs ++ [hq 7, hq 8, hq 9]).take hs.length)) = (bloomOf x hs))))) (y_pickF rfl (decide_eq_false (not_not_intro hq153)) rfl) ?_
    refine c_nil ?_
    refine n_then ?_
    refine c_f rfl (decide_eq_false (not_not_intro hq74)) ?_
    refine wp_skip ?_
    refine n_then ?_
    refine c_seq ?_
    refine c_reg ?_
    refine sy (v := v45) (y_move s6_80) ?_
    refine sy (v := v57) (y_move s7_80) ?_
    refine sy (v := v113) (y_move rfl) ?_
    refine st (ow_buildSlice (pv := [(0, v45), (1, v57), (2, v113)]) (us := [v45, v57, v113]) Try.underlying36 sz23 zr23 H152 ⟨⟨rfl, rfl⟩, ⟨rfl, rfl⟩, ⟨rfl, rfl⟩, trivial⟩ (by decide) (fill3 (ho48.rd H152 3 rfl).cells (ho60.rd H152 2 rfl).cells (ho116.rd H152 1 rfl).cells)) ?_
    rintro _ w155 ⟨g154, rfl, H156⟩
    have H159 : St w [] [E115, [(g154, Rw 23 ([v45, v57, v113]))], E129, E59, E47, E39, [(g7, Rw 26 ((ks).flatten.map B8))], [(g1, Rw 76 (U64 x :: lv :: h.map B8))]] w155 := H156.foc 2 rfl rfl
    have H160 : St w [] [E59, E115, [(g154, Rw 23 ([v45, v57, v113]))], E129, E47, E39, [(g7, Rw 26 ((ks).flatten.map B8))], [(g1, Rw 76 (U64 x :: lv :: h.map B8))]] w155 := H159.foc 3 rfl rfl
    have H161 : St w [] [E47, E59, E115, [(g154, Rw 23 ([v45, v57, v113]))], E129, E39, [(g7, Rw 26 ((ks).flatten.map B8))], [(g1, Rw 76 (U64 x :: lv :: h.map B8))]] w155 := H160.foc 4 rfl rfl
    have H162 : St w [] [E47, E59, E115, [(g154, Rw 23 ([v45, v57, v113]))]] w155 := H161.take 4 rfl
    refine st (ow_call fn57 rfl (bgrown_c w _ (v45) (v57) (v113) (bloomOf x ((hs ++ [hq 7, hq 8, hq 9]).take hs.length)) (bloomOf x ((hs ++ [hq 7, hq 8, hq 9]).take hs.length)) (bloomOf x (ks.take hs.length)) E47 E59 E115 g154 H162 ho48 ho60 ho116 (bloomOf_le _ _) (bloomOf_le _ _) (bloomOf_le _ _)) ⟨rfl, trivial⟩) ?_
    rintro _ w157 ⟨rfl, hB158⟩
    have H163 : St w [] [] w157 := ⟨hB158.os, hB158.tape, hB158.output, hB158.size, fun k hk _ => hB158.block k hk, by simp, by simp, .nil⟩
    refine sy (v := .bool (true)) (y_assign rfl) ?_
    refine c_nil ?_
    refine n_then ?_
    refine wp_ret ?_
    refine e_r1 Try.results10 (rv_t rfl) ?_
    exact ⟨_, rfl, rfl, H163.below⟩

end Go.Proofs.Ytdcmbcjkdhdohaa
