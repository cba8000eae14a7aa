/- BloomPlaces returns true for every salt, hash and size: no condition. -/
import Derived.Test.YtdcmbcjkdhdohaaBloom3
namespace Go.Proofs.Ytdcmbcjkdhdohaa
open Go Go.RowKit
attribute [local irreducible] wpList wpP Code.wp

/-- The first i cells are c. -/
def fv (c : Value) (i : Nat) (cs : List Value) : List Value := List.replicate i c ++ cs.drop i
theorem fv_step {c : Value} {i : Nat} {cs : List Value} (h : i < cs.length) : (fv c i cs).set i c = fv c (i + 1) cs := by
  unfold fv
  rw [List.set_append_right _ _ (by simp), List.length_replicate, Nat.sub_self, List.drop_eq_getElem_cons h, List.set_cons_zero, List.replicate_succ', List.append_assoc]
  rfl
theorem fv_end {c : Int} {cs : List Value} {n : Nat} (h : n = cs.length) : fv (I c) n cs = (List.replicate n c).map I := by
  subst h
  simp [fv]
theorem rep_snoc (k : Nat) (c : Int) : (List.replicate k c).map I ++ [I c] = (List.replicate (k + 1) c).map I := by
  rw [List.replicate_succ', List.map_append]; rfl
theorem getD_rep {n i : Nat} {c : Int} (h : i < n) : (List.replicate n c).getD i 0 = c := by
  rw [List.getD_eq_getElem?_getD, List.getElem?_replicate, if_pos h]; rfl

set_option maxHeartbeats 1000000 in
theorem bloomPlaces_c (x : UInt64) (h : List UInt8) (i : Int) (w : World) (hh : h.length = 32) :
    Calls Try.prog 8 (([U64 (x), .agg ((h).map B8).toArray, I (i)] : List Value).toArray) w (fun e w' => ∃ v, e = .returned v ∧ v = .bool true ∧ Below w.heap.size w w') := by
  have hpl := plI_le x h i
  refine calls_mk Try.func8 rfl 117 Try.ntmps8 rfl ?_
  have H0 : St w [] [] w := St.refl w
  refine c_seq ?_
  refine c_reg ?_
  refine st (ow_box (l := (h).map B8) H0 rfl rfl) ?_
  rintro _ w2 ⟨g1, rfl, H3⟩
  refine sy (v := .bool (false)) (y_assign (v := .bool (false)) rfl) ?_
  refine c_nil ?_
  refine n_then ?_
  refine c_seq ?_
  refine c_reg ?_
  refine st (ow_call fn31 rfl (bfixed_c _) trivial) ?_
  rintro _ w4 ⟨rfl, hB5⟩
  have H6 : St w [] [[(g1, Rw 26 ((h).map B8))]] w4 := H3.call hB5
  refine sy (v := .bool (true)) (y_assign rfl) ?_
  refine c_nil ?_
  refine n_then ?_
  refine c_seq ?_
  refine c_reg ?_
  refine sy (v := U64 (x)) (y_move rfl) ?_
  refine sy (v := .agg ((h).map B8).toArray) (y_loadA (us := (h).map B8) ag26 sz26 ((List.length_map _).trans hh) rfl (fun j u hu => (H6.cell 0 rfl (by rw [Nat.zero_add]; exact hu)))) ?_
  refine sy (v := I (i)) (y_move rfl) ?_
  refine st (ow_call fn41 rfl (rplacesI_c (x) (h) (i) _ hh) ⟨rfl, rfl, rfl, trivial⟩) ?_
  rintro v7 w8 ⟨E9, ho10, H11⟩
  have H12 : St w [] [E9, [(g1, Rw 26 ((h).map B8))]] w8 := H6.app H11
  refine sy (v := v7) (y_assign rfl) ?_
  refine c_nil ?_
  refine n_then ?_
  refine c_seq ?_
  refine c_reg ?_
  refine sy (v := U64 (x)) (y_move rfl) ?_
  refine sy (v := .agg ((h).map B8).toArray) (y_loadA (us := (h).map B8) ag26 sz26 ((List.length_map _).trans hh) rfl (fun j u hu => (H12.cell 1 rfl (by rw [Nat.zero_add]; exact hu)))) ?_
  refine sy (v := I (i)) (y_move rfl) ?_
  refine st (ow_call fn42 rfl (placesI_c (x) (h) (i) _ hh) ⟨rfl, rfl, rfl, trivial⟩) ?_
  rintro v13 w14 ⟨E15, ho16, H17⟩
  have H18 : St w [] [E15, E9, [(g1, Rw 26 ((h).map B8))]] w14 := H12.app H17
  refine sy (v := v13) (y_assign rfl) ?_
  refine c_nil ?_
  refine n_then ?_
  refine c_seq ?_
  refine c_reg ?_
  refine sy (v := U64 (x)) (y_move rfl) ?_
  refine sy (v := .agg ((h).map B8).toArray) (y_loadA (us := (h).map B8) ag26 sz26 ((List.length_map _).trans hh) rfl (fun j u hu => (H18.cell 2 rfl (by rw [Nat.zero_add]; exact hu)))) ?_
  refine sy (v := I (i)) (y_move rfl) ?_
  refine st (ow_call fn42 rfl (placesI_c (x) (h) (i) _ hh) ⟨rfl, rfl, rfl, trivial⟩) ?_
  rintro v19 w20 ⟨E21, ho22, H23⟩
  have H24 : St w [] [E21, E15, E9, [(g1, Rw 26 ((h).map B8))]] w20 := H18.app H23
  refine sy (v := v19) (y_assign rfl) ?_
  refine c_nil ?_
  refine n_then ?_
  refine c_seq ?_
  refine c_reg ?_
  refine sy (v := v13) (y_move rfl) ?_
  refine sy (v := v7) (y_move rfl) ?_
  refine st (ow_call fn43 rfl (sameInts_c (v13) (v7) (plI (x) (h) (i)) _ ((ho16.rd H24 1 rfl)).nil ((ho10.rd H24 2 rfl)).nil (by omega)) ⟨rfl, rfl, trivial⟩) ?_
  rintro _ w25 ⟨rfl, hB26⟩
  have H27 : St w [] [E21, E15, E9, [(g1, Rw 26 ((h).map B8))]] w25 := H24.call hB26
  refine sy (v := .bool (true)) (y_assign rfl) ?_
  refine c_nil ?_
  refine n_then ?_
  refine c_seq ?_
  refine c_reg ?_
  refine sy (v := v19) (y_move rfl) ?_
  refine sy (v := v7) (y_move rfl) ?_
  refine st (ow_call fn43 rfl (sameInts_c (v19) (v7) (plI (x) (h) (i)) _ ((ho22.rd H27 0 rfl)).nil ((ho10.rd H27 2 rfl)).nil (by omega)) ⟨rfl, rfl, trivial⟩) ?_
  rintro _ w28 ⟨rfl, hB29⟩
  have H30 : St w [] [E21, E15, E9, [(g1, Rw 26 ((h).map B8))]] w28 := H27.call hB29
  refine sy (v := .bool (true)) (y_assign rfl) ?_
  refine c_nil ?_
  refine n_then ?_
  refine c_seq ?_
  refine c_seq ?_
  refine c_reg ?_
  refine sy (v := .bool (true)) (y_move rfl) ?_
  refine sy (v := .bool (false)) (y_not (p := true) rfl) ?_
  refine sy (v := .bool (false)) (y_move rfl) ?_
  refine gsy (v := .bool (true)) (gv_of (t := 40) rfl rfl rfl) (rfl) (y_move rfl) ?_
  refine gsy (v := .bool (false)) (gv_of (t := 40) rfl rfl rfl) (rfl) (y_not (p := true) rfl) ?_
  refine sy (v := .bool (false)) (y_pickF rfl (rfl) rfl) ?_
  refine sy (v := .bool (false)) (y_move rfl) ?_
  refine gsy (v := .bool (true)) (gv_of (t := 44) rfl rfl rfl) (rfl) (y_move rfl) ?_
  refine gsy (v := .bool (false)) (gv_of (t := 44) rfl rfl rfl) (rfl) (y_not (p := true) rfl) ?_
  refine sy (v := .bool (false)) (y_pickF rfl (rfl) rfl) ?_
  refine c_nil ?_
  refine n_then ?_
  refine c_f rfl rfl ?_
  refine wp_skip ?_
  refine n_then ?_
  refine c_seq ?_
  refine c_seq ?_
  refine c_reg ?_
  refine sy (v := I ((0 : Nat) : Int)) (y_assign (v := I ((0 : Nat) : Int)) rfl) ?_
  refine c_nil ?_
  refine n_then ?_
  refine wp_block ?_
  refine c_loop (fun (i0 : Nat) f31 w32 => ∃ (EX : Part), ∃ (EY : Part), f31 0 = U64 (x) ∧ f31 2 = I (i) ∧ f31 4 = Ad (bs g1) (0) ∧ f31 8 = v7 ∧ f31 9 = v13 ∧ f31 10 = v19 ∧ f31 13 = I ((i0 : Nat) : Int) ∧ i0 ≤ (plI x h i).length ∧ OS 3 1 v13 (plI x h i).length (fv (I (-7)) i0 ((plI x h i).map IN)) EX ∧ OS 3 1 v19 (plI x h i).length (fv (I (-8)) i0 ((plI x h i).map IN)) EY ∧ St w [] [EY, EX, E9, [(g1, Rw 26 ((h).map B8))]] w32) (fun i0 => (plI x h i).length - i0) 0 ⟨_, _, rfl, rfl, rfl, rfl, rfl, rfl, rfl, (Nat.zero_le _), ho16, ho22, H30⟩ ?_
  rintro i0 f31 w32 ⟨EX, EY, s0_33, s2_33, s4_33, s8_33, s9_33, s10_33, s13_33, hi0, ho1, ho2, H33⟩
  have hml : ((plI x h i).map IN).length = (plI x h i).length := List.length_map _
  refine c_seq ?_
  refine c_seq ?_
  refine c_reg ?_
  refine sy (v := I ((i0 : Nat) : Int)) (y_move s13_33) ?_
  refine sy (v := v13) (y_move s9_33) ?_
  refine sy (v := I (((plI x h i).length : Nat) : Int)) (y_lenR Try.underlying60 (ho1.rd H33 1 rfl) rfl) ?_
  refine sy (v := .bool (decide (i0 < ((plI x h i).length)))) (n_lss (a := i0) (b := (plI x h i).length) rfl rfl) ?_
  refine c_nil ?_
  refine n_then ?_
  refine c_if rfl (fun hc34 => ?_) (fun hc34 => ?_)
  · skip
    refine wp_skip ?_
    refine n_then ?_
    refine c_seq ?_
    refine wp_block ?_
    refine c_seq ?_
    refine c_reg ?_
    refine sy (v := v13) (y_move s9_33) ?_
    refine sy (v := I ((i0 : Nat) : Int)) (y_move s13_33) ?_
    refine sy (v := Ad (sp (v13)) (i0 * 1)) (y_ixR (m := i0) Try.underlying60 sz3 (ho1.rd H33 1 rfl) (by decide) rfl rfl rfl (by omega)) ?_
    have H35 : St w [] [EX, EY, E9, [(g1, Rw 26 ((h).map B8))]] w32 := H33.foc 1 rfl rfl
    refine s0 (ow_storeOS (i := i0) ho1 H35 sz3 rfl rfl rfl (by omega) (by omega)) ?_
    rintro _ w37 ⟨E36, ho39, H38⟩
    refine c_nil ?_
    refine n_then ?_
    refine c_reg ?_
    refine sy (v := v19) (y_move s10_33) ?_
    refine sy (v := I ((i0 : Nat) : Int)) (y_move s13_33) ?_
    refine sy (v := Ad (sp (v19)) (i0 * 1)) (y_ixR (m := i0) Try.underlying60 sz3 (ho2.rd H38 1 rfl) (by decide) rfl rfl rfl (by omega)) ?_
    have H40 : St w [] [EY, E36, E9, [(g1, Rw 26 ((h).map B8))]] w37 := H38.foc 1 rfl rfl
    refine s0 (ow_storeOS (i := i0) ho2 H40 sz3 rfl rfl rfl (by omega) (by omega)) ?_
    rintro _ w42 ⟨E41, ho44, H43⟩
    refine c_nil ?_
    refine n_block (n_then ?_)
    refine c_reg ?_
    refine sy (v := I ((i0 : Nat) : Int)) (y_move s13_33) ?_
    refine sy (v := I ((i0 + 1 : Nat) : Int)) (n_add (a := i0) (b := 1) rfl rfl (by omega)) ?_
    refine sy (v := I ((i0 + 1 : Nat) : Int)) (y_assign rfl) ?_
    refine c_nil ?_
    exact lp_next (i0 + 1) ⟨E36, E41, s0_33, s2_33, s4_33, s8_33, s9_33, s10_33, rfl, (by omega), (fv_step (c := I (-7)) (i := i0) (cs := (plI x h i).map IN) (by omega) ▸ ho39), (fv_step (c := I (-8)) (i := i0) (cs := (plI x h i).map IN) (by omega) ▸ ho44), H43⟩ (by show _ < _; omega)
  · skip
    obtain rfl : i0 = (plI x h i).length := by omega
    rw [fv_end (by rw [List.length_map])] at ho1 ho2
    refine wp_exit ?_
    refine x_then (x_then (x_hit (n_then ?_)))
    refine c_seq ?_
    refine c_reg ?_
    refine sy (v := v13) (y_move s9_33) ?_
    refine sy (v := v13) (y_assign rfl) ?_
    refine c_nil ?_
    refine n_then ?_
    refine c_seq ?_
    refine c_reg ?_
    refine sy (v := v19) (y_move s10_33) ?_
    refine sy (v := v19) (y_assign rfl) ?_
    refine c_nil ?_
    refine n_then ?_
    refine c_seq ?_
    refine c_seq ?_
    refine c_reg ?_
    refine sy (v := I ((0 : Nat) : Int)) (y_assign (v := I ((0 : Nat) : Int)) rfl) ?_
    refine c_nil ?_
    refine n_then ?_
    refine wp_block ?_
    refine c_loop (fun (j : Nat) f45 w46 => ∃ (uv : Value), ∃ (vv : Value), ∃ (FX : Part), ∃ (FY : Part), f45 0 = U64 (x) ∧ f45 2 = I (i) ∧ f45 4 = Ad (bs g1) (0) ∧ f45 8 = v7 ∧ f45 9 = v13 ∧ f45 10 = v19 ∧ f45 14 = uv ∧ f45 15 = vv ∧ f45 16 = I ((j : Nat) : Int) ∧ j ≤ 6 ∧ TS 3 1 v13 ((plI x h i).length) ((List.replicate ((plI x h i).length) (-7 : Int)).map I) uv ((plI x h i).length + j) ((List.replicate ((plI x h i).length + j) (-7 : Int)).map I) FX ∧ TS 3 1 v19 ((plI x h i).length) ((List.replicate ((plI x h i).length) (-8 : Int)).map I) vv ((plI x h i).length + j) ((List.replicate ((plI x h i).length + j) (-8 : Int)).map I) FY ∧ St w [] [FY, FX, E9, [(g1, Rw 26 ((h).map B8))]] w46) (fun j => 6 - j) 0 ⟨_, _, _, _, s0_33, s2_33, s4_33, s8_33, s9_33, s10_33, rfl, rfl, rfl, (by omega), (TS.refl ho1), (TS.refl ho2), H33⟩ ?_
    rintro j f45 w46 ⟨uv, vv, FX, FY, s0_47, s2_47, s4_47, s8_47, s9_47, s10_47, s14_47, s15_47, s16_47, hj, ht1, ht2, H47⟩
    refine c_seq ?_
    refine c_seq ?_
    refine c_reg ?_
    refine sy (v := I ((j : Nat) : Int)) (y_move s16_47) ?_
    refine sy (v := .bool (decide (j < 6))) (n_lss (a := j) (b := 6) rfl rfl) ?_
    refine c_nil ?_
    refine n_then ?_
    refine c_if rfl (fun hc48 => ?_) (fun hc48 => ?_)
    · skip
      refine wp_skip ?_
      refine n_then ?_
      refine c_seq ?_
      refine wp_block ?_
      refine c_seq ?_
      refine c_reg ?_
      refine sy (v := uv) (y_move s14_47) ?_
      refine st (ow_buildSlice (pv := [(0, I (-7))]) (us := [I (-7)]) Try.underlying60 sz3 zr3 H47 ⟨⟨rfl, rfl⟩, trivial⟩ (by decide) (fill1 rfl)) ?_
      rintro _ w50 ⟨g49, rfl, H51⟩
      have H52 : St w [] [FX, [(g49, Rw 3 ([I (-7)]))], FY, E9, [(g1, Rw 26 ((h).map B8))]] w50 := H51.foc 2 rfl rfl
      refine st (ow_append_ts Try.underlying60 sz3 zr3 bt3 rfl ht1 H52 rfl rfl ((rd_lit (k := 1) (us := [I (-7)]) H51 0 rfl rfl (by simp [maxLen])).src Try.underlying60 (by simp [Value.oneCell'])) (by omega) (by omega)) ?_
      rintro v54 w55 ⟨E53, ho57, H56⟩
      refine sy (v := v54) (y_assign rfl) ?_
      refine c_nil ?_
      refine n_then ?_
      refine c_reg ?_
      refine sy (v := vv) (y_move s15_47) ?_
      refine st (ow_buildSlice (pv := [(0, I (-8))]) (us := [I (-8)]) Try.underlying60 sz3 zr3 H56 ⟨⟨rfl, rfl⟩, trivial⟩ (by decide) (fill1 rfl)) ?_
      rintro _ w59 ⟨g58, rfl, H60⟩
      have H61 : St w [] [FY, [(g58, Rw 3 ([I (-8)]))], E53, [(g49, Rw 3 ([I (-7)]))], E9, [(g1, Rw 26 ((h).map B8))]] w59 := H60.foc 3 rfl rfl
      refine st (ow_append_ts Try.underlying60 sz3 zr3 bt3 rfl ht2 H61 rfl rfl ((rd_lit (k := 1) (us := [I (-8)]) H60 0 rfl rfl (by simp [maxLen])).src Try.underlying60 (by simp [Value.oneCell'])) (by omega) (by omega)) ?_
      rintro v63 w64 ⟨E62, ho66, H65⟩
      refine sy (v := v63) (y_assign rfl) ?_
      refine c_nil ?_
      refine n_block (n_then ?_)
      refine c_reg ?_
      refine sy (v := I ((j : Nat) : Int)) (y_move s16_47) ?_
      refine sy (v := I ((j + 1 : Nat) : Int)) (n_add (a := j) (b := 1) rfl rfl (by omega)) ?_
      refine sy (v := I ((j + 1 : Nat) : Int)) (y_assign rfl) ?_
      refine c_nil ?_
      have H67 : St w [] [[(g1, Rw 26 ((h).map B8))], E62, [(g58, Rw 3 ([I (-8)]))], E53, [(g49, Rw 3 ([I (-7)]))], E9] w64 := H65.foc 5 rfl rfl
      have H68 : St w [] [E9, [(g1, Rw 26 ((h).map B8))], E62, [(g58, Rw 3 ([I (-8)]))], E53, [(g49, Rw 3 ([I (-7)]))]] w64 := H67.foc 5 rfl rfl
      have H69 : St w [] [E53, E9, [(g1, Rw 26 ((h).map B8))], E62, [(g58, Rw 3 ([I (-8)]))], [(g49, Rw 3 ([I (-7)]))]] w64 := H68.foc 4 rfl rfl
      have H70 : St w [] [E62, E53, E9, [(g1, Rw 26 ((h).map B8))], [(g58, Rw 3 ([I (-8)]))], [(g49, Rw 3 ([I (-7)]))]] w64 := H69.foc 3 rfl rfl
      have H71 : St w [] [E62, E53, E9, [(g1, Rw 26 ((h).map B8))]] w64 := H70.take 4 rfl
      exact lp_next (j + 1) ⟨v54, v63, E53, E62, s0_47, s2_47, s4_47, s8_47, s9_47, s10_47, rfl, rfl, rfl, (by omega), (by rw [← Nat.add_assoc, ← rep_snoc]; exact ho57), (by rw [← Nat.add_assoc, ← rep_snoc]; exact ho66), H71⟩ (by show _ < _; omega)
    · skip
      obtain rfl : j = 6 := by omega
      refine wp_exit ?_
      refine x_then (x_then (x_hit (n_then ?_)))
      refine c_seq ?_
      refine c_seq ?_
      refine c_reg ?_
      refine sy (v := I ((0 : Nat) : Int)) (y_assign (v := I ((0 : Nat) : Int)) rfl) ?_
      refine c_nil ?_
      refine n_then ?_
      refine wp_block ?_
      refine c_loop (fun (i1 : Nat) f72 w73 => f72 0 = U64 (x) ∧ f72 2 = I (i) ∧ f72 4 = Ad (bs g1) (0) ∧ f72 8 = v7 ∧ f72 9 = v13 ∧ f72 10 = v19 ∧ f72 14 = uv ∧ f72 15 = vv ∧ f72 17 = I ((i1 : Nat) : Int) ∧ i1 ≤ (plI x h i).length + 6 ∧ St w [] [FY, FX, E9, [(g1, Rw 26 ((h).map B8))]] w73) (fun i1 => (plI x h i).length + 6 - i1) 0 ⟨s0_47, s2_47, s4_47, s8_47, s9_47, s10_47, s14_47, s15_47, rfl, (by omega), H47⟩ ?_
      rintro i1 f72 w73 ⟨s0_74, s2_74, s4_74, s8_74, s9_74, s10_74, s14_74, s15_74, s17_74, hf0_74, H74⟩
      have hr1 : (List.replicate ((plI x h i).length) (-7 : Int)).length = (plI x h i).length := List.length_replicate
      have hr2 : (List.replicate ((plI x h i).length) (-8 : Int)).length = (plI x h i).length := List.length_replicate
      have hr3 : (List.replicate ((plI x h i).length + 6) (-7 : Int)).length = (plI x h i).length + 6 := List.length_replicate
      have hr4 : (List.replicate ((plI x h i).length + 6) (-8 : Int)).length = (plI x h i).length + 6 := List.length_replicate
      refine c_seq ?_
      refine c_seq ?_
      refine c_reg ?_
      refine sy (v := I ((i1 : Nat) : Int)) (y_move s17_74) ?_
      refine sy (v := uv) (y_move s14_74) ?_
      refine sy (v := I (((plI x h i).length + 6 : Nat) : Int)) (y_lenR Try.underlying60 (ht1.rdu H74 1 rfl) rfl) ?_
      refine sy (v := .bool (decide (i1 < ((plI x h i).length + 6)))) (n_lss (a := i1) (b := (plI x h i).length + 6) rfl rfl) ?_
      refine c_nil ?_
      refine n_then ?_
      refine c_if rfl (fun hc75 => ?_) (fun hc75 => ?_)
      · skip
        refine wp_skip ?_
        refine n_then ?_
        refine c_seq ?_
        refine wp_block ?_
        refine c_seq ?_
        refine c_reg ?_
        refine sy (v := uv) (y_move s14_74) ?_
        refine sy (v := I ((i1 : Nat) : Int)) (y_move s17_74) ?_
        refine sy (v := Ad (sp (uv)) (i1 * 1)) (y_ixR (m := i1) Try.underlying60 sz3 (ht1.rdu H74 1 rfl) (by decide) rfl rfl rfl (by omega)) ?_
        refine sy (v := I ((List.replicate ((plI x h i).length + 6) (-7)).getD i1 0)) (y_load sc3 rfl ((ht1.rdu H74 1 rfl).cell _ _ (by rw [Nat.mul_one]; exact map_get I (l := List.replicate ((plI x h i).length + 6) (-7)) (k := i1) 0 (by omega)))) ?_
        refine sy (v := .bool (decide (((List.replicate ((plI x h i).length + 6) (-7)).getD i1 0) ≠ (-7)))) (y_neqK (i := ((List.replicate ((plI x h i).length + 6) (-7)).getD i1 0)) (j := (-7)) rfl rfl) ?_
        refine sy (v := .bool (decide (((List.replicate ((plI x h i).length + 6) (-7)).getD i1 0) ≠ (-7)))) (y_move rfl) ?_
        have hq76 : ¬ (((List.replicate ((plI x h i).length + 6) (-7)).getD i1 0) ≠ (-7)) := (fun hne => hne (getD_rep (by omega)))
        refine gsy (v := vv) (gv_of (t := 83) rfl rfl rfl) (decide_eq_false hq76) (y_move s15_74) ?_
        refine gsy (v := I ((i1 : Nat) : Int)) (gv_of (t := 83) rfl rfl rfl) (decide_eq_false hq76) (y_move s17_74) ?_
        refine gsy (v := Ad (sp (vv)) (i1 * 1)) (gv_of (t := 83) rfl rfl rfl) (decide_eq_false hq76) (y_ixR (m := i1) Try.underlying60 sz3 (ht2.rdu H74 0 rfl) (by decide) rfl rfl rfl (by omega)) ?_
        refine gsy (v := I ((List.replicate ((plI x h i).length + 6) (-8)).getD i1 0)) (gv_of (t := 83) rfl rfl rfl) (decide_eq_false hq76) (y_load sc3 rfl ((ht2.rdu H74 0 rfl).cell _ _ (by rw [Nat.mul_one]; exact map_get I (l := List.replicate ((plI x h i).length + 6) (-8)) (k := i1) 0 (by omega)))) ?_
        refine gsy (v := .bool (decide (((List.replicate ((plI x h i).length + 6) (-8)).getD i1 0) ≠ (-8)))) (gv_of (t := 83) rfl rfl rfl) (decide_eq_false hq76) (y_neqK (i := ((List.replicate ((plI x h i).length + 6) (-8)).getD i1 0)) (j := (-8)) rfl rfl) ?_
        refine sy (v := .bool (decide (((List.replicate ((plI x h i).length + 6) (-8)).getD i1 0) ≠ (-8)))) (y_pickF rfl (decide_eq_false hq76) rfl) ?_
        refine sy (v := .bool (decide (((List.replicate ((plI x h i).length + 6) (-8)).getD i1 0) ≠ (-8)))) (y_move rfl) ?_
        have hq77 : ¬ (((List.replicate ((plI x h i).length + 6) (-8)).getD i1 0) ≠ (-8)) := (fun hne => hne (getD_rep (by omega)))
        refine gsy (v := I ((i1 : Nat) : Int)) (gv_of (t := 90) rfl rfl rfl) (decide_eq_false hq77) (y_move s17_74) ?_
        refine gsy (v := v13) (gv_of (t := 90) rfl rfl rfl) (decide_eq_false hq77) (y_move s9_74) ?_
        refine gsy (v := I (((plI x h i).length : Nat) : Int)) (gv_of (t := 90) rfl rfl rfl) (decide_eq_false hq77) (y_lenR Try.underlying60 (ht1.rdx H74 1 rfl) rfl) ?_
        refine gsy (v := .bool (decide (i1 < ((plI x h i).length)))) (gv_of (t := 90) rfl rfl rfl) (decide_eq_false hq77) (n_lss (a := i1) (b := (plI x h i).length) rfl rfl) ?_
        refine gsy (v := .bool (decide (i1 < ((plI x h i).length)))) (gv_of (t := 90) rfl rfl rfl) (decide_eq_false hq77) (y_move rfl) ?_
        by_cases hp78 : i1 < ((plI x h i).length)
        · skip
          refine gsy (v := v13) (gv_of (t := 95) rfl rfl rfl) (decide_eq_true hp78) (y_move s9_74) ?_
          refine gsy (v := I ((i1 : Nat) : Int)) (gv_of (t := 95) rfl rfl rfl) (decide_eq_true hp78) (y_move s17_74) ?_
          refine gsy (v := Ad (sp (v13)) (i1 * 1)) (gv_of (t := 95) rfl rfl rfl) (decide_eq_true hp78) (y_ixR (m := i1) Try.underlying60 sz3 (ht1.rdx H74 1 rfl) (by decide) rfl rfl rfl (by omega)) ?_
          refine gsy (v := I ((List.replicate ((plI x h i).length) (-7)).getD i1 0)) (gv_of (t := 95) rfl rfl rfl) (decide_eq_true hp78) (y_load sc3 rfl ((ht1.rdx H74 1 rfl).cell _ _ (by rw [Nat.mul_one]; exact map_get I (l := List.replicate ((plI x h i).length) (-7)) (k := i1) 0 (by omega)))) ?_
          refine gsy (v := .bool (decide (((List.replicate ((plI x h i).length) (-7)).getD i1 0) ≠ (-7)))) (gv_of (t := 95) rfl rfl rfl) (decide_eq_true hp78) (y_neqK (i := ((List.replicate ((plI x h i).length) (-7)).getD i1 0)) (j := (-7)) rfl rfl) ?_
          refine gsy (v := .bool (decide (((List.replicate ((plI x h i).length) (-7)).getD i1 0) ≠ (-7)))) (gv_of (t := 95) rfl rfl rfl) (decide_eq_true hp78) (y_move rfl) ?_
          have hq79 : ¬ (((List.replicate ((plI x h i).length) (-7)).getD i1 0) ≠ (-7)) := (fun hne => hne (getD_rep (by omega)))
          refine gsy (v := v19) (gv_of (t := 101) rfl rfl rfl) (decide_eq_false hq79) (y_move s10_74) ?_
          refine gsy (v := I ((i1 : Nat) : Int)) (gv_of (t := 101) rfl rfl rfl) (decide_eq_false hq79) (y_move s17_74) ?_
          refine gsy (v := Ad (sp (v19)) (i1 * 1)) (gv_of (t := 101) rfl rfl rfl) (decide_eq_false hq79) (y_ixR (m := i1) Try.underlying60 sz3 (ht2.rdx H74 0 rfl) (by decide) rfl rfl rfl (by omega)) ?_
          refine gsy (v := I ((List.replicate ((plI x h i).length) (-8)).getD i1 0)) (gv_of (t := 101) rfl rfl rfl) (decide_eq_false hq79) (y_load sc3 rfl ((ht2.rdx H74 0 rfl).cell _ _ (by rw [Nat.mul_one]; exact map_get I (l := List.replicate ((plI x h i).length) (-8)) (k := i1) 0 (by omega)))) ?_
          refine gsy (v := .bool (decide (((List.replicate ((plI x h i).length) (-8)).getD i1 0) ≠ (-8)))) (gv_of (t := 101) rfl rfl rfl) (decide_eq_false hq79) (y_neqK (i := ((List.replicate ((plI x h i).length) (-8)).getD i1 0)) (j := (-8)) rfl rfl) ?_
          refine gsy (v := .bool (decide (((List.replicate ((plI x h i).length) (-8)).getD i1 0) ≠ (-8)))) (gv_of (t := 95) rfl rfl rfl) (decide_eq_true hp78) (y_pickF rfl (decide_eq_false hq79) rfl) ?_
          refine gsy (v := .bool (decide (((List.replicate ((plI x h i).length) (-8)).getD i1 0) ≠ (-8)))) (gv_of (t := 90) rfl rfl rfl) (decide_eq_false hq77) (y_pickT rfl (decide_eq_true hp78) rfl) ?_
          refine sy (v := .bool (decide (((List.replicate ((plI x h i).length) (-8)).getD i1 0) ≠ (-8)))) (y_pickF rfl (decide_eq_false hq77) rfl) ?_
          refine c_nil ?_
          refine n_then ?_
          have hq80 : ¬ (((List.replicate ((plI x h i).length) (-8)).getD i1 0) ≠ (-8)) := (fun hne => hne (getD_rep (by omega)))
          refine c_f rfl (decide_eq_false hq80) ?_
          refine wp_skip ?_
          refine n_block (n_then ?_)
          refine c_reg ?_
          refine sy (v := I ((i1 : Nat) : Int)) (y_move s17_74) ?_
          refine sy (v := I ((i1 + 1 : Nat) : Int)) (n_add (a := i1) (b := 1) rfl rfl (by omega)) ?_
          refine sy (v := I ((i1 + 1 : Nat) : Int)) (y_assign rfl) ?_
          refine c_nil ?_
          exact lp_next (i1 + 1) ⟨s0_74, s2_74, s4_74, s8_74, s9_74, s10_74, s14_74, s15_74, rfl, (by omega), H74⟩ (by show _ < _; omega)
        · skip
          refine gno (gv_of (t := 95) rfl rfl rfl) (decide_eq_false hp78) ?_
          refine gno (gv_of (t := 95) rfl rfl rfl) (decide_eq_false hp78) ?_
          refine gno (gv_of (t := 95) rfl rfl rfl) (decide_eq_false hp78) ?_
          refine gno (gv_of (t := 95) rfl rfl rfl) (decide_eq_false hp78) ?_
          refine gno (gv_of (t := 95) rfl rfl rfl) (decide_eq_false hp78) ?_
          refine gno (gv_of (t := 95) rfl rfl rfl) (decide_eq_false hp78) ?_
          refine gun (gv_of (t := 101) rfl rfl rfl) ?_
          refine gun (gv_of (t := 101) rfl rfl rfl) ?_
          refine gun (gv_of (t := 101) rfl rfl rfl) ?_
          refine gun (gv_of (t := 101) rfl rfl rfl) ?_
          refine gun (gv_of (t := 101) rfl rfl rfl) ?_
          refine gno (gv_of (t := 95) rfl rfl rfl) (decide_eq_false hp78) ?_
          refine gsy (v := .bool (false)) (gv_of (t := 90) rfl rfl rfl) (decide_eq_false hq77) (y_pickF (v := .bool (false)) rfl (decide_eq_false hp78) rfl) ?_
          refine sy (v := .bool (false)) (y_pickF rfl (decide_eq_false hq77) rfl) ?_
          refine c_nil ?_
          refine n_then ?_
          refine c_f rfl rfl ?_
          refine wp_skip ?_
          refine n_block (n_then ?_)
          refine c_reg ?_
          refine sy (v := I ((i1 : Nat) : Int)) (y_move s17_74) ?_
          refine sy (v := I ((i1 + 1 : Nat) : Int)) (n_add (a := i1) (b := 1) rfl rfl (by omega)) ?_
          refine sy (v := I ((i1 + 1 : Nat) : Int)) (y_assign rfl) ?_
          refine c_nil ?_
          exact lp_next (i1 + 1) ⟨s0_74, s2_74, s4_74, s8_74, s9_74, s10_74, s14_74, s15_74, rfl, (by omega), H74⟩ (by show _ < _; omega)
      · skip
        refine wp_exit ?_
        refine x_then (x_then (x_hit (n_then ?_)))
        refine c_seq ?_
        refine c_reg ?_
        refine sy (v := U64 (x)) (y_move s0_74) ?_
        refine sy (v := .agg ((h).map B8).toArray) (y_loadA (us := (h).map B8) ag26 sz26 (by simp [*]) s4_74 (fun j u hu => (H74.cell 3 rfl (by rw [Nat.zero_add]; exact hu)))) ?_
        refine sy (v := I (i)) (y_move s2_74) ?_
        refine st (ow_call fn42 rfl (placesI_c (x) (h) (i) _ (by simp [*])) ⟨rfl, rfl, rfl, trivial⟩) ?_
        rintro v81 w82 ⟨E83, ho84, H85⟩
        have H86 : St w [] [E83, FY, FX, E9, [(g1, Rw 26 ((h).map B8))]] w82 := H74.app H85
        refine sy (v := v81) (y_assign rfl) ?_
        refine c_nil ?_
        refine n_then ?_
        refine c_seq ?_
        refine c_reg ?_
        refine sy (v := v81) (y_move rfl) ?_
        refine sy (v := v7) (y_move s8_74) ?_
        refine st (ow_call fn43 rfl (sameInts_c (v81) (v7) (plI (x) (h) (i)) _ ((ho84.rd H86 0 rfl)).nil ((ho10.rd H86 3 rfl)).nil (by omega)) ⟨rfl, rfl, trivial⟩) ?_
        rintro _ w87 ⟨rfl, hB88⟩
        have H89 : St w [] [E83, FY, FX, E9, [(g1, Rw 26 ((h).map B8))]] w87 := H86.call hB88
        refine sy (v := .bool (true)) (y_assign rfl) ?_
        refine c_nil ?_
        refine n_then ?_
        refine wp_ret ?_
        refine e_r1 Try.results8 (rv_t rfl) ?_
        exact ⟨_, rfl, rfl, H89.below⟩


namespace BloomPlacesDone
open Go.ChangeShapes Go.WideShapes Go.ChangeAt
set_option linter.unusedVariables false
set_option maxRecDepth 100000 in
theorem lifted (os : Os) (started : os.Started) (H : Type) (enc : TypeId × Value → H) :
    ReturnsInHanded {} Try.checked os 8 .any (Rows.bloomPlacesSpec.pre6 enc Try.prog Try.f8 Rows.bloomPlacesRow.domain false) (Rows.bloomPlacesSpec.post enc Try.prog Try.f8 false true false false) := by
  refine returnsInHanded_of_change_sized (C := Try.checked) own started (by kernel_rfl) Try.func8
    (ChangeSpec.witness6 (enc := enc) (C := Try.checked) false ⟨#[], #[.int .u64 0, .agg (Array.replicate 32 (.int .u8 0)), .int .i64 0], []⟩ 8 (by kernel_rfl) (by kernel_rfl) (by kernel_rfl) (by kernel_rfl)) ?_
  intro W base args ds gs before hval0 hW hcnd hsz0 _
  have hval : ∀ (j : Nat) t v, Try.f8.params[j]? = some t → args[j]? = some v → Value.okWide Try.prog W .any base t v := hval0
  have hW' := hW
  obtain ⟨p, q, hA0, hV, rfl, hfz, hnd⟩ := hW
  have hA : DataW.TrodAll enc Try.prog W 0 (fun _ => true) true Try.f8.params.toList args.toList ds p := hA0
  have hsz : (DataW.weightsEach Try.prog (Try.f8.params.toList ++ Rows.bloomPlacesSpec.plain.varTypes Try.prog) (ds ++ gs)).all (· ≤ reachBytes) = true := hsz0
  rw [Try.params8] at hA hval hsz
  obtain ⟨v0, vs0, d0, ds0, p0, q0, hargs, rfl, rfl, h0, r0⟩ := trodAll_cons hA
  obtain ⟨v1, vs1, d1, ds1, p1, q1, rfl, rfl, rfl, h1, r1⟩ := trodAll_cons r0
  obtain ⟨v2, vs2, d2, ds2, p2, q2, rfl, rfl, rfl, h2, r2⟩ := trodAll_cons r1
  obtain ⟨rfl, rfl, rfl⟩ := trodAll_nil r2
  obtain rfl : args = #[v0, v1, v2] := by cases args; simp_all
  obtain ⟨rfl, rfl⟩ := trodVars_none hV
  have lt0 : ∀ x ∈ p0, x.block < W.heap.size := by obtain ⟨m, hm⟩ := h0; exact DataW.trod_lt m _ _ _ hm
  obtain ⟨x0, rfl⟩ := u64_arg Try.underlying59 (hval 0 59 v0 rfl rfl) h0
  have lt1 : ∀ x ∈ p1, x.block < W.heap.size := by obtain ⟨m, hm⟩ := h1; exact DataW.trod_lt m _ _ _ hm
  obtain ⟨b1, hb1, rfl⟩ := hash_arg Try.underlying26 Try.underlying5 (by kernel_rfl) (by kernel_rfl) (hval 1 26 v1 rfl rfl) h1
  have lt2 : ∀ x ∈ p2, x.block < W.heap.size := by obtain ⟨m, hm⟩ := h2; exact DataW.trod_lt m _ _ _ hm
  obtain ⟨z2, rfl, hz2, hzz2⟩ := int_arg Try.underlying3 (hval 2 3 v2 rfl rfl) h2
  refine (bloomPlaces_c x0 b1 z2 W hb1).mono fun e W' ⟨v, he, hv, bel⟩ => ?_
  subst he hv
  exact ⟨_, rfl, _, _, _, [], _, [], hW', trodAll_mk1 (shut_bool Try.underlying4 _), (trodAll_cons_mk (Below.trod laidOut (by kernel_rfl) (of_decide_eq_true (by kernel_rfl)) h0 bel lt0) (trodAll_cons_mk (Below.trod laidOut (by kernel_rfl) (of_decide_eq_true (by kernel_rfl)) h1 bel lt1) (trodAll_cons_mk (Below.trod laidOut (by kernel_rfl) (of_decide_eq_true (by kernel_rfl)) h2 bel lt2) trodAll_mk0))), rfl, bel.frame _, fun h => by cases h⟩
theorem over : Rows.bloomPlacesRow.holds Try.pinned (OpenSpec.ofChange Rows.bloomPlacesSpec) :=
  OpenClaim.holds_of_wide 8 Try.f8 rfl rfl rfl rfl rfl rfl rfl ⟨rfl, rfl, rfl, rfl, rfl⟩ rfl rfl rfl rfl rfl (by kernel_rfl) Try.func8 (by kernel_rfl)
    (of_decide_eq_true (by kernel_rfl)) (by unfold Func.isWrapper; first | (rw [if_pos (by decide +kernel)]; kernel_rfl) | (rw [if_neg (by decide +kernel)]; exact ⟨rfl, rfl⟩))
    (fun os started H enc _ => lifted os started H enc)
/-- THE STATEMENT -/
theorem proved : Rows.BloomPlacesSaid := over
end BloomPlacesDone

end Go.Proofs.Ytdcmbcjkdhdohaa
