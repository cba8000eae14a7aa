/- Walks: seal.block, seal.turned, seal.Mac, pleachlaw03.fixed. -/
import Derived.Test.YtdcmbcjkdhdohaaDoorHmac
namespace Go.Proofs.YtdcmbcjkdhdohaaDoor
open Go Go.RowKit
set_option linter.unusedSimpArgs false
set_option linter.unusedVariables false
attribute [local irreducible] wpList wpP Code.wp

theorem block_c (v0 : Value) (l : List UInt8) (w : World) (hR : Rd [] w 1 v0 l.length (l.map B8)) (hlen : l.length ≤ 2305843009213693952) :
    Calls Tryd.prog 19 (([v0] : List Value).toArray) w (fun e w' => ∃ v, e = .returned v ∧ v = .agg ((keyB l).map B8).toArray ∧ Below w.heap.size w w') := by
 have hsl : (sha l).length = 32 := sha_length l
 refine calls_mk Tryd.func19 rfl 18 Tryd.ntmps19 rfl ?_
 have H0 : St w [] [] w := St.refl w
 refine c_seq ?_
 refine c_reg ?_
 refine st (ow_alloc (l := (List.replicate 64 0).map B8) H0 zr51 (by simp [Value.cells])) ?_
 rintro _ w2 ⟨g1, rfl, H3⟩
 refine c_nil ?_
 refine n_then ?_
 refine c_seq ?_
 refine c_reg ?_
 refine st (ow_alloc (l := (List.replicate 64 0).map B8) H3 zr51 (by simp [Value.cells])) ?_
 rintro _ w5 ⟨g4, rfl, H6⟩
 refine c_nil ?_
 refine n_then ?_
 refine c_seq ?_
 refine c_seq ?_
 refine c_reg ?_
 refine sy (v := v0) (y_move rfl) ?_
 refine sy (v := I ((l.length : Nat) : Int)) (y_lenR Tryd.underlying22 (hR.st H6) rfl) ?_
 refine sy (v := .bool (decide (64 < l.length))) (n_gtr (a := l.length) (b := 64) rfl rfl) ?_
 refine c_nil ?_
 refine n_then ?_
 refine c_if rfl (fun hc7 => ?_) (fun hc7 => ?_)
 ·
  refine c_seq ?_
  refine c_reg ?_
  refine sy (v := v0) (y_move rfl) ?_
  refine st (ow_call fn30 rfl (of_c (v0) (l) _ ((hR.st H6)).nil (by omega)) ⟨rfl, trivial⟩) ?_
  rintro _ w8 ⟨rfl, hB9⟩
  have H10 : St w _ [_, _] w8 := H6.call hB9
  refine st (ow_alloc (l := (List.replicate 32 0).map B8) H10 zr40 (by simp [Value.cells])) ?_
  rintro _ w12 ⟨g11, rfl, H13⟩
  refine s0 (ow_storeW (us := (sha (l)).map B8) H13 sz40 ((List.length_map _).trans (sha_length _)) rfl rfl (map_one (F := B8) (fun _ => rfl) _) ((List.length_map _).trans List.length_replicate)) ?_
  rintro _ w14 H15'
  have H15 : St w _ [[(g11, Rw 40 ((sha (l)).map B8))], _, _] w14 := H15'
  refine c_nil ?_
  refine n_then ?_
  refine c_seq ?_
  refine drawS (.step 0 0 (.step 0 1 (.step 2 2 .nil))) mixed H15 (by kernel_rfl) (by kernel_rfl) (by kernel_rfl) ?_
  intro w16 H17
  refine pt (v := .slice (some (bs g4)) 64 64) rfl (fun wS HS => y_slA (k1 := .i64) (k2 := .i64) (l := 0) (h := 64) Tryd.underlying51 sz5 rfl (.inl ⟨rfl, rfl⟩) (.inl ⟨rfl, rfl⟩) (by omega) (by omega)) ?_
  refine pt (v := .slice (some (bs g11)) 32 32) rfl (fun wS HS => y_slA (k1 := .i64) (k2 := .i64) (l := 0) (h := 32) Tryd.underlying40 sz5 rfl (.inl ⟨rfl, rfl⟩) (.inl ⟨rfl, rfl⟩) (by omega) (by omega)) ?_
  have H18 : St w _ [_, _, _] w16 := H17.foc 1 rfl rfl
  refine tl rfl (ow_copy (k := (sha (l)).length) (o := 0) (l := (List.replicate 64 0).map B8) Tryd.underlying22 sz5 H18 rfl rfl (rd_arr H18 1 rfl (sha_length _) (by unfold maxLen; omega)) (map_one (F := B8) (fun _ => rfl) _) (by omega) (by simp only [List.length_map, List.length_replicate]; omega)) ?_
  rintro _ w19 ⟨rfl, H20'⟩
  have hr21 : (lay (List.replicate 64 0) 0 (sha (l))).length = 64 := by rw [lay_length (by simp only [List.length_replicate, List.length_take]; omega)]; simp only [List.length_replicate]
  have H20 : St w _ [[(g4, Rw 51 ((lay (List.replicate 64 0) 0 (sha (l))).map B8))], _, _] w19 := H20'.eq1 (map_layA _ _ _)
  refine p_nil ?_
  refine n_then ?_
  refine c_seq ?_
  refine c_reg ?_
  refine sy (v := .agg ((lay (List.replicate 64 0) 0 (sha l)).map B8).toArray) (y_loadA (us := (lay (List.replicate 64 0) 0 (sha (l))).map B8) ag51 sz51 ((List.length_map _).trans hr21) rfl (fun j u hu => (H20.cell 0 rfl (by rw [Nat.zero_add]; exact hu)))) ?_
  have H22 : St w _ [_, _, _] w19 := H20.foc 2 rfl rfl
  refine s0 (ow_storeW (us := (lay (List.replicate 64 0) 0 (sha (l))).map B8) H22 sz51 ((List.length_map _).trans hr21) rfl rfl (map_one (F := B8) (fun _ => rfl) _) ((List.length_map _).trans List.length_replicate)) ?_
  rintro _ w23 H24'
  have H24 : St w _ [[(g1, Rw 51 ((lay (List.replicate 64 0) 0 (sha (l))).map B8))], _, _] w23 := H24'
  refine c_nil ?_
  refine n_then ?_
  refine wp_ret ?_
  refine r_then ?_
  refine e_r1 Tryd.results19 (rv_b H24 (i := 0) rfl ag51 sz51 ((List.length_map _).trans hr21) rfl) ?_
  refine ⟨_, rfl, ?_, H24.below⟩
  unfold keyB; rw [if_pos (by omega)]
 ·
  refine wp_skip ?_
  refine n_then ?_
  refine c_seq ?_
  refine c_reg ?_
  refine sy (v := .slice (some (bs g4)) 64 64) (y_slA (k1 := .i64) (k2 := .i64) (l := 0) (h := 64) Tryd.underlying51 sz5 rfl (.inl ⟨rfl, rfl⟩) (.inl ⟨rfl, rfl⟩) (by omega) (by omega)) ?_
  refine sy (v := v0) (y_move rfl) ?_
  refine st (ow_copy (k := (l).length) (o := 0) (l := (List.replicate 64 0).map B8) Tryd.underlying22 sz5 H6 rfl rfl (hR.st H6) (map_one (F := B8) (fun _ => rfl) _) (by omega) (by simp only [List.length_map, List.length_replicate]; omega)) ?_
  rintro _ w25 ⟨rfl, H26'⟩
  have hr27 : (lay (List.replicate 64 0) 0 l).length = 64 := by rw [lay_length (by simp only [List.length_replicate, List.length_take]; omega)]; simp only [List.length_replicate]
  have H26 : St w _ [[(g4, Rw 51 ((lay (List.replicate 64 0) 0 l).map B8))], _] w25 := H26'.eq1 (map_layA _ _ _)
  refine c_nil ?_
  refine n_then ?_
  refine c_seq ?_
  refine c_reg ?_
  refine sy (v := .agg ((lay (List.replicate 64 0) 0 l).map B8).toArray) (y_loadA (us := (lay (List.replicate 64 0) 0 l).map B8) ag51 sz51 ((List.length_map _).trans hr27) rfl (fun j u hu => (H26.cell 0 rfl (by rw [Nat.zero_add]; exact hu)))) ?_
  have H28 : St w _ [_, _] w25 := H26.foc 1 rfl rfl
  refine s0 (ow_storeW (us := (lay (List.replicate 64 0) 0 l).map B8) H28 sz51 ((List.length_map _).trans hr27) rfl rfl (map_one (F := B8) (fun _ => rfl) _) ((List.length_map _).trans List.length_replicate)) ?_
  rintro _ w29 H30'
  have H30 : St w _ [[(g1, Rw 51 ((lay (List.replicate 64 0) 0 l).map B8))], _] w29 := H30'
  refine c_nil ?_
  refine n_then ?_
  refine wp_ret ?_
  refine e_r1 Tryd.results19 (rv_b H30 (i := 0) rfl ag51 sz51 ((List.length_map _).trans hr27) rfl) ?_
  refine ⟨_, rfl, ?_, H30.below⟩
  unfold keyB; rw [if_neg (by omega)]

theorem turned8_c (k : List UInt8) (x : UInt8) (w : World) (hk : k.length = 64) :
    Calls Tryd.prog 20 (([.agg (k.map B8).toArray, B8 (x)] : List Value).toArray) w (fun e w' => ∃ v, e = .returned v ∧ v = .agg ((tn k x 64).map B8).toArray ∧ Below w.heap.size w w') := by
 refine calls_mk Tryd.func20 rfl 17 Tryd.ntmps20 rfl ?_
 have H0 : St w [] [] w := St.refl w
 refine c_seq ?_
 refine c_reg ?_
 refine st (ow_box (l := (k).map B8) H0 rfl rfl) ?_
 rintro _ w2 ⟨g1, rfl, H3⟩
 refine st (ow_alloc (l := (List.replicate 64 0).map B8) H3 zr51 (by simp [Value.cells])) ?_
 rintro _ w5 ⟨g4, rfl, H6⟩
 refine c_nil ?_
 refine n_then ?_
 refine c_seq ?_
 refine c_seq ?_
 refine c_reg ?_
 refine sy (v := I ((0 : Nat) : Int)) (y_move (v := I ((0 : Nat) : Int)) rfl) ?_
 refine c_nil ?_
 refine n_then ?_
 refine wp_block ?_
 refine c_loop (fun (i : Nat) f7 w8 => f7 1 = B8 (x) ∧ f7 2 = Ad (bs g1) (0) ∧ f7 4 = Ad (bs g4) (0) ∧ f7 6 = I ((i : Nat) : Int) ∧ i ≤ 64 ∧ St w [] [[(g4, Rw 51 ((List.replicate 64 0).map B8))], [(g1, Rw 51 ((tn k x i).map B8))]] w8) (fun i => 64 - i) 0 ⟨rfl, rfl, rfl, rfl, (by omega), H6⟩ ?_
 rintro i f7 w8 ⟨s1_9, s2_9, s4_9, s6_9, hf0_9, H9⟩
 have htl := tn_length k x i
 refine c_seq ?_
 refine c_reg ?_
 refine sy (v := .bool (decide (i < 64))) (n_lss (a := i) (b := 64) s6_9 rfl) ?_
 refine c_nil ?_
 refine n_then ?_
 refine c_seq ?_
 refine c_if rfl (fun hc10 => ?_) (fun hc10 => ?_)
 ·
  refine wp_skip ?_
  refine n_then ?_
  refine c_seq ?_
  refine wp_block ?_
  refine c_seq ?_
  refine c_reg ?_
  refine sy (v := I ((i : Nat) : Int)) (y_move s6_9) ?_
  refine sy (v := I ((i : Nat) : Int)) (y_assign rfl) ?_
  refine c_nil ?_
  refine n_then ?_
  refine c_reg ?_
  refine sy (v := I ((i : Nat) : Int)) (y_move rfl) ?_
  refine sy (v := Ad (bs g1) (0 + i * 1)) (y_ixA (m := i) Tryd.underlying51 sz5 s2_9 rfl rfl (by omega)) ?_
  refine sy (v := B8 ((tn k x i).getD i 0)) (y_load sc5 rfl (H9.cell 1 rfl (by simp only [Nat.zero_add, Nat.mul_one]; exact map_get B8 0 (by omega)))) ?_
  refine sy (v := B8 (x)) (y_move s1_9) ?_
  refine sy (v := B8 (((tn k x i).getD i 0) ^^^ x)) (y_xor8 (a := (tn k x i).getD i 0) (b := x) rfl rfl) ?_
  refine sy (v := Ad (bs g1) (0 + i * 1)) (y_ixA (m := i) Tryd.underlying51 sz5 s2_9 rfl rfl (by omega)) ?_
  have H11 : St w _ [_, _] w8 := H9.foc 1 rfl rfl
  refine s0 (ow_storeM (F := B8) (j := i) (fun _ => rfl) H11 sz5 rfl rfl (by omega) (by first | omega | (simp only [List.length_set]; omega))) ?_
  rintro _ w12 H13'
  have H13 : St w _ [[(g1, Rw 51 (((tn k x i).set i (((tn k x i).getD i 0) ^^^ x)).map B8))], _] w12 := H13'
  refine c_nil ?_
  refine n_block (n_then ?_)
  refine c_reg ?_
  refine sy (v := I ((i + 1 : Nat) : Int)) (n_add (a := i) (b := 1) s6_9 rfl (by omega)) ?_
  refine sy (v := I ((i + 1 : Nat) : Int)) (y_move rfl) ?_
  refine c_nil ?_
  have H14 : St w _ [_, _] w12 := H13.foc 1 rfl rfl
  exact lp_next (i + 1) ⟨s1_9, s2_9, s4_9, rfl, (by omega), H14⟩ (by show _ < _; omega)
 ·
  obtain rfl : i = 64 := by omega
  refine wp_exit ?_
  refine x_then (x_then (x_hit (n_then ?_)))
  refine c_seq ?_
  refine c_reg ?_
  refine sy (v := .agg ((tn k x 64).map B8).toArray) (y_loadA (us := (tn k x 64).map B8) ag51 sz51 ((List.length_map _).trans (htl.trans hk)) s2_9 (fun j u hu => (H9.cell 1 rfl (by rw [Nat.zero_add]; exact hu)))) ?_
  refine s0 (ow_storeW (us := (tn k x 64).map B8) H9 sz51 ((List.length_map _).trans (htl.trans hk)) s4_9 rfl (map_one (F := B8) (fun _ => rfl) _) ((List.length_map _).trans List.length_replicate)) ?_
  rintro _ w15 H16'
  have H16 : St w _ [[(g4, Rw 51 ((tn k x 64).map B8))], _] w15 := H16'
  refine c_nil ?_
  refine n_then ?_
  refine wp_ret ?_
  refine e_r1 Tryd.results20 (rv_b H16 (i := 0) rfl ag51 sz51 ((List.length_map _).trans (htl.trans hk)) s4_9) ?_
  exact ⟨_, rfl, rfl, H16.below⟩

theorem mac_c (v0 v1 : Value) (lk l : List UInt8) (w : World) (hK : Rd [] w 1 v0 lk.length (lk.map B8)) (hR : Rd [] w 1 v1 l.length (l.map B8)) (hlk : lk.length ≤ 2305843009213693952) (hl : l.length ≤ 2305843009213690000) :
    Calls Tryd.prog 13 (([v0, v1] : List Value).toArray) w (fun e w' => ∃ v, e = .returned v ∧ v = .agg ((hmac lk l).map B8).toArray ∧ Below w.heap.size w w') := by
 have ht1 : (tn (keyB lk) 54 64).length = 64 := by simp
 have ht2 : (tn (keyB lk) 92 64).length = 64 := by simp
 have ht3 : (sha (tn (keyB lk) 54 64 ++ l)).length = 32 := sha_length _
 refine calls_mk Tryd.func13 rfl 23 Tryd.ntmps13 rfl ?_
 have H0 : St w [] [] w := St.refl w
 refine c_seq ?_
 refine c_reg ?_
 refine st (ow_alloc (l := (List.replicate 32 0).map B8) H0 zr40 (by simp [Value.cells])) ?_
 rintro _ w2 ⟨g1, rfl, H3⟩
 refine c_nil ?_
 refine n_then ?_
 refine c_seq ?_
 refine c_reg ?_
 refine sy (v := v0) (y_move rfl) ?_
 refine st (ow_call fn19 rfl (block_c (v0) (lk) _ ((hK.st H3)).nil (by omega)) ⟨rfl, trivial⟩) ?_
 rintro _ w4 ⟨rfl, hB5⟩
 have H6 : St w _ [_] w4 := H3.call hB5
 refine st (ow_alloc (l := (List.replicate 64 0).map B8) H6 zr51 (by simp [Value.cells])) ?_
 rintro _ w8 ⟨g7, rfl, H9⟩
 refine s0 (ow_storeW (us := (keyB (lk)).map B8) H9 sz51 ((List.length_map _).trans (keyB_length _)) rfl rfl (map_one (F := B8) (fun _ => rfl) _) ((List.length_map _).trans List.length_replicate)) ?_
 rintro _ w10 H11'
 have H11 : St w _ [[(g7, Rw 51 ((keyB (lk)).map B8))], _] w10 := H11'
 refine c_nil ?_
 refine n_then ?_
 refine c_seq ?_
 refine c_cut (n := 23) (fun f12 w13 => ∃ (ga : Nat), ∃ (gb : Nat), f12 1 = v1 ∧ f12 4 = Ad (bs g1) (0) ∧ f12 6 = Ad (bs ga) (0) ∧ f12 7 = Ad (bs gb) (0) ∧ St w [] [[(ga, Rw 51 ((tn (keyB lk) 54 64).map B8))], [(gb, Rw 51 ((tn (keyB lk) 92 64).map B8))], [(g7, Rw 51 ((keyB (lk)).map B8))], [(g1, Rw 40 ((List.replicate 32 0).map B8))]] w13) ?_ ?_
 ·
  refine drawS (.step 0 0 (.step 0 2 (.alt 1 (.alt 3 (.alt 4 (.step 1 5 (.step 1 6 (.step 1 7 .nil))) (.alt 5 (.step 1 4 (.step 1 6 (.step 1 7 .nil))) .stop)) (.alt 4 (.alt 3 (.step 1 5 (.step 1 6 (.step 1 7 .nil))) (.alt 5 (.step 1 3 (.step 1 6 (.step 1 7 .nil))) .stop)) (.alt 5 (.alt 3 (.step 1 4 (.step 1 6 (.step 1 7 .nil))) (.alt 4 (.step 1 3 (.step 1 6 (.step 1 7 .nil))) .stop)) .stop))) (.alt 4 (.alt 1 (.alt 3 (.step 1 5 (.step 1 6 (.step 1 7 .nil))) (.alt 5 (.step 1 3 (.step 1 6 (.step 1 7 .nil))) .stop)) (.alt 5 (.step 1 1 (.step 1 3 (.step 1 6 (.step 1 7 .nil)))) .stop)) (.alt 5 (.alt 1 (.alt 3 (.step 1 4 (.step 1 6 (.step 1 7 .nil))) (.alt 4 (.step 1 3 (.step 1 6 (.step 1 7 .nil))) .stop)) (.alt 4 (.step 1 1 (.step 1 3 (.step 1 6 (.step 1 7 .nil)))) .stop)) .stop))))) mixed H11 (by kernel_rfl) (by kernel_rfl) (by kernel_rfl) ?_
  intro w14 H15
  refine pt (v := .agg ((keyB lk).map B8).toArray) rfl (fun wS HS => y_loadA (us := (keyB (lk)).map B8) ag51 sz51 ((List.length_map _).trans (keyB_length _)) rfl (fun j u hu => (HS.cell 0 rfl (by rw [Nat.zero_add]; exact hu)))) ?_
  refine pt (v := .agg ((keyB lk).map B8).toArray) rfl (fun wS HS => y_loadA (us := (keyB (lk)).map B8) ag51 sz51 ((List.length_map _).trans (keyB_length _)) rfl (fun j u hu => (HS.cell 0 rfl (by rw [Nat.zero_add]; exact hu)))) ?_
  refine al rfl (ow_call fn20 rfl (turned8_c (keyB (lk)) (54) _ (keyB_length _)) ⟨rfl, rfl, trivial⟩) ?_ ?_
  ·
   rintro _ w16 ⟨rfl, hB17⟩
   have H18 : St w _ [_, _] w16 := H15.call hB17
   refine ⟨H18, ?_⟩
   refine al rfl (ow_call fn20 rfl (turned8_c (keyB (lk)) (92) _ (keyB_length _)) ⟨rfl, rfl, trivial⟩) ?_ ?_
   ·
    rintro _ w19 ⟨rfl, hB20⟩
    have H21 : St w _ [_, _] w19 := H18.call hB20
    refine ⟨H21, ?_⟩
    refine al rfl (ow_alloc (l := (List.replicate 64 0).map B8) H21 zr51 (by simp [Value.cells])) ?_ ?_
    ·
     rintro _ w23 ⟨g22, rfl, H24⟩
     have H25 : St w _ [_, _, _] w23 := H24.foc 2 rfl rfl
     have H26 : St w _ [_, _, _] w23 := H25.foc 2 rfl rfl
     have H27 : St w _ [_, _] w23 := H26.take 2 rfl
     refine ⟨H27, ?_⟩
     refine pl rfl (ow_alloc (l := (List.replicate 64 0).map B8) H24 zr51 (by simp [Value.cells])) ?_
     rintro _ w29 ⟨g28, rfl, H30⟩
     have H31 : St w _ [_, _, _, _] w29 := H30.foc 3 rfl rfl
     have H32 : St w _ [_, _, _, _] w29 := H31.foc 3 rfl rfl
     have H33 : St w _ [_, _] w29 := H32.take 2 rfl
     refine ⟨H33, ?_⟩
     have H34 : St w _ [_, _, _, _] w29 := H30.foc 1 rfl rfl
     refine p0 rfl (ow_storeW (us := (tn (keyB (lk)) 54 64).map B8) H34 sz51 ((List.length_map _).trans ((tn_length _ _ _).trans (keyB_length _))) rfl rfl (map_one (F := B8) (fun _ => rfl) _) ((List.length_map _).trans List.length_replicate)) ?_
     rintro _ w35 H36'
     have H36 : St w _ [[(g22, Rw 51 ((tn (keyB (lk)) 54 64).map B8))], _, _, _] w35 := H36'
     have H37 : St w _ [_, _, _, _] w35 := H36.foc 3 rfl rfl
     have H38 : St w _ [_, _, _, _] w35 := H37.foc 3 rfl rfl
     have H39 : St w _ [_, _] w35 := H38.take 2 rfl
     refine ⟨H39, ?_⟩
     have H40 : St w _ [_, _, _, _] w35 := H36.foc 1 rfl rfl
     refine p0 rfl (ow_storeW (us := (tn (keyB (lk)) 92 64).map B8) H40 sz51 ((List.length_map _).trans ((tn_length _ _ _).trans (keyB_length _))) rfl rfl (map_one (F := B8) (fun _ => rfl) _) ((List.length_map _).trans List.length_replicate)) ?_
     rintro _ w41 H42'
     have H42 : St w _ [[(g28, Rw 51 ((tn (keyB (lk)) 92 64).map B8))], _, _, _] w41 := H42'
     have H43 : St w _ [_, _, _, _] w41 := H42.foc 3 rfl rfl
     have H44 : St w _ [_, _, _, _] w41 := H43.foc 3 rfl rfl
     have H45 : St w _ [_, _] w41 := H44.take 2 rfl
     refine ⟨H45, ?_⟩
     refine p_nil ?_
     have H46 : St w _ [_, _, _, _] w41 := H42.foc 3 rfl rfl
     have H47 : St w _ [_, _, _, _] w41 := H46.foc 3 rfl rfl
     have H48 : St w _ [_, _, _, _] w41 := H47.foc 2 rfl rfl
     have H49 : St w _ [_, _, _, _] w41 := H48.foc 3 rfl rfl
     exact qj_n ⟨g22, g28, rfl, rfl, rfl, rfl, H49⟩
    refine al rfl (ow_alloc (l := (List.replicate 64 0).map B8) H21 zr51 (by simp [Value.cells])) ?_ ?_
    ·
     rintro _ w51 ⟨g50, rfl, H52⟩
     have H53 : St w _ [_, _, _] w51 := H52.foc 2 rfl rfl
     have H54 : St w _ [_, _, _] w51 := H53.foc 2 rfl rfl
     have H55 : St w _ [_, _] w51 := H54.take 2 rfl
     refine ⟨H55, ?_⟩
     refine pl rfl (ow_alloc (l := (List.replicate 64 0).map B8) H52 zr51 (by simp [Value.cells])) ?_
     rintro _ w57 ⟨g56, rfl, H58⟩
     have H59 : St w _ [_, _, _, _] w57 := H58.foc 3 rfl rfl
     have H60 : St w _ [_, _, _, _] w57 := H59.foc 3 rfl rfl
     have H61 : St w _ [_, _] w57 := H60.take 2 rfl
     refine ⟨H61, ?_⟩
     refine p0 rfl (ow_storeW (us := (tn (keyB (lk)) 54 64).map B8) H58 sz51 ((List.length_map _).trans ((tn_length _ _ _).trans (keyB_length _))) rfl rfl (map_one (F := B8) (fun _ => rfl) _) ((List.length_map _).trans List.length_replicate)) ?_
     rintro _ w62 H63'
     have H63 : St w _ [[(g56, Rw 51 ((tn (keyB (lk)) 54 64).map B8))], _, _, _] w62 := H63'
     have H64 : St w _ [_, _, _, _] w62 := H63.foc 3 rfl rfl
     have H65 : St w _ [_, _, _, _] w62 := H64.foc 3 rfl rfl
     have H66 : St w _ [_, _] w62 := H65.take 2 rfl
     refine ⟨H66, ?_⟩
     have H67 : St w _ [_, _, _, _] w62 := H63.foc 1 rfl rfl
     refine p0 rfl (ow_storeW (us := (tn (keyB (lk)) 92 64).map B8) H67 sz51 ((List.length_map _).trans ((tn_length _ _ _).trans (keyB_length _))) rfl rfl (map_one (F := B8) (fun _ => rfl) _) ((List.length_map _).trans List.length_replicate)) ?_
     rintro _ w68 H69'
     have H69 : St w _ [[(g50, Rw 51 ((tn (keyB (lk)) 92 64).map B8))], _, _, _] w68 := H69'
     have H70 : St w _ [_, _, _, _] w68 := H69.foc 3 rfl rfl
     have H71 : St w _ [_, _, _, _] w68 := H70.foc 3 rfl rfl
     have H72 : St w _ [_, _] w68 := H71.take 2 rfl
     refine ⟨H72, ?_⟩
     refine p_nil ?_
     have H73 : St w _ [_, _, _, _] w68 := H69.foc 3 rfl rfl
     have H74 : St w _ [_, _, _, _] w68 := H73.foc 3 rfl rfl
     have H75 : St w _ [_, _, _, _] w68 := H74.foc 2 rfl rfl
     have H76 : St w _ [_, _, _, _] w68 := H75.foc 3 rfl rfl
     exact qj_n ⟨g56, g50, rfl, rfl, rfl, rfl, H76⟩
    exact a_stop
   refine al rfl (ow_alloc (l := (List.replicate 64 0).map B8) H18 zr51 (by simp [Value.cells])) ?_ ?_
   ·
    rintro _ w78 ⟨g77, rfl, H79⟩
    have H80 : St w _ [_, _, _] w78 := H79.foc 2 rfl rfl
    have H81 : St w _ [_, _, _] w78 := H80.foc 2 rfl rfl
    have H82 : St w _ [_, _] w78 := H81.take 2 rfl
    refine ⟨H82, ?_⟩
    refine al rfl (ow_call fn20 rfl (turned8_c (keyB (lk)) (92) _ (keyB_length _)) ⟨rfl, rfl, trivial⟩) ?_ ?_
    ·
     rintro _ w83 ⟨rfl, hB84⟩
     have H85 : St w _ [_, _, _] w83 := H79.call hB84
     have H86 : St w _ [_, _, _] w83 := H85.foc 2 rfl rfl
     have H87 : St w _ [_, _, _] w83 := H86.foc 2 rfl rfl
     have H88 : St w _ [_, _] w83 := H87.take 2 rfl
     refine ⟨H88, ?_⟩
     refine pl rfl (ow_alloc (l := (List.replicate 64 0).map B8) H85 zr51 (by simp [Value.cells])) ?_
     rintro _ w90 ⟨g89, rfl, H91⟩
     have H92 : St w _ [_, _, _, _] w90 := H91.foc 3 rfl rfl
     have H93 : St w _ [_, _, _, _] w90 := H92.foc 3 rfl rfl
     have H94 : St w _ [_, _] w90 := H93.take 2 rfl
     refine ⟨H94, ?_⟩
     have H95 : St w _ [_, _, _, _] w90 := H91.foc 1 rfl rfl
     refine p0 rfl (ow_storeW (us := (tn (keyB (lk)) 54 64).map B8) H95 sz51 ((List.length_map _).trans ((tn_length _ _ _).trans (keyB_length _))) rfl rfl (map_one (F := B8) (fun _ => rfl) _) ((List.length_map _).trans List.length_replicate)) ?_
     rintro _ w96 H97'
     have H97 : St w _ [[(g77, Rw 51 ((tn (keyB (lk)) 54 64).map B8))], _, _, _] w96 := H97'
     have H98 : St w _ [_, _, _, _] w96 := H97.foc 3 rfl rfl
     have H99 : St w _ [_, _, _, _] w96 := H98.foc 3 rfl rfl
     have H100 : St w _ [_, _] w96 := H99.take 2 rfl
     refine ⟨H100, ?_⟩
     have H101 : St w _ [_, _, _, _] w96 := H97.foc 1 rfl rfl
     refine p0 rfl (ow_storeW (us := (tn (keyB (lk)) 92 64).map B8) H101 sz51 ((List.length_map _).trans ((tn_length _ _ _).trans (keyB_length _))) rfl rfl (map_one (F := B8) (fun _ => rfl) _) ((List.length_map _).trans List.length_replicate)) ?_
     rintro _ w102 H103'
     have H103 : St w _ [[(g89, Rw 51 ((tn (keyB (lk)) 92 64).map B8))], _, _, _] w102 := H103'
     have H104 : St w _ [_, _, _, _] w102 := H103.foc 3 rfl rfl
     have H105 : St w _ [_, _, _, _] w102 := H104.foc 3 rfl rfl
     have H106 : St w _ [_, _] w102 := H105.take 2 rfl
     refine ⟨H106, ?_⟩
     refine p_nil ?_
     have H107 : St w _ [_, _, _, _] w102 := H103.foc 3 rfl rfl
     have H108 : St w _ [_, _, _, _] w102 := H107.foc 3 rfl rfl
     have H109 : St w _ [_, _, _, _] w102 := H108.foc 2 rfl rfl
     have H110 : St w _ [_, _, _, _] w102 := H109.foc 3 rfl rfl
     exact qj_n ⟨g77, g89, rfl, rfl, rfl, rfl, H110⟩
    refine al rfl (ow_alloc (l := (List.replicate 64 0).map B8) H79 zr51 (by simp [Value.cells])) ?_ ?_
    ·
     rintro _ w112 ⟨g111, rfl, H113⟩
     have H114 : St w _ [_, _, _, _] w112 := H113.foc 3 rfl rfl
     have H115 : St w _ [_, _, _, _] w112 := H114.foc 3 rfl rfl
     have H116 : St w _ [_, _] w112 := H115.take 2 rfl
     refine ⟨H116, ?_⟩
     refine pl rfl (ow_call fn20 rfl (turned8_c (keyB (lk)) (92) _ (keyB_length _)) ⟨rfl, rfl, trivial⟩) ?_
     rintro _ w117 ⟨rfl, hB118⟩
     have H119 : St w _ [_, _, _, _] w117 := H113.call hB118
     have H120 : St w _ [_, _, _, _] w117 := H119.foc 3 rfl rfl
     have H121 : St w _ [_, _, _, _] w117 := H120.foc 3 rfl rfl
     have H122 : St w _ [_, _] w117 := H121.take 2 rfl
     refine ⟨H122, ?_⟩
     have H123 : St w _ [_, _, _, _] w117 := H119.foc 1 rfl rfl
     refine p0 rfl (ow_storeW (us := (tn (keyB (lk)) 54 64).map B8) H123 sz51 ((List.length_map _).trans ((tn_length _ _ _).trans (keyB_length _))) rfl rfl (map_one (F := B8) (fun _ => rfl) _) ((List.length_map _).trans List.length_replicate)) ?_
     rintro _ w124 H125'
     have H125 : St w _ [[(g77, Rw 51 ((tn (keyB (lk)) 54 64).map B8))], _, _, _] w124 := H125'
     have H126 : St w _ [_, _, _, _] w124 := H125.foc 3 rfl rfl
     have H127 : St w _ [_, _, _, _] w124 := H126.foc 3 rfl rfl
     have H128 : St w _ [_, _] w124 := H127.take 2 rfl
     refine ⟨H128, ?_⟩
     have H129 : St w _ [_, _, _, _] w124 := H125.foc 1 rfl rfl
     refine p0 rfl (ow_storeW (us := (tn (keyB (lk)) 92 64).map B8) H129 sz51 ((List.length_map _).trans ((tn_length _ _ _).trans (keyB_length _))) rfl rfl (map_one (F := B8) (fun _ => rfl) _) ((List.length_map _).trans List.length_replicate)) ?_
     rintro _ w130 H131'
     have H131 : St w _ [[(g111, Rw 51 ((tn (keyB (lk)) 92 64).map B8))], _, _, _] w130 := H131'
     have H132 : St w _ [_, _, _, _] w130 := H131.foc 3 rfl rfl
     have H133 : St w _ [_, _, _, _] w130 := H132.foc 3 rfl rfl
     have H134 : St w _ [_, _] w130 := H133.take 2 rfl
     refine ⟨H134, ?_⟩
     refine p_nil ?_
     have H135 : St w _ [_, _, _, _] w130 := H131.foc 3 rfl rfl
     have H136 : St w _ [_, _, _, _] w130 := H135.foc 3 rfl rfl
     have H137 : St w _ [_, _, _, _] w130 := H136.foc 2 rfl rfl
     have H138 : St w _ [_, _, _, _] w130 := H137.foc 3 rfl rfl
     exact qj_n ⟨g77, g111, rfl, rfl, rfl, rfl, H138⟩
    exact a_stop
   refine al rfl (ow_alloc (l := (List.replicate 64 0).map B8) H18 zr51 (by simp [Value.cells])) ?_ ?_
   ·
    rintro _ w140 ⟨g139, rfl, H141⟩
    have H142 : St w _ [_, _, _] w140 := H141.foc 2 rfl rfl
    have H143 : St w _ [_, _, _] w140 := H142.foc 2 rfl rfl
    have H144 : St w _ [_, _] w140 := H143.take 2 rfl
    refine ⟨H144, ?_⟩
    refine al rfl (ow_call fn20 rfl (turned8_c (keyB (lk)) (92) _ (keyB_length _)) ⟨rfl, rfl, trivial⟩) ?_ ?_
    ·
     rintro _ w145 ⟨rfl, hB146⟩
     have H147 : St w _ [_, _, _] w145 := H141.call hB146
     have H148 : St w _ [_, _, _] w145 := H147.foc 2 rfl rfl
     have H149 : St w _ [_, _, _] w145 := H148.foc 2 rfl rfl
     have H150 : St w _ [_, _] w145 := H149.take 2 rfl
     refine ⟨H150, ?_⟩
     refine pl rfl (ow_alloc (l := (List.replicate 64 0).map B8) H147 zr51 (by simp [Value.cells])) ?_
     rintro _ w152 ⟨g151, rfl, H153⟩
     have H154 : St w _ [_, _, _, _] w152 := H153.foc 3 rfl rfl
     have H155 : St w _ [_, _, _, _] w152 := H154.foc 3 rfl rfl
     have H156 : St w _ [_, _] w152 := H155.take 2 rfl
     refine ⟨H156, ?_⟩
     refine p0 rfl (ow_storeW (us := (tn (keyB (lk)) 54 64).map B8) H153 sz51 ((List.length_map _).trans ((tn_length _ _ _).trans (keyB_length _))) rfl rfl (map_one (F := B8) (fun _ => rfl) _) ((List.length_map _).trans List.length_replicate)) ?_
     rintro _ w157 H158'
     have H158 : St w _ [[(g151, Rw 51 ((tn (keyB (lk)) 54 64).map B8))], _, _, _] w157 := H158'
     have H159 : St w _ [_, _, _, _] w157 := H158.foc 3 rfl rfl
     have H160 : St w _ [_, _, _, _] w157 := H159.foc 3 rfl rfl
     have H161 : St w _ [_, _] w157 := H160.take 2 rfl
     refine ⟨H161, ?_⟩
     have H162 : St w _ [_, _, _, _] w157 := H158.foc 1 rfl rfl
     refine p0 rfl (ow_storeW (us := (tn (keyB (lk)) 92 64).map B8) H162 sz51 ((List.length_map _).trans ((tn_length _ _ _).trans (keyB_length _))) rfl rfl (map_one (F := B8) (fun _ => rfl) _) ((List.length_map _).trans List.length_replicate)) ?_
     rintro _ w163 H164'
     have H164 : St w _ [[(g139, Rw 51 ((tn (keyB (lk)) 92 64).map B8))], _, _, _] w163 := H164'
     have H165 : St w _ [_, _, _, _] w163 := H164.foc 3 rfl rfl
     have H166 : St w _ [_, _, _, _] w163 := H165.foc 3 rfl rfl
     have H167 : St w _ [_, _] w163 := H166.take 2 rfl
     refine ⟨H167, ?_⟩
     refine p_nil ?_
     have H168 : St w _ [_, _, _, _] w163 := H164.foc 3 rfl rfl
     have H169 : St w _ [_, _, _, _] w163 := H168.foc 3 rfl rfl
     have H170 : St w _ [_, _, _, _] w163 := H169.foc 2 rfl rfl
     have H171 : St w _ [_, _, _, _] w163 := H170.foc 3 rfl rfl
     exact qj_n ⟨g151, g139, rfl, rfl, rfl, rfl, H171⟩
    refine al rfl (ow_alloc (l := (List.replicate 64 0).map B8) H141 zr51 (by simp [Value.cells])) ?_ ?_
    ·
     rintro _ w173 ⟨g172, rfl, H174⟩
     have H175 : St w _ [_, _, _, _] w173 := H174.foc 3 rfl rfl
     have H176 : St w _ [_, _, _, _] w173 := H175.foc 3 rfl rfl
     have H177 : St w _ [_, _] w173 := H176.take 2 rfl
     refine ⟨H177, ?_⟩
     refine pl rfl (ow_call fn20 rfl (turned8_c (keyB (lk)) (92) _ (keyB_length _)) ⟨rfl, rfl, trivial⟩) ?_
     rintro _ w178 ⟨rfl, hB179⟩
     have H180 : St w _ [_, _, _, _] w178 := H174.call hB179
     have H181 : St w _ [_, _, _, _] w178 := H180.foc 3 rfl rfl
     have H182 : St w _ [_, _, _, _] w178 := H181.foc 3 rfl rfl
     have H183 : St w _ [_, _] w178 := H182.take 2 rfl
     refine ⟨H183, ?_⟩
     refine p0 rfl (ow_storeW (us := (tn (keyB (lk)) 54 64).map B8) H180 sz51 ((List.length_map _).trans ((tn_length _ _ _).trans (keyB_length _))) rfl rfl (map_one (F := B8) (fun _ => rfl) _) ((List.length_map _).trans List.length_replicate)) ?_
     rintro _ w184 H185'
     have H185 : St w _ [[(g172, Rw 51 ((tn (keyB (lk)) 54 64).map B8))], _, _, _] w184 := H185'
     have H186 : St w _ [_, _, _, _] w184 := H185.foc 3 rfl rfl
     have H187 : St w _ [_, _, _, _] w184 := H186.foc 3 rfl rfl
     have H188 : St w _ [_, _] w184 := H187.take 2 rfl
     refine ⟨H188, ?_⟩
     have H189 : St w _ [_, _, _, _] w184 := H185.foc 1 rfl rfl
     refine p0 rfl (ow_storeW (us := (tn (keyB (lk)) 92 64).map B8) H189 sz51 ((List.length_map _).trans ((tn_length _ _ _).trans (keyB_length _))) rfl rfl (map_one (F := B8) (fun _ => rfl) _) ((List.length_map _).trans List.length_replicate)) ?_
     rintro _ w190 H191'
     have H191 : St w _ [[(g139, Rw 51 ((tn (keyB (lk)) 92 64).map B8))], _, _, _] w190 := H191'
     have H192 : St w _ [_, _, _, _] w190 := H191.foc 3 rfl rfl
     have H193 : St w _ [_, _, _, _] w190 := H192.foc 3 rfl rfl
     have H194 : St w _ [_, _] w190 := H193.take 2 rfl
     refine ⟨H194, ?_⟩
     refine p_nil ?_
     have H195 : St w _ [_, _, _, _] w190 := H191.foc 3 rfl rfl
     have H196 : St w _ [_, _, _, _] w190 := H195.foc 3 rfl rfl
     have H197 : St w _ [_, _, _, _] w190 := H196.foc 2 rfl rfl
     have H198 : St w _ [_, _, _, _] w190 := H197.foc 3 rfl rfl
     exact qj_n ⟨g172, g139, rfl, rfl, rfl, rfl, H198⟩
    exact a_stop
   exact a_stop
  refine al rfl (ow_alloc (l := (List.replicate 64 0).map B8) H15 zr51 (by simp [Value.cells])) ?_ ?_
  ·
   rintro _ w200 ⟨g199, rfl, H201⟩
   have H202 : St w _ [_, _, _] w200 := H201.foc 2 rfl rfl
   have H203 : St w _ [_, _, _] w200 := H202.foc 2 rfl rfl
   have H204 : St w _ [_, _] w200 := H203.take 2 rfl
   refine ⟨H204, ?_⟩
   refine al rfl (ow_call fn20 rfl (turned8_c (keyB (lk)) (54) _ (keyB_length _)) ⟨rfl, rfl, trivial⟩) ?_ ?_
   ·
    rintro _ w205 ⟨rfl, hB206⟩
    have H207 : St w _ [_, _, _] w205 := H201.call hB206
    have H208 : St w _ [_, _, _] w205 := H207.foc 2 rfl rfl
    have H209 : St w _ [_, _, _] w205 := H208.foc 2 rfl rfl
    have H210 : St w _ [_, _] w205 := H209.take 2 rfl
    refine ⟨H210, ?_⟩
    refine al rfl (ow_call fn20 rfl (turned8_c (keyB (lk)) (92) _ (keyB_length _)) ⟨rfl, rfl, trivial⟩) ?_ ?_
    ·
     rintro _ w211 ⟨rfl, hB212⟩
     have H213 : St w _ [_, _, _] w211 := H207.call hB212
     have H214 : St w _ [_, _, _] w211 := H213.foc 2 rfl rfl
     have H215 : St w _ [_, _, _] w211 := H214.foc 2 rfl rfl
     have H216 : St w _ [_, _] w211 := H215.take 2 rfl
     refine ⟨H216, ?_⟩
     refine pl rfl (ow_alloc (l := (List.replicate 64 0).map B8) H213 zr51 (by simp [Value.cells])) ?_
     rintro _ w218 ⟨g217, rfl, H219⟩
     have H220 : St w _ [_, _, _, _] w218 := H219.foc 3 rfl rfl
     have H221 : St w _ [_, _, _, _] w218 := H220.foc 3 rfl rfl
     have H222 : St w _ [_, _] w218 := H221.take 2 rfl
     refine ⟨H222, ?_⟩
     have H223 : St w _ [_, _, _, _] w218 := H219.foc 1 rfl rfl
     refine p0 rfl (ow_storeW (us := (tn (keyB (lk)) 54 64).map B8) H223 sz51 ((List.length_map _).trans ((tn_length _ _ _).trans (keyB_length _))) rfl rfl (map_one (F := B8) (fun _ => rfl) _) ((List.length_map _).trans List.length_replicate)) ?_
     rintro _ w224 H225'
     have H225 : St w _ [[(g199, Rw 51 ((tn (keyB (lk)) 54 64).map B8))], _, _, _] w224 := H225'
     have H226 : St w _ [_, _, _, _] w224 := H225.foc 3 rfl rfl
     have H227 : St w _ [_, _, _, _] w224 := H226.foc 3 rfl rfl
     have H228 : St w _ [_, _] w224 := H227.take 2 rfl
     refine ⟨H228, ?_⟩
     have H229 : St w _ [_, _, _, _] w224 := H225.foc 1 rfl rfl
     refine p0 rfl (ow_storeW (us := (tn (keyB (lk)) 92 64).map B8) H229 sz51 ((List.length_map _).trans ((tn_length _ _ _).trans (keyB_length _))) rfl rfl (map_one (F := B8) (fun _ => rfl) _) ((List.length_map _).trans List.length_replicate)) ?_
     rintro _ w230 H231'
     have H231 : St w _ [[(g217, Rw 51 ((tn (keyB (lk)) 92 64).map B8))], _, _, _] w230 := H231'
     have H232 : St w _ [_, _, _, _] w230 := H231.foc 3 rfl rfl
     have H233 : St w _ [_, _, _, _] w230 := H232.foc 3 rfl rfl
     have H234 : St w _ [_, _] w230 := H233.take 2 rfl
     refine ⟨H234, ?_⟩
     refine p_nil ?_
     have H235 : St w _ [_, _, _, _] w230 := H231.foc 3 rfl rfl
     have H236 : St w _ [_, _, _, _] w230 := H235.foc 3 rfl rfl
     have H237 : St w _ [_, _, _, _] w230 := H236.foc 2 rfl rfl
     have H238 : St w _ [_, _, _, _] w230 := H237.foc 3 rfl rfl
     exact qj_n ⟨g199, g217, rfl, rfl, rfl, rfl, H238⟩
    refine al rfl (ow_alloc (l := (List.replicate 64 0).map B8) H207 zr51 (by simp [Value.cells])) ?_ ?_
    ·
     rintro _ w240 ⟨g239, rfl, H241⟩
     have H242 : St w _ [_, _, _, _] w240 := H241.foc 3 rfl rfl
     have H243 : St w _ [_, _, _, _] w240 := H242.foc 3 rfl rfl
     have H244 : St w _ [_, _] w240 := H243.take 2 rfl
     refine ⟨H244, ?_⟩
     refine pl rfl (ow_call fn20 rfl (turned8_c (keyB (lk)) (92) _ (keyB_length _)) ⟨rfl, rfl, trivial⟩) ?_
     rintro _ w245 ⟨rfl, hB246⟩
     have H247 : St w _ [_, _, _, _] w245 := H241.call hB246
     have H248 : St w _ [_, _, _, _] w245 := H247.foc 3 rfl rfl
     have H249 : St w _ [_, _, _, _] w245 := H248.foc 3 rfl rfl
     have H250 : St w _ [_, _] w245 := H249.take 2 rfl
     refine ⟨H250, ?_⟩
     have H251 : St w _ [_, _, _, _] w245 := H247.foc 1 rfl rfl
     refine p0 rfl (ow_storeW (us := (tn (keyB (lk)) 54 64).map B8) H251 sz51 ((List.length_map _).trans ((tn_length _ _ _).trans (keyB_length _))) rfl rfl (map_one (F := B8) (fun _ => rfl) _) ((List.length_map _).trans List.length_replicate)) ?_
     rintro _ w252 H253'
     have H253 : St w _ [[(g199, Rw 51 ((tn (keyB (lk)) 54 64).map B8))], _, _, _] w252 := H253'
     have H254 : St w _ [_, _, _, _] w252 := H253.foc 3 rfl rfl
     have H255 : St w _ [_, _, _, _] w252 := H254.foc 3 rfl rfl
     have H256 : St w _ [_, _] w252 := H255.take 2 rfl
     refine ⟨H256, ?_⟩
     have H257 : St w _ [_, _, _, _] w252 := H253.foc 1 rfl rfl
     refine p0 rfl (ow_storeW (us := (tn (keyB (lk)) 92 64).map B8) H257 sz51 ((List.length_map _).trans ((tn_length _ _ _).trans (keyB_length _))) rfl rfl (map_one (F := B8) (fun _ => rfl) _) ((List.length_map _).trans List.length_replicate)) ?_
     rintro _ w258 H259'
     have H259 : St w _ [[(g239, Rw 51 ((tn (keyB (lk)) 92 64).map B8))], _, _, _] w258 := H259'
     have H260 : St w _ [_, _, _, _] w258 := H259.foc 3 rfl rfl
     have H261 : St w _ [_, _, _, _] w258 := H260.foc 3 rfl rfl
     have H262 : St w _ [_, _] w258 := H261.take 2 rfl
     refine ⟨H262, ?_⟩
     refine p_nil ?_
     have H263 : St w _ [_, _, _, _] w258 := H259.foc 3 rfl rfl
     have H264 : St w _ [_, _, _, _] w258 := H263.foc 3 rfl rfl
     have H265 : St w _ [_, _, _, _] w258 := H264.foc 2 rfl rfl
     have H266 : St w _ [_, _, _, _] w258 := H265.foc 3 rfl rfl
     exact qj_n ⟨g199, g239, rfl, rfl, rfl, rfl, H266⟩
    exact a_stop
   refine al rfl (ow_alloc (l := (List.replicate 64 0).map B8) H201 zr51 (by simp [Value.cells])) ?_ ?_
   ·
    rintro _ w268 ⟨g267, rfl, H269⟩
    have H270 : St w _ [_, _, _, _] w268 := H269.foc 3 rfl rfl
    have H271 : St w _ [_, _, _, _] w268 := H270.foc 3 rfl rfl
    have H272 : St w _ [_, _] w268 := H271.take 2 rfl
    refine ⟨H272, ?_⟩
    refine pl rfl (ow_call fn20 rfl (turned8_c (keyB (lk)) (54) _ (keyB_length _)) ⟨rfl, rfl, trivial⟩) ?_
    rintro _ w273 ⟨rfl, hB274⟩
    have H275 : St w _ [_, _, _, _] w273 := H269.call hB274
    have H276 : St w _ [_, _, _, _] w273 := H275.foc 3 rfl rfl
    have H277 : St w _ [_, _, _, _] w273 := H276.foc 3 rfl rfl
    have H278 : St w _ [_, _] w273 := H277.take 2 rfl
    refine ⟨H278, ?_⟩
    refine pl rfl (ow_call fn20 rfl (turned8_c (keyB (lk)) (92) _ (keyB_length _)) ⟨rfl, rfl, trivial⟩) ?_
    rintro _ w279 ⟨rfl, hB280⟩
    have H281 : St w _ [_, _, _, _] w279 := H275.call hB280
    have H282 : St w _ [_, _, _, _] w279 := H281.foc 3 rfl rfl
    have H283 : St w _ [_, _, _, _] w279 := H282.foc 3 rfl rfl
    have H284 : St w _ [_, _] w279 := H283.take 2 rfl
    refine ⟨H284, ?_⟩
    have H285 : St w _ [_, _, _, _] w279 := H281.foc 1 rfl rfl
    refine p0 rfl (ow_storeW (us := (tn (keyB (lk)) 54 64).map B8) H285 sz51 ((List.length_map _).trans ((tn_length _ _ _).trans (keyB_length _))) rfl rfl (map_one (F := B8) (fun _ => rfl) _) ((List.length_map _).trans List.length_replicate)) ?_
    rintro _ w286 H287'
    have H287 : St w _ [[(g199, Rw 51 ((tn (keyB (lk)) 54 64).map B8))], _, _, _] w286 := H287'
    have H288 : St w _ [_, _, _, _] w286 := H287.foc 3 rfl rfl
    have H289 : St w _ [_, _, _, _] w286 := H288.foc 3 rfl rfl
    have H290 : St w _ [_, _] w286 := H289.take 2 rfl
    refine ⟨H290, ?_⟩
    have H291 : St w _ [_, _, _, _] w286 := H287.foc 1 rfl rfl
    refine p0 rfl (ow_storeW (us := (tn (keyB (lk)) 92 64).map B8) H291 sz51 ((List.length_map _).trans ((tn_length _ _ _).trans (keyB_length _))) rfl rfl (map_one (F := B8) (fun _ => rfl) _) ((List.length_map _).trans List.length_replicate)) ?_
    rintro _ w292 H293'
    have H293 : St w _ [[(g267, Rw 51 ((tn (keyB (lk)) 92 64).map B8))], _, _, _] w292 := H293'
    have H294 : St w _ [_, _, _, _] w292 := H293.foc 3 rfl rfl
    have H295 : St w _ [_, _, _, _] w292 := H294.foc 3 rfl rfl
    have H296 : St w _ [_, _] w292 := H295.take 2 rfl
    refine ⟨H296, ?_⟩
    refine p_nil ?_
    have H297 : St w _ [_, _, _, _] w292 := H293.foc 3 rfl rfl
    have H298 : St w _ [_, _, _, _] w292 := H297.foc 3 rfl rfl
    have H299 : St w _ [_, _, _, _] w292 := H298.foc 2 rfl rfl
    have H300 : St w _ [_, _, _, _] w292 := H299.foc 3 rfl rfl
    exact qj_n ⟨g199, g267, rfl, rfl, rfl, rfl, H300⟩
   exact a_stop
  refine al rfl (ow_alloc (l := (List.replicate 64 0).map B8) H15 zr51 (by simp [Value.cells])) ?_ ?_
  ·
   rintro _ w302 ⟨g301, rfl, H303⟩
   have H304 : St w _ [_, _, _] w302 := H303.foc 2 rfl rfl
   have H305 : St w _ [_, _, _] w302 := H304.foc 2 rfl rfl
   have H306 : St w _ [_, _] w302 := H305.take 2 rfl
   refine ⟨H306, ?_⟩
   refine al rfl (ow_call fn20 rfl (turned8_c (keyB (lk)) (54) _ (keyB_length _)) ⟨rfl, rfl, trivial⟩) ?_ ?_
   ·
    rintro _ w307 ⟨rfl, hB308⟩
    have H309 : St w _ [_, _, _] w307 := H303.call hB308
    have H310 : St w _ [_, _, _] w307 := H309.foc 2 rfl rfl
    have H311 : St w _ [_, _, _] w307 := H310.foc 2 rfl rfl
    have H312 : St w _ [_, _] w307 := H311.take 2 rfl
    refine ⟨H312, ?_⟩
    refine al rfl (ow_call fn20 rfl (turned8_c (keyB (lk)) (92) _ (keyB_length _)) ⟨rfl, rfl, trivial⟩) ?_ ?_
    ·
     rintro _ w313 ⟨rfl, hB314⟩
     have H315 : St w _ [_, _, _] w313 := H309.call hB314
     have H316 : St w _ [_, _, _] w313 := H315.foc 2 rfl rfl
     have H317 : St w _ [_, _, _] w313 := H316.foc 2 rfl rfl
     have H318 : St w _ [_, _] w313 := H317.take 2 rfl
     refine ⟨H318, ?_⟩
     refine pl rfl (ow_alloc (l := (List.replicate 64 0).map B8) H315 zr51 (by simp [Value.cells])) ?_
     rintro _ w320 ⟨g319, rfl, H321⟩
     have H322 : St w _ [_, _, _, _] w320 := H321.foc 3 rfl rfl
     have H323 : St w _ [_, _, _, _] w320 := H322.foc 3 rfl rfl
     have H324 : St w _ [_, _] w320 := H323.take 2 rfl
     refine ⟨H324, ?_⟩
     refine p0 rfl (ow_storeW (us := (tn (keyB (lk)) 54 64).map B8) H321 sz51 ((List.length_map _).trans ((tn_length _ _ _).trans (keyB_length _))) rfl rfl (map_one (F := B8) (fun _ => rfl) _) ((List.length_map _).trans List.length_replicate)) ?_
     rintro _ w325 H326'
     have H326 : St w _ [[(g319, Rw 51 ((tn (keyB (lk)) 54 64).map B8))], _, _, _] w325 := H326'
     have H327 : St w _ [_, _, _, _] w325 := H326.foc 3 rfl rfl
     have H328 : St w _ [_, _, _, _] w325 := H327.foc 3 rfl rfl
     have H329 : St w _ [_, _] w325 := H328.take 2 rfl
     refine ⟨H329, ?_⟩
     have H330 : St w _ [_, _, _, _] w325 := H326.foc 1 rfl rfl
     refine p0 rfl (ow_storeW (us := (tn (keyB (lk)) 92 64).map B8) H330 sz51 ((List.length_map _).trans ((tn_length _ _ _).trans (keyB_length _))) rfl rfl (map_one (F := B8) (fun _ => rfl) _) ((List.length_map _).trans List.length_replicate)) ?_
     rintro _ w331 H332'
     have H332 : St w _ [[(g301, Rw 51 ((tn (keyB (lk)) 92 64).map B8))], _, _, _] w331 := H332'
     have H333 : St w _ [_, _, _, _] w331 := H332.foc 3 rfl rfl
     have H334 : St w _ [_, _, _, _] w331 := H333.foc 3 rfl rfl
     have H335 : St w _ [_, _] w331 := H334.take 2 rfl
     refine ⟨H335, ?_⟩
     refine p_nil ?_
     have H336 : St w _ [_, _, _, _] w331 := H332.foc 3 rfl rfl
     have H337 : St w _ [_, _, _, _] w331 := H336.foc 3 rfl rfl
     have H338 : St w _ [_, _, _, _] w331 := H337.foc 2 rfl rfl
     have H339 : St w _ [_, _, _, _] w331 := H338.foc 3 rfl rfl
     exact qj_n ⟨g319, g301, rfl, rfl, rfl, rfl, H339⟩
    refine al rfl (ow_alloc (l := (List.replicate 64 0).map B8) H309 zr51 (by simp [Value.cells])) ?_ ?_
    ·
     rintro _ w341 ⟨g340, rfl, H342⟩
     have H343 : St w _ [_, _, _, _] w341 := H342.foc 3 rfl rfl
     have H344 : St w _ [_, _, _, _] w341 := H343.foc 3 rfl rfl
     have H345 : St w _ [_, _] w341 := H344.take 2 rfl
     refine ⟨H345, ?_⟩
     refine pl rfl (ow_call fn20 rfl (turned8_c (keyB (lk)) (92) _ (keyB_length _)) ⟨rfl, rfl, trivial⟩) ?_
     rintro _ w346 ⟨rfl, hB347⟩
     have H348 : St w _ [_, _, _, _] w346 := H342.call hB347
     have H349 : St w _ [_, _, _, _] w346 := H348.foc 3 rfl rfl
     have H350 : St w _ [_, _, _, _] w346 := H349.foc 3 rfl rfl
     have H351 : St w _ [_, _] w346 := H350.take 2 rfl
     refine ⟨H351, ?_⟩
     refine p0 rfl (ow_storeW (us := (tn (keyB (lk)) 54 64).map B8) H348 sz51 ((List.length_map _).trans ((tn_length _ _ _).trans (keyB_length _))) rfl rfl (map_one (F := B8) (fun _ => rfl) _) ((List.length_map _).trans List.length_replicate)) ?_
     rintro _ w352 H353'
     have H353 : St w _ [[(g340, Rw 51 ((tn (keyB (lk)) 54 64).map B8))], _, _, _] w352 := H353'
     have H354 : St w _ [_, _, _, _] w352 := H353.foc 3 rfl rfl
     have H355 : St w _ [_, _, _, _] w352 := H354.foc 3 rfl rfl
     have H356 : St w _ [_, _] w352 := H355.take 2 rfl
     refine ⟨H356, ?_⟩
     have H357 : St w _ [_, _, _, _] w352 := H353.foc 1 rfl rfl
     refine p0 rfl (ow_storeW (us := (tn (keyB (lk)) 92 64).map B8) H357 sz51 ((List.length_map _).trans ((tn_length _ _ _).trans (keyB_length _))) rfl rfl (map_one (F := B8) (fun _ => rfl) _) ((List.length_map _).trans List.length_replicate)) ?_
     rintro _ w358 H359'
     have H359 : St w _ [[(g301, Rw 51 ((tn (keyB (lk)) 92 64).map B8))], _, _, _] w358 := H359'
     have H360 : St w _ [_, _, _, _] w358 := H359.foc 3 rfl rfl
     have H361 : St w _ [_, _, _, _] w358 := H360.foc 3 rfl rfl
     have H362 : St w _ [_, _] w358 := H361.take 2 rfl
     refine ⟨H362, ?_⟩
     refine p_nil ?_
     have H363 : St w _ [_, _, _, _] w358 := H359.foc 3 rfl rfl
     have H364 : St w _ [_, _, _, _] w358 := H363.foc 3 rfl rfl
     have H365 : St w _ [_, _, _, _] w358 := H364.foc 2 rfl rfl
     have H366 : St w _ [_, _, _, _] w358 := H365.foc 3 rfl rfl
     exact qj_n ⟨g340, g301, rfl, rfl, rfl, rfl, H366⟩
    exact a_stop
   refine al rfl (ow_alloc (l := (List.replicate 64 0).map B8) H303 zr51 (by simp [Value.cells])) ?_ ?_
   ·
    rintro _ w368 ⟨g367, rfl, H369⟩
    have H370 : St w _ [_, _, _, _] w368 := H369.foc 3 rfl rfl
    have H371 : St w _ [_, _, _, _] w368 := H370.foc 3 rfl rfl
    have H372 : St w _ [_, _] w368 := H371.take 2 rfl
    refine ⟨H372, ?_⟩
    refine pl rfl (ow_call fn20 rfl (turned8_c (keyB (lk)) (54) _ (keyB_length _)) ⟨rfl, rfl, trivial⟩) ?_
    rintro _ w373 ⟨rfl, hB374⟩
    have H375 : St w _ [_, _, _, _] w373 := H369.call hB374
    have H376 : St w _ [_, _, _, _] w373 := H375.foc 3 rfl rfl
    have H377 : St w _ [_, _, _, _] w373 := H376.foc 3 rfl rfl
    have H378 : St w _ [_, _] w373 := H377.take 2 rfl
    refine ⟨H378, ?_⟩
    refine pl rfl (ow_call fn20 rfl (turned8_c (keyB (lk)) (92) _ (keyB_length _)) ⟨rfl, rfl, trivial⟩) ?_
    rintro _ w379 ⟨rfl, hB380⟩
    have H381 : St w _ [_, _, _, _] w379 := H375.call hB380
    have H382 : St w _ [_, _, _, _] w379 := H381.foc 3 rfl rfl
    have H383 : St w _ [_, _, _, _] w379 := H382.foc 3 rfl rfl
    have H384 : St w _ [_, _] w379 := H383.take 2 rfl
    refine ⟨H384, ?_⟩
    refine p0 rfl (ow_storeW (us := (tn (keyB (lk)) 54 64).map B8) H381 sz51 ((List.length_map _).trans ((tn_length _ _ _).trans (keyB_length _))) rfl rfl (map_one (F := B8) (fun _ => rfl) _) ((List.length_map _).trans List.length_replicate)) ?_
    rintro _ w385 H386'
    have H386 : St w _ [[(g367, Rw 51 ((tn (keyB (lk)) 54 64).map B8))], _, _, _] w385 := H386'
    have H387 : St w _ [_, _, _, _] w385 := H386.foc 3 rfl rfl
    have H388 : St w _ [_, _, _, _] w385 := H387.foc 3 rfl rfl
    have H389 : St w _ [_, _] w385 := H388.take 2 rfl
    refine ⟨H389, ?_⟩
    have H390 : St w _ [_, _, _, _] w385 := H386.foc 1 rfl rfl
    refine p0 rfl (ow_storeW (us := (tn (keyB (lk)) 92 64).map B8) H390 sz51 ((List.length_map _).trans ((tn_length _ _ _).trans (keyB_length _))) rfl rfl (map_one (F := B8) (fun _ => rfl) _) ((List.length_map _).trans List.length_replicate)) ?_
    rintro _ w391 H392'
    have H392 : St w _ [[(g301, Rw 51 ((tn (keyB (lk)) 92 64).map B8))], _, _, _] w391 := H392'
    have H393 : St w _ [_, _, _, _] w391 := H392.foc 3 rfl rfl
    have H394 : St w _ [_, _, _, _] w391 := H393.foc 3 rfl rfl
    have H395 : St w _ [_, _] w391 := H394.take 2 rfl
    refine ⟨H395, ?_⟩
    refine p_nil ?_
    have H396 : St w _ [_, _, _, _] w391 := H392.foc 3 rfl rfl
    have H397 : St w _ [_, _, _, _] w391 := H396.foc 3 rfl rfl
    have H398 : St w _ [_, _, _, _] w391 := H397.foc 2 rfl rfl
    have H399 : St w _ [_, _, _, _] w391 := H398.foc 3 rfl rfl
    exact qj_n ⟨g367, g301, rfl, rfl, rfl, rfl, H399⟩
   exact a_stop
  exact a_stop
 ·
  rintro f12 w13 ⟨ga, gb, s1_400, s4_400, s6_400, s7_400, H400⟩
  refine n_then ?_
  refine c_seq ?_
  refine c_reg ?_
  refine sy (v := .slice (some (bs ga)) 64 64) (y_slA (k1 := .i64) (k2 := .i64) (l := 0) (h := 64) Tryd.underlying51 sz5 s6_400 (.inl ⟨rfl, rfl⟩) (.inl ⟨rfl, rfl⟩) (by omega) (by omega)) ?_
  refine sy (v := v1) (y_move s1_400) ?_
  refine st (ow_buildSlice (pv := [(0, .slice (some (bs ga)) 64 64), (1, v1)]) (us := [.slice (some (bs ga)) 64 64, v1]) Tryd.underlying38 sz22 zr22 H400 ⟨⟨rfl, rfl⟩, ⟨rfl, rfl⟩, trivial⟩ (by decide) (fill2 rfl (hR.st H400).cells)) ?_
  rintro _ w402 ⟨g401, rfl, H403⟩
  refine st (ow_call fn21 rfl (ofAll2_c (.slice (some (bs g401)) 2 2) (.slice (some (bs ga)) 64 64) (v1) (tn (keyB lk) 54 64) (l) _ (rd_lit H403 0 rfl rfl (by simp [maxLen])) ((rd_arr H403 1 rfl ht1 (by unfold maxLen; omega))).nil ((hR.st H403)).nil (by omega)) ⟨rfl, trivial⟩) ?_
  rintro _ w404 ⟨rfl, hB405⟩
  have H406 : St w _ [_, _, _, _, _] w404 := H403.call hB405
  refine st (ow_alloc (l := (List.replicate 32 0).map B8) H406 zr40 (by simp [Value.cells])) ?_
  rintro _ w408 ⟨g407, rfl, H409⟩
  refine s0 (ow_storeW (us := (sha ((tn (keyB lk) 54 64) ++ l)).map B8) H409 sz40 ((List.length_map _).trans (sha_length _)) rfl rfl (map_one (F := B8) (fun _ => rfl) _) ((List.length_map _).trans List.length_replicate)) ?_
  rintro _ w410 H411'
  have H411 : St w _ [[(g407, Rw 40 ((sha ((tn (keyB lk) 54 64) ++ l)).map B8))], _, _, _, _, _] w410 := H411'
  refine c_nil ?_
  refine n_then ?_
  refine c_seq ?_
  refine drawS (.step 0 0 (.step 0 1 (.step 1 2 (.step 1 3 (.step 2 4 .nil))))) mixed H411 (by kernel_rfl) (by kernel_rfl) (by kernel_rfl) ?_
  intro w412 H413
  refine pt (v := .slice (some (bs gb)) 64 64) rfl (fun wS HS => y_slA (k1 := .i64) (k2 := .i64) (l := 0) (h := 64) Tryd.underlying51 sz5 s7_400 (.inl ⟨rfl, rfl⟩) (.inl ⟨rfl, rfl⟩) (by omega) (by omega)) ?_
  refine pt (v := .slice (some (bs g407)) 32 32) rfl (fun wS HS => y_slA (k1 := .i64) (k2 := .i64) (l := 0) (h := 32) Tryd.underlying40 sz5 rfl (.inl ⟨rfl, rfl⟩) (.inl ⟨rfl, rfl⟩) (by omega) (by omega)) ?_
  refine pl rfl (ow_buildSlice (pv := [(0, .slice (some (bs gb)) 64 64), (1, .slice (some (bs g407)) 32 32)]) (us := [.slice (some (bs gb)) 64 64, .slice (some (bs g407)) 32 32]) Tryd.underlying38 sz22 zr22 H413 ⟨⟨rfl, rfl⟩, ⟨rfl, rfl⟩, trivial⟩ (by decide) (fill2 rfl rfl)) ?_
  rintro _ w415 ⟨g414, rfl, H416⟩
  have H417 : St w _ [_, _, _, _, _, _, _] w415 := H416.foc 6 rfl rfl
  have H418 : St w _ [_, _, _, _, _, _, _] w415 := H417.foc 6 rfl rfl
  have H419 : St w _ [_, _, _, _, _, _, _] w415 := H418.foc 6 rfl rfl
  have H420 : St w _ [_, _, _, _, _, _, _] w415 := H419.foc 6 rfl rfl
  have H421 : St w _ [_, _, _, _, _, _, _] w415 := H420.foc 6 rfl rfl
  have H422 : St w _ [_, _, _, _, _, _, _] w415 := H421.foc 6 rfl rfl
  have H423 : St w _ [_, _, _, _, _, _] w415 := H422.take 6 rfl
  refine ⟨H423, ?_⟩
  refine pl rfl (ow_call fn21 rfl (ofAll2_c (.slice (some (bs g414)) 2 2) (.slice (some (bs gb)) 64 64) (.slice (some (bs g407)) 32 32) (tn (keyB lk) 92 64) (sha ((tn (keyB lk) 54 64) ++ l)) _ (rd_lit H416 0 rfl rfl (by simp [maxLen])) ((rd_arr H416 4 rfl ht2 (by unfold maxLen; omega))).nil ((rd_arr H416 1 rfl (sha_length _) (by unfold maxLen; omega))).nil (by omega)) ⟨rfl, trivial⟩) ?_
  rintro _ w424 ⟨rfl, hB425⟩
  have H426 : St w _ [_, _, _, _, _, _, _] w424 := H416.call hB425
  have H427 : St w _ [_, _, _, _, _, _, _] w424 := H426.foc 6 rfl rfl
  have H428 : St w _ [_, _, _, _, _, _, _] w424 := H427.foc 6 rfl rfl
  have H429 : St w _ [_, _, _, _, _, _, _] w424 := H428.foc 6 rfl rfl
  have H430 : St w _ [_, _, _, _, _, _, _] w424 := H429.foc 6 rfl rfl
  have H431 : St w _ [_, _, _, _, _, _, _] w424 := H430.foc 6 rfl rfl
  have H432 : St w _ [_, _, _, _, _, _, _] w424 := H431.foc 6 rfl rfl
  have H433 : St w _ [_, _, _, _, _, _] w424 := H432.take 6 rfl
  refine ⟨H433, ?_⟩
  have H434 : St w _ [_, _, _, _, _, _, _] w424 := H426.foc 6 rfl rfl
  refine t0 rfl (ow_storeW (us := (sha ((tn (keyB lk) 92 64) ++ (sha ((tn (keyB lk) 54 64) ++ l)))).map B8) H434 sz40 ((List.length_map _).trans (sha_length _)) s4_400 rfl (map_one (F := B8) (fun _ => rfl) _) ((List.length_map _).trans List.length_replicate)) ?_
  rintro _ w435 H436'
  have H436 : St w _ [[(g1, Rw 40 ((sha ((tn (keyB lk) 92 64) ++ (sha ((tn (keyB lk) 54 64) ++ l)))).map B8))], _, _, _, _, _, _] w435 := H436'
  refine p_nil ?_
  refine n_then ?_
  refine wp_ret ?_
  refine e_r1 Tryd.results13 (rv_b H436 (i := 0) rfl ag40 sz40 ((List.length_map _).trans (sha_length _)) s4_400) ?_
  exact ⟨_, rfl, rfl, H436.below⟩

set_option maxHeartbeats 400000 in
theorem fixed_c (w : World) :
    Calls Tryd.prog 4 (([] : List Value).toArray) w (fun e w' => ∃ v, e = .returned v ∧ v = .bool true ∧ Below w.heap.size w w') := by
 have ht3 := hmac_length jefe what
 refine calls_mk Tryd.func4 rfl 25 Tryd.ntmps4 rfl ?_
 have H0 : St w [] [] w := St.refl w
 refine c_seq ?_
 refine c_reg ?_
 refine sy (v := .bool (false)) (y_assign (v := .bool (false)) rfl) ?_
 refine c_nil ?_
 refine n_then ?_
 refine c_seq ?_
 refine c_reg ?_
 refine st (ow_buildSlice (pv := [(0, B8 (74)), (1, B8 (101)), (2, B8 (102)), (3, B8 (101))]) (us := [B8 (74), B8 (101), B8 (102), B8 (101)]) Tryd.underlying22 sz5 zr5 H0 ⟨⟨rfl, rfl⟩, ⟨rfl, rfl⟩, ⟨rfl, rfl⟩, ⟨rfl, rfl⟩, trivial⟩ (by decide) (by kernel_rfl)) ?_
 rintro _ w2 ⟨g1, rfl, H3⟩
 refine st (ow_mark H3 Tryd.underlying22 Tryd.underlying5 rfl) ?_
 rintro _ w4 ⟨rfl, H5'⟩
 have H5 : St w _ [[(g1, Mk 5 ((jefe).map B8))]] w4 := H5'
 refine st (ow_buildSlice (pv := [(0, B8 (119)), (1, B8 (104)), (2, B8 (97)), (3, B8 (116)), (4, B8 (32)), (5, B8 (100)), (6, B8 (111)), (7, B8 (32)), (8, B8 (121)), (9, B8 (97)), (10, B8 (32)), (11, B8 (119)), (12, B8 (97)), (13, B8 (110)), (14, B8 (116)), (15, B8 (32)), (16, B8 (102)), (17, B8 (111)), (18, B8 (114)), (19, B8 (32)), (20, B8 (110)), (21, B8 (111)), (22, B8 (116)), (23, B8 (104)), (24, B8 (105)), (25, B8 (110)), (26, B8 (103)), (27, B8 (63))]) (us := [B8 (119), B8 (104), B8 (97), B8 (116), B8 (32), B8 (100), B8 (111), B8 (32), B8 (121), B8 (97), B8 (32), B8 (119), B8 (97), B8 (110), B8 (116), B8 (32), B8 (102), B8 (111), B8 (114), B8 (32), B8 (110), B8 (111), B8 (116), B8 (104), B8 (105), B8 (110), B8 (103), B8 (63)]) Tryd.underlying22 sz5 zr5 H5 ⟨⟨rfl, rfl⟩, ⟨rfl, rfl⟩, ⟨rfl, rfl⟩, ⟨rfl, rfl⟩, ⟨rfl, rfl⟩, ⟨rfl, rfl⟩, ⟨rfl, rfl⟩, ⟨rfl, rfl⟩, ⟨rfl, rfl⟩, ⟨rfl, rfl⟩, ⟨rfl, rfl⟩, ⟨rfl, rfl⟩, ⟨rfl, rfl⟩, ⟨rfl, rfl⟩, ⟨rfl, rfl⟩, ⟨rfl, rfl⟩, ⟨rfl, rfl⟩, ⟨rfl, rfl⟩, ⟨rfl, rfl⟩, ⟨rfl, rfl⟩, ⟨rfl, rfl⟩, ⟨rfl, rfl⟩, ⟨rfl, rfl⟩, ⟨rfl, rfl⟩, ⟨rfl, rfl⟩, ⟨rfl, rfl⟩, ⟨rfl, rfl⟩, ⟨rfl, rfl⟩, trivial⟩ (by decide) (by kernel_rfl)) ?_
 rintro _ w7 ⟨g6, rfl, H8⟩
 refine st (ow_mark H8 Tryd.underlying22 Tryd.underlying5 rfl) ?_
 rintro _ w9 ⟨rfl, H10'⟩
 have H10 : St w _ [[(g6, Mk 5 ((what).map B8))], _] w9 := H10'
 refine st (ow_call fn13 rfl (mac_c (.slice (some (bs g1)) 4 4) (.slice (some (bs g6)) 28 28) (jefe) (what) _ ((rd_mkF (F := B8) H10 1 rfl rfl (by simp [maxLen]))).nil ((rd_mkF (F := B8) H10 0 rfl rfl (by simp [maxLen]))).nil (by decide) (by decide)) ⟨rfl, rfl, trivial⟩) ?_
 rintro _ w11 ⟨rfl, hB12⟩
 have H13 : St w _ [_, _] w11 := H10.call hB12
 refine st (ow_alloc (l := (List.replicate 32 0).map B8) H13 zr40 (by simp [Value.cells])) ?_
 rintro _ w15 ⟨g14, rfl, H16⟩
 refine s0 (ow_storeW (us := (hmac (jefe) (what)).map B8) H16 sz40 ((List.length_map _).trans (hmac_length _ _)) rfl rfl (map_one (F := B8) (fun _ => rfl) _) ((List.length_map _).trans List.length_replicate)) ?_
 rintro _ w17 H18'
 have H18 : St w _ [[(g14, Rw 40 ((hmac (jefe) (what)).map B8))], _, _] w17 := H18'
 refine c_nil ?_
 refine n_then ?_
 refine c_seq ?_
 have hfx := fixed_ok
 obtain ⟨q, hq⟩ : ∃ q, q = hmac jefe what := ⟨_, rfl⟩
 rw [← hq] at H18 ht3 hfx
 clear hq
 refine c_reg ?_
 refine sy (v := Ad (bs g14) (0 + 0 * 1)) (y_ixA (m := 0) Tryd.underlying40 sz5 rfl rfl rfl (by omega)) ?_
 refine sy (v := B8 (q.getD 0 0)) (y_load sc5 rfl (H18.cell 0 rfl (by simp only [Nat.zero_add, Nat.mul_one]; exact map_get B8 0 (by omega)))) ?_
 refine sy (v := .bool (decide ((q.getD 0 0) = 91))) (y_eql8 (a := q.getD 0 0) (b := 91) rfl rfl) ?_
 refine sy (v := .bool (decide ((q.getD 0 0) = 91))) (y_move rfl) ?_
 have hq19 : (q.getD 0 0) = 91 := hfx.1
 refine gsy (v := Ad (bs g14) (0 + 1 * 1)) (gv_of (t := 10) rfl rfl rfl) (decide_eq_true hq19) (y_ixA (m := 1) Tryd.underlying40 sz5 rfl rfl rfl (by omega)) ?_
 refine gsy (v := B8 (q.getD 1 0)) (gv_of (t := 10) rfl rfl rfl) (decide_eq_true hq19) (y_load sc5 rfl (H18.cell 0 rfl (by simp only [Nat.zero_add, Nat.mul_one]; exact map_get B8 0 (by omega)))) ?_
 refine gsy (v := .bool (decide ((q.getD 1 0) = 220))) (gv_of (t := 10) rfl rfl rfl) (decide_eq_true hq19) (y_eql8 (a := q.getD 1 0) (b := 220) rfl rfl) ?_
 refine sy (v := .bool (decide ((q.getD 1 0) = 220))) (y_pickT rfl (decide_eq_true hq19) rfl) ?_
 refine sy (v := .bool (decide ((q.getD 1 0) = 220))) (y_move rfl) ?_
 have hq20 : (q.getD 1 0) = 220 := hfx.2.1
 refine gsy (v := Ad (bs g14) (0 + 2 * 1)) (gv_of (t := 15) rfl rfl rfl) (decide_eq_true hq20) (y_ixA (m := 2) Tryd.underlying40 sz5 rfl rfl rfl (by omega)) ?_
 refine gsy (v := B8 (q.getD 2 0)) (gv_of (t := 15) rfl rfl rfl) (decide_eq_true hq20) (y_load sc5 rfl (H18.cell 0 rfl (by simp only [Nat.zero_add, Nat.mul_one]; exact map_get B8 0 (by omega)))) ?_
 refine gsy (v := .bool (decide ((q.getD 2 0) = 193))) (gv_of (t := 15) rfl rfl rfl) (decide_eq_true hq20) (y_eql8 (a := q.getD 2 0) (b := 193) rfl rfl) ?_
 refine sy (v := .bool (decide ((q.getD 2 0) = 193))) (y_pickT rfl (decide_eq_true hq20) rfl) ?_
 refine sy (v := .bool (decide ((q.getD 2 0) = 193))) (y_move rfl) ?_
 have hq21 : (q.getD 2 0) = 193 := hfx.2.2.1
 refine gsy (v := Ad (bs g14) (0 + 31 * 1)) (gv_of (t := 20) rfl rfl rfl) (decide_eq_true hq21) (y_ixA (m := 31) Tryd.underlying40 sz5 rfl rfl rfl (by omega)) ?_
 refine gsy (v := B8 (q.getD 31 0)) (gv_of (t := 20) rfl rfl rfl) (decide_eq_true hq21) (y_load sc5 rfl (H18.cell 0 rfl (by simp only [Nat.zero_add, Nat.mul_one]; exact map_get B8 0 (by omega)))) ?_
 refine gsy (v := .bool (decide ((q.getD 31 0) = 67))) (gv_of (t := 20) rfl rfl rfl) (decide_eq_true hq21) (y_eql8 (a := q.getD 31 0) (b := 67) rfl rfl) ?_
 refine sy (v := .bool (decide ((q.getD 31 0) = 67))) (y_pickT rfl (decide_eq_true hq21) rfl) ?_
 refine sy (v := .bool (decide ((q.getD 31 0) = 67))) (y_assign rfl) ?_
 refine c_nil ?_
 refine n_then ?_
 refine wp_ret ?_
 refine e_r1 Tryd.results4 (rv_t rfl) ?_
 have hz : (.bool (decide ((q.getD 31 0) = 67)) : Value) = .bool true := by rw [decide_eq_true hfx.2.2.2]
 refine ⟨_, rfl, ?_, ?_⟩
 · exact hz
 · exact H18.below

end Go.Proofs.YtdcmbcjkdhdohaaDoor
