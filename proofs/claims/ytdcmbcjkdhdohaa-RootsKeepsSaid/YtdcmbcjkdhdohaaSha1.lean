/- Walks: sha.turned, sha.begins, sha.rounds, sha.piece. -/
import Derived.Test.YtdcmbcjkdhdohaaTypes
import Derived.Test.YtdcmbcjkdhdohaaSha
namespace Go.Proofs.Ytdcmbcjkdhdohaa
open Go Go.RowKit
set_option linter.unusedSimpArgs false
set_option linter.unusedVariables false
attribute [local irreducible] wpList wpP Code.wp

theorem turned_c (x : UInt32) (m : Nat) (w : World) (h1 : 1 ≤ m) (h2 : m < 32) :
    Calls Try.prog 155 (([U32 (x), I ((m : Nat) : Int)] : List Value).toArray) w (fun e w' => ∃ v, e = .returned v ∧ v = U32 (rotr x m) ∧ Below w.heap.size w w') := by
 refine calls_mk Try.func155 rfl 13 Try.ntmps155 rfl ?_
 have H0 : St w [] [] w := St.refl w
 refine c_seq ?_
 refine c_reg ?_
 refine sy (v := U32 (0)) (y_assign (v := U32 (0)) rfl) ?_
 refine c_nil ?_
 refine n_then ?_
 refine c_seq ?_
 refine drawS (.step 0 0 (.step 0 1 (.step 0 2 (.step 0 3 (.step 0 4 (.step 0 5 (.step 0 6 (.step 0 7 (.step 2 8 .nil))))))))) mixed H0 (by kernel_rfl) (by kernel_rfl) (by kernel_rfl) ?_
 intro w1 H2
 refine pt (v := U32 (x)) rfl (fun wS HS => y_move rfl) ?_
 refine pt (v := I ((m : Nat) : Int)) rfl (fun wS HS => y_move rfl) ?_
 refine pt (v := U32 (x >>> UInt32.ofNat m)) rfl (fun wS HS => n_shr32 (m := m) (c := x) rfl rfl (by omega)) ?_
 refine pt (v := U32 (x)) rfl (fun wS HS => y_move rfl) ?_
 refine pt (v := I ((m : Nat) : Int)) rfl (fun wS HS => y_move rfl) ?_
 refine pt (v := I ((32 - m : Nat) : Int)) rfl (fun wS HS => n_sub (a := 32) (b := m) rfl rfl (by omega) (by omega)) ?_
 refine pt (v := U32 (x <<< UInt32.ofNat (32 - m))) rfl (fun wS HS => n_shl32 (m := 32 - m) (c := x) rfl rfl (by omega)) ?_
 refine pt (v := U32 ((x >>> UInt32.ofNat m) ||| (x <<< UInt32.ofNat (32 - m)))) rfl (fun wS HS => y_or32 (a := x >>> UInt32.ofNat m) (b := x <<< UInt32.ofNat (32 - m)) rfl rfl) ?_
 refine tly (v := U32 ((x >>> UInt32.ofNat m) ||| (x <<< UInt32.ofNat (32 - m)))) rfl (y_assign rfl) ?_
 refine p_nil ?_
 refine n_then ?_
 refine wp_ret ?_
 refine e_r1 Try.results155 (rv_t rfl) ?_
 exact ⟨_, rfl, rfl, H2.below⟩

theorem begins_c (w : World) :
    Calls Try.prog 134 (([] : List Value).toArray) w (fun e w' => ∃ v, e = .returned v ∧ v = .agg (iv.map U32).toArray ∧ Below w.heap.size w w') := by
 refine calls_mk Try.func134 rfl 2 Try.ntmps134 rfl ?_
 have H0 : St w [] [] w := St.refl w
 refine c_seq ?_
 refine c_reg ?_
 refine st (ow_alloc (l := (List.replicate 8 0).map U32) H0 zr136 (by simp [Value.cells])) ?_
 rintro _ w2 ⟨g1, rfl, H3⟩
 refine c_nil ?_
 refine n_then ?_
 refine c_seq ?_
 refine c_reg ?_
 refine sy (v := .agg (([1779033703, 3144134277, 1013904242, 2773480762, 1359893119, 2600822924, 528734635, 1541459225]).map U32).toArray) (y_build (pv := [(0, U32 (1779033703)), (1, U32 (3144134277)), (2, U32 (1013904242)), (3, U32 (2773480762)), (4, U32 (1359893119)), (5, U32 (2600822924)), (6, U32 (528734635)), (7, U32 (1541459225))]) (us := ([1779033703, 3144134277, 1013904242, 2773480762, 1359893119, 2600822924, 528734635, 1541459225]).map U32) ⟨⟨rfl, rfl⟩, ⟨rfl, rfl⟩, ⟨rfl, rfl⟩, ⟨rfl, rfl⟩, ⟨rfl, rfl⟩, ⟨rfl, rfl⟩, ⟨rfl, rfl⟩, ⟨rfl, rfl⟩, trivial⟩ (by kernel_rfl)) ?_
 refine s0 (ow_storeW (us := ([1779033703, 3144134277, 1013904242, 2773480762, 1359893119, 2600822924, 528734635, 1541459225]).map U32) H3 sz136 (by simp [*]) rfl rfl (map_one (F := U32) (fun _ => rfl) _) ((List.length_map _).trans List.length_replicate)) ?_
 rintro _ w4 H5'
 have H5 : St w _ [[(g1, Rw 136 (([1779033703, 3144134277, 1013904242, 2773480762, 1359893119, 2600822924, 528734635, 1541459225]).map U32))]] w4 := H5'
 refine c_nil ?_
 refine n_then ?_
 refine wp_ret ?_
 refine e_r1 Try.results134 (rv_b H5 (i := 0) rfl ag136 sz136 (by simp [*]) rfl) ?_
 exact ⟨_, rfl, rfl, H5.below⟩

theorem rounds_c (w : World) :
    Calls Try.prog 154 (([] : List Value).toArray) w (fun e w' => ∃ v, e = .returned v ∧ v = .agg (kk.map U32).toArray ∧ Below w.heap.size w w') := by
 refine calls_mk Try.func154 rfl 2 Try.ntmps154 rfl ?_
 have H0 : St w [] [] w := St.refl w
 refine c_seq ?_
 refine c_reg ?_
 refine st (ow_alloc (l := (List.replicate 64 0).map U32) H0 zr138 (by simp [Value.cells])) ?_
 rintro _ w2 ⟨g1, rfl, H3⟩
 refine c_nil ?_
 refine n_then ?_
 refine c_seq ?_
 refine c_reg ?_
 refine sy (v := .agg (([1116352408, 1899447441, 3049323471, 3921009573, 961987163, 1508970993, 2453635748, 2870763221, 3624381080, 310598401, 607225278, 1426881987, 1925078388, 2162078206, 2614888103, 3248222580, 3835390401, 4022224774, 264347078, 604807628, 770255983, 1249150122, 1555081692, 1996064986, 2554220882, 2821834349, 2952996808, 3210313671, 3336571891, 3584528711, 113926993, 338241895, 666307205, 773529912, 1294757372, 1396182291, 1695183700, 1986661051, 2177026350, 2456956037, 2730485921, 2820302411, 3259730800, 3345764771, 3516065817, 3600352804, 4094571909, 275423344, 430227734, 506948616, 659060556, 883997877, 958139571, 1322822218, 1537002063, 1747873779, 1955562222, 2024104815, 2227730452, 2361852424, 2428436474, 2756734187, 3204031479, 3329325298]).map U32).toArray) (y_build (pv := [(0, U32 (1116352408)), (1, U32 (1899447441)), (2, U32 (3049323471)), (3, U32 (3921009573)), (4, U32 (961987163)), (5, U32 (1508970993)), (6, U32 (2453635748)), (7, U32 (2870763221)), (8, U32 (3624381080)), (9, U32 (310598401)), (10, U32 (607225278)), (11, U32 (1426881987)), (12, U32 (1925078388)), (13, U32 (2162078206)), (14, U32 (2614888103)), (15, U32 (3248222580)), (16, U32 (3835390401)), (17, U32 (4022224774)), (18, U32 (264347078)), (19, U32 (604807628)), (20, U32 (770255983)), (21, U32 (1249150122)), (22, U32 (1555081692)), (23, U32 (1996064986)), (24, U32 (2554220882)), (25, U32 (2821834349)), (26, U32 (2952996808)), (27, U32 (3210313671)), (28, U32 (3336571891)), (29, U32 (3584528711)), (30, U32 (113926993)), (31, U32 (338241895)), (32, U32 (666307205)), (33, U32 (773529912)), (34, U32 (1294757372)), (35, U32 (1396182291)), (36, U32 (1695183700)), (37, U32 (1986661051)), (38, U32 (2177026350)), (39, U32 (2456956037)), (40, U32 (2730485921)), (41, U32 (2820302411)), (42, U32 (3259730800)), (43, U32 (3345764771)), (44, U32 (3516065817)), (45, U32 (3600352804)), (46, U32 (4094571909)), (47, U32 (275423344)), (48, U32 (430227734)), (49, U32 (506948616)), (50, U32 (659060556)), (51, U32 (883997877)), (52, U32 (958139571)), (53, U32 (1322822218)), (54, U32 (1537002063)), (55, U32 (1747873779)), (56, U32 (1955562222)), (57, U32 (2024104815)), (58, U32 (2227730452)), (59, U32 (2361852424)), (60, U32 (2428436474)), (61, U32 (2756734187)), (62, U32 (3204031479)), (63, U32 (3329325298))]) (us := ([1116352408, 1899447441, 3049323471, 3921009573, 961987163, 1508970993, 2453635748, 2870763221, 3624381080, 310598401, 607225278, 1426881987, 1925078388, 2162078206, 2614888103, 3248222580, 3835390401, 4022224774, 264347078, 604807628, 770255983, 1249150122, 1555081692, 1996064986, 2554220882, 2821834349, 2952996808, 3210313671, 3336571891, 3584528711, 113926993, 338241895, 666307205, 773529912, 1294757372, 1396182291, 1695183700, 1986661051, 2177026350, 2456956037, 2730485921, 2820302411, 3259730800, 3345764771, 3516065817, 3600352804, 4094571909, 275423344, 430227734, 506948616, 659060556, 883997877, 958139571, 1322822218, 1537002063, 1747873779, 1955562222, 2024104815, 2227730452, 2361852424, 2428436474, 2756734187, 3204031479, 3329325298]).map U32) ⟨⟨rfl, rfl⟩, ⟨rfl, rfl⟩, ⟨rfl, rfl⟩, ⟨rfl, rfl⟩, ⟨rfl, rfl⟩, ⟨rfl, rfl⟩, ⟨rfl, rfl⟩, ⟨rfl, rfl⟩, ⟨rfl, rfl⟩, ⟨rfl, rfl⟩, ⟨rfl, rfl⟩, ⟨rfl, rfl⟩, ⟨rfl, rfl⟩, ⟨rfl, rfl⟩, ⟨rfl, rfl⟩, ⟨rfl, rfl⟩, ⟨rfl, rfl⟩, ⟨rfl, rfl⟩, ⟨rfl, rfl⟩, ⟨rfl, rfl⟩, ⟨rfl, rfl⟩, ⟨rfl, rfl⟩, ⟨rfl, rfl⟩, ⟨rfl, rfl⟩, ⟨rfl, rfl⟩, ⟨rfl, rfl⟩, ⟨rfl, rfl⟩, ⟨rfl, rfl⟩, ⟨rfl, rfl⟩, ⟨rfl, rfl⟩, ⟨rfl, rfl⟩, ⟨rfl, rfl⟩, ⟨rfl, rfl⟩, ⟨rfl, rfl⟩, ⟨rfl, rfl⟩, ⟨rfl, rfl⟩, ⟨rfl, rfl⟩, ⟨rfl, rfl⟩, ⟨rfl, rfl⟩, ⟨rfl, rfl⟩, ⟨rfl, rfl⟩, ⟨rfl, rfl⟩, ⟨rfl, rfl⟩, ⟨rfl, rfl⟩, ⟨rfl, rfl⟩, ⟨rfl, rfl⟩, ⟨rfl, rfl⟩, ⟨rfl, rfl⟩, ⟨rfl, rfl⟩, ⟨rfl, rfl⟩, ⟨rfl, rfl⟩, ⟨rfl, rfl⟩, ⟨rfl, rfl⟩, ⟨rfl, rfl⟩, ⟨rfl, rfl⟩, ⟨rfl, rfl⟩, ⟨rfl, rfl⟩, ⟨rfl, rfl⟩, ⟨rfl, rfl⟩, ⟨rfl, rfl⟩, ⟨rfl, rfl⟩, ⟨rfl, rfl⟩, ⟨rfl, rfl⟩, ⟨rfl, rfl⟩, trivial⟩ (by kernel_rfl)) ?_
 refine s0 (ow_storeW (us := ([1116352408, 1899447441, 3049323471, 3921009573, 961987163, 1508970993, 2453635748, 2870763221, 3624381080, 310598401, 607225278, 1426881987, 1925078388, 2162078206, 2614888103, 3248222580, 3835390401, 4022224774, 264347078, 604807628, 770255983, 1249150122, 1555081692, 1996064986, 2554220882, 2821834349, 2952996808, 3210313671, 3336571891, 3584528711, 113926993, 338241895, 666307205, 773529912, 1294757372, 1396182291, 1695183700, 1986661051, 2177026350, 2456956037, 2730485921, 2820302411, 3259730800, 3345764771, 3516065817, 3600352804, 4094571909, 275423344, 430227734, 506948616, 659060556, 883997877, 958139571, 1322822218, 1537002063, 1747873779, 1955562222, 2024104815, 2227730452, 2361852424, 2428436474, 2756734187, 3204031479, 3329325298]).map U32) H3 sz138 (by simp [*]) rfl rfl (map_one (F := U32) (fun _ => rfl) _) ((List.length_map _).trans List.length_replicate)) ?_
 rintro _ w4 H5'
 have H5 : St w _ [[(g1, Rw 138 (([1116352408, 1899447441, 3049323471, 3921009573, 961987163, 1508970993, 2453635748, 2870763221, 3624381080, 310598401, 607225278, 1426881987, 1925078388, 2162078206, 2614888103, 3248222580, 3835390401, 4022224774, 264347078, 604807628, 770255983, 1249150122, 1555081692, 1996064986, 2554220882, 2821834349, 2952996808, 3210313671, 3336571891, 3584528711, 113926993, 338241895, 666307205, 773529912, 1294757372, 1396182291, 1695183700, 1986661051, 2177026350, 2456956037, 2730485921, 2820302411, 3259730800, 3345764771, 3516065817, 3600352804, 4094571909, 275423344, 430227734, 506948616, 659060556, 883997877, 958139571, 1322822218, 1537002063, 1747873779, 1955562222, 2024104815, 2227730452, 2361852424, 2428436474, 2756734187, 3204031479, 3329325298]).map U32))]] w4 := H5'
 refine c_nil ?_
 refine n_then ?_
 refine wp_ret ?_
 refine e_r1 Try.results154 (rv_b H5 (i := 0) rfl ag138 sz138 (by simp [*]) rfl) ?_
 exact ⟨_, rfl, rfl, H5.below⟩

theorem piece_c (s : S8) (b : List UInt8) (v : Value) (w : World) (hb : b.length = 64) (hR : Rd [] w 1 v b.length (b.map B8)) :
    Calls Try.prog 135 (([.agg ([U32 s.a, U32 s.b, U32 s.c, U32 s.d, U32 s.e, U32 s.f, U32 s.g, U32 s.h]).toArray, v] : List Value).toArray) w (fun e w' => ∃ v, e = .returned v ∧ v = .agg ((comp s b).list.map U32).toArray ∧ Below w.heap.size w w') := by
 have hkk : kk.length = 64 := rfl
 have hw64 := ws_length b 64
 refine calls_mk Try.func135 rfl 212 Try.ntmps135 rfl ?_
 have H0 : St w [] [] w := St.refl w
 refine c_seq ?_
 refine c_reg ?_
 refine st (ow_box (l := [U32 (s.a), U32 (s.b), U32 (s.c), U32 (s.d), U32 (s.e), U32 (s.f), U32 (s.g), U32 (s.h)]) H0 rfl rfl) ?_
 rintro _ w2 ⟨g1, rfl, H3⟩
 refine st (ow_alloc (l := (List.replicate 8 0).map U32) H3 zr136 (by simp [Value.cells])) ?_
 rintro _ w5 ⟨g4, rfl, H6⟩
 refine c_nil ?_
 refine n_then ?_
 refine c_seq ?_
 refine c_reg ?_
 refine st (ow_call fn154 rfl (rounds_c _) trivial) ?_
 rintro _ w7 ⟨rfl, hB8⟩
 have H9 : St w _ [_, _] w7 := H6.call hB8
 refine st (ow_alloc (l := (List.replicate 64 0).map U32) H9 zr138 (by simp [Value.cells])) ?_
 rintro _ w11 ⟨g10, rfl, H12⟩
 refine s0 (ow_storeW (us := (kk).map U32) H12 sz138 (by simp [*]) rfl rfl (map_one (F := U32) (fun _ => rfl) _) ((List.length_map _).trans List.length_replicate)) ?_
 rintro _ w13 H14'
 have H14 : St w _ [[(g10, Rw 138 ((kk).map U32))], _, _] w13 := H14'
 refine c_nil ?_
 refine n_then ?_
 refine c_seq ?_
 refine c_reg ?_
 refine st (ow_alloc (l := (List.replicate 64 0).map U32) H14 zr138 (by simp [Value.cells])) ?_
 rintro _ w16 ⟨g15, rfl, H17⟩
 refine c_nil ?_
 refine n_then ?_
 refine c_seq ?_
 refine c_seq ?_
 refine c_reg ?_
 refine sy (v := I ((0 : Nat) : Int)) (y_move (v := I ((0 : Nat) : Int)) rfl) ?_
 refine c_nil ?_
 refine n_then ?_
 refine wp_block ?_
 refine c_loop (fun (k0 : Nat) f18 w19 => f18 1 = v ∧ f18 2 = Ad (bs g1) (0) ∧ f18 4 = Ad (bs g4) (0) ∧ f18 5 = Ad (bs g10) (0) ∧ f18 6 = Ad (bs g15) (0) ∧ f18 22 = I ((k0 : Nat) : Int) ∧ k0 ≤ 64 ∧ St w [] [[(g15, Rw 138 ((ws b k0).map U32))], [(g10, Rw 138 ((kk).map U32))], [(g4, Rw 136 ((List.replicate 8 0).map U32))], [(g1, Rw 136 ([U32 (s.a), U32 (s.b), U32 (s.c), U32 (s.d), U32 (s.e), U32 (s.f), U32 (s.g), U32 (s.h)]))]] w19) (fun k0 => 64 - k0) 0 ⟨rfl, rfl, rfl, rfl, rfl, rfl, (by omega), H17⟩ ?_
 rintro k0 f18 w19 ⟨s1_20, s2_20, s4_20, s5_20, s6_20, s22_20, hf0_20, H20⟩
 have hwl := ws_length b k0
 refine c_seq ?_
 refine c_reg ?_
 refine sy (v := .bool (decide (k0 < 64))) (n_lss (a := k0) (b := 64) s22_20 rfl) ?_
 refine c_nil ?_
 refine n_then ?_
 refine c_seq ?_
 refine c_if rfl (fun hc21 => ?_) (fun hc21 => ?_)
 ·
  refine wp_skip ?_
  refine n_then ?_
  refine c_seq ?_
  refine wp_block ?_
  refine c_seq ?_
  refine c_reg ?_
  refine sy (v := I ((k0 : Nat) : Int)) (y_move s22_20) ?_
  refine sy (v := I ((k0 : Nat) : Int)) (y_assign rfl) ?_
  refine c_nil ?_
  refine n_then ?_
  refine c_seq ?_
  refine c_seq ?_
  refine c_reg ?_
  refine sy (v := I ((k0 : Nat) : Int)) (y_move rfl) ?_
  refine sy (v := .bool (decide (k0 < 16))) (n_lss (a := k0) (b := 16) rfl rfl) ?_
  refine c_nil ?_
  refine n_then ?_
  refine c_if rfl (fun hc22 => ?_) (fun hc22 => ?_)
  ·
   refine c_seq ?_
   refine drawS (.step 0 0 (.step 0 1 (.step 0 2 (.step 0 3 (.step 0 4 (.step 0 5 (.step 0 6 (.step 0 7 (.step 0 8 (.step 0 9 (.step 0 10 (.step 0 11 (.step 0 12 (.step 0 13 (.step 0 14 (.step 0 15 (.step 0 16 (.step 0 17 (.step 0 18 (.step 0 19 (.step 0 20 (.step 0 21 (.step 0 22 (.step 0 23 (.step 0 24 (.step 0 25 (.step 0 26 (.step 0 27 (.step 0 28 (.step 0 29 (.step 0 30 (.step 0 31 (.step 0 32 (.step 0 33 (.step 2 34 (.step 2 35 .nil)))))))))))))))))))))))))))))))))))) mixed H20 (by kernel_rfl) (by kernel_rfl) (by kernel_rfl) ?_
   intro w23 H24
   refine pt (v := I ((k0 : Nat) : Int)) rfl (fun wS HS => y_move rfl) ?_
   refine pt (v := v) rfl (fun wS HS => y_move s1_20) ?_
   refine pt (v := I ((k0 : Nat) : Int)) rfl (fun wS HS => y_move rfl) ?_
   refine pt (v := I ((4 * k0 : Nat) : Int)) rfl (fun wS HS => n_mul (a := 4) (b := k0) rfl rfl (by omega)) ?_
   refine pt (v := Ad (sp (v)) ((4 * k0) * 1)) rfl (fun wS HS => y_ixR (m := 4 * k0) Try.underlying23 sz5 (hR.st HS) (by decide) rfl rfl rfl (by omega)) ?_
   refine pt (v := B8 (b.getD (4 * k0) 0)) rfl (fun wS HS => y_load sc5 rfl ((hR.st HS).cell _ _ (by rw [Nat.mul_one]; exact map_get B8 (l := b) (k := 4 * k0) 0 (by omega)))) ?_
   refine pt (v := U32 ((b.getD (4 * k0) 0).toUInt32)) rfl (fun wS HS => y_conv_8_32 Try.underlying5 Try.underlying135 rfl) ?_
   refine pt (v := U32 (((b.getD (4 * k0) 0).toUInt32) <<< UInt32.ofNat 24)) rfl (fun wS HS => n_shl32 (m := 24) (c := (b.getD (4 * k0) 0).toUInt32) rfl rfl (by omega)) ?_
   refine pt (v := v) rfl (fun wS HS => y_move s1_20) ?_
   refine pt (v := I ((k0 : Nat) : Int)) rfl (fun wS HS => y_move rfl) ?_
   refine pt (v := I ((4 * k0 : Nat) : Int)) rfl (fun wS HS => n_mul (a := 4) (b := k0) rfl rfl (by omega)) ?_
   refine pt (v := I (((4 * k0) + 1 : Nat) : Int)) rfl (fun wS HS => n_add (a := 4 * k0) (b := 1) rfl rfl (by omega)) ?_
   refine pt (v := Ad (sp (v)) (((4 * k0) + 1) * 1)) rfl (fun wS HS => y_ixR (m := (4 * k0) + 1) Try.underlying23 sz5 (hR.st HS) (by decide) rfl rfl rfl (by omega)) ?_
   refine pt (v := B8 (b.getD ((4 * k0) + 1) 0)) rfl (fun wS HS => y_load sc5 rfl ((hR.st HS).cell _ _ (by rw [Nat.mul_one]; exact map_get B8 (l := b) (k := (4 * k0) + 1) 0 (by omega)))) ?_
   refine pt (v := U32 ((b.getD ((4 * k0) + 1) 0).toUInt32)) rfl (fun wS HS => y_conv_8_32 Try.underlying5 Try.underlying135 rfl) ?_
   refine pt (v := U32 (((b.getD ((4 * k0) + 1) 0).toUInt32) <<< UInt32.ofNat 16)) rfl (fun wS HS => n_shl32 (m := 16) (c := (b.getD ((4 * k0) + 1) 0).toUInt32) rfl rfl (by omega)) ?_
   refine pt (v := U32 ((((b.getD (4 * k0) 0).toUInt32) <<< UInt32.ofNat 24) ||| (((b.getD ((4 * k0) + 1) 0).toUInt32) <<< UInt32.ofNat 16))) rfl (fun wS HS => y_or32 (a := ((b.getD (4 * k0) 0).toUInt32) <<< UInt32.ofNat 24) (b := ((b.getD ((4 * k0) + 1) 0).toUInt32) <<< UInt32.ofNat 16) rfl rfl) ?_
   refine pt (v := v) rfl (fun wS HS => y_move s1_20) ?_
   refine pt (v := I ((k0 : Nat) : Int)) rfl (fun wS HS => y_move rfl) ?_
   refine pt (v := I ((4 * k0 : Nat) : Int)) rfl (fun wS HS => n_mul (a := 4) (b := k0) rfl rfl (by omega)) ?_
   refine pt (v := I (((4 * k0) + 2 : Nat) : Int)) rfl (fun wS HS => n_add (a := 4 * k0) (b := 2) rfl rfl (by omega)) ?_
   refine pt (v := Ad (sp (v)) (((4 * k0) + 2) * 1)) rfl (fun wS HS => y_ixR (m := (4 * k0) + 2) Try.underlying23 sz5 (hR.st HS) (by decide) rfl rfl rfl (by omega)) ?_
   refine pt (v := B8 (b.getD ((4 * k0) + 2) 0)) rfl (fun wS HS => y_load sc5 rfl ((hR.st HS).cell _ _ (by rw [Nat.mul_one]; exact map_get B8 (l := b) (k := (4 * k0) + 2) 0 (by omega)))) ?_
   refine pt (v := U32 ((b.getD ((4 * k0) + 2) 0).toUInt32)) rfl (fun wS HS => y_conv_8_32 Try.underlying5 Try.underlying135 rfl) ?_
   refine pt (v := U32 (((b.getD ((4 * k0) + 2) 0).toUInt32) <<< UInt32.ofNat 8)) rfl (fun wS HS => n_shl32 (m := 8) (c := (b.getD ((4 * k0) + 2) 0).toUInt32) rfl rfl (by omega)) ?_
   refine pt (v := U32 (((((b.getD (4 * k0) 0).toUInt32) <<< UInt32.ofNat 24) ||| (((b.getD ((4 * k0) + 1) 0).toUInt32) <<< UInt32.ofNat 16)) ||| (((b.getD ((4 * k0) + 2) 0).toUInt32) <<< UInt32.ofNat 8))) rfl (fun wS HS => y_or32 (a := (((b.getD (4 * k0) 0).toUInt32) <<< UInt32.ofNat 24) ||| (((b.getD ((4 * k0) + 1) 0).toUInt32) <<< UInt32.ofNat 16)) (b := ((b.getD ((4 * k0) + 2) 0).toUInt32) <<< UInt32.ofNat 8) rfl rfl) ?_
   refine pt (v := v) rfl (fun wS HS => y_move s1_20) ?_
   refine pt (v := I ((k0 : Nat) : Int)) rfl (fun wS HS => y_move rfl) ?_
   refine pt (v := I ((4 * k0 : Nat) : Int)) rfl (fun wS HS => n_mul (a := 4) (b := k0) rfl rfl (by omega)) ?_
   refine pt (v := I (((4 * k0) + 3 : Nat) : Int)) rfl (fun wS HS => n_add (a := 4 * k0) (b := 3) rfl rfl (by omega)) ?_
   refine pt (v := Ad (sp (v)) (((4 * k0) + 3) * 1)) rfl (fun wS HS => y_ixR (m := (4 * k0) + 3) Try.underlying23 sz5 (hR.st HS) (by decide) rfl rfl rfl (by omega)) ?_
   refine pt (v := B8 (b.getD ((4 * k0) + 3) 0)) rfl (fun wS HS => y_load sc5 rfl ((hR.st HS).cell _ _ (by rw [Nat.mul_one]; exact map_get B8 (l := b) (k := (4 * k0) + 3) 0 (by omega)))) ?_
   refine pt (v := U32 ((b.getD ((4 * k0) + 3) 0).toUInt32)) rfl (fun wS HS => y_conv_8_32 Try.underlying5 Try.underlying135 rfl) ?_
   refine pt (v := U32 ((((((b.getD (4 * k0) 0).toUInt32) <<< UInt32.ofNat 24) ||| (((b.getD ((4 * k0) + 1) 0).toUInt32) <<< UInt32.ofNat 16)) ||| (((b.getD ((4 * k0) + 2) 0).toUInt32) <<< UInt32.ofNat 8)) ||| ((b.getD ((4 * k0) + 3) 0).toUInt32))) rfl (fun wS HS => y_or32 (a := ((((b.getD (4 * k0) 0).toUInt32) <<< UInt32.ofNat 24) ||| (((b.getD ((4 * k0) + 1) 0).toUInt32) <<< UInt32.ofNat 16)) ||| (((b.getD ((4 * k0) + 2) 0).toUInt32) <<< UInt32.ofNat 8)) (b := (b.getD ((4 * k0) + 3) 0).toUInt32) rfl rfl) ?_
   refine tly (v := Ad (bs g15) (0 + k0 * 1)) rfl (y_ixA (m := k0) Try.underlying138 sz135 s6_20 rfl rfl (by omega)) ?_
   refine t0 rfl (ow_storeM (F := U32) (j := k0) (fun _ => rfl) H24 sz135 rfl rfl (by omega) (by first | omega | (simp only [List.length_set]; omega))) ?_
   rintro _ w25 H26'
   have H26 : St w _ [[(g15, Rw 138 (((ws b k0).set k0 ((((((b.getD (4 * k0) 0).toUInt32) <<< UInt32.ofNat 24) ||| (((b.getD ((4 * k0) + 1) 0).toUInt32) <<< UInt32.ofNat 16)) ||| (((b.getD ((4 * k0) + 2) 0).toUInt32) <<< UInt32.ofNat 8)) ||| ((b.getD ((4 * k0) + 3) 0).toUInt32))).map U32))], _, _, _] w25 := H26'
   refine p_nil ?_
   refine n_then ?_
   refine wp_exit ?_
   refine x_then (x_hit (n_then ?_))
   refine c_reg ?_
   refine sy (v := I ((k0 + 1 : Nat) : Int)) (n_add (a := k0) (b := 1) s22_20 rfl (by omega)) ?_
   refine sy (v := I ((k0 + 1 : Nat) : Int)) (y_move rfl) ?_
   refine c_nil ?_
   exact lp_next (k0 + 1) ⟨s1_20, s2_20, s4_20, s5_20, s6_20, rfl, (by omega), ((H26.eq1 (by show _ = ((ws b k0).set k0 (nextW b (ws b k0) k0)).map U32; unfold nextW; first | (rw [if_pos (by omega)]; rfl) | (rw [if_neg (by omega)]; rfl))))⟩ (by show _ < _; omega)
  ·
   refine wp_skip ?_
   refine n_then ?_
   refine c_seq ?_
   refine drawS (.step 0 0 (.step 0 1 (.step 0 2 (.step 0 3 (.step 0 4 (.step 0 5 (.step 0 6 (.step 0 7 (.step 0 8 (.step 2 9 .nil)))))))))) mixed H20 (by kernel_rfl) (by kernel_rfl) (by kernel_rfl) ?_
   intro w27 H28
   refine pt (v := I ((k0 : Nat) : Int)) rfl (fun wS HS => y_move rfl) ?_
   refine pt (v := I ((k0 - 15 : Nat) : Int)) rfl (fun wS HS => n_sub (a := k0) (b := 15) rfl rfl (by omega) (by omega)) ?_
   refine pt (v := Ad (bs g15) (0 + (k0 - 15) * 1)) rfl (fun wS HS => y_ixA (m := k0 - 15) Try.underlying138 sz135 s6_20 rfl rfl (by omega)) ?_
   refine pt (v := U32 ((ws b k0).getD (k0 - 15) 0)) rfl (fun wS HS => y_load sc135 rfl (HS.cell 0 rfl (by simp only [Nat.zero_add, Nat.mul_one]; exact map_get U32 0 (by omega)))) ?_
   refine pt (v := I ((k0 : Nat) : Int)) rfl (fun wS HS => y_move rfl) ?_
   refine pt (v := I ((k0 - 2 : Nat) : Int)) rfl (fun wS HS => n_sub (a := k0) (b := 2) rfl rfl (by omega) (by omega)) ?_
   refine pt (v := Ad (bs g15) (0 + (k0 - 2) * 1)) rfl (fun wS HS => y_ixA (m := k0 - 2) Try.underlying138 sz135 s6_20 rfl rfl (by omega)) ?_
   refine pt (v := U32 ((ws b k0).getD (k0 - 2) 0)) rfl (fun wS HS => y_load sc135 rfl (HS.cell 0 rfl (by simp only [Nat.zero_add, Nat.mul_one]; exact map_get U32 0 (by omega)))) ?_
   refine pt (v := U32 ((ws b k0).getD (k0 - 15) 0)) rfl (fun wS HS => y_assign rfl) ?_
   refine tly (v := U32 ((ws b k0).getD (k0 - 2) 0)) rfl (y_assign rfl) ?_
   refine p_nil ?_
   refine n_then ?_
   refine drawS (.step 0 0 (.step 0 1 (.step 0 2 (.step 0 3 (.step 0 4 (.step 0 5 (.step 0 7 (.step 0 10 (.step 0 11 (.step 0 14 (.step 0 15 (.step 0 16 (.step 0 17 (.step 0 19 (.step 0 21 (.step 0 24 (.step 0 25 (.step 1 6 (.step 1 8 (.step 0 9 (.step 0 12 (.step 0 13 (.step 0 18 (.step 1 20 (.step 1 22 (.step 0 23 (.step 0 26 (.step 0 27 (.step 2 28 (.step 2 29 .nil)))))))))))))))))))))))))))))) mixed H28 (by kernel_rfl) (by kernel_rfl) (by kernel_rfl) ?_
   intro w29 H30
   refine pt (v := I ((k0 : Nat) : Int)) rfl (fun wS HS => y_move rfl) ?_
   refine pt (v := I ((k0 : Nat) : Int)) rfl (fun wS HS => y_move rfl) ?_
   refine pt (v := I ((k0 - 16 : Nat) : Int)) rfl (fun wS HS => n_sub (a := k0) (b := 16) rfl rfl (by omega) (by omega)) ?_
   refine pt (v := Ad (bs g15) (0 + (k0 - 16) * 1)) rfl (fun wS HS => y_ixA (m := k0 - 16) Try.underlying138 sz135 s6_20 rfl rfl (by omega)) ?_
   refine pt (v := U32 ((ws b k0).getD (k0 - 16) 0)) rfl (fun wS HS => y_load sc135 rfl (HS.cell 0 rfl (by simp only [Nat.zero_add, Nat.mul_one]; exact map_get U32 0 (by omega)))) ?_
   refine pt (v := U32 ((ws b k0).getD (k0 - 15) 0)) rfl (fun wS HS => y_move rfl) ?_
   refine pt (v := U32 ((ws b k0).getD (k0 - 15) 0)) rfl (fun wS HS => y_move rfl) ?_
   refine pt (v := U32 ((ws b k0).getD (k0 - 15) 0)) rfl (fun wS HS => y_move rfl) ?_
   refine pt (v := U32 (((ws b k0).getD (k0 - 15) 0) >>> UInt32.ofNat 3)) rfl (fun wS HS => n_shr32 (m := 3) (c := (ws b k0).getD (k0 - 15) 0) rfl rfl (by omega)) ?_
   refine pt (v := I ((k0 : Nat) : Int)) rfl (fun wS HS => y_move rfl) ?_
   refine pt (v := I ((k0 - 7 : Nat) : Int)) rfl (fun wS HS => n_sub (a := k0) (b := 7) rfl rfl (by omega) (by omega)) ?_
   refine pt (v := Ad (bs g15) (0 + (k0 - 7) * 1)) rfl (fun wS HS => y_ixA (m := k0 - 7) Try.underlying138 sz135 s6_20 rfl rfl (by omega)) ?_
   refine pt (v := U32 ((ws b k0).getD (k0 - 7) 0)) rfl (fun wS HS => y_load sc135 rfl (HS.cell 0 rfl (by simp only [Nat.zero_add, Nat.mul_one]; exact map_get U32 0 (by omega)))) ?_
   refine pt (v := U32 ((ws b k0).getD (k0 - 2) 0)) rfl (fun wS HS => y_move rfl) ?_
   refine pt (v := U32 ((ws b k0).getD (k0 - 2) 0)) rfl (fun wS HS => y_move rfl) ?_
   refine pt (v := U32 ((ws b k0).getD (k0 - 2) 0)) rfl (fun wS HS => y_move rfl) ?_
   refine pt (v := U32 (((ws b k0).getD (k0 - 2) 0) >>> UInt32.ofNat 10)) rfl (fun wS HS => n_shr32 (m := 10) (c := (ws b k0).getD (k0 - 2) 0) rfl rfl (by omega)) ?_
   refine pl rfl (ow_call fn155 rfl (turned_c ((ws b k0).getD (k0 - 15) 0) 7 _ (by omega) (by omega)) ⟨rfl, rfl, trivial⟩) ?_
   rintro _ w31 ⟨rfl, hB32⟩
   have H33 : St w _ [_, _, _, _] w31 := H30.call hB32
   refine ⟨H33, ?_⟩
   refine pl rfl (ow_call fn155 rfl (turned_c ((ws b k0).getD (k0 - 15) 0) 18 _ (by omega) (by omega)) ⟨rfl, rfl, trivial⟩) ?_
   rintro _ w34 ⟨rfl, hB35⟩
   have H36 : St w _ [_, _, _, _] w34 := H33.call hB35
   refine ⟨H36, ?_⟩
   refine pt (v := U32 ((rotr ((ws b k0).getD (k0 - 15) 0) 7) ^^^ (rotr ((ws b k0).getD (k0 - 15) 0) 18))) rfl (fun wS HS => y_xor32 (a := rotr ((ws b k0).getD (k0 - 15) 0) 7) (b := rotr ((ws b k0).getD (k0 - 15) 0) 18) rfl rfl) ?_
   refine pt (v := U32 (((rotr ((ws b k0).getD (k0 - 15) 0) 7) ^^^ (rotr ((ws b k0).getD (k0 - 15) 0) 18)) ^^^ (((ws b k0).getD (k0 - 15) 0) >>> UInt32.ofNat 3))) rfl (fun wS HS => y_xor32 (a := (rotr ((ws b k0).getD (k0 - 15) 0) 7) ^^^ (rotr ((ws b k0).getD (k0 - 15) 0) 18)) (b := ((ws b k0).getD (k0 - 15) 0) >>> UInt32.ofNat 3) rfl rfl) ?_
   refine pt (v := U32 (((ws b k0).getD (k0 - 16) 0) + (((rotr ((ws b k0).getD (k0 - 15) 0) 7) ^^^ (rotr ((ws b k0).getD (k0 - 15) 0) 18)) ^^^ (((ws b k0).getD (k0 - 15) 0) >>> UInt32.ofNat 3)))) rfl (fun wS HS => y_add32 (a := (ws b k0).getD (k0 - 16) 0) (b := ((rotr ((ws b k0).getD (k0 - 15) 0) 7) ^^^ (rotr ((ws b k0).getD (k0 - 15) 0) 18)) ^^^ (((ws b k0).getD (k0 - 15) 0) >>> UInt32.ofNat 3)) rfl rfl) ?_
   refine pt (v := U32 ((((ws b k0).getD (k0 - 16) 0) + (((rotr ((ws b k0).getD (k0 - 15) 0) 7) ^^^ (rotr ((ws b k0).getD (k0 - 15) 0) 18)) ^^^ (((ws b k0).getD (k0 - 15) 0) >>> UInt32.ofNat 3))) + ((ws b k0).getD (k0 - 7) 0))) rfl (fun wS HS => y_add32 (a := ((ws b k0).getD (k0 - 16) 0) + (((rotr ((ws b k0).getD (k0 - 15) 0) 7) ^^^ (rotr ((ws b k0).getD (k0 - 15) 0) 18)) ^^^ (((ws b k0).getD (k0 - 15) 0) >>> UInt32.ofNat 3))) (b := (ws b k0).getD (k0 - 7) 0) rfl rfl) ?_
   refine pl rfl (ow_call fn155 rfl (turned_c ((ws b k0).getD (k0 - 2) 0) 17 _ (by omega) (by omega)) ⟨rfl, rfl, trivial⟩) ?_
   rintro _ w37 ⟨rfl, hB38⟩
   have H39 : St w _ [_, _, _, _] w37 := H36.call hB38
   refine ⟨H39, ?_⟩
   refine pl rfl (ow_call fn155 rfl (turned_c ((ws b k0).getD (k0 - 2) 0) 19 _ (by omega) (by omega)) ⟨rfl, rfl, trivial⟩) ?_
   rintro _ w40 ⟨rfl, hB41⟩
   have H42 : St w _ [_, _, _, _] w40 := H39.call hB41
   refine ⟨H42, ?_⟩
   refine pt (v := U32 ((rotr ((ws b k0).getD (k0 - 2) 0) 17) ^^^ (rotr ((ws b k0).getD (k0 - 2) 0) 19))) rfl (fun wS HS => y_xor32 (a := rotr ((ws b k0).getD (k0 - 2) 0) 17) (b := rotr ((ws b k0).getD (k0 - 2) 0) 19) rfl rfl) ?_
   refine pt (v := U32 (((rotr ((ws b k0).getD (k0 - 2) 0) 17) ^^^ (rotr ((ws b k0).getD (k0 - 2) 0) 19)) ^^^ (((ws b k0).getD (k0 - 2) 0) >>> UInt32.ofNat 10))) rfl (fun wS HS => y_xor32 (a := (rotr ((ws b k0).getD (k0 - 2) 0) 17) ^^^ (rotr ((ws b k0).getD (k0 - 2) 0) 19)) (b := ((ws b k0).getD (k0 - 2) 0) >>> UInt32.ofNat 10) rfl rfl) ?_
   refine pt (v := U32 (((((ws b k0).getD (k0 - 16) 0) + (((rotr ((ws b k0).getD (k0 - 15) 0) 7) ^^^ (rotr ((ws b k0).getD (k0 - 15) 0) 18)) ^^^ (((ws b k0).getD (k0 - 15) 0) >>> UInt32.ofNat 3))) + ((ws b k0).getD (k0 - 7) 0)) + (((rotr ((ws b k0).getD (k0 - 2) 0) 17) ^^^ (rotr ((ws b k0).getD (k0 - 2) 0) 19)) ^^^ (((ws b k0).getD (k0 - 2) 0) >>> UInt32.ofNat 10)))) rfl (fun wS HS => y_add32 (a := (((ws b k0).getD (k0 - 16) 0) + (((rotr ((ws b k0).getD (k0 - 15) 0) 7) ^^^ (rotr ((ws b k0).getD (k0 - 15) 0) 18)) ^^^ (((ws b k0).getD (k0 - 15) 0) >>> UInt32.ofNat 3))) + ((ws b k0).getD (k0 - 7) 0)) (b := ((rotr ((ws b k0).getD (k0 - 2) 0) 17) ^^^ (rotr ((ws b k0).getD (k0 - 2) 0) 19)) ^^^ (((ws b k0).getD (k0 - 2) 0) >>> UInt32.ofNat 10)) rfl rfl) ?_
   refine tly (v := Ad (bs g15) (0 + k0 * 1)) rfl (y_ixA (m := k0) Try.underlying138 sz135 s6_20 rfl rfl (by omega)) ?_
   refine t0 rfl (ow_storeM (F := U32) (j := k0) (fun _ => rfl) H42 sz135 rfl rfl (by omega) (by first | omega | (simp only [List.length_set]; omega))) ?_
   rintro _ w43 H44'
   have H44 : St w _ [[(g15, Rw 138 (((ws b k0).set k0 (((((ws b k0).getD (k0 - 16) 0) + (((rotr ((ws b k0).getD (k0 - 15) 0) 7) ^^^ (rotr ((ws b k0).getD (k0 - 15) 0) 18)) ^^^ (((ws b k0).getD (k0 - 15) 0) >>> UInt32.ofNat 3))) + ((ws b k0).getD (k0 - 7) 0)) + (((rotr ((ws b k0).getD (k0 - 2) 0) 17) ^^^ (rotr ((ws b k0).getD (k0 - 2) 0) 19)) ^^^ (((ws b k0).getD (k0 - 2) 0) >>> UInt32.ofNat 10)))).map U32))], _, _, _] w43 := H44'
   refine p_nil ?_
   refine n_block (n_then ?_)
   refine c_reg ?_
   refine sy (v := I ((k0 + 1 : Nat) : Int)) (n_add (a := k0) (b := 1) s22_20 rfl (by omega)) ?_
   refine sy (v := I ((k0 + 1 : Nat) : Int)) (y_move rfl) ?_
   refine c_nil ?_
   exact lp_next (k0 + 1) ⟨s1_20, s2_20, s4_20, s5_20, s6_20, rfl, (by omega), ((H44.eq1 (by show _ = ((ws b k0).set k0 (nextW b (ws b k0) k0)).map U32; unfold nextW; first | (rw [if_pos (by omega)]; rfl) | (rw [if_neg (by omega)]; rfl))))⟩ (by show _ < _; omega)
 ·
  obtain rfl : k0 = 64 := by omega
  refine wp_exit ?_
  refine x_then (x_then (x_hit (n_then ?_)))
  refine c_seq ?_
  refine drawS (.step 0 0 (.step 0 1 (.step 0 2 (.step 0 3 (.step 0 4 (.step 0 5 (.step 0 6 (.step 0 7 (.step 0 8 (.step 0 9 (.step 0 10 (.step 0 11 (.step 0 12 (.step 0 13 (.step 0 14 (.step 0 15 (.step 0 16 (.step 0 17 (.step 0 18 (.step 0 19 (.step 0 20 (.step 0 21 (.step 0 22 (.step 2 23 .nil)))))))))))))))))))))))) mixed H20 (by kernel_rfl) (by kernel_rfl) (by kernel_rfl) ?_
  intro w45 H46
  refine pt (v := Ad (bs g1) (0 + 0 * 1)) rfl (fun wS HS => y_ixA (m := 0) Try.underlying136 sz135 s2_20 rfl rfl (by omega)) ?_
  refine pt (v := U32 (s.a)) rfl (fun wS HS => y_load sc135 rfl (HS.cell 3 rfl rfl)) ?_
  refine pt (v := Ad (bs g1) (0 + 1 * 1)) rfl (fun wS HS => y_ixA (m := 1) Try.underlying136 sz135 s2_20 rfl rfl (by omega)) ?_
  refine pt (v := U32 (s.b)) rfl (fun wS HS => y_load sc135 rfl (HS.cell 3 rfl rfl)) ?_
  refine pt (v := Ad (bs g1) (0 + 2 * 1)) rfl (fun wS HS => y_ixA (m := 2) Try.underlying136 sz135 s2_20 rfl rfl (by omega)) ?_
  refine pt (v := U32 (s.c)) rfl (fun wS HS => y_load sc135 rfl (HS.cell 3 rfl rfl)) ?_
  refine pt (v := Ad (bs g1) (0 + 3 * 1)) rfl (fun wS HS => y_ixA (m := 3) Try.underlying136 sz135 s2_20 rfl rfl (by omega)) ?_
  refine pt (v := U32 (s.d)) rfl (fun wS HS => y_load sc135 rfl (HS.cell 3 rfl rfl)) ?_
  refine pt (v := Ad (bs g1) (0 + 4 * 1)) rfl (fun wS HS => y_ixA (m := 4) Try.underlying136 sz135 s2_20 rfl rfl (by omega)) ?_
  refine pt (v := U32 (s.e)) rfl (fun wS HS => y_load sc135 rfl (HS.cell 3 rfl rfl)) ?_
  refine pt (v := Ad (bs g1) (0 + 5 * 1)) rfl (fun wS HS => y_ixA (m := 5) Try.underlying136 sz135 s2_20 rfl rfl (by omega)) ?_
  refine pt (v := U32 (s.f)) rfl (fun wS HS => y_load sc135 rfl (HS.cell 3 rfl rfl)) ?_
  refine pt (v := Ad (bs g1) (0 + 6 * 1)) rfl (fun wS HS => y_ixA (m := 6) Try.underlying136 sz135 s2_20 rfl rfl (by omega)) ?_
  refine pt (v := U32 (s.g)) rfl (fun wS HS => y_load sc135 rfl (HS.cell 3 rfl rfl)) ?_
  refine pt (v := Ad (bs g1) (0 + 7 * 1)) rfl (fun wS HS => y_ixA (m := 7) Try.underlying136 sz135 s2_20 rfl rfl (by omega)) ?_
  refine pt (v := U32 (s.h)) rfl (fun wS HS => y_load sc135 rfl (HS.cell 3 rfl rfl)) ?_
  refine pt (v := U32 (s.a)) rfl (fun wS HS => y_assign rfl) ?_
  refine pt (v := U32 (s.b)) rfl (fun wS HS => y_assign rfl) ?_
  refine pt (v := U32 (s.c)) rfl (fun wS HS => y_assign rfl) ?_
  refine pt (v := U32 (s.d)) rfl (fun wS HS => y_assign rfl) ?_
  refine pt (v := U32 (s.e)) rfl (fun wS HS => y_assign rfl) ?_
  refine pt (v := U32 (s.f)) rfl (fun wS HS => y_assign rfl) ?_
  refine pt (v := U32 (s.g)) rfl (fun wS HS => y_assign rfl) ?_
  refine tly (v := U32 (s.h)) rfl (y_assign rfl) ?_
  refine p_nil ?_
  refine n_then ?_
  refine c_seq ?_
  refine c_seq ?_
  refine c_reg ?_
  refine sy (v := I ((0 : Nat) : Int)) (y_move (v := I ((0 : Nat) : Int)) rfl) ?_
  refine c_nil ?_
  refine n_then ?_
  refine wp_block ?_
  refine c_loop (fun (k : Nat) f47 w48 => f47 2 = Ad (bs g1) (0) ∧ f47 4 = Ad (bs g4) (0) ∧ f47 5 = Ad (bs g10) (0) ∧ f47 6 = Ad (bs g15) (0) ∧ f47 10 = U32 ((rn (ws b 64) s k).a) ∧ f47 11 = U32 ((rn (ws b 64) s k).b) ∧ f47 12 = U32 ((rn (ws b 64) s k).c) ∧ f47 13 = U32 ((rn (ws b 64) s k).d) ∧ f47 14 = U32 ((rn (ws b 64) s k).e) ∧ f47 15 = U32 ((rn (ws b 64) s k).f) ∧ f47 16 = U32 ((rn (ws b 64) s k).g) ∧ f47 17 = U32 ((rn (ws b 64) s k).h) ∧ f47 116 = I ((k : Nat) : Int) ∧ k ≤ 64 ∧ St w [] [[(g15, Rw 138 ((ws b 64).map U32))], [(g10, Rw 138 ((kk).map U32))], [(g4, Rw 136 ((List.replicate 8 0).map U32))], [(g1, Rw 136 ([U32 (s.a), U32 (s.b), U32 (s.c), U32 (s.d), U32 (s.e), U32 (s.f), U32 (s.g), U32 (s.h)]))]] w48) (fun k => 64 - k) 0 ⟨s2_20, s4_20, s5_20, s6_20, rfl, rfl, rfl, rfl, rfl, rfl, rfl, rfl, rfl, (by omega), H46⟩ ?_
  rintro k f47 w48 ⟨s2_49, s4_49, s5_49, s6_49, s10_49, s11_49, s12_49, s13_49, s14_49, s15_49, s16_49, s17_49, s116_49, hf0_49, H49⟩
  refine c_seq ?_
  refine c_reg ?_
  refine sy (v := .bool (decide (k < 64))) (n_lss (a := k) (b := 64) s116_49 rfl) ?_
  refine c_nil ?_
  refine n_then ?_
  refine c_seq ?_
  refine c_if rfl (fun hc50 => ?_) (fun hc50 => ?_)
  ·
   refine wp_skip ?_
   refine n_then ?_
   refine c_seq ?_
   refine wp_block ?_
   refine c_seq ?_
   refine c_reg ?_
   refine sy (v := I ((k : Nat) : Int)) (y_move s116_49) ?_
   refine sy (v := I ((k : Nat) : Int)) (y_assign rfl) ?_
   refine c_nil ?_
   refine n_then ?_
   refine c_seq ?_
   refine drawS (.step 0 0 (.step 0 1 (.step 0 3 (.step 0 6 (.step 0 10 (.step 0 11 (.step 0 12 (.step 0 13 (.step 0 14 (.step 0 15 (.step 0 16 (.step 0 17 (.step 0 19 (.step 0 20 (.step 0 21 (.step 0 23 (.step 0 24 (.step 0 25 (.step 1 2 (.step 1 4 (.step 0 5 (.step 1 7 (.step 0 8 (.step 0 9 (.step 0 18 (.step 0 22 (.step 0 26 (.step 2 27 .nil)))))))))))))))))))))))))))) mixed H49 (by kernel_rfl) (by kernel_rfl) (by kernel_rfl) ?_
   intro w51 H52
   refine pt (v := U32 ((rn (ws b 64) s k).h)) rfl (fun wS HS => y_move s17_49) ?_
   refine pt (v := U32 ((rn (ws b 64) s k).e)) rfl (fun wS HS => y_move s14_49) ?_
   refine pt (v := U32 ((rn (ws b 64) s k).e)) rfl (fun wS HS => y_move s14_49) ?_
   refine pt (v := U32 ((rn (ws b 64) s k).e)) rfl (fun wS HS => y_move s14_49) ?_
   refine pt (v := U32 ((rn (ws b 64) s k).e)) rfl (fun wS HS => y_move s14_49) ?_
   refine pt (v := U32 ((rn (ws b 64) s k).f)) rfl (fun wS HS => y_move s15_49) ?_
   refine pt (v := U32 (((rn (ws b 64) s k).e) &&& ((rn (ws b 64) s k).f))) rfl (fun wS HS => y_and32 (a := (rn (ws b 64) s k).e) (b := (rn (ws b 64) s k).f) rfl rfl) ?_
   refine pt (v := U32 ((rn (ws b 64) s k).e)) rfl (fun wS HS => y_move s14_49) ?_
   refine pt (v := U32 (~~~((rn (ws b 64) s k).e))) rfl (fun wS HS => y_not32 rfl) ?_
   refine pt (v := U32 ((rn (ws b 64) s k).g)) rfl (fun wS HS => y_move s16_49) ?_
   refine pt (v := U32 ((~~~((rn (ws b 64) s k).e)) &&& ((rn (ws b 64) s k).g))) rfl (fun wS HS => y_and32 (a := ~~~((rn (ws b 64) s k).e)) (b := (rn (ws b 64) s k).g) rfl rfl) ?_
   refine pt (v := U32 ((((rn (ws b 64) s k).e) &&& ((rn (ws b 64) s k).f)) ^^^ ((~~~((rn (ws b 64) s k).e)) &&& ((rn (ws b 64) s k).g)))) rfl (fun wS HS => y_xor32 (a := ((rn (ws b 64) s k).e) &&& ((rn (ws b 64) s k).f)) (b := (~~~((rn (ws b 64) s k).e)) &&& ((rn (ws b 64) s k).g)) rfl rfl) ?_
   refine pt (v := I ((k : Nat) : Int)) rfl (fun wS HS => y_move rfl) ?_
   refine pt (v := Ad (bs g10) (0 + k * 1)) rfl (fun wS HS => y_ixA (m := k) Try.underlying138 sz135 s5_49 rfl rfl (by omega)) ?_
   refine pt (v := U32 (kk.getD k 0)) rfl (fun wS HS => y_load sc135 rfl (HS.cell 1 rfl (by simp only [Nat.zero_add, Nat.mul_one]; exact map_get U32 0 (by omega)))) ?_
   refine pt (v := I ((k : Nat) : Int)) rfl (fun wS HS => y_move rfl) ?_
   refine pt (v := Ad (bs g15) (0 + k * 1)) rfl (fun wS HS => y_ixA (m := k) Try.underlying138 sz135 s6_49 rfl rfl (by omega)) ?_
   refine pt (v := U32 ((ws b 64).getD k 0)) rfl (fun wS HS => y_load sc135 rfl (HS.cell 0 rfl (by simp only [Nat.zero_add, Nat.mul_one]; exact map_get U32 0 (by omega)))) ?_
   refine pl rfl (ow_call fn155 rfl (turned_c ((rn (ws b 64) s k).e) 6 _ (by omega) (by omega)) ⟨rfl, rfl, trivial⟩) ?_
   rintro _ w53 ⟨rfl, hB54⟩
   have H55 : St w _ [_, _, _, _] w53 := H52.call hB54
   refine ⟨H55, ?_⟩
   refine pl rfl (ow_call fn155 rfl (turned_c ((rn (ws b 64) s k).e) 11 _ (by omega) (by omega)) ⟨rfl, rfl, trivial⟩) ?_
   rintro _ w56 ⟨rfl, hB57⟩
   have H58 : St w _ [_, _, _, _] w56 := H55.call hB57
   refine ⟨H58, ?_⟩
   refine pt (v := U32 ((rotr ((rn (ws b 64) s k).e) 6) ^^^ (rotr ((rn (ws b 64) s k).e) 11))) rfl (fun wS HS => y_xor32 (a := rotr ((rn (ws b 64) s k).e) 6) (b := rotr ((rn (ws b 64) s k).e) 11) rfl rfl) ?_
   refine pl rfl (ow_call fn155 rfl (turned_c ((rn (ws b 64) s k).e) 25 _ (by omega) (by omega)) ⟨rfl, rfl, trivial⟩) ?_
   rintro _ w59 ⟨rfl, hB60⟩
   have H61 : St w _ [_, _, _, _] w59 := H58.call hB60
   refine ⟨H61, ?_⟩
   refine pt (v := U32 (((rotr ((rn (ws b 64) s k).e) 6) ^^^ (rotr ((rn (ws b 64) s k).e) 11)) ^^^ (rotr ((rn (ws b 64) s k).e) 25))) rfl (fun wS HS => y_xor32 (a := (rotr ((rn (ws b 64) s k).e) 6) ^^^ (rotr ((rn (ws b 64) s k).e) 11)) (b := rotr ((rn (ws b 64) s k).e) 25) rfl rfl) ?_
   refine pt (v := U32 (((rn (ws b 64) s k).h) + (((rotr ((rn (ws b 64) s k).e) 6) ^^^ (rotr ((rn (ws b 64) s k).e) 11)) ^^^ (rotr ((rn (ws b 64) s k).e) 25)))) rfl (fun wS HS => y_add32 (a := (rn (ws b 64) s k).h) (b := ((rotr ((rn (ws b 64) s k).e) 6) ^^^ (rotr ((rn (ws b 64) s k).e) 11)) ^^^ (rotr ((rn (ws b 64) s k).e) 25)) rfl rfl) ?_
   refine pt (v := U32 ((((rn (ws b 64) s k).h) + (((rotr ((rn (ws b 64) s k).e) 6) ^^^ (rotr ((rn (ws b 64) s k).e) 11)) ^^^ (rotr ((rn (ws b 64) s k).e) 25))) + ((((rn (ws b 64) s k).e) &&& ((rn (ws b 64) s k).f)) ^^^ ((~~~((rn (ws b 64) s k).e)) &&& ((rn (ws b 64) s k).g))))) rfl (fun wS HS => y_add32 (a := ((rn (ws b 64) s k).h) + (((rotr ((rn (ws b 64) s k).e) 6) ^^^ (rotr ((rn (ws b 64) s k).e) 11)) ^^^ (rotr ((rn (ws b 64) s k).e) 25))) (b := (((rn (ws b 64) s k).e) &&& ((rn (ws b 64) s k).f)) ^^^ ((~~~((rn (ws b 64) s k).e)) &&& ((rn (ws b 64) s k).g))) rfl rfl) ?_
   refine pt (v := U32 (((((rn (ws b 64) s k).h) + (((rotr ((rn (ws b 64) s k).e) 6) ^^^ (rotr ((rn (ws b 64) s k).e) 11)) ^^^ (rotr ((rn (ws b 64) s k).e) 25))) + ((((rn (ws b 64) s k).e) &&& ((rn (ws b 64) s k).f)) ^^^ ((~~~((rn (ws b 64) s k).e)) &&& ((rn (ws b 64) s k).g)))) + (kk.getD k 0))) rfl (fun wS HS => y_add32 (a := (((rn (ws b 64) s k).h) + (((rotr ((rn (ws b 64) s k).e) 6) ^^^ (rotr ((rn (ws b 64) s k).e) 11)) ^^^ (rotr ((rn (ws b 64) s k).e) 25))) + ((((rn (ws b 64) s k).e) &&& ((rn (ws b 64) s k).f)) ^^^ ((~~~((rn (ws b 64) s k).e)) &&& ((rn (ws b 64) s k).g)))) (b := kk.getD k 0) rfl rfl) ?_
   refine pt (v := U32 ((((((rn (ws b 64) s k).h) + (((rotr ((rn (ws b 64) s k).e) 6) ^^^ (rotr ((rn (ws b 64) s k).e) 11)) ^^^ (rotr ((rn (ws b 64) s k).e) 25))) + ((((rn (ws b 64) s k).e) &&& ((rn (ws b 64) s k).f)) ^^^ ((~~~((rn (ws b 64) s k).e)) &&& ((rn (ws b 64) s k).g)))) + (kk.getD k 0)) + ((ws b 64).getD k 0))) rfl (fun wS HS => y_add32 (a := ((((rn (ws b 64) s k).h) + (((rotr ((rn (ws b 64) s k).e) 6) ^^^ (rotr ((rn (ws b 64) s k).e) 11)) ^^^ (rotr ((rn (ws b 64) s k).e) 25))) + ((((rn (ws b 64) s k).e) &&& ((rn (ws b 64) s k).f)) ^^^ ((~~~((rn (ws b 64) s k).e)) &&& ((rn (ws b 64) s k).g)))) + (kk.getD k 0)) (b := (ws b 64).getD k 0) rfl rfl) ?_
   refine tly (v := U32 ((((((rn (ws b 64) s k).h) + (((rotr ((rn (ws b 64) s k).e) 6) ^^^ (rotr ((rn (ws b 64) s k).e) 11)) ^^^ (rotr ((rn (ws b 64) s k).e) 25))) + ((((rn (ws b 64) s k).e) &&& ((rn (ws b 64) s k).f)) ^^^ ((~~~((rn (ws b 64) s k).e)) &&& ((rn (ws b 64) s k).g)))) + (kk.getD k 0)) + ((ws b 64).getD k 0))) rfl (y_assign rfl) ?_
   refine p_nil ?_
   refine n_then ?_
   refine c_seq ?_
   refine c_reg ?_
   refine sy (v := U32 ((rn (ws b 64) s k).a)) (y_move s10_49) ?_
   refine st (ow_call fn155 rfl (turned_c ((rn (ws b 64) s k).a) 2 _ (by omega) (by omega)) ⟨rfl, rfl, trivial⟩) ?_
   rintro _ w62 ⟨rfl, hB63⟩
   have H64 : St w _ [_, _, _, _] w62 := H61.call hB63
   refine sy (v := U32 ((rn (ws b 64) s k).a)) (y_move s10_49) ?_
   refine st (ow_call fn155 rfl (turned_c ((rn (ws b 64) s k).a) 13 _ (by omega) (by omega)) ⟨rfl, rfl, trivial⟩) ?_
   rintro _ w65 ⟨rfl, hB66⟩
   have H67 : St w _ [_, _, _, _] w65 := H64.call hB66
   refine sy (v := U32 ((rotr ((rn (ws b 64) s k).a) 2) ^^^ (rotr ((rn (ws b 64) s k).a) 13))) (y_xor32 (a := rotr ((rn (ws b 64) s k).a) 2) (b := rotr ((rn (ws b 64) s k).a) 13) rfl rfl) ?_
   refine sy (v := U32 ((rn (ws b 64) s k).a)) (y_move s10_49) ?_
   refine st (ow_call fn155 rfl (turned_c ((rn (ws b 64) s k).a) 22 _ (by omega) (by omega)) ⟨rfl, rfl, trivial⟩) ?_
   rintro _ w68 ⟨rfl, hB69⟩
   have H70 : St w _ [_, _, _, _] w68 := H67.call hB69
   refine sy (v := U32 (((rotr ((rn (ws b 64) s k).a) 2) ^^^ (rotr ((rn (ws b 64) s k).a) 13)) ^^^ (rotr ((rn (ws b 64) s k).a) 22))) (y_xor32 (a := (rotr ((rn (ws b 64) s k).a) 2) ^^^ (rotr ((rn (ws b 64) s k).a) 13)) (b := rotr ((rn (ws b 64) s k).a) 22) rfl rfl) ?_
   refine sy (v := U32 ((rn (ws b 64) s k).a)) (y_move s10_49) ?_
   refine sy (v := U32 ((rn (ws b 64) s k).b)) (y_move s11_49) ?_
   refine sy (v := U32 (((rn (ws b 64) s k).a) &&& ((rn (ws b 64) s k).b))) (y_and32 (a := (rn (ws b 64) s k).a) (b := (rn (ws b 64) s k).b) rfl rfl) ?_
   refine sy (v := U32 ((rn (ws b 64) s k).a)) (y_move s10_49) ?_
   refine sy (v := U32 ((rn (ws b 64) s k).c)) (y_move s12_49) ?_
   refine sy (v := U32 (((rn (ws b 64) s k).a) &&& ((rn (ws b 64) s k).c))) (y_and32 (a := (rn (ws b 64) s k).a) (b := (rn (ws b 64) s k).c) rfl rfl) ?_
   refine sy (v := U32 ((((rn (ws b 64) s k).a) &&& ((rn (ws b 64) s k).b)) ^^^ (((rn (ws b 64) s k).a) &&& ((rn (ws b 64) s k).c)))) (y_xor32 (a := ((rn (ws b 64) s k).a) &&& ((rn (ws b 64) s k).b)) (b := ((rn (ws b 64) s k).a) &&& ((rn (ws b 64) s k).c)) rfl rfl) ?_
   refine sy (v := U32 ((rn (ws b 64) s k).b)) (y_move s11_49) ?_
   refine sy (v := U32 ((rn (ws b 64) s k).c)) (y_move s12_49) ?_
   refine sy (v := U32 (((rn (ws b 64) s k).b) &&& ((rn (ws b 64) s k).c))) (y_and32 (a := (rn (ws b 64) s k).b) (b := (rn (ws b 64) s k).c) rfl rfl) ?_
   refine sy (v := U32 (((((rn (ws b 64) s k).a) &&& ((rn (ws b 64) s k).b)) ^^^ (((rn (ws b 64) s k).a) &&& ((rn (ws b 64) s k).c))) ^^^ (((rn (ws b 64) s k).b) &&& ((rn (ws b 64) s k).c)))) (y_xor32 (a := (((rn (ws b 64) s k).a) &&& ((rn (ws b 64) s k).b)) ^^^ (((rn (ws b 64) s k).a) &&& ((rn (ws b 64) s k).c))) (b := ((rn (ws b 64) s k).b) &&& ((rn (ws b 64) s k).c)) rfl rfl) ?_
   refine sy (v := U32 ((((rotr ((rn (ws b 64) s k).a) 2) ^^^ (rotr ((rn (ws b 64) s k).a) 13)) ^^^ (rotr ((rn (ws b 64) s k).a) 22)) + (((((rn (ws b 64) s k).a) &&& ((rn (ws b 64) s k).b)) ^^^ (((rn (ws b 64) s k).a) &&& ((rn (ws b 64) s k).c))) ^^^ (((rn (ws b 64) s k).b) &&& ((rn (ws b 64) s k).c))))) (y_add32 (a := ((rotr ((rn (ws b 64) s k).a) 2) ^^^ (rotr ((rn (ws b 64) s k).a) 13)) ^^^ (rotr ((rn (ws b 64) s k).a) 22)) (b := ((((rn (ws b 64) s k).a) &&& ((rn (ws b 64) s k).b)) ^^^ (((rn (ws b 64) s k).a) &&& ((rn (ws b 64) s k).c))) ^^^ (((rn (ws b 64) s k).b) &&& ((rn (ws b 64) s k).c))) rfl rfl) ?_
   refine sy (v := U32 ((((rotr ((rn (ws b 64) s k).a) 2) ^^^ (rotr ((rn (ws b 64) s k).a) 13)) ^^^ (rotr ((rn (ws b 64) s k).a) 22)) + (((((rn (ws b 64) s k).a) &&& ((rn (ws b 64) s k).b)) ^^^ (((rn (ws b 64) s k).a) &&& ((rn (ws b 64) s k).c))) ^^^ (((rn (ws b 64) s k).b) &&& ((rn (ws b 64) s k).c))))) (y_assign rfl) ?_
   refine c_nil ?_
   refine n_then ?_
   refine c_reg ?_
   refine sy (v := U32 ((((((rn (ws b 64) s k).h) + (((rotr ((rn (ws b 64) s k).e) 6) ^^^ (rotr ((rn (ws b 64) s k).e) 11)) ^^^ (rotr ((rn (ws b 64) s k).e) 25))) + ((((rn (ws b 64) s k).e) &&& ((rn (ws b 64) s k).f)) ^^^ ((~~~((rn (ws b 64) s k).e)) &&& ((rn (ws b 64) s k).g)))) + (kk.getD k 0)) + ((ws b 64).getD k 0))) (y_move rfl) ?_
   refine sy (v := U32 ((((rotr ((rn (ws b 64) s k).a) 2) ^^^ (rotr ((rn (ws b 64) s k).a) 13)) ^^^ (rotr ((rn (ws b 64) s k).a) 22)) + (((((rn (ws b 64) s k).a) &&& ((rn (ws b 64) s k).b)) ^^^ (((rn (ws b 64) s k).a) &&& ((rn (ws b 64) s k).c))) ^^^ (((rn (ws b 64) s k).b) &&& ((rn (ws b 64) s k).c))))) (y_move rfl) ?_
   refine sy (v := U32 (((((((rn (ws b 64) s k).h) + (((rotr ((rn (ws b 64) s k).e) 6) ^^^ (rotr ((rn (ws b 64) s k).e) 11)) ^^^ (rotr ((rn (ws b 64) s k).e) 25))) + ((((rn (ws b 64) s k).e) &&& ((rn (ws b 64) s k).f)) ^^^ ((~~~((rn (ws b 64) s k).e)) &&& ((rn (ws b 64) s k).g)))) + (kk.getD k 0)) + ((ws b 64).getD k 0)) + ((((rotr ((rn (ws b 64) s k).a) 2) ^^^ (rotr ((rn (ws b 64) s k).a) 13)) ^^^ (rotr ((rn (ws b 64) s k).a) 22)) + (((((rn (ws b 64) s k).a) &&& ((rn (ws b 64) s k).b)) ^^^ (((rn (ws b 64) s k).a) &&& ((rn (ws b 64) s k).c))) ^^^ (((rn (ws b 64) s k).b) &&& ((rn (ws b 64) s k).c)))))) (y_add32 (a := (((((rn (ws b 64) s k).h) + (((rotr ((rn (ws b 64) s k).e) 6) ^^^ (rotr ((rn (ws b 64) s k).e) 11)) ^^^ (rotr ((rn (ws b 64) s k).e) 25))) + ((((rn (ws b 64) s k).e) &&& ((rn (ws b 64) s k).f)) ^^^ ((~~~((rn (ws b 64) s k).e)) &&& ((rn (ws b 64) s k).g)))) + (kk.getD k 0)) + ((ws b 64).getD k 0)) (b := (((rotr ((rn (ws b 64) s k).a) 2) ^^^ (rotr ((rn (ws b 64) s k).a) 13)) ^^^ (rotr ((rn (ws b 64) s k).a) 22)) + (((((rn (ws b 64) s k).a) &&& ((rn (ws b 64) s k).b)) ^^^ (((rn (ws b 64) s k).a) &&& ((rn (ws b 64) s k).c))) ^^^ (((rn (ws b 64) s k).b) &&& ((rn (ws b 64) s k).c)))) rfl rfl) ?_
   refine sy (v := U32 ((rn (ws b 64) s k).a)) (y_move s10_49) ?_
   refine sy (v := U32 ((rn (ws b 64) s k).b)) (y_move s11_49) ?_
   refine sy (v := U32 ((rn (ws b 64) s k).c)) (y_move s12_49) ?_
   refine sy (v := U32 ((rn (ws b 64) s k).d)) (y_move s13_49) ?_
   refine sy (v := U32 ((((((rn (ws b 64) s k).h) + (((rotr ((rn (ws b 64) s k).e) 6) ^^^ (rotr ((rn (ws b 64) s k).e) 11)) ^^^ (rotr ((rn (ws b 64) s k).e) 25))) + ((((rn (ws b 64) s k).e) &&& ((rn (ws b 64) s k).f)) ^^^ ((~~~((rn (ws b 64) s k).e)) &&& ((rn (ws b 64) s k).g)))) + (kk.getD k 0)) + ((ws b 64).getD k 0))) (y_move rfl) ?_
   refine sy (v := U32 (((rn (ws b 64) s k).d) + ((((((rn (ws b 64) s k).h) + (((rotr ((rn (ws b 64) s k).e) 6) ^^^ (rotr ((rn (ws b 64) s k).e) 11)) ^^^ (rotr ((rn (ws b 64) s k).e) 25))) + ((((rn (ws b 64) s k).e) &&& ((rn (ws b 64) s k).f)) ^^^ ((~~~((rn (ws b 64) s k).e)) &&& ((rn (ws b 64) s k).g)))) + (kk.getD k 0)) + ((ws b 64).getD k 0)))) (y_add32 (a := (rn (ws b 64) s k).d) (b := (((((rn (ws b 64) s k).h) + (((rotr ((rn (ws b 64) s k).e) 6) ^^^ (rotr ((rn (ws b 64) s k).e) 11)) ^^^ (rotr ((rn (ws b 64) s k).e) 25))) + ((((rn (ws b 64) s k).e) &&& ((rn (ws b 64) s k).f)) ^^^ ((~~~((rn (ws b 64) s k).e)) &&& ((rn (ws b 64) s k).g)))) + (kk.getD k 0)) + ((ws b 64).getD k 0)) rfl rfl) ?_
   refine sy (v := U32 ((rn (ws b 64) s k).e)) (y_move s14_49) ?_
   refine sy (v := U32 ((rn (ws b 64) s k).f)) (y_move s15_49) ?_
   refine sy (v := U32 ((rn (ws b 64) s k).g)) (y_move s16_49) ?_
   refine sy (v := U32 (((((((rn (ws b 64) s k).h) + (((rotr ((rn (ws b 64) s k).e) 6) ^^^ (rotr ((rn (ws b 64) s k).e) 11)) ^^^ (rotr ((rn (ws b 64) s k).e) 25))) + ((((rn (ws b 64) s k).e) &&& ((rn (ws b 64) s k).f)) ^^^ ((~~~((rn (ws b 64) s k).e)) &&& ((rn (ws b 64) s k).g)))) + (kk.getD k 0)) + ((ws b 64).getD k 0)) + ((((rotr ((rn (ws b 64) s k).a) 2) ^^^ (rotr ((rn (ws b 64) s k).a) 13)) ^^^ (rotr ((rn (ws b 64) s k).a) 22)) + (((((rn (ws b 64) s k).a) &&& ((rn (ws b 64) s k).b)) ^^^ (((rn (ws b 64) s k).a) &&& ((rn (ws b 64) s k).c))) ^^^ (((rn (ws b 64) s k).b) &&& ((rn (ws b 64) s k).c)))))) (y_assign rfl) ?_
   refine sy (v := U32 ((rn (ws b 64) s k).a)) (y_assign rfl) ?_
   refine sy (v := U32 ((rn (ws b 64) s k).b)) (y_assign rfl) ?_
   refine sy (v := U32 ((rn (ws b 64) s k).c)) (y_assign rfl) ?_
   refine sy (v := U32 (((rn (ws b 64) s k).d) + ((((((rn (ws b 64) s k).h) + (((rotr ((rn (ws b 64) s k).e) 6) ^^^ (rotr ((rn (ws b 64) s k).e) 11)) ^^^ (rotr ((rn (ws b 64) s k).e) 25))) + ((((rn (ws b 64) s k).e) &&& ((rn (ws b 64) s k).f)) ^^^ ((~~~((rn (ws b 64) s k).e)) &&& ((rn (ws b 64) s k).g)))) + (kk.getD k 0)) + ((ws b 64).getD k 0)))) (y_assign rfl) ?_
   refine sy (v := U32 ((rn (ws b 64) s k).e)) (y_assign rfl) ?_
   refine sy (v := U32 ((rn (ws b 64) s k).f)) (y_assign rfl) ?_
   refine sy (v := U32 ((rn (ws b 64) s k).g)) (y_assign rfl) ?_
   refine c_nil ?_
   refine n_block (n_then ?_)
   refine c_reg ?_
   refine sy (v := I ((k + 1 : Nat) : Int)) (n_add (a := k) (b := 1) s116_49 rfl (by omega)) ?_
   refine sy (v := I ((k + 1 : Nat) : Int)) (y_move rfl) ?_
   refine c_nil ?_
   exact lp_next (k + 1) ⟨s2_49, s4_49, s5_49, s6_49, rfl, rfl, rfl, rfl, rfl, rfl, rfl, rfl, rfl, (by omega), H70⟩ (by show _ < _; omega)
  ·
   obtain rfl : k = 64 := by omega
   refine wp_exit ?_
   refine x_then (x_then (x_hit (n_then ?_)))
   refine c_seq ?_
   refine c_reg ?_
   refine sy (v := Ad (bs g1) (0 + 0 * 1)) (y_ixA (m := 0) Try.underlying136 sz135 s2_49 rfl rfl (by omega)) ?_
   refine sy (v := U32 (s.a)) (y_load sc135 rfl (H49.cell 3 rfl rfl)) ?_
   refine sy (v := U32 ((rn (ws b 64) s 64).a)) (y_move s10_49) ?_
   refine sy (v := U32 (s.a + ((rn (ws b 64) s 64).a))) (y_add32 (a := s.a) (b := (rn (ws b 64) s 64).a) rfl rfl) ?_
   refine sy (v := Ad (bs g1) (0 + 1 * 1)) (y_ixA (m := 1) Try.underlying136 sz135 s2_49 rfl rfl (by omega)) ?_
   refine sy (v := U32 (s.b)) (y_load sc135 rfl (H49.cell 3 rfl rfl)) ?_
   refine sy (v := U32 ((rn (ws b 64) s 64).b)) (y_move s11_49) ?_
   refine sy (v := U32 (s.b + ((rn (ws b 64) s 64).b))) (y_add32 (a := s.b) (b := (rn (ws b 64) s 64).b) rfl rfl) ?_
   refine sy (v := Ad (bs g1) (0 + 2 * 1)) (y_ixA (m := 2) Try.underlying136 sz135 s2_49 rfl rfl (by omega)) ?_
   refine sy (v := U32 (s.c)) (y_load sc135 rfl (H49.cell 3 rfl rfl)) ?_
   refine sy (v := U32 ((rn (ws b 64) s 64).c)) (y_move s12_49) ?_
   refine sy (v := U32 (s.c + ((rn (ws b 64) s 64).c))) (y_add32 (a := s.c) (b := (rn (ws b 64) s 64).c) rfl rfl) ?_
   refine sy (v := Ad (bs g1) (0 + 3 * 1)) (y_ixA (m := 3) Try.underlying136 sz135 s2_49 rfl rfl (by omega)) ?_
   refine sy (v := U32 (s.d)) (y_load sc135 rfl (H49.cell 3 rfl rfl)) ?_
   refine sy (v := U32 ((rn (ws b 64) s 64).d)) (y_move s13_49) ?_
   refine sy (v := U32 (s.d + ((rn (ws b 64) s 64).d))) (y_add32 (a := s.d) (b := (rn (ws b 64) s 64).d) rfl rfl) ?_
   refine sy (v := Ad (bs g1) (0 + 4 * 1)) (y_ixA (m := 4) Try.underlying136 sz135 s2_49 rfl rfl (by omega)) ?_
   refine sy (v := U32 (s.e)) (y_load sc135 rfl (H49.cell 3 rfl rfl)) ?_
   refine sy (v := U32 ((rn (ws b 64) s 64).e)) (y_move s14_49) ?_
   refine sy (v := U32 (s.e + ((rn (ws b 64) s 64).e))) (y_add32 (a := s.e) (b := (rn (ws b 64) s 64).e) rfl rfl) ?_
   refine sy (v := Ad (bs g1) (0 + 5 * 1)) (y_ixA (m := 5) Try.underlying136 sz135 s2_49 rfl rfl (by omega)) ?_
   refine sy (v := U32 (s.f)) (y_load sc135 rfl (H49.cell 3 rfl rfl)) ?_
   refine sy (v := U32 ((rn (ws b 64) s 64).f)) (y_move s15_49) ?_
   refine sy (v := U32 (s.f + ((rn (ws b 64) s 64).f))) (y_add32 (a := s.f) (b := (rn (ws b 64) s 64).f) rfl rfl) ?_
   refine sy (v := Ad (bs g1) (0 + 6 * 1)) (y_ixA (m := 6) Try.underlying136 sz135 s2_49 rfl rfl (by omega)) ?_
   refine sy (v := U32 (s.g)) (y_load sc135 rfl (H49.cell 3 rfl rfl)) ?_
   refine sy (v := U32 ((rn (ws b 64) s 64).g)) (y_move s16_49) ?_
   refine sy (v := U32 (s.g + ((rn (ws b 64) s 64).g))) (y_add32 (a := s.g) (b := (rn (ws b 64) s 64).g) rfl rfl) ?_
   refine sy (v := Ad (bs g1) (0 + 7 * 1)) (y_ixA (m := 7) Try.underlying136 sz135 s2_49 rfl rfl (by omega)) ?_
   refine sy (v := U32 (s.h)) (y_load sc135 rfl (H49.cell 3 rfl rfl)) ?_
   refine sy (v := U32 ((rn (ws b 64) s 64).h)) (y_move s17_49) ?_
   refine sy (v := U32 (s.h + ((rn (ws b 64) s 64).h))) (y_add32 (a := s.h) (b := (rn (ws b 64) s 64).h) rfl rfl) ?_
   refine sy (v := .agg (([s.a + ((rn (ws b 64) s 64).a), s.b + ((rn (ws b 64) s 64).b), s.c + ((rn (ws b 64) s 64).c), s.d + ((rn (ws b 64) s 64).d), s.e + ((rn (ws b 64) s 64).e), s.f + ((rn (ws b 64) s 64).f), s.g + ((rn (ws b 64) s 64).g), s.h + ((rn (ws b 64) s 64).h)]).map U32).toArray) (y_build (pv := [(0, U32 (s.a + ((rn (ws b 64) s 64).a))), (1, U32 (s.b + ((rn (ws b 64) s 64).b))), (2, U32 (s.c + ((rn (ws b 64) s 64).c))), (3, U32 (s.d + ((rn (ws b 64) s 64).d))), (4, U32 (s.e + ((rn (ws b 64) s 64).e))), (5, U32 (s.f + ((rn (ws b 64) s 64).f))), (6, U32 (s.g + ((rn (ws b 64) s 64).g))), (7, U32 (s.h + ((rn (ws b 64) s 64).h)))]) (us := ([s.a + ((rn (ws b 64) s 64).a), s.b + ((rn (ws b 64) s 64).b), s.c + ((rn (ws b 64) s 64).c), s.d + ((rn (ws b 64) s 64).d), s.e + ((rn (ws b 64) s 64).e), s.f + ((rn (ws b 64) s 64).f), s.g + ((rn (ws b 64) s 64).g), s.h + ((rn (ws b 64) s 64).h)]).map U32) ⟨⟨rfl, rfl⟩, ⟨rfl, rfl⟩, ⟨rfl, rfl⟩, ⟨rfl, rfl⟩, ⟨rfl, rfl⟩, ⟨rfl, rfl⟩, ⟨rfl, rfl⟩, ⟨rfl, rfl⟩, trivial⟩ (by kernel_rfl)) ?_
   have H71 : St w _ [_, _, _, _] w48 := H49.foc 2 rfl rfl
   refine s0 (ow_storeW (us := ([s.a + ((rn (ws b 64) s 64).a), s.b + ((rn (ws b 64) s 64).b), s.c + ((rn (ws b 64) s 64).c), s.d + ((rn (ws b 64) s 64).d), s.e + ((rn (ws b 64) s 64).e), s.f + ((rn (ws b 64) s 64).f), s.g + ((rn (ws b 64) s 64).g), s.h + ((rn (ws b 64) s 64).h)]).map U32) H71 sz136 (by simp [*]) s4_49 rfl (map_one (F := U32) (fun _ => rfl) _) ((List.length_map _).trans List.length_replicate)) ?_
   rintro _ w72 H73'
   have H73 : St w _ [[(g4, Rw 136 (([s.a + ((rn (ws b 64) s 64).a), s.b + ((rn (ws b 64) s 64).b), s.c + ((rn (ws b 64) s 64).c), s.d + ((rn (ws b 64) s 64).d), s.e + ((rn (ws b 64) s 64).e), s.f + ((rn (ws b 64) s 64).f), s.g + ((rn (ws b 64) s 64).g), s.h + ((rn (ws b 64) s 64).h)]).map U32))], _, _, _] w72 := H73'
   refine c_nil ?_
   refine n_then ?_
   refine wp_ret ?_
   refine e_r1 Try.results135 (rv_b H73 (i := 0) rfl ag136 sz136 (by simp [*]) s4_49) ?_
   exact ⟨_, rfl, rfl, H73.below⟩

end Go.Proofs.Ytdcmbcjkdhdohaa
