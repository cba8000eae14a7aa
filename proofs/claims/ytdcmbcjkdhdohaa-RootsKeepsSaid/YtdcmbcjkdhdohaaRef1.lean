/- Walks: pleachref01.Of and what it calls. -/
import Derived.Test.YtdcmbcjkdhdohaaHmac
import Derived.Test.YtdcmbcjkdhdohaaWide
namespace Go.Proofs.Ytdcmbcjkdhdohaa
open Go Go.RowKit
set_option linter.unusedSimpArgs false
set_option linter.unusedVariables false
attribute [local irreducible] wpList wpP Code.wp

theorem be64_step2 (xs : List UInt8) (x : UInt64) (q : Nat) (h : q < 8) : xs ++ (be64 x).take q ++ [(x >>> UInt64.ofNat (8 * (7 - (q : Int))).toNat).toUInt8] = xs ++ (be64 x).take (q + 1) := by
  rw [be64_take x q h, List.append_assoc, show (8 * (7 - (q : Int))).toNat = 56 - 8 * q by omega]
def addN (s v : S8) : Nat → List UInt32
  | 0 => s.list
  | i + 1 => (addN s v i).set i ((addN s v i).getD i 0 + v.list.getD i 0)
@[simp] theorem addN_length (s v : S8) : ∀ i, (addN s v i).length = 8
  | 0 => rfl
  | i + 1 => by simp [addN, addN_length s v i]
theorem absN_succ (k : Nat) (s : S8) (m : List UInt8) : absN (k + 1) s m = comp (absN k s m) ((m.drop (64 * k)).take 64) := by
  rw [absN_add k 1]; rfl
def hb (s : S8) : Nat → List UInt8
  | 0 => List.replicate 32 0
  | i + 1 => (hb s i).set i ((s.list.getD (i / 4) 0) >>> UInt32.ofNat (24 - 8 * (i % 4))).toUInt8
@[simp] theorem hb_length (s : S8) : ∀ i, (hb s i).length = 32
  | 0 => by simp [hb]
  | i + 1 => by simp [hb, hb_length s i]
theorem hb_32 (s : S8) : hb s 32 = outS s := by kernel_rfl

theorem rturned_c (x : UInt32) (m : Nat) (w : World) (h1 : 1 ≤ m) (h2 : m < 32) :
    Calls Try.prog 137 (([U32 (x), I ((m : Nat) : Int)] : List Value).toArray) w (fun e w' => ∃ v, e = .returned v ∧ v = U32 (rotr x m) ∧ Below w.heap.size w w') := by
 refine calls_mk Try.func137 rfl 13 Try.ntmps137 rfl ?_
 have H0 : St w [] [] w := St.refl w
 refine c_seq ?_
 refine c_reg ?_
 refine sy (v := U32 (0)) (y_assign (v := U32 (0)) rfl) ?_
 refine c_nil ?_
 refine n_then ?_
 refine c_seq ?_
 refine drawS (.step 0 0 (.step 0 1 (.step 0 2 (.step 0 3 (.step 0 4 (.step 0 5 (.step 0 6 (.step 0 7 (.step 2 8 .nil))))))))) mixed H0 (by kernel_rfl) (by kernel_rfl) (by kernel_rfl) ?_
 intro w1 H2
 refine pt (v := U32 (x)) rfl (fun wS HS => y_move rfl) ?_
 refine pt (v := I ((m : Nat) : Int)) rfl (fun wS HS => y_move rfl) ?_
 refine pt (v := U32 (x >>> UInt32.ofNat m)) rfl (fun wS HS => n_shr32 (m := m) (c := x) rfl rfl (by omega)) ?_
 refine pt (v := U32 (x)) rfl (fun wS HS => y_move rfl) ?_
 refine pt (v := I ((m : Nat) : Int)) rfl (fun wS HS => y_move rfl) ?_
 refine pt (v := I ((32 - m : Nat) : Int)) rfl (fun wS HS => n_sub (a := 32) (b := m) rfl rfl (by omega) (by omega)) ?_
 refine pt (v := U32 (x <<< UInt32.ofNat (32 - m))) rfl (fun wS HS => n_shl32 (m := 32 - m) (c := x) rfl rfl (by omega)) ?_
 refine pt (v := U32 ((x >>> UInt32.ofNat m) ||| (x <<< UInt32.ofNat (32 - m)))) rfl (fun wS HS => y_or32 (a := x >>> UInt32.ofNat m) (b := x <<< UInt32.ofNat (32 - m)) rfl rfl) ?_
 refine tly (v := U32 ((x >>> UInt32.ofNat m) ||| (x <<< UInt32.ofNat (32 - m)))) rfl (y_assign rfl) ?_
 refine p_nil ?_
 refine n_then ?_
 refine wp_ret ?_
 refine e_r1 Try.results137 (rv_t rfl) ?_
 exact ⟨_, rfl, rfl, H2.below⟩

theorem rbegins_c (w : World) :
    Calls Try.prog 115 (([] : List Value).toArray) w (fun e w' => ∃ v, e = .returned v ∧ v = .agg (ivS.list.map U32).toArray ∧ Below w.heap.size w w') := by
 refine calls_mk Try.func115 rfl 2 Try.ntmps115 rfl ?_
 have H0 : St w [] [] w := St.refl w
 refine c_seq ?_
 refine c_reg ?_
 refine st (ow_alloc (l := (List.replicate 8 0).map U32) H0 zr136 (by simp [Value.cells])) ?_
 rintro _ w2 ⟨g1, rfl, H3⟩
 refine c_nil ?_
 refine n_then ?_
 refine c_seq ?_
 refine c_reg ?_
 refine sy (v := .agg (([1779033703, 3144134277, 1013904242, 2773480762, 1359893119, 2600822924, 528734635, 1541459225]).map U32).toArray) (y_build (pv := [(0, U32 (1779033703)), (1, U32 (3144134277)), (2, U32 (1013904242)), (3, U32 (2773480762)), (4, U32 (1359893119)), (5, U32 (2600822924)), (6, U32 (528734635)), (7, U32 (1541459225))]) (us := ([1779033703, 3144134277, 1013904242, 2773480762, 1359893119, 2600822924, 528734635, 1541459225]).map U32) ⟨⟨rfl, rfl⟩, ⟨rfl, rfl⟩, ⟨rfl, rfl⟩, ⟨rfl, rfl⟩, ⟨rfl, rfl⟩, ⟨rfl, rfl⟩, ⟨rfl, rfl⟩, ⟨rfl, rfl⟩, trivial⟩ (by kernel_rfl)) ?_
 refine s0 (ow_storeW (us := ([1779033703, 3144134277, 1013904242, 2773480762, 1359893119, 2600822924, 528734635, 1541459225]).map U32) H3 sz136 (by simp [*]) rfl rfl (map_one (F := U32) (fun _ => rfl) _) ((List.length_map _).trans List.length_replicate)) ?_
 rintro _ w4 H5'
 have H5 : St w _ [[(g1, Rw 136 (([1779033703, 3144134277, 1013904242, 2773480762, 1359893119, 2600822924, 528734635, 1541459225]).map U32))]] w4 := H5'
 refine c_nil ?_
 refine n_then ?_
 refine wp_ret ?_
 refine e_r1 Try.results115 (rv_b H5 (i := 0) rfl ag136 sz136 (by simp [*]) rfl) ?_
 exact ⟨_, rfl, rfl, H5.below⟩

theorem rrounds_c (w : World) :
    Calls Try.prog 116 (([] : List Value).toArray) w (fun e w' => ∃ v, e = .returned v ∧ v = .agg (kk.map U32).toArray ∧ Below w.heap.size w w') := by
 refine calls_mk Try.func116 rfl 2 Try.ntmps116 rfl ?_
 have H0 : St w [] [] w := St.refl w
 refine c_seq ?_
 refine c_reg ?_
 refine st (ow_alloc (l := (List.replicate 64 0).map U32) H0 zr138 (by simp [Value.cells])) ?_
 rintro _ w2 ⟨g1, rfl, H3⟩
 refine c_nil ?_
 refine n_then ?_
 refine c_seq ?_
 refine c_reg ?_
 refine sy (v := .agg (([1116352408, 1899447441, 3049323471, 3921009573, 961987163, 1508970993, 2453635748, 2870763221, 3624381080, 310598401, 607225278, 1426881987, 1925078388, 2162078206, 2614888103, 3248222580, 3835390401, 4022224774, 264347078, 604807628, 770255983, 1249150122, 1555081692, 1996064986, 2554220882, 2821834349, 2952996808, 3210313671, 3336571891, 3584528711, 113926993, 338241895, 666307205, 773529912, 1294757372, 1396182291, 1695183700, 1986661051, 2177026350, 2456956037, 2730485921, 2820302411, 3259730800, 3345764771, 3516065817, 3600352804, 4094571909, 275423344, 430227734, 506948616, 659060556, 883997877, 958139571, 1322822218, 1537002063, 1747873779, 1955562222, 2024104815, 2227730452, 2361852424, 2428436474, 2756734187, 3204031479, 3329325298]).map U32).toArray) (y_build (pv := [(0, U32 (1116352408)), (1, U32 (1899447441)), (2, U32 (3049323471)), (3, U32 (3921009573)), (4, U32 (961987163)), (5, U32 (1508970993)), (6, U32 (2453635748)), (7, U32 (2870763221)), (8, U32 (3624381080)), (9, U32 (310598401)), (10, U32 (607225278)), (11, U32 (1426881987)), (12, U32 (1925078388)), (13, U32 (2162078206)), (14, U32 (2614888103)), (15, U32 (3248222580)), (16, U32 (3835390401)), (17, U32 (4022224774)), (18, U32 (264347078)), (19, U32 (604807628)), (20, U32 (770255983)), (21, U32 (1249150122)), (22, U32 (1555081692)), (23, U32 (1996064986)), (24, U32 (2554220882)), (25, U32 (2821834349)), (26, U32 (2952996808)), (27, U32 (3210313671)), (28, U32 (3336571891)), (29, U32 (3584528711)), (30, U32 (113926993)), (31, U32 (338241895)), (32, U32 (666307205)), (33, U32 (773529912)), (34, U32 (1294757372)), (35, U32 (1396182291)), (36, U32 (1695183700)), (37, U32 (1986661051)), (38, U32 (2177026350)), (39, U32 (2456956037)), (40, U32 (2730485921)), (41, U32 (2820302411)), (42, U32 (3259730800)), (43, U32 (3345764771)), (44, U32 (3516065817)), (45, U32 (3600352804)), (46, U32 (4094571909)), (47, U32 (275423344)), (48, U32 (430227734)), (49, U32 (506948616)), (50, U32 (659060556)), (51, U32 (883997877)), (52, U32 (958139571)), (53, U32 (1322822218)), (54, U32 (1537002063)), (55, U32 (1747873779)), (56, U32 (1955562222)), (57, U32 (2024104815)), (58, U32 (2227730452)), (59, U32 (2361852424)), (60, U32 (2428436474)), (61, U32 (2756734187)), (62, U32 (3204031479)), (63, U32 (3329325298))]) (us := ([1116352408, 1899447441, 3049323471, 3921009573, 961987163, 1508970993, 2453635748, 2870763221, 3624381080, 310598401, 607225278, 1426881987, 1925078388, 2162078206, 2614888103, 3248222580, 3835390401, 4022224774, 264347078, 604807628, 770255983, 1249150122, 1555081692, 1996064986, 2554220882, 2821834349, 2952996808, 3210313671, 3336571891, 3584528711, 113926993, 338241895, 666307205, 773529912, 1294757372, 1396182291, 1695183700, 1986661051, 2177026350, 2456956037, 2730485921, 2820302411, 3259730800, 3345764771, 3516065817, 3600352804, 4094571909, 275423344, 430227734, 506948616, 659060556, 883997877, 958139571, 1322822218, 1537002063, 1747873779, 1955562222, 2024104815, 2227730452, 2361852424, 2428436474, 2756734187, 3204031479, 3329325298]).map U32) ⟨⟨rfl, rfl⟩, ⟨rfl, rfl⟩, ⟨rfl, rfl⟩, ⟨rfl, rfl⟩, ⟨rfl, rfl⟩, ⟨rfl, rfl⟩, ⟨rfl, rfl⟩, ⟨rfl, rfl⟩, ⟨rfl, rfl⟩, ⟨rfl, rfl⟩, ⟨rfl, rfl⟩, ⟨rfl, rfl⟩, ⟨rfl, rfl⟩, ⟨rfl, rfl⟩, ⟨rfl, rfl⟩, ⟨rfl, rfl⟩, ⟨rfl, rfl⟩, ⟨rfl, rfl⟩, ⟨rfl, rfl⟩, ⟨rfl, rfl⟩, ⟨rfl, rfl⟩, ⟨rfl, rfl⟩, ⟨rfl, rfl⟩, ⟨rfl, rfl⟩, ⟨rfl, rfl⟩, ⟨rfl, rfl⟩, ⟨rfl, rfl⟩, ⟨rfl, rfl⟩, ⟨rfl, rfl⟩, ⟨rfl, rfl⟩, ⟨rfl, rfl⟩, ⟨rfl, rfl⟩, ⟨rfl, rfl⟩, ⟨rfl, rfl⟩, ⟨rfl, rfl⟩, ⟨rfl, rfl⟩, ⟨rfl, rfl⟩, ⟨rfl, rfl⟩, ⟨rfl, rfl⟩, ⟨rfl, rfl⟩, ⟨rfl, rfl⟩, ⟨rfl, rfl⟩, ⟨rfl, rfl⟩, ⟨rfl, rfl⟩, ⟨rfl, rfl⟩, ⟨rfl, rfl⟩, ⟨rfl, rfl⟩, ⟨rfl, rfl⟩, ⟨rfl, rfl⟩, ⟨rfl, rfl⟩, ⟨rfl, rfl⟩, ⟨rfl, rfl⟩, ⟨rfl, rfl⟩, ⟨rfl, rfl⟩, ⟨rfl, rfl⟩, ⟨rfl, rfl⟩, ⟨rfl, rfl⟩, ⟨rfl, rfl⟩, ⟨rfl, rfl⟩, ⟨rfl, rfl⟩, ⟨rfl, rfl⟩, ⟨rfl, rfl⟩, ⟨rfl, rfl⟩, ⟨rfl, rfl⟩, trivial⟩ (by kernel_rfl)) ?_
 refine s0 (ow_storeW (us := ([1116352408, 1899447441, 3049323471, 3921009573, 961987163, 1508970993, 2453635748, 2870763221, 3624381080, 310598401, 607225278, 1426881987, 1925078388, 2162078206, 2614888103, 3248222580, 3835390401, 4022224774, 264347078, 604807628, 770255983, 1249150122, 1555081692, 1996064986, 2554220882, 2821834349, 2952996808, 3210313671, 3336571891, 3584528711, 113926993, 338241895, 666307205, 773529912, 1294757372, 1396182291, 1695183700, 1986661051, 2177026350, 2456956037, 2730485921, 2820302411, 3259730800, 3345764771, 3516065817, 3600352804, 4094571909, 275423344, 430227734, 506948616, 659060556, 883997877, 958139571, 1322822218, 1537002063, 1747873779, 1955562222, 2024104815, 2227730452, 2361852424, 2428436474, 2756734187, 3204031479, 3329325298]).map U32) H3 sz138 (by simp [*]) rfl rfl (map_one (F := U32) (fun _ => rfl) _) ((List.length_map _).trans List.length_replicate)) ?_
 rintro _ w4 H5'
 have H5 : St w _ [[(g1, Rw 138 (([1116352408, 1899447441, 3049323471, 3921009573, 961987163, 1508970993, 2453635748, 2870763221, 3624381080, 310598401, 607225278, 1426881987, 1925078388, 2162078206, 2614888103, 3248222580, 3835390401, 4022224774, 264347078, 604807628, 770255983, 1249150122, 1555081692, 1996064986, 2554220882, 2821834349, 2952996808, 3210313671, 3336571891, 3584528711, 113926993, 338241895, 666307205, 773529912, 1294757372, 1396182291, 1695183700, 1986661051, 2177026350, 2456956037, 2730485921, 2820302411, 3259730800, 3345764771, 3516065817, 3600352804, 4094571909, 275423344, 430227734, 506948616, 659060556, 883997877, 958139571, 1322822218, 1537002063, 1747873779, 1955562222, 2024104815, 2227730452, 2361852424, 2428436474, 2756734187, 3204031479, 3329325298]).map U32))]] w4 := H5'
 refine c_nil ?_
 refine n_then ?_
 refine wp_ret ?_
 refine e_r1 Try.results116 (rv_b H5 (i := 0) rfl ag138 sz138 (by simp [*]) rfl) ?_
 exact ⟨_, rfl, rfl, H5.below⟩

theorem words_c (b : List UInt8) (v : Value) (w : World) (hb : b.length = 64) (hR : Rd [] w 1 v b.length (b.map B8)) :
    Calls Try.prog 136 (([v] : List Value).toArray) w (fun e w' => ∃ v, e = .returned v ∧ v = .agg ((ws b 64).map U32).toArray ∧ Below w.heap.size w w') := by
 refine calls_mk Try.func136 rfl 92 Try.ntmps136 rfl ?_
 have H0 : St w [] [] w := St.refl w
 refine c_seq ?_
 refine c_reg ?_
 refine st (ow_alloc (l := (List.replicate 64 0).map U32) H0 zr138 (by simp [Value.cells])) ?_
 rintro _ w2 ⟨g1, rfl, H3⟩
 refine c_nil ?_
 refine n_then ?_
 refine c_seq ?_
 refine c_reg ?_
 refine sy (v := .agg (([0, 0, 0, 0, 0, 0, 0, 0, 0, 0, 0, 0, 0, 0, 0, 0, 0, 0, 0, 0, 0, 0, 0, 0, 0, 0, 0, 0, 0, 0, 0, 0, 0, 0, 0, 0, 0, 0, 0, 0, 0, 0, 0, 0, 0, 0, 0, 0, 0, 0, 0, 0, 0, 0, 0, 0, 0, 0, 0, 0, 0, 0, 0, 0]).map U32).toArray) (y_build (parts := []) (pv := []) (us := ([0, 0, 0, 0, 0, 0, 0, 0, 0, 0, 0, 0, 0, 0, 0, 0, 0, 0, 0, 0, 0, 0, 0, 0, 0, 0, 0, 0, 0, 0, 0, 0, 0, 0, 0, 0, 0, 0, 0, 0, 0, 0, 0, 0, 0, 0, 0, 0, 0, 0, 0, 0, 0, 0, 0, 0, 0, 0, 0, 0, 0, 0, 0, 0]).map U32) trivial (by kernel_rfl)) ?_
 refine st (ow_alloc (l := (List.replicate 64 0).map U32) H3 zr138 (by simp [Value.cells])) ?_
 rintro _ w5 ⟨g4, rfl, H6⟩
 refine s0 (ow_storeW (us := ([0, 0, 0, 0, 0, 0, 0, 0, 0, 0, 0, 0, 0, 0, 0, 0, 0, 0, 0, 0, 0, 0, 0, 0, 0, 0, 0, 0, 0, 0, 0, 0, 0, 0, 0, 0, 0, 0, 0, 0, 0, 0, 0, 0, 0, 0, 0, 0, 0, 0, 0, 0, 0, 0, 0, 0, 0, 0, 0, 0, 0, 0, 0, 0]).map U32) H6 sz138 (by simp [*]) rfl rfl (map_one (F := U32) (fun _ => rfl) _) ((List.length_map _).trans List.length_replicate)) ?_
 rintro _ w7 H8'
 have H8 : St w _ [[(g4, Rw 138 (([0, 0, 0, 0, 0, 0, 0, 0, 0, 0, 0, 0, 0, 0, 0, 0, 0, 0, 0, 0, 0, 0, 0, 0, 0, 0, 0, 0, 0, 0, 0, 0, 0, 0, 0, 0, 0, 0, 0, 0, 0, 0, 0, 0, 0, 0, 0, 0, 0, 0, 0, 0, 0, 0, 0, 0, 0, 0, 0, 0, 0, 0, 0, 0]).map U32))], _] w7 := H8'
 refine c_nil ?_
 refine n_then ?_
 refine c_seq ?_
 refine c_seq ?_
 refine c_reg ?_
 refine sy (v := I ((0 : Nat) : Int)) (y_assign (v := I ((0 : Nat) : Int)) rfl) ?_
 refine c_nil ?_
 refine n_then ?_
 refine wp_block ?_
 refine c_loop (fun (t : Nat) f9 w10 => f9 0 = v ∧ f9 2 = Ad (bs g1) (0) ∧ f9 3 = Ad (bs g4) (0) ∧ f9 4 = I ((t : Nat) : Int) ∧ t ≤ 16 ∧ St w [] [[(g4, Rw 138 ((ws b t).map U32))], [(g1, Rw 138 ((List.replicate 64 0).map U32))]] w10) (fun t => 16 - t) 0 ⟨rfl, rfl, rfl, rfl, (by omega), H8⟩ ?_
 rintro t f9 w10 ⟨s0_11, s2_11, s3_11, s4_11, hf0_11, H11⟩
 have hwl := ws_length b t
 refine c_seq ?_
 refine c_seq ?_
 refine c_reg ?_
 refine sy (v := I ((t : Nat) : Int)) (y_move s4_11) ?_
 refine sy (v := .bool (decide (t < 16))) (n_lss (a := t) (b := 16) rfl rfl) ?_
 refine c_nil ?_
 refine n_then ?_
 refine c_if rfl (fun hc12 => ?_) (fun hc12 => ?_)
 ·
  refine wp_skip ?_
  refine n_then ?_
  refine c_seq ?_
  refine wp_block ?_
  refine drawS (.step 0 0 (.step 0 1 (.step 0 2 (.step 0 3 (.step 0 4 (.step 0 5 (.step 0 6 (.step 0 7 (.step 0 8 (.step 0 9 (.step 0 10 (.step 0 11 (.step 0 12 (.step 0 13 (.step 0 14 (.step 0 15 (.step 0 16 (.step 0 17 (.step 0 18 (.step 0 19 (.step 0 20 (.step 0 21 (.step 0 22 (.step 0 23 (.step 0 24 (.step 0 25 (.step 0 26 (.step 0 27 (.step 0 28 (.step 0 29 (.step 0 30 (.step 0 31 (.step 0 32 (.step 0 33 (.step 2 34 (.step 2 35 .nil)))))))))))))))))))))))))))))))))))) mixed H11 (by kernel_rfl) (by kernel_rfl) (by kernel_rfl) ?_
  intro w13 H14
  refine pt (v := I ((t : Nat) : Int)) rfl (fun wS HS => y_move s4_11) ?_
  refine pt (v := v) rfl (fun wS HS => y_move s0_11) ?_
  refine pt (v := I ((t : Nat) : Int)) rfl (fun wS HS => y_move s4_11) ?_
  refine pt (v := I ((4 * t : Nat) : Int)) rfl (fun wS HS => n_mul (a := 4) (b := t) rfl rfl (by omega)) ?_
  refine pt (v := Ad (sp (v)) ((4 * t) * 1)) rfl (fun wS HS => y_ixR (m := 4 * t) Try.underlying23 sz5 (hR.st HS) (by decide) rfl rfl rfl (by omega)) ?_
  refine pt (v := B8 (b.getD (4 * t) 0)) rfl (fun wS HS => y_load sc5 rfl ((hR.st HS).cell _ _ (by rw [Nat.mul_one]; exact map_get B8 (l := b) (k := 4 * t) 0 (by omega)))) ?_
  refine pt (v := U32 ((b.getD (4 * t) 0).toUInt32)) rfl (fun wS HS => y_conv_8_32 Try.underlying5 Try.underlying135 rfl) ?_
  refine pt (v := U32 (((b.getD (4 * t) 0).toUInt32) <<< UInt32.ofNat 24)) rfl (fun wS HS => n_shl32 (m := 24) (c := (b.getD (4 * t) 0).toUInt32) rfl rfl (by omega)) ?_
  refine pt (v := v) rfl (fun wS HS => y_move s0_11) ?_
  refine pt (v := I ((t : Nat) : Int)) rfl (fun wS HS => y_move s4_11) ?_
  refine pt (v := I ((4 * t : Nat) : Int)) rfl (fun wS HS => n_mul (a := 4) (b := t) rfl rfl (by omega)) ?_
  refine pt (v := I (((4 * t) + 1 : Nat) : Int)) rfl (fun wS HS => n_add (a := 4 * t) (b := 1) rfl rfl (by omega)) ?_
  refine pt (v := Ad (sp (v)) (((4 * t) + 1) * 1)) rfl (fun wS HS => y_ixR (m := (4 * t) + 1) Try.underlying23 sz5 (hR.st HS) (by decide) rfl rfl rfl (by omega)) ?_
  refine pt (v := B8 (b.getD ((4 * t) + 1) 0)) rfl (fun wS HS => y_load sc5 rfl ((hR.st HS).cell _ _ (by rw [Nat.mul_one]; exact map_get B8 (l := b) (k := (4 * t) + 1) 0 (by omega)))) ?_
  refine pt (v := U32 ((b.getD ((4 * t) + 1) 0).toUInt32)) rfl (fun wS HS => y_conv_8_32 Try.underlying5 Try.underlying135 rfl) ?_
  refine pt (v := U32 (((b.getD ((4 * t) + 1) 0).toUInt32) <<< UInt32.ofNat 16)) rfl (fun wS HS => n_shl32 (m := 16) (c := (b.getD ((4 * t) + 1) 0).toUInt32) rfl rfl (by omega)) ?_
  refine pt (v := U32 ((((b.getD (4 * t) 0).toUInt32) <<< UInt32.ofNat 24) ||| (((b.getD ((4 * t) + 1) 0).toUInt32) <<< UInt32.ofNat 16))) rfl (fun wS HS => y_or32 (a := ((b.getD (4 * t) 0).toUInt32) <<< UInt32.ofNat 24) (b := ((b.getD ((4 * t) + 1) 0).toUInt32) <<< UInt32.ofNat 16) rfl rfl) ?_
  refine pt (v := v) rfl (fun wS HS => y_move s0_11) ?_
  refine pt (v := I ((t : Nat) : Int)) rfl (fun wS HS => y_move s4_11) ?_
  refine pt (v := I ((4 * t : Nat) : Int)) rfl (fun wS HS => n_mul (a := 4) (b := t) rfl rfl (by omega)) ?_
  refine pt (v := I (((4 * t) + 2 : Nat) : Int)) rfl (fun wS HS => n_add (a := 4 * t) (b := 2) rfl rfl (by omega)) ?_
  refine pt (v := Ad (sp (v)) (((4 * t) + 2) * 1)) rfl (fun wS HS => y_ixR (m := (4 * t) + 2) Try.underlying23 sz5 (hR.st HS) (by decide) rfl rfl rfl (by omega)) ?_
  refine pt (v := B8 (b.getD ((4 * t) + 2) 0)) rfl (fun wS HS => y_load sc5 rfl ((hR.st HS).cell _ _ (by rw [Nat.mul_one]; exact map_get B8 (l := b) (k := (4 * t) + 2) 0 (by omega)))) ?_
  refine pt (v := U32 ((b.getD ((4 * t) + 2) 0).toUInt32)) rfl (fun wS HS => y_conv_8_32 Try.underlying5 Try.underlying135 rfl) ?_
  refine pt (v := U32 (((b.getD ((4 * t) + 2) 0).toUInt32) <<< UInt32.ofNat 8)) rfl (fun wS HS => n_shl32 (m := 8) (c := (b.getD ((4 * t) + 2) 0).toUInt32) rfl rfl (by omega)) ?_
  refine pt (v := U32 (((((b.getD (4 * t) 0).toUInt32) <<< UInt32.ofNat 24) ||| (((b.getD ((4 * t) + 1) 0).toUInt32) <<< UInt32.ofNat 16)) ||| (((b.getD ((4 * t) + 2) 0).toUInt32) <<< UInt32.ofNat 8))) rfl (fun wS HS => y_or32 (a := (((b.getD (4 * t) 0).toUInt32) <<< UInt32.ofNat 24) ||| (((b.getD ((4 * t) + 1) 0).toUInt32) <<< UInt32.ofNat 16)) (b := ((b.getD ((4 * t) + 2) 0).toUInt32) <<< UInt32.ofNat 8) rfl rfl) ?_
  refine pt (v := v) rfl (fun wS HS => y_move s0_11) ?_
  refine pt (v := I ((t : Nat) : Int)) rfl (fun wS HS => y_move s4_11) ?_
  refine pt (v := I ((4 * t : Nat) : Int)) rfl (fun wS HS => n_mul (a := 4) (b := t) rfl rfl (by omega)) ?_
  refine pt (v := I (((4 * t) + 3 : Nat) : Int)) rfl (fun wS HS => n_add (a := 4 * t) (b := 3) rfl rfl (by omega)) ?_
  refine pt (v := Ad (sp (v)) (((4 * t) + 3) * 1)) rfl (fun wS HS => y_ixR (m := (4 * t) + 3) Try.underlying23 sz5 (hR.st HS) (by decide) rfl rfl rfl (by omega)) ?_
  refine pt (v := B8 (b.getD ((4 * t) + 3) 0)) rfl (fun wS HS => y_load sc5 rfl ((hR.st HS).cell _ _ (by rw [Nat.mul_one]; exact map_get B8 (l := b) (k := (4 * t) + 3) 0 (by omega)))) ?_
  refine pt (v := U32 ((b.getD ((4 * t) + 3) 0).toUInt32)) rfl (fun wS HS => y_conv_8_32 Try.underlying5 Try.underlying135 rfl) ?_
  refine pt (v := U32 ((((((b.getD (4 * t) 0).toUInt32) <<< UInt32.ofNat 24) ||| (((b.getD ((4 * t) + 1) 0).toUInt32) <<< UInt32.ofNat 16)) ||| (((b.getD ((4 * t) + 2) 0).toUInt32) <<< UInt32.ofNat 8)) ||| ((b.getD ((4 * t) + 3) 0).toUInt32))) rfl (fun wS HS => y_or32 (a := ((((b.getD (4 * t) 0).toUInt32) <<< UInt32.ofNat 24) ||| (((b.getD ((4 * t) + 1) 0).toUInt32) <<< UInt32.ofNat 16)) ||| (((b.getD ((4 * t) + 2) 0).toUInt32) <<< UInt32.ofNat 8)) (b := (b.getD ((4 * t) + 3) 0).toUInt32) rfl rfl) ?_
  refine tly (v := Ad (bs g4) (0 + t * 1)) rfl (y_ixA (m := t) Try.underlying138 sz135 s3_11 rfl rfl (by omega)) ?_
  refine t0 rfl (ow_storeM (F := U32) (j := t) (fun _ => rfl) H14 sz135 rfl rfl (by omega) (by first | omega | (simp only [List.length_set]; omega))) ?_
  rintro _ w15 H16'
  have H16 : St w _ [[(g4, Rw 138 (((ws b t).set t ((((((b.getD (4 * t) 0).toUInt32) <<< UInt32.ofNat 24) ||| (((b.getD ((4 * t) + 1) 0).toUInt32) <<< UInt32.ofNat 16)) ||| (((b.getD ((4 * t) + 2) 0).toUInt32) <<< UInt32.ofNat 8)) ||| ((b.getD ((4 * t) + 3) 0).toUInt32))).map U32))], _] w15 := H16'
  refine p_nil ?_
  refine n_block (n_then ?_)
  refine c_reg ?_
  refine sy (v := I ((t : Nat) : Int)) (y_move s4_11) ?_
  refine sy (v := I ((t + 1 : Nat) : Int)) (n_add (a := t) (b := 1) rfl rfl (by omega)) ?_
  refine sy (v := I ((t + 1 : Nat) : Int)) (y_assign rfl) ?_
  refine c_nil ?_
  exact lp_next (t + 1) ⟨s0_11, s2_11, s3_11, rfl, (by omega), (H16.eq1 (by show _ = ((ws b t).set t (nextW b (ws b t) t)).map U32; unfold nextW; rw [if_pos (by omega)]; rfl))⟩ (by show _ < _; omega)
 ·
  obtain rfl : t = 16 := by omega
  refine wp_exit ?_
  refine x_then (x_then (x_hit (n_then ?_)))
  refine c_seq ?_
  refine c_seq ?_
  refine c_reg ?_
  refine sy (v := I ((16 : Nat) : Int)) (y_assign (v := I ((16 : Nat) : Int)) rfl) ?_
  refine c_nil ?_
  refine n_then ?_
  refine wp_block ?_
  refine c_loop (fun (u : Nat) f17 w18 => f17 2 = Ad (bs g1) (0) ∧ f17 3 = Ad (bs g4) (0) ∧ f17 5 = I ((u : Nat) : Int) ∧ 16 ≤ u ∧ u ≤ 64 ∧ St w [] [[(g4, Rw 138 ((ws b u).map U32))], [(g1, Rw 138 ((List.replicate 64 0).map U32))]] w18) (fun u => 64 - u) 16 ⟨s2_11, s3_11, rfl, (by omega), (by omega), H11⟩ ?_
  rintro u f17 w18 ⟨s2_19, s3_19, s5_19, hf0_19, hf1_19, H19⟩
  have hwl := ws_length b u
  refine c_seq ?_
  refine c_seq ?_
  refine c_reg ?_
  refine sy (v := I ((u : Nat) : Int)) (y_move s5_19) ?_
  refine sy (v := .bool (decide (u < 64))) (n_lss (a := u) (b := 64) rfl rfl) ?_
  refine c_nil ?_
  refine n_then ?_
  refine c_if rfl (fun hc20 => ?_) (fun hc20 => ?_)
  ·
   refine wp_skip ?_
   refine n_then ?_
   refine c_seq ?_
   refine wp_block ?_
   refine c_seq ?_
   refine drawS (.step 0 0 (.step 0 1 (.step 0 2 (.step 0 3 (.step 0 4 (.step 0 5 (.step 0 6 (.step 0 7 (.step 0 8 (.step 2 9 .nil)))))))))) mixed H19 (by kernel_rfl) (by kernel_rfl) (by kernel_rfl) ?_
   intro w21 H22
   refine pt (v := I ((u : Nat) : Int)) rfl (fun wS HS => y_move s5_19) ?_
   refine pt (v := I ((u - 15 : Nat) : Int)) rfl (fun wS HS => n_sub (a := u) (b := 15) rfl rfl (by omega) (by omega)) ?_
   refine pt (v := Ad (bs g4) (0 + (u - 15) * 1)) rfl (fun wS HS => y_ixA (m := u - 15) Try.underlying138 sz135 s3_19 rfl rfl (by omega)) ?_
   refine pt (v := U32 ((ws b u).getD (u - 15) 0)) rfl (fun wS HS => y_load sc135 rfl (HS.cell 0 rfl (by simp only [Nat.zero_add, Nat.mul_one]; exact map_get U32 0 (by omega)))) ?_
   refine pt (v := I ((u : Nat) : Int)) rfl (fun wS HS => y_move s5_19) ?_
   refine pt (v := I ((u - 2 : Nat) : Int)) rfl (fun wS HS => n_sub (a := u) (b := 2) rfl rfl (by omega) (by omega)) ?_
   refine pt (v := Ad (bs g4) (0 + (u - 2) * 1)) rfl (fun wS HS => y_ixA (m := u - 2) Try.underlying138 sz135 s3_19 rfl rfl (by omega)) ?_
   refine pt (v := U32 ((ws b u).getD (u - 2) 0)) rfl (fun wS HS => y_load sc135 rfl (HS.cell 0 rfl (by simp only [Nat.zero_add, Nat.mul_one]; exact map_get U32 0 (by omega)))) ?_
   refine pt (v := U32 ((ws b u).getD (u - 15) 0)) rfl (fun wS HS => y_assign rfl) ?_
   refine tly (v := U32 ((ws b u).getD (u - 2) 0)) rfl (y_assign rfl) ?_
   refine p_nil ?_
   refine n_then ?_
   refine c_seq ?_
   refine c_reg ?_
   refine sy (v := U32 ((ws b u).getD (u - 15) 0)) (y_move rfl) ?_
   refine st (ow_call fn137 rfl (rturned_c ((ws b u).getD (u - 15) 0) 7 _ (by omega) (by omega)) ⟨rfl, rfl, trivial⟩) ?_
   rintro _ w23 ⟨rfl, hB24⟩
   have H25 : St w _ [_, _] w23 := H22.call hB24
   refine sy (v := U32 ((ws b u).getD (u - 15) 0)) (y_move rfl) ?_
   refine st (ow_call fn137 rfl (rturned_c ((ws b u).getD (u - 15) 0) 18 _ (by omega) (by omega)) ⟨rfl, rfl, trivial⟩) ?_
   rintro _ w26 ⟨rfl, hB27⟩
   have H28 : St w _ [_, _] w26 := H25.call hB27
   refine sy (v := U32 ((rotr ((ws b u).getD (u - 15) 0) 7) ^^^ (rotr ((ws b u).getD (u - 15) 0) 18))) (y_xor32 (a := rotr ((ws b u).getD (u - 15) 0) 7) (b := rotr ((ws b u).getD (u - 15) 0) 18) rfl rfl) ?_
   refine sy (v := U32 ((ws b u).getD (u - 15) 0)) (y_move rfl) ?_
   refine sy (v := U32 (((ws b u).getD (u - 15) 0) >>> UInt32.ofNat 3)) (n_shr32 (m := 3) (c := (ws b u).getD (u - 15) 0) rfl rfl (by omega)) ?_
   refine sy (v := U32 (((rotr ((ws b u).getD (u - 15) 0) 7) ^^^ (rotr ((ws b u).getD (u - 15) 0) 18)) ^^^ (((ws b u).getD (u - 15) 0) >>> UInt32.ofNat 3))) (y_xor32 (a := (rotr ((ws b u).getD (u - 15) 0) 7) ^^^ (rotr ((ws b u).getD (u - 15) 0) 18)) (b := ((ws b u).getD (u - 15) 0) >>> UInt32.ofNat 3) rfl rfl) ?_
   refine sy (v := U32 (((rotr ((ws b u).getD (u - 15) 0) 7) ^^^ (rotr ((ws b u).getD (u - 15) 0) 18)) ^^^ (((ws b u).getD (u - 15) 0) >>> UInt32.ofNat 3))) (y_assign rfl) ?_
   refine c_nil ?_
   refine n_then ?_
   refine c_seq ?_
   refine c_reg ?_
   refine sy (v := U32 ((ws b u).getD (u - 2) 0)) (y_move rfl) ?_
   refine st (ow_call fn137 rfl (rturned_c ((ws b u).getD (u - 2) 0) 17 _ (by omega) (by omega)) ⟨rfl, rfl, trivial⟩) ?_
   rintro _ w29 ⟨rfl, hB30⟩
   have H31 : St w _ [_, _] w29 := H28.call hB30
   refine sy (v := U32 ((ws b u).getD (u - 2) 0)) (y_move rfl) ?_
   refine st (ow_call fn137 rfl (rturned_c ((ws b u).getD (u - 2) 0) 19 _ (by omega) (by omega)) ⟨rfl, rfl, trivial⟩) ?_
   rintro _ w32 ⟨rfl, hB33⟩
   have H34 : St w _ [_, _] w32 := H31.call hB33
   refine sy (v := U32 ((rotr ((ws b u).getD (u - 2) 0) 17) ^^^ (rotr ((ws b u).getD (u - 2) 0) 19))) (y_xor32 (a := rotr ((ws b u).getD (u - 2) 0) 17) (b := rotr ((ws b u).getD (u - 2) 0) 19) rfl rfl) ?_
   refine sy (v := U32 ((ws b u).getD (u - 2) 0)) (y_move rfl) ?_
   refine sy (v := U32 (((ws b u).getD (u - 2) 0) >>> UInt32.ofNat 10)) (n_shr32 (m := 10) (c := (ws b u).getD (u - 2) 0) rfl rfl (by omega)) ?_
   refine sy (v := U32 (((rotr ((ws b u).getD (u - 2) 0) 17) ^^^ (rotr ((ws b u).getD (u - 2) 0) 19)) ^^^ (((ws b u).getD (u - 2) 0) >>> UInt32.ofNat 10))) (y_xor32 (a := (rotr ((ws b u).getD (u - 2) 0) 17) ^^^ (rotr ((ws b u).getD (u - 2) 0) 19)) (b := ((ws b u).getD (u - 2) 0) >>> UInt32.ofNat 10) rfl rfl) ?_
   refine sy (v := U32 (((rotr ((ws b u).getD (u - 2) 0) 17) ^^^ (rotr ((ws b u).getD (u - 2) 0) 19)) ^^^ (((ws b u).getD (u - 2) 0) >>> UInt32.ofNat 10))) (y_assign rfl) ?_
   refine c_nil ?_
   refine n_then ?_
   refine drawS (.step 0 0 (.step 0 1 (.step 0 2 (.step 0 3 (.step 0 4 (.step 0 5 (.step 0 6 (.step 0 7 (.step 0 8 (.step 0 9 (.step 0 10 (.step 0 11 (.step 0 12 (.step 0 13 (.step 2 14 (.step 2 15 .nil)))))))))))))))) mixed H34 (by kernel_rfl) (by kernel_rfl) (by kernel_rfl) ?_
   intro w35 H36
   refine pt (v := I ((u : Nat) : Int)) rfl (fun wS HS => y_move s5_19) ?_
   refine pt (v := I ((u : Nat) : Int)) rfl (fun wS HS => y_move s5_19) ?_
   refine pt (v := I ((u - 16 : Nat) : Int)) rfl (fun wS HS => n_sub (a := u) (b := 16) rfl rfl (by omega) (by omega)) ?_
   refine pt (v := Ad (bs g4) (0 + (u - 16) * 1)) rfl (fun wS HS => y_ixA (m := u - 16) Try.underlying138 sz135 s3_19 rfl rfl (by omega)) ?_
   refine pt (v := U32 ((ws b u).getD (u - 16) 0)) rfl (fun wS HS => y_load sc135 rfl (HS.cell 0 rfl (by simp only [Nat.zero_add, Nat.mul_one]; exact map_get U32 0 (by omega)))) ?_
   refine pt (v := U32 (((rotr ((ws b u).getD (u - 15) 0) 7) ^^^ (rotr ((ws b u).getD (u - 15) 0) 18)) ^^^ (((ws b u).getD (u - 15) 0) >>> UInt32.ofNat 3))) rfl (fun wS HS => y_move rfl) ?_
   refine pt (v := U32 (((ws b u).getD (u - 16) 0) + (((rotr ((ws b u).getD (u - 15) 0) 7) ^^^ (rotr ((ws b u).getD (u - 15) 0) 18)) ^^^ (((ws b u).getD (u - 15) 0) >>> UInt32.ofNat 3)))) rfl (fun wS HS => y_add32 (a := (ws b u).getD (u - 16) 0) (b := ((rotr ((ws b u).getD (u - 15) 0) 7) ^^^ (rotr ((ws b u).getD (u - 15) 0) 18)) ^^^ (((ws b u).getD (u - 15) 0) >>> UInt32.ofNat 3)) rfl rfl) ?_
   refine pt (v := I ((u : Nat) : Int)) rfl (fun wS HS => y_move s5_19) ?_
   refine pt (v := I ((u - 7 : Nat) : Int)) rfl (fun wS HS => n_sub (a := u) (b := 7) rfl rfl (by omega) (by omega)) ?_
   refine pt (v := Ad (bs g4) (0 + (u - 7) * 1)) rfl (fun wS HS => y_ixA (m := u - 7) Try.underlying138 sz135 s3_19 rfl rfl (by omega)) ?_
   refine pt (v := U32 ((ws b u).getD (u - 7) 0)) rfl (fun wS HS => y_load sc135 rfl (HS.cell 0 rfl (by simp only [Nat.zero_add, Nat.mul_one]; exact map_get U32 0 (by omega)))) ?_
   refine pt (v := U32 ((((ws b u).getD (u - 16) 0) + (((rotr ((ws b u).getD (u - 15) 0) 7) ^^^ (rotr ((ws b u).getD (u - 15) 0) 18)) ^^^ (((ws b u).getD (u - 15) 0) >>> UInt32.ofNat 3))) + ((ws b u).getD (u - 7) 0))) rfl (fun wS HS => y_add32 (a := ((ws b u).getD (u - 16) 0) + (((rotr ((ws b u).getD (u - 15) 0) 7) ^^^ (rotr ((ws b u).getD (u - 15) 0) 18)) ^^^ (((ws b u).getD (u - 15) 0) >>> UInt32.ofNat 3))) (b := (ws b u).getD (u - 7) 0) rfl rfl) ?_
   refine pt (v := U32 (((rotr ((ws b u).getD (u - 2) 0) 17) ^^^ (rotr ((ws b u).getD (u - 2) 0) 19)) ^^^ (((ws b u).getD (u - 2) 0) >>> UInt32.ofNat 10))) rfl (fun wS HS => y_move rfl) ?_
   refine pt (v := U32 (((((ws b u).getD (u - 16) 0) + (((rotr ((ws b u).getD (u - 15) 0) 7) ^^^ (rotr ((ws b u).getD (u - 15) 0) 18)) ^^^ (((ws b u).getD (u - 15) 0) >>> UInt32.ofNat 3))) + ((ws b u).getD (u - 7) 0)) + (((rotr ((ws b u).getD (u - 2) 0) 17) ^^^ (rotr ((ws b u).getD (u - 2) 0) 19)) ^^^ (((ws b u).getD (u - 2) 0) >>> UInt32.ofNat 10)))) rfl (fun wS HS => y_add32 (a := (((ws b u).getD (u - 16) 0) + (((rotr ((ws b u).getD (u - 15) 0) 7) ^^^ (rotr ((ws b u).getD (u - 15) 0) 18)) ^^^ (((ws b u).getD (u - 15) 0) >>> UInt32.ofNat 3))) + ((ws b u).getD (u - 7) 0)) (b := ((rotr ((ws b u).getD (u - 2) 0) 17) ^^^ (rotr ((ws b u).getD (u - 2) 0) 19)) ^^^ (((ws b u).getD (u - 2) 0) >>> UInt32.ofNat 10)) rfl rfl) ?_
   refine tly (v := Ad (bs g4) (0 + u * 1)) rfl (y_ixA (m := u) Try.underlying138 sz135 s3_19 rfl rfl (by omega)) ?_
   refine t0 rfl (ow_storeM (F := U32) (j := u) (fun _ => rfl) H36 sz135 rfl rfl (by omega) (by first | omega | (simp only [List.length_set]; omega))) ?_
   rintro _ w37 H38'
   have H38 : St w _ [[(g4, Rw 138 (((ws b u).set u (((((ws b u).getD (u - 16) 0) + (((rotr ((ws b u).getD (u - 15) 0) 7) ^^^ (rotr ((ws b u).getD (u - 15) 0) 18)) ^^^ (((ws b u).getD (u - 15) 0) >>> UInt32.ofNat 3))) + ((ws b u).getD (u - 7) 0)) + (((rotr ((ws b u).getD (u - 2) 0) 17) ^^^ (rotr ((ws b u).getD (u - 2) 0) 19)) ^^^ (((ws b u).getD (u - 2) 0) >>> UInt32.ofNat 10)))).map U32))], _] w37 := H38'
   refine p_nil ?_
   refine n_block (n_then ?_)
   refine c_reg ?_
   refine sy (v := I ((u : Nat) : Int)) (y_move s5_19) ?_
   refine sy (v := I ((u + 1 : Nat) : Int)) (n_add (a := u) (b := 1) rfl rfl (by omega)) ?_
   refine sy (v := I ((u + 1 : Nat) : Int)) (y_assign rfl) ?_
   refine c_nil ?_
   exact lp_next (u + 1) ⟨s2_19, s3_19, rfl, (by omega), (by omega), (H38.eq1 (by show _ = ((ws b u).set u (nextW b (ws b u) u)).map U32; unfold nextW; rw [if_neg (by omega)]; rfl))⟩ (by show _ < _; omega)
  ·
   obtain rfl : u = 64 := by omega
   refine wp_exit ?_
   refine x_then (x_then (x_hit (n_then ?_)))
   refine c_seq ?_
   refine c_reg ?_
   refine sy (v := .agg ((ws b 64).map U32).toArray) (y_loadA (us := (ws b 64).map U32) ag138 sz138 ((List.length_map _).trans (ws_length b 64)) s3_19 (fun j u hu => (H19.cell 0 rfl (by rw [Nat.zero_add]; exact hu)))) ?_
   have H39 : St w _ [_, _] w18 := H19.foc 1 rfl rfl
   refine s0 (ow_storeW (us := (ws b 64).map U32) H39 sz138 ((List.length_map _).trans (ws_length b 64)) s2_19 rfl (map_one (F := U32) (fun _ => rfl) _) ((List.length_map _).trans List.length_replicate)) ?_
   rintro _ w40 H41'
   have H41 : St w _ [[(g1, Rw 138 ((ws b 64).map U32))], _] w40 := H41'
   refine c_nil ?_
   refine n_then ?_
   refine wp_ret ?_
   refine e_r1 Try.results136 (rv_b H41 (i := 0) rfl ag138 sz138 ((List.length_map _).trans (ws_length b 64)) s2_19) ?_
   exact ⟨_, rfl, rfl, H41.below⟩

set_option maxHeartbeats 1600000 in
theorem rpiece_c (s : S8) (b : List UInt8) (v : Value) (w : World) (hb : b.length = 64) (hR : Rd [] w 1 v b.length (b.map B8)) :
    Calls Try.prog 117 (([.agg (s.list.map U32).toArray, v, .agg (kk.map U32).toArray] : List Value).toArray) w (fun e w' => ∃ v, e = .returned v ∧ v = .agg ((comp s b).list.map U32).toArray ∧ Below w.heap.size w w') := by
 have hkk : kk.length = 64 := rfl
 have hw64 := ws_length b 64
 refine calls_mk Try.func117 rfl 113 Try.ntmps117 rfl ?_
 have H0 : St w [] [] w := St.refl w
 refine c_seq ?_
 refine c_reg ?_
 refine st (ow_box (l := (s.list).map U32) H0 rfl rfl) ?_
 rintro _ w2 ⟨g1, rfl, H3⟩
 refine st (ow_box (l := (kk).map U32) H3 rfl rfl) ?_
 rintro _ w5 ⟨g4, rfl, H6⟩
 refine st (ow_alloc (l := (List.replicate 8 0).map U32) H6 zr136 (by simp [Value.cells])) ?_
 rintro _ w8 ⟨g7, rfl, H9⟩
 refine c_nil ?_
 refine n_then ?_
 refine c_seq ?_
 refine c_reg ?_
 refine sy (v := v) (y_move rfl) ?_
 refine st (ow_call fn136 rfl (words_c (b) (v) _ hb ((hR.st H9)).nil) ⟨rfl, trivial⟩) ?_
 rintro _ w10 ⟨rfl, hB11⟩
 have H12 : St w _ [_, _, _] w10 := H9.call hB11
 refine st (ow_alloc (l := (List.replicate 64 0).map U32) H12 zr138 (by simp [Value.cells])) ?_
 rintro _ w14 ⟨g13, rfl, H15⟩
 refine s0 (ow_storeW (us := (ws (b) 64).map U32) H15 sz138 ((List.length_map _).trans (ws_length _ _)) rfl rfl (map_one (F := U32) (fun _ => rfl) _) ((List.length_map _).trans List.length_replicate)) ?_
 rintro _ w16 H17'
 have H17 : St w _ [[(g13, Rw 138 ((ws (b) 64).map U32))], _, _, _] w16 := H17'
 refine c_nil ?_
 refine n_then ?_
 refine c_seq ?_
 refine c_reg ?_
 refine sy (v := .agg (s.list.map U32).toArray) (y_loadA (us := (s.list).map U32) ag136 sz136 ((List.length_map _).trans (rfl)) rfl (fun j u hu => (H17.cell 3 rfl (by rw [Nat.zero_add]; exact hu)))) ?_
 refine st (ow_alloc (l := (List.replicate 8 0).map U32) H17 zr136 (by simp [Value.cells])) ?_
 rintro _ w19 ⟨g18, rfl, H20⟩
 refine s0 (ow_storeW (us := (s.list).map U32) H20 sz136 ((List.length_map _).trans (rfl)) rfl rfl (map_one (F := U32) (fun _ => rfl) _) ((List.length_map _).trans List.length_replicate)) ?_
 rintro _ w21 H22'
 have H22 : St w _ [[(g18, Rw 136 ((s.list).map U32))], _, _, _, _] w21 := H22'
 refine c_nil ?_
 refine n_then ?_
 refine c_seq ?_
 refine c_seq ?_
 refine c_reg ?_
 refine sy (v := I ((0 : Nat) : Int)) (y_assign (v := I ((0 : Nat) : Int)) rfl) ?_
 refine c_nil ?_
 refine n_then ?_
 refine wp_block ?_
 refine c_loop (fun (k : Nat) f23 w24 => f23 3 = Ad (bs g1) (0) ∧ f23 5 = Ad (bs g4) (0) ∧ f23 6 = Ad (bs g7) (0) ∧ f23 7 = Ad (bs g13) (0) ∧ f23 8 = Ad (bs g18) (0) ∧ f23 9 = I ((k : Nat) : Int) ∧ k ≤ 64 ∧ St w [] [[(g18, Rw 136 ([U32 ((rn (ws b 64) s k).a), U32 ((rn (ws b 64) s k).b), U32 ((rn (ws b 64) s k).c), U32 ((rn (ws b 64) s k).d), U32 ((rn (ws b 64) s k).e), U32 ((rn (ws b 64) s k).f), U32 ((rn (ws b 64) s k).g), U32 ((rn (ws b 64) s k).h)]))], [(g13, Rw 138 ((ws (b) 64).map U32))], [(g7, Rw 136 ((List.replicate 8 0).map U32))], [(g4, Rw 138 ((kk).map U32))], [(g1, Rw 136 ((s.list).map U32))]] w24) (fun k => 64 - k) 0 ⟨rfl, rfl, rfl, rfl, rfl, rfl, (by omega), H22⟩ ?_
 rintro k f23 w24 ⟨s3_25, s5_25, s6_25, s7_25, s8_25, s9_25, hf0_25, H25⟩
 refine c_seq ?_
 refine c_seq ?_
 refine c_reg ?_
 refine sy (v := I ((k : Nat) : Int)) (y_move s9_25) ?_
 refine sy (v := .bool (decide (k < 64))) (n_lss (a := k) (b := 64) rfl rfl) ?_
 refine c_nil ?_
 refine n_then ?_
 refine c_if rfl (fun hc26 => ?_) (fun hc26 => ?_)
 ·
  refine wp_skip ?_
  refine n_then ?_
  refine c_seq ?_
  refine wp_block ?_
  refine c_seq ?_
  refine drawS (.step 0 0 (.step 0 1 (.step 0 2 (.step 0 3 (.step 0 4 (.step 2 5 .nil)))))) mixed H25 (by kernel_rfl) (by kernel_rfl) (by kernel_rfl) ?_
  intro w27 H28
  refine pt (v := Ad (bs g18) (0 + 0 * 1)) rfl (fun wS HS => y_ixA (m := 0) Try.underlying136 sz135 s8_25 rfl rfl (by omega)) ?_
  refine pt (v := U32 ((rn (ws b 64) s k).a)) rfl (fun wS HS => y_load sc135 rfl (HS.cell 0 rfl rfl)) ?_
  refine pt (v := Ad (bs g18) (0 + 4 * 1)) rfl (fun wS HS => y_ixA (m := 4) Try.underlying136 sz135 s8_25 rfl rfl (by omega)) ?_
  refine pt (v := U32 ((rn (ws b 64) s k).e)) rfl (fun wS HS => y_load sc135 rfl (HS.cell 0 rfl rfl)) ?_
  refine pt (v := U32 ((rn (ws b 64) s k).a)) rfl (fun wS HS => y_assign rfl) ?_
  refine tly (v := U32 ((rn (ws b 64) s k).e)) rfl (y_assign rfl) ?_
  refine p_nil ?_
  refine n_then ?_
  refine c_seq ?_
  refine drawS (.step 0 0 (.step 0 1 (.step 0 2 (.step 0 4 (.step 0 7 (.step 0 11 (.step 0 12 (.step 0 13 (.step 0 14 (.step 0 15 (.step 0 16 (.step 0 17 (.step 0 18 (.step 0 19 (.step 0 20 (.step 0 22 (.step 0 23 (.step 0 24 (.step 0 26 (.step 0 27 (.step 0 28 (.step 1 3 (.step 1 5 (.step 0 6 (.step 1 8 (.step 0 9 (.step 0 10 (.step 0 21 (.step 0 25 (.step 0 29 (.step 2 30 .nil))))))))))))))))))))))))))))))) mixed H28 (by kernel_rfl) (by kernel_rfl) (by kernel_rfl) ?_
  intro w29 H30
  refine pt (v := Ad (bs g18) (0 + 7 * 1)) rfl (fun wS HS => y_ixA (m := 7) Try.underlying136 sz135 s8_25 rfl rfl (by omega)) ?_
  refine pt (v := U32 ((rn (ws b 64) s k).h)) rfl (fun wS HS => y_load sc135 rfl (HS.cell 0 rfl rfl)) ?_
  refine pt (v := U32 ((rn (ws b 64) s k).e)) rfl (fun wS HS => y_move rfl) ?_
  refine pt (v := U32 ((rn (ws b 64) s k).e)) rfl (fun wS HS => y_move rfl) ?_
  refine pt (v := U32 ((rn (ws b 64) s k).e)) rfl (fun wS HS => y_move rfl) ?_
  refine pt (v := U32 ((rn (ws b 64) s k).e)) rfl (fun wS HS => y_move rfl) ?_
  refine pt (v := Ad (bs g18) (0 + 5 * 1)) rfl (fun wS HS => y_ixA (m := 5) Try.underlying136 sz135 s8_25 rfl rfl (by omega)) ?_
  refine pt (v := U32 ((rn (ws b 64) s k).f)) rfl (fun wS HS => y_load sc135 rfl (HS.cell 0 rfl rfl)) ?_
  refine pt (v := U32 (((rn (ws b 64) s k).e) &&& ((rn (ws b 64) s k).f))) rfl (fun wS HS => y_and32 (a := (rn (ws b 64) s k).e) (b := (rn (ws b 64) s k).f) rfl rfl) ?_
  refine pt (v := U32 ((rn (ws b 64) s k).e)) rfl (fun wS HS => y_move rfl) ?_
  refine pt (v := U32 (~~~((rn (ws b 64) s k).e))) rfl (fun wS HS => y_not32 rfl) ?_
  refine pt (v := Ad (bs g18) (0 + 6 * 1)) rfl (fun wS HS => y_ixA (m := 6) Try.underlying136 sz135 s8_25 rfl rfl (by omega)) ?_
  refine pt (v := U32 ((rn (ws b 64) s k).g)) rfl (fun wS HS => y_load sc135 rfl (HS.cell 0 rfl rfl)) ?_
  refine pt (v := U32 ((~~~((rn (ws b 64) s k).e)) &&& ((rn (ws b 64) s k).g))) rfl (fun wS HS => y_and32 (a := ~~~((rn (ws b 64) s k).e)) (b := (rn (ws b 64) s k).g) rfl rfl) ?_
  refine pt (v := U32 ((((rn (ws b 64) s k).e) &&& ((rn (ws b 64) s k).f)) ^^^ ((~~~((rn (ws b 64) s k).e)) &&& ((rn (ws b 64) s k).g)))) rfl (fun wS HS => y_xor32 (a := ((rn (ws b 64) s k).e) &&& ((rn (ws b 64) s k).f)) (b := (~~~((rn (ws b 64) s k).e)) &&& ((rn (ws b 64) s k).g)) rfl rfl) ?_
  refine pt (v := I ((k : Nat) : Int)) rfl (fun wS HS => y_move s9_25) ?_
  refine pt (v := Ad (bs g4) (0 + k * 1)) rfl (fun wS HS => y_ixA (m := k) Try.underlying138 sz135 s5_25 rfl rfl (by omega)) ?_
  refine pt (v := U32 (kk.getD k 0)) rfl (fun wS HS => y_load sc135 rfl (HS.cell 3 rfl (by simp only [Nat.zero_add, Nat.mul_one]; exact map_get U32 0 (by omega)))) ?_
  refine pt (v := I ((k : Nat) : Int)) rfl (fun wS HS => y_move s9_25) ?_
  refine pt (v := Ad (bs g13) (0 + k * 1)) rfl (fun wS HS => y_ixA (m := k) Try.underlying138 sz135 s7_25 rfl rfl (by omega)) ?_
  refine pt (v := U32 ((ws b 64).getD k 0)) rfl (fun wS HS => y_load sc135 rfl (HS.cell 1 rfl (by simp only [Nat.zero_add, Nat.mul_one]; exact map_get U32 0 (by omega)))) ?_
  refine pl rfl (ow_call fn137 rfl (rturned_c ((rn (ws b 64) s k).e) 6 _ (by omega) (by omega)) ⟨rfl, rfl, trivial⟩) ?_
  rintro _ w31 ⟨rfl, hB32⟩
  have H33 : St w _ [_, _, _, _, _] w31 := H30.call hB32
  refine ⟨H33, ?_⟩
  refine pl rfl (ow_call fn137 rfl (rturned_c ((rn (ws b 64) s k).e) 11 _ (by omega) (by omega)) ⟨rfl, rfl, trivial⟩) ?_
  rintro _ w34 ⟨rfl, hB35⟩
  have H36 : St w _ [_, _, _, _, _] w34 := H33.call hB35
  refine ⟨H36, ?_⟩
  refine pt (v := U32 ((rotr ((rn (ws b 64) s k).e) 6) ^^^ (rotr ((rn (ws b 64) s k).e) 11))) rfl (fun wS HS => y_xor32 (a := rotr ((rn (ws b 64) s k).e) 6) (b := rotr ((rn (ws b 64) s k).e) 11) rfl rfl) ?_
  refine pl rfl (ow_call fn137 rfl (rturned_c ((rn (ws b 64) s k).e) 25 _ (by omega) (by omega)) ⟨rfl, rfl, trivial⟩) ?_
  rintro _ w37 ⟨rfl, hB38⟩
  have H39 : St w _ [_, _, _, _, _] w37 := H36.call hB38
  refine ⟨H39, ?_⟩
  refine pt (v := U32 (((rotr ((rn (ws b 64) s k).e) 6) ^^^ (rotr ((rn (ws b 64) s k).e) 11)) ^^^ (rotr ((rn (ws b 64) s k).e) 25))) rfl (fun wS HS => y_xor32 (a := (rotr ((rn (ws b 64) s k).e) 6) ^^^ (rotr ((rn (ws b 64) s k).e) 11)) (b := rotr ((rn (ws b 64) s k).e) 25) rfl rfl) ?_
  refine pt (v := U32 (((rn (ws b 64) s k).h) + (((rotr ((rn (ws b 64) s k).e) 6) ^^^ (rotr ((rn (ws b 64) s k).e) 11)) ^^^ (rotr ((rn (ws b 64) s k).e) 25)))) rfl (fun wS HS => y_add32 (a := (rn (ws b 64) s k).h) (b := ((rotr ((rn (ws b 64) s k).e) 6) ^^^ (rotr ((rn (ws b 64) s k).e) 11)) ^^^ (rotr ((rn (ws b 64) s k).e) 25)) rfl rfl) ?_
  refine pt (v := U32 ((((rn (ws b 64) s k).h) + (((rotr ((rn (ws b 64) s k).e) 6) ^^^ (rotr ((rn (ws b 64) s k).e) 11)) ^^^ (rotr ((rn (ws b 64) s k).e) 25))) + ((((rn (ws b 64) s k).e) &&& ((rn (ws b 64) s k).f)) ^^^ ((~~~((rn (ws b 64) s k).e)) &&& ((rn (ws b 64) s k).g))))) rfl (fun wS HS => y_add32 (a := ((rn (ws b 64) s k).h) + (((rotr ((rn (ws b 64) s k).e) 6) ^^^ (rotr ((rn (ws b 64) s k).e) 11)) ^^^ (rotr ((rn (ws b 64) s k).e) 25))) (b := (((rn (ws b 64) s k).e) &&& ((rn (ws b 64) s k).f)) ^^^ ((~~~((rn (ws b 64) s k).e)) &&& ((rn (ws b 64) s k).g))) rfl rfl) ?_
  refine pt (v := U32 (((((rn (ws b 64) s k).h) + (((rotr ((rn (ws b 64) s k).e) 6) ^^^ (rotr ((rn (ws b 64) s k).e) 11)) ^^^ (rotr ((rn (ws b 64) s k).e) 25))) + ((((rn (ws b 64) s k).e) &&& ((rn (ws b 64) s k).f)) ^^^ ((~~~((rn (ws b 64) s k).e)) &&& ((rn (ws b 64) s k).g)))) + (kk.getD k 0))) rfl (fun wS HS => y_add32 (a := (((rn (ws b 64) s k).h) + (((rotr ((rn (ws b 64) s k).e) 6) ^^^ (rotr ((rn (ws b 64) s k).e) 11)) ^^^ (rotr ((rn (ws b 64) s k).e) 25))) + ((((rn (ws b 64) s k).e) &&& ((rn (ws b 64) s k).f)) ^^^ ((~~~((rn (ws b 64) s k).e)) &&& ((rn (ws b 64) s k).g)))) (b := kk.getD k 0) rfl rfl) ?_
  refine pt (v := U32 ((((((rn (ws b 64) s k).h) + (((rotr ((rn (ws b 64) s k).e) 6) ^^^ (rotr ((rn (ws b 64) s k).e) 11)) ^^^ (rotr ((rn (ws b 64) s k).e) 25))) + ((((rn (ws b 64) s k).e) &&& ((rn (ws b 64) s k).f)) ^^^ ((~~~((rn (ws b 64) s k).e)) &&& ((rn (ws b 64) s k).g)))) + (kk.getD k 0)) + ((ws b 64).getD k 0))) rfl (fun wS HS => y_add32 (a := ((((rn (ws b 64) s k).h) + (((rotr ((rn (ws b 64) s k).e) 6) ^^^ (rotr ((rn (ws b 64) s k).e) 11)) ^^^ (rotr ((rn (ws b 64) s k).e) 25))) + ((((rn (ws b 64) s k).e) &&& ((rn (ws b 64) s k).f)) ^^^ ((~~~((rn (ws b 64) s k).e)) &&& ((rn (ws b 64) s k).g)))) + (kk.getD k 0)) (b := (ws b 64).getD k 0) rfl rfl) ?_
  refine tly (v := U32 ((((((rn (ws b 64) s k).h) + (((rotr ((rn (ws b 64) s k).e) 6) ^^^ (rotr ((rn (ws b 64) s k).e) 11)) ^^^ (rotr ((rn (ws b 64) s k).e) 25))) + ((((rn (ws b 64) s k).e) &&& ((rn (ws b 64) s k).f)) ^^^ ((~~~((rn (ws b 64) s k).e)) &&& ((rn (ws b 64) s k).g)))) + (kk.getD k 0)) + ((ws b 64).getD k 0))) rfl (y_assign rfl) ?_
  refine p_nil ?_
  refine n_then ?_
  refine c_seq ?_
  refine drawS (.step 0 0 (.step 0 2 (.step 0 5 (.step 0 8 (.step 0 9 (.step 0 10 (.step 0 11 (.step 0 12 (.step 0 13 (.step 0 14 (.step 0 15 (.step 0 16 (.step 0 17 (.step 0 18 (.step 0 19 (.step 0 20 (.step 0 21 (.step 0 22 (.step 1 1 (.step 1 3 (.step 0 4 (.step 1 6 (.step 0 7 (.step 0 23 (.step 2 24 .nil))))))))))))))))))))))))) mixed H39 (by kernel_rfl) (by kernel_rfl) (by kernel_rfl) ?_
  intro w40 H41
  refine pt (v := U32 ((rn (ws b 64) s k).a)) rfl (fun wS HS => y_move rfl) ?_
  refine pt (v := U32 ((rn (ws b 64) s k).a)) rfl (fun wS HS => y_move rfl) ?_
  refine pt (v := U32 ((rn (ws b 64) s k).a)) rfl (fun wS HS => y_move rfl) ?_
  refine pt (v := U32 ((rn (ws b 64) s k).a)) rfl (fun wS HS => y_move rfl) ?_
  refine pt (v := Ad (bs g18) (0 + 1 * 1)) rfl (fun wS HS => y_ixA (m := 1) Try.underlying136 sz135 s8_25 rfl rfl (by omega)) ?_
  refine pt (v := U32 ((rn (ws b 64) s k).b)) rfl (fun wS HS => y_load sc135 rfl (HS.cell 0 rfl rfl)) ?_
  refine pt (v := U32 (((rn (ws b 64) s k).a) &&& ((rn (ws b 64) s k).b))) rfl (fun wS HS => y_and32 (a := (rn (ws b 64) s k).a) (b := (rn (ws b 64) s k).b) rfl rfl) ?_
  refine pt (v := U32 ((rn (ws b 64) s k).a)) rfl (fun wS HS => y_move rfl) ?_
  refine pt (v := Ad (bs g18) (0 + 2 * 1)) rfl (fun wS HS => y_ixA (m := 2) Try.underlying136 sz135 s8_25 rfl rfl (by omega)) ?_
  refine pt (v := U32 ((rn (ws b 64) s k).c)) rfl (fun wS HS => y_load sc135 rfl (HS.cell 0 rfl rfl)) ?_
  refine pt (v := U32 (((rn (ws b 64) s k).a) &&& ((rn (ws b 64) s k).c))) rfl (fun wS HS => y_and32 (a := (rn (ws b 64) s k).a) (b := (rn (ws b 64) s k).c) rfl rfl) ?_
  refine pt (v := U32 ((((rn (ws b 64) s k).a) &&& ((rn (ws b 64) s k).b)) ^^^ (((rn (ws b 64) s k).a) &&& ((rn (ws b 64) s k).c)))) rfl (fun wS HS => y_xor32 (a := ((rn (ws b 64) s k).a) &&& ((rn (ws b 64) s k).b)) (b := ((rn (ws b 64) s k).a) &&& ((rn (ws b 64) s k).c)) rfl rfl) ?_
  refine pt (v := Ad (bs g18) (0 + 1 * 1)) rfl (fun wS HS => y_ixA (m := 1) Try.underlying136 sz135 s8_25 rfl rfl (by omega)) ?_
  refine pt (v := U32 ((rn (ws b 64) s k).b)) rfl (fun wS HS => y_load sc135 rfl (HS.cell 0 rfl rfl)) ?_
  refine pt (v := Ad (bs g18) (0 + 2 * 1)) rfl (fun wS HS => y_ixA (m := 2) Try.underlying136 sz135 s8_25 rfl rfl (by omega)) ?_
  refine pt (v := U32 ((rn (ws b 64) s k).c)) rfl (fun wS HS => y_load sc135 rfl (HS.cell 0 rfl rfl)) ?_
  refine pt (v := U32 (((rn (ws b 64) s k).b) &&& ((rn (ws b 64) s k).c))) rfl (fun wS HS => y_and32 (a := (rn (ws b 64) s k).b) (b := (rn (ws b 64) s k).c) rfl rfl) ?_
  refine pt (v := U32 (((((rn (ws b 64) s k).a) &&& ((rn (ws b 64) s k).b)) ^^^ (((rn (ws b 64) s k).a) &&& ((rn (ws b 64) s k).c))) ^^^ (((rn (ws b 64) s k).b) &&& ((rn (ws b 64) s k).c)))) rfl (fun wS HS => y_xor32 (a := (((rn (ws b 64) s k).a) &&& ((rn (ws b 64) s k).b)) ^^^ (((rn (ws b 64) s k).a) &&& ((rn (ws b 64) s k).c))) (b := ((rn (ws b 64) s k).b) &&& ((rn (ws b 64) s k).c)) rfl rfl) ?_
  refine pl rfl (ow_call fn137 rfl (rturned_c ((rn (ws b 64) s k).a) 2 _ (by omega) (by omega)) ⟨rfl, rfl, trivial⟩) ?_
  rintro _ w42 ⟨rfl, hB43⟩
  have H44 : St w _ [_, _, _, _, _] w42 := H41.call hB43
  refine ⟨H44, ?_⟩
  refine pl rfl (ow_call fn137 rfl (rturned_c ((rn (ws b 64) s k).a) 13 _ (by omega) (by omega)) ⟨rfl, rfl, trivial⟩) ?_
  rintro _ w45 ⟨rfl, hB46⟩
  have H47 : St w _ [_, _, _, _, _] w45 := H44.call hB46
  refine ⟨H47, ?_⟩
  refine pt (v := U32 ((rotr ((rn (ws b 64) s k).a) 2) ^^^ (rotr ((rn (ws b 64) s k).a) 13))) rfl (fun wS HS => y_xor32 (a := rotr ((rn (ws b 64) s k).a) 2) (b := rotr ((rn (ws b 64) s k).a) 13) rfl rfl) ?_
  refine pl rfl (ow_call fn137 rfl (rturned_c ((rn (ws b 64) s k).a) 22 _ (by omega) (by omega)) ⟨rfl, rfl, trivial⟩) ?_
  rintro _ w48 ⟨rfl, hB49⟩
  have H50 : St w _ [_, _, _, _, _] w48 := H47.call hB49
  refine ⟨H50, ?_⟩
  refine pt (v := U32 (((rotr ((rn (ws b 64) s k).a) 2) ^^^ (rotr ((rn (ws b 64) s k).a) 13)) ^^^ (rotr ((rn (ws b 64) s k).a) 22))) rfl (fun wS HS => y_xor32 (a := (rotr ((rn (ws b 64) s k).a) 2) ^^^ (rotr ((rn (ws b 64) s k).a) 13)) (b := rotr ((rn (ws b 64) s k).a) 22) rfl rfl) ?_
  refine pt (v := U32 ((((rotr ((rn (ws b 64) s k).a) 2) ^^^ (rotr ((rn (ws b 64) s k).a) 13)) ^^^ (rotr ((rn (ws b 64) s k).a) 22)) + (((((rn (ws b 64) s k).a) &&& ((rn (ws b 64) s k).b)) ^^^ (((rn (ws b 64) s k).a) &&& ((rn (ws b 64) s k).c))) ^^^ (((rn (ws b 64) s k).b) &&& ((rn (ws b 64) s k).c))))) rfl (fun wS HS => y_add32 (a := ((rotr ((rn (ws b 64) s k).a) 2) ^^^ (rotr ((rn (ws b 64) s k).a) 13)) ^^^ (rotr ((rn (ws b 64) s k).a) 22)) (b := ((((rn (ws b 64) s k).a) &&& ((rn (ws b 64) s k).b)) ^^^ (((rn (ws b 64) s k).a) &&& ((rn (ws b 64) s k).c))) ^^^ (((rn (ws b 64) s k).b) &&& ((rn (ws b 64) s k).c))) rfl rfl) ?_
  refine tly (v := U32 ((((rotr ((rn (ws b 64) s k).a) 2) ^^^ (rotr ((rn (ws b 64) s k).a) 13)) ^^^ (rotr ((rn (ws b 64) s k).a) 22)) + (((((rn (ws b 64) s k).a) &&& ((rn (ws b 64) s k).b)) ^^^ (((rn (ws b 64) s k).a) &&& ((rn (ws b 64) s k).c))) ^^^ (((rn (ws b 64) s k).b) &&& ((rn (ws b 64) s k).c))))) rfl (y_assign rfl) ?_
  refine p_nil ?_
  refine n_then ?_
  refine c_reg ?_
  refine sy (v := U32 ((((((rn (ws b 64) s k).h) + (((rotr ((rn (ws b 64) s k).e) 6) ^^^ (rotr ((rn (ws b 64) s k).e) 11)) ^^^ (rotr ((rn (ws b 64) s k).e) 25))) + ((((rn (ws b 64) s k).e) &&& ((rn (ws b 64) s k).f)) ^^^ ((~~~((rn (ws b 64) s k).e)) &&& ((rn (ws b 64) s k).g)))) + (kk.getD k 0)) + ((ws b 64).getD k 0))) (y_move rfl) ?_
  refine sy (v := U32 ((((rotr ((rn (ws b 64) s k).a) 2) ^^^ (rotr ((rn (ws b 64) s k).a) 13)) ^^^ (rotr ((rn (ws b 64) s k).a) 22)) + (((((rn (ws b 64) s k).a) &&& ((rn (ws b 64) s k).b)) ^^^ (((rn (ws b 64) s k).a) &&& ((rn (ws b 64) s k).c))) ^^^ (((rn (ws b 64) s k).b) &&& ((rn (ws b 64) s k).c))))) (y_move rfl) ?_
  refine sy (v := U32 (((((((rn (ws b 64) s k).h) + (((rotr ((rn (ws b 64) s k).e) 6) ^^^ (rotr ((rn (ws b 64) s k).e) 11)) ^^^ (rotr ((rn (ws b 64) s k).e) 25))) + ((((rn (ws b 64) s k).e) &&& ((rn (ws b 64) s k).f)) ^^^ ((~~~((rn (ws b 64) s k).e)) &&& ((rn (ws b 64) s k).g)))) + (kk.getD k 0)) + ((ws b 64).getD k 0)) + ((((rotr ((rn (ws b 64) s k).a) 2) ^^^ (rotr ((rn (ws b 64) s k).a) 13)) ^^^ (rotr ((rn (ws b 64) s k).a) 22)) + (((((rn (ws b 64) s k).a) &&& ((rn (ws b 64) s k).b)) ^^^ (((rn (ws b 64) s k).a) &&& ((rn (ws b 64) s k).c))) ^^^ (((rn (ws b 64) s k).b) &&& ((rn (ws b 64) s k).c)))))) (y_add32 (a := (((((rn (ws b 64) s k).h) + (((rotr ((rn (ws b 64) s k).e) 6) ^^^ (rotr ((rn (ws b 64) s k).e) 11)) ^^^ (rotr ((rn (ws b 64) s k).e) 25))) + ((((rn (ws b 64) s k).e) &&& ((rn (ws b 64) s k).f)) ^^^ ((~~~((rn (ws b 64) s k).e)) &&& ((rn (ws b 64) s k).g)))) + (kk.getD k 0)) + ((ws b 64).getD k 0)) (b := (((rotr ((rn (ws b 64) s k).a) 2) ^^^ (rotr ((rn (ws b 64) s k).a) 13)) ^^^ (rotr ((rn (ws b 64) s k).a) 22)) + (((((rn (ws b 64) s k).a) &&& ((rn (ws b 64) s k).b)) ^^^ (((rn (ws b 64) s k).a) &&& ((rn (ws b 64) s k).c))) ^^^ (((rn (ws b 64) s k).b) &&& ((rn (ws b 64) s k).c)))) rfl rfl) ?_
  refine sy (v := Ad (bs g18) (0 + 0 * 1)) (y_ixA (m := 0) Try.underlying136 sz135 s8_25 rfl rfl (by omega)) ?_
  refine sy (v := U32 ((rn (ws b 64) s k).a)) (y_load sc135 rfl (H50.cell 0 rfl rfl)) ?_
  refine sy (v := Ad (bs g18) (0 + 1 * 1)) (y_ixA (m := 1) Try.underlying136 sz135 s8_25 rfl rfl (by omega)) ?_
  refine sy (v := U32 ((rn (ws b 64) s k).b)) (y_load sc135 rfl (H50.cell 0 rfl rfl)) ?_
  refine sy (v := Ad (bs g18) (0 + 2 * 1)) (y_ixA (m := 2) Try.underlying136 sz135 s8_25 rfl rfl (by omega)) ?_
  refine sy (v := U32 ((rn (ws b 64) s k).c)) (y_load sc135 rfl (H50.cell 0 rfl rfl)) ?_
  refine sy (v := Ad (bs g18) (0 + 3 * 1)) (y_ixA (m := 3) Try.underlying136 sz135 s8_25 rfl rfl (by omega)) ?_
  refine sy (v := U32 ((rn (ws b 64) s k).d)) (y_load sc135 rfl (H50.cell 0 rfl rfl)) ?_
  refine sy (v := U32 ((((((rn (ws b 64) s k).h) + (((rotr ((rn (ws b 64) s k).e) 6) ^^^ (rotr ((rn (ws b 64) s k).e) 11)) ^^^ (rotr ((rn (ws b 64) s k).e) 25))) + ((((rn (ws b 64) s k).e) &&& ((rn (ws b 64) s k).f)) ^^^ ((~~~((rn (ws b 64) s k).e)) &&& ((rn (ws b 64) s k).g)))) + (kk.getD k 0)) + ((ws b 64).getD k 0))) (y_move rfl) ?_
  refine sy (v := U32 (((rn (ws b 64) s k).d) + ((((((rn (ws b 64) s k).h) + (((rotr ((rn (ws b 64) s k).e) 6) ^^^ (rotr ((rn (ws b 64) s k).e) 11)) ^^^ (rotr ((rn (ws b 64) s k).e) 25))) + ((((rn (ws b 64) s k).e) &&& ((rn (ws b 64) s k).f)) ^^^ ((~~~((rn (ws b 64) s k).e)) &&& ((rn (ws b 64) s k).g)))) + (kk.getD k 0)) + ((ws b 64).getD k 0)))) (y_add32 (a := (rn (ws b 64) s k).d) (b := (((((rn (ws b 64) s k).h) + (((rotr ((rn (ws b 64) s k).e) 6) ^^^ (rotr ((rn (ws b 64) s k).e) 11)) ^^^ (rotr ((rn (ws b 64) s k).e) 25))) + ((((rn (ws b 64) s k).e) &&& ((rn (ws b 64) s k).f)) ^^^ ((~~~((rn (ws b 64) s k).e)) &&& ((rn (ws b 64) s k).g)))) + (kk.getD k 0)) + ((ws b 64).getD k 0)) rfl rfl) ?_
  refine sy (v := Ad (bs g18) (0 + 4 * 1)) (y_ixA (m := 4) Try.underlying136 sz135 s8_25 rfl rfl (by omega)) ?_
  refine sy (v := U32 ((rn (ws b 64) s k).e)) (y_load sc135 rfl (H50.cell 0 rfl rfl)) ?_
  refine sy (v := Ad (bs g18) (0 + 5 * 1)) (y_ixA (m := 5) Try.underlying136 sz135 s8_25 rfl rfl (by omega)) ?_
  refine sy (v := U32 ((rn (ws b 64) s k).f)) (y_load sc135 rfl (H50.cell 0 rfl rfl)) ?_
  refine sy (v := Ad (bs g18) (0 + 6 * 1)) (y_ixA (m := 6) Try.underlying136 sz135 s8_25 rfl rfl (by omega)) ?_
  refine sy (v := U32 ((rn (ws b 64) s k).g)) (y_load sc135 rfl (H50.cell 0 rfl rfl)) ?_
  refine sy (v := .agg (([((((((rn (ws b 64) s k).h) + (((rotr ((rn (ws b 64) s k).e) 6) ^^^ (rotr ((rn (ws b 64) s k).e) 11)) ^^^ (rotr ((rn (ws b 64) s k).e) 25))) + ((((rn (ws b 64) s k).e) &&& ((rn (ws b 64) s k).f)) ^^^ ((~~~((rn (ws b 64) s k).e)) &&& ((rn (ws b 64) s k).g)))) + (kk.getD k 0)) + ((ws b 64).getD k 0)) + ((((rotr ((rn (ws b 64) s k).a) 2) ^^^ (rotr ((rn (ws b 64) s k).a) 13)) ^^^ (rotr ((rn (ws b 64) s k).a) 22)) + (((((rn (ws b 64) s k).a) &&& ((rn (ws b 64) s k).b)) ^^^ (((rn (ws b 64) s k).a) &&& ((rn (ws b 64) s k).c))) ^^^ (((rn (ws b 64) s k).b) &&& ((rn (ws b 64) s k).c)))), (rn (ws b 64) s k).a, (rn (ws b 64) s k).b, (rn (ws b 64) s k).c, ((rn (ws b 64) s k).d) + ((((((rn (ws b 64) s k).h) + (((rotr ((rn (ws b 64) s k).e) 6) ^^^ (rotr ((rn (ws b 64) s k).e) 11)) ^^^ (rotr ((rn (ws b 64) s k).e) 25))) + ((((rn (ws b 64) s k).e) &&& ((rn (ws b 64) s k).f)) ^^^ ((~~~((rn (ws b 64) s k).e)) &&& ((rn (ws b 64) s k).g)))) + (kk.getD k 0)) + ((ws b 64).getD k 0)), (rn (ws b 64) s k).e, (rn (ws b 64) s k).f, (rn (ws b 64) s k).g]).map U32).toArray) (y_build (pv := [(0, U32 (((((((rn (ws b 64) s k).h) + (((rotr ((rn (ws b 64) s k).e) 6) ^^^ (rotr ((rn (ws b 64) s k).e) 11)) ^^^ (rotr ((rn (ws b 64) s k).e) 25))) + ((((rn (ws b 64) s k).e) &&& ((rn (ws b 64) s k).f)) ^^^ ((~~~((rn (ws b 64) s k).e)) &&& ((rn (ws b 64) s k).g)))) + (kk.getD k 0)) + ((ws b 64).getD k 0)) + ((((rotr ((rn (ws b 64) s k).a) 2) ^^^ (rotr ((rn (ws b 64) s k).a) 13)) ^^^ (rotr ((rn (ws b 64) s k).a) 22)) + (((((rn (ws b 64) s k).a) &&& ((rn (ws b 64) s k).b)) ^^^ (((rn (ws b 64) s k).a) &&& ((rn (ws b 64) s k).c))) ^^^ (((rn (ws b 64) s k).b) &&& ((rn (ws b 64) s k).c)))))), (1, U32 ((rn (ws b 64) s k).a)), (2, U32 ((rn (ws b 64) s k).b)), (3, U32 ((rn (ws b 64) s k).c)), (4, U32 (((rn (ws b 64) s k).d) + ((((((rn (ws b 64) s k).h) + (((rotr ((rn (ws b 64) s k).e) 6) ^^^ (rotr ((rn (ws b 64) s k).e) 11)) ^^^ (rotr ((rn (ws b 64) s k).e) 25))) + ((((rn (ws b 64) s k).e) &&& ((rn (ws b 64) s k).f)) ^^^ ((~~~((rn (ws b 64) s k).e)) &&& ((rn (ws b 64) s k).g)))) + (kk.getD k 0)) + ((ws b 64).getD k 0)))), (5, U32 ((rn (ws b 64) s k).e)), (6, U32 ((rn (ws b 64) s k).f)), (7, U32 ((rn (ws b 64) s k).g))]) (us := ([((((((rn (ws b 64) s k).h) + (((rotr ((rn (ws b 64) s k).e) 6) ^^^ (rotr ((rn (ws b 64) s k).e) 11)) ^^^ (rotr ((rn (ws b 64) s k).e) 25))) + ((((rn (ws b 64) s k).e) &&& ((rn (ws b 64) s k).f)) ^^^ ((~~~((rn (ws b 64) s k).e)) &&& ((rn (ws b 64) s k).g)))) + (kk.getD k 0)) + ((ws b 64).getD k 0)) + ((((rotr ((rn (ws b 64) s k).a) 2) ^^^ (rotr ((rn (ws b 64) s k).a) 13)) ^^^ (rotr ((rn (ws b 64) s k).a) 22)) + (((((rn (ws b 64) s k).a) &&& ((rn (ws b 64) s k).b)) ^^^ (((rn (ws b 64) s k).a) &&& ((rn (ws b 64) s k).c))) ^^^ (((rn (ws b 64) s k).b) &&& ((rn (ws b 64) s k).c)))), (rn (ws b 64) s k).a, (rn (ws b 64) s k).b, (rn (ws b 64) s k).c, ((rn (ws b 64) s k).d) + ((((((rn (ws b 64) s k).h) + (((rotr ((rn (ws b 64) s k).e) 6) ^^^ (rotr ((rn (ws b 64) s k).e) 11)) ^^^ (rotr ((rn (ws b 64) s k).e) 25))) + ((((rn (ws b 64) s k).e) &&& ((rn (ws b 64) s k).f)) ^^^ ((~~~((rn (ws b 64) s k).e)) &&& ((rn (ws b 64) s k).g)))) + (kk.getD k 0)) + ((ws b 64).getD k 0)), (rn (ws b 64) s k).e, (rn (ws b 64) s k).f, (rn (ws b 64) s k).g]).map U32) ⟨⟨rfl, rfl⟩, ⟨rfl, rfl⟩, ⟨rfl, rfl⟩, ⟨rfl, rfl⟩, ⟨rfl, rfl⟩, ⟨rfl, rfl⟩, ⟨rfl, rfl⟩, ⟨rfl, rfl⟩, trivial⟩ (by kernel_rfl)) ?_
  refine s0 (ow_storeW (us := ([((((((rn (ws b 64) s k).h) + (((rotr ((rn (ws b 64) s k).e) 6) ^^^ (rotr ((rn (ws b 64) s k).e) 11)) ^^^ (rotr ((rn (ws b 64) s k).e) 25))) + ((((rn (ws b 64) s k).e) &&& ((rn (ws b 64) s k).f)) ^^^ ((~~~((rn (ws b 64) s k).e)) &&& ((rn (ws b 64) s k).g)))) + (kk.getD k 0)) + ((ws b 64).getD k 0)) + ((((rotr ((rn (ws b 64) s k).a) 2) ^^^ (rotr ((rn (ws b 64) s k).a) 13)) ^^^ (rotr ((rn (ws b 64) s k).a) 22)) + (((((rn (ws b 64) s k).a) &&& ((rn (ws b 64) s k).b)) ^^^ (((rn (ws b 64) s k).a) &&& ((rn (ws b 64) s k).c))) ^^^ (((rn (ws b 64) s k).b) &&& ((rn (ws b 64) s k).c)))), (rn (ws b 64) s k).a, (rn (ws b 64) s k).b, (rn (ws b 64) s k).c, ((rn (ws b 64) s k).d) + ((((((rn (ws b 64) s k).h) + (((rotr ((rn (ws b 64) s k).e) 6) ^^^ (rotr ((rn (ws b 64) s k).e) 11)) ^^^ (rotr ((rn (ws b 64) s k).e) 25))) + ((((rn (ws b 64) s k).e) &&& ((rn (ws b 64) s k).f)) ^^^ ((~~~((rn (ws b 64) s k).e)) &&& ((rn (ws b 64) s k).g)))) + (kk.getD k 0)) + ((ws b 64).getD k 0)), (rn (ws b 64) s k).e, (rn (ws b 64) s k).f, (rn (ws b 64) s k).g]).map U32) H50 sz136 (by simp [*]) s8_25 rfl (map_one (F := U32) (fun _ => rfl) _) (by simp [*])) ?_
  rintro _ w51 H52'
  have H52 : St w _ [[(g18, Rw 136 (([((((((rn (ws b 64) s k).h) + (((rotr ((rn (ws b 64) s k).e) 6) ^^^ (rotr ((rn (ws b 64) s k).e) 11)) ^^^ (rotr ((rn (ws b 64) s k).e) 25))) + ((((rn (ws b 64) s k).e) &&& ((rn (ws b 64) s k).f)) ^^^ ((~~~((rn (ws b 64) s k).e)) &&& ((rn (ws b 64) s k).g)))) + (kk.getD k 0)) + ((ws b 64).getD k 0)) + ((((rotr ((rn (ws b 64) s k).a) 2) ^^^ (rotr ((rn (ws b 64) s k).a) 13)) ^^^ (rotr ((rn (ws b 64) s k).a) 22)) + (((((rn (ws b 64) s k).a) &&& ((rn (ws b 64) s k).b)) ^^^ (((rn (ws b 64) s k).a) &&& ((rn (ws b 64) s k).c))) ^^^ (((rn (ws b 64) s k).b) &&& ((rn (ws b 64) s k).c)))), (rn (ws b 64) s k).a, (rn (ws b 64) s k).b, (rn (ws b 64) s k).c, ((rn (ws b 64) s k).d) + ((((((rn (ws b 64) s k).h) + (((rotr ((rn (ws b 64) s k).e) 6) ^^^ (rotr ((rn (ws b 64) s k).e) 11)) ^^^ (rotr ((rn (ws b 64) s k).e) 25))) + ((((rn (ws b 64) s k).e) &&& ((rn (ws b 64) s k).f)) ^^^ ((~~~((rn (ws b 64) s k).e)) &&& ((rn (ws b 64) s k).g)))) + (kk.getD k 0)) + ((ws b 64).getD k 0)), (rn (ws b 64) s k).e, (rn (ws b 64) s k).f, (rn (ws b 64) s k).g]).map U32))], _, _, _, _] w51 := H52'
  refine c_nil ?_
  refine n_block (n_then ?_)
  refine c_reg ?_
  refine sy (v := I ((k : Nat) : Int)) (y_move s9_25) ?_
  refine sy (v := I ((k + 1 : Nat) : Int)) (n_add (a := k) (b := 1) rfl rfl (by omega)) ?_
  refine sy (v := I ((k + 1 : Nat) : Int)) (y_assign rfl) ?_
  refine c_nil ?_
  exact lp_next (k + 1) ⟨s3_25, s5_25, s6_25, s7_25, s8_25, rfl, (by omega), H52⟩ (by show _ < _; omega)
 ·
  obtain rfl : k = 64 := by omega
  have H53 : St w _ [_, _, _, _, _] w24 := H25
  refine wp_exit ?_
  refine x_then (x_then (x_hit (n_then ?_)))
  refine c_seq ?_
  refine c_seq ?_
  refine c_reg ?_
  refine sy (v := I ((0 : Nat) : Int)) (y_assign (v := I ((0 : Nat) : Int)) rfl) ?_
  refine c_nil ?_
  refine n_then ?_
  refine wp_block ?_
  refine c_loop (fun (i : Nat) f54 w55 => f54 3 = Ad (bs g1) (0) ∧ f54 6 = Ad (bs g7) (0) ∧ f54 8 = Ad (bs g18) (0) ∧ f54 14 = I ((i : Nat) : Int) ∧ i ≤ 8 ∧ St w [] [[(g18, Rw 136 (((rn (ws b 64) s 64).list).map U32))], [(g13, Rw 138 ((ws (b) 64).map U32))], [(g7, Rw 136 ((List.replicate 8 0).map U32))], [(g4, Rw 138 ((kk).map U32))], [(g1, Rw 136 ((addN s (rn (ws b 64) s 64) i).map U32))]] w55) (fun i => 8 - i) 0 ⟨s3_25, s6_25, s8_25, rfl, (by omega), H53⟩ ?_
  rintro i f54 w55 ⟨s3_56, s6_56, s8_56, s14_56, hf0_56, H56⟩
  have hal := addN_length s (rn (ws b 64) s 64) i
  have hsl8 : (rn (ws b 64) s 64).list.length = 8 := rfl
  refine c_seq ?_
  refine c_seq ?_
  refine c_reg ?_
  refine sy (v := I ((i : Nat) : Int)) (y_move s14_56) ?_
  refine sy (v := .bool (decide (i < 8))) (n_lss (a := i) (b := 8) rfl rfl) ?_
  refine c_nil ?_
  refine n_then ?_
  refine c_if rfl (fun hc57 => ?_) (fun hc57 => ?_)
  ·
   refine wp_skip ?_
   refine n_then ?_
   refine c_seq ?_
   refine wp_block ?_
   refine drawS (.step 0 0 (.step 0 1 (.step 0 2 (.step 0 3 (.step 0 4 (.step 0 5 (.step 0 6 (.step 2 7 (.step 2 8 .nil))))))))) mixed H56 (by kernel_rfl) (by kernel_rfl) (by kernel_rfl) ?_
   intro w58 H59
   refine pt (v := I ((i : Nat) : Int)) rfl (fun wS HS => y_move s14_56) ?_
   refine pt (v := Ad (bs g1) (0 + i * 1)) rfl (fun wS HS => y_ixA (m := i) Try.underlying136 sz135 s3_56 rfl rfl (by omega)) ?_
   refine pt (v := U32 ((addN s (rn (ws b 64) s 64) i).getD i 0)) rfl (fun wS HS => y_load sc135 rfl (HS.cell 4 rfl (by simp only [Nat.zero_add, Nat.mul_one]; exact map_get U32 0 (by omega)))) ?_
   refine pt (v := I ((i : Nat) : Int)) rfl (fun wS HS => y_move s14_56) ?_
   refine pt (v := Ad (bs g18) (0 + i * 1)) rfl (fun wS HS => y_ixA (m := i) Try.underlying136 sz135 s8_56 rfl rfl (by omega)) ?_
   refine pt (v := U32 (((rn (ws b 64) s 64).list).getD i 0)) rfl (fun wS HS => y_load sc135 rfl (HS.cell 0 rfl (by simp only [Nat.zero_add, Nat.mul_one]; exact map_get U32 0 (by omega)))) ?_
   refine pt (v := U32 (((addN s (rn (ws b 64) s 64) i).getD i 0) + (((rn (ws b 64) s 64).list).getD i 0))) rfl (fun wS HS => y_add32 (a := (addN s (rn (ws b 64) s 64) i).getD i 0) (b := ((rn (ws b 64) s 64).list).getD i 0) rfl rfl) ?_
   refine tly (v := Ad (bs g1) (0 + i * 1)) rfl (y_ixA (m := i) Try.underlying136 sz135 s3_56 rfl rfl (by omega)) ?_
   have H60 : St w _ [_, _, _, _, _] w58 := H59.foc 4 rfl rfl
   refine t0 rfl (ow_storeM (F := U32) (j := i) (fun _ => rfl) H60 sz135 rfl rfl (by omega) (by first | omega | (simp only [List.length_set]; omega))) ?_
   rintro _ w61 H62'
   have H62 : St w _ [[(g1, Rw 136 (((addN s (rn (ws b 64) s 64) i).set i (((addN s (rn (ws b 64) s 64) i).getD i 0) + (((rn (ws b 64) s 64).list).getD i 0))).map U32))], _, _, _, _] w61 := H62'
   refine p_nil ?_
   refine n_block (n_then ?_)
   refine c_reg ?_
   refine sy (v := I ((i : Nat) : Int)) (y_move s14_56) ?_
   refine sy (v := I ((i + 1 : Nat) : Int)) (n_add (a := i) (b := 1) rfl rfl (by omega)) ?_
   refine sy (v := I ((i + 1 : Nat) : Int)) (y_assign rfl) ?_
   refine c_nil ?_
   have H63 : St w _ [_, _, _, _, _] w61 := H62.foc 4 rfl rfl
   have H64 : St w _ [_, _, _, _, _] w61 := H63.foc 4 rfl rfl
   have H65 : St w _ [_, _, _, _, _] w61 := H64.foc 4 rfl rfl
   have H66 : St w _ [_, _, _, _, _] w61 := H65.foc 4 rfl rfl
   exact lp_next (i + 1) ⟨s3_56, s6_56, s8_56, rfl, (by omega), H66⟩ (by show _ < _; omega)
  ·
   obtain rfl : i = 8 := by omega
   refine wp_exit ?_
   refine x_then (x_then (x_hit (n_then ?_)))
   refine c_seq ?_
   refine c_reg ?_
   refine sy (v := .agg ((addN s (rn (ws b 64) s 64) 8).map U32).toArray) (y_loadA (us := (addN s (rn (ws b 64) s 64) 8).map U32) ag136 sz136 ((List.length_map _).trans (addN_length _ _ _)) s3_56 (fun j u hu => (H56.cell 4 rfl (by rw [Nat.zero_add]; exact hu)))) ?_
   have H67 : St w _ [_, _, _, _, _] w55 := H56.foc 2 rfl rfl
   refine s0 (ow_storeW (us := (addN s (rn (ws b 64) s 64) 8).map U32) H67 sz136 ((List.length_map _).trans (addN_length _ _ _)) s6_56 rfl (map_one (F := U32) (fun _ => rfl) _) ((List.length_map _).trans List.length_replicate)) ?_
   rintro _ w68 H69'
   have H69 : St w _ [[(g7, Rw 136 ((addN s (rn (ws b 64) s 64) 8).map U32))], _, _, _, _] w68 := H69'
   refine c_nil ?_
   refine n_then ?_
   refine wp_ret ?_
   refine e_r1 Try.results117 (rv_b H69 (i := 0) rfl ag136 sz136 ((List.length_map _).trans (addN_length _ _ _)) s6_56) ?_
   exact ⟨_, rfl, rfl, H69.below⟩

theorem padded_c (v0 : Value) (l : List UInt8) (w : World) (hR : Rd [] w 1 v0 l.length (l.map B8)) (hlen : l.length ≤ 190000000000000) :
    Calls Try.prog 114 (([v0] : List Value).toArray) w (fun e w' => ∃ v, e = .returned v ∧ ∃ E, OS 5 1 v (l ++ tailOf l.length).length ((l ++ tailOf l.length).map B8) E ∧ St w [] [E] w') := by
 refine calls_mk Try.func114 rfl 35 Try.ntmps114 rfl ?_
 have H0 : St w [] [] w := St.refl w
 refine c_seq ?_
 refine c_reg ?_
 refine sy (v := .slice none 0 0) (y_assign (v := .slice none 0 0) rfl) ?_
 refine c_nil ?_
 refine n_then ?_
 refine c_seq ?_
 refine c_reg ?_
 refine sy (v := v0) (y_move rfl) ?_
 refine st (ow_appendW Try.underlying23 sz5 zr5 bt5 rfl (OS.nil 5 1) (H0.nilp) rfl rfl ((hR.st H0).src Try.underlying23 (map_one (F := B8) (fun _ => rfl) _)) (by first | omega | (simp only [List.length_append, List.length_cons, List.length_nil, List.length_take, List.length_drop, hmac_length, sha_length, List.length_replicate]; omega)) (by first | omega | (simp only [List.length_append, List.length_cons, List.length_nil, List.length_take, List.length_drop, hmac_length, sha_length, List.length_replicate]; omega))) ?_
 rintro v2 w3 ⟨E1, ho5', H4⟩
 have ho5 : OS 5 1 v2 (l).length ((l).map B8) E1 := by first | (have h := ho5'; rw [Nat.zero_add, List.nil_append] at h; exact h) | simpa using ho5'
 refine sy (v := v2) (y_assign rfl) ?_
 refine c_nil ?_
 refine n_then ?_
 refine c_seq ?_
 refine c_reg ?_
 refine sy (v := v2) (y_move rfl) ?_
 refine st (ow_buildSlice (pv := [(0, B8 (128))]) (us := [B8 (128)]) Try.underlying23 sz5 zr5 H4 ⟨⟨rfl, rfl⟩, trivial⟩ (by decide) (fill1 rfl)) ?_
 rintro _ w7 ⟨g6, rfl, H8⟩
 have H9 : St w _ [_, _] w7 := H8.foc 1 rfl rfl
 refine st (ow_appendW Try.underlying23 sz5 zr5 bt5 rfl ho5 H9 rfl rfl ((rd_lit (k := 1) (us := [B8 (128)]) H8 0 rfl rfl (by simp [maxLen])).src Try.underlying23 (by simp [Value.oneCell'])) (by first | omega | (simp only [List.length_append, List.length_cons, List.length_nil, List.length_take, List.length_drop, hmac_length, sha_length, List.length_replicate]; omega)) (by first | omega | (simp only [List.length_append, List.length_cons, List.length_nil, List.length_take, List.length_drop, hmac_length, sha_length, List.length_replicate]; omega))) ?_
 rintro v11 w12 ⟨E10, ho14', H13⟩
 have ho14 : OS 5 1 v11 (l ++ ([128])).length ((l ++ ([128])).map B8) E10 := by rw [List.length_append, List.map_append]; exact ho14'
 refine sy (v := v11) (y_assign rfl) ?_
 refine c_nil ?_
 refine n_then ?_
 refine c_seq ?_
 refine wp_block ?_
 refine c_loop (fun (j : Nat) f15 w16 => ∃ (tv : Value), ∃ (ET : Part), f15 0 = v0 ∧ f15 3 = tv ∧ j ≤ (119 - l.length % 64) % 64 ∧ OS 5 1 tv (l ++ tz j).length ((l ++ tz j).map B8) ET ∧ St w [] [ET, [(g6, Rw 5 ([B8 (128)]))]] w16) (fun j => (119 - l.length % 64) % 64 - j) 0 ⟨_, _, rfl, rfl, (Nat.zero_le _), (by show OS 5 1 _ (l ++ [0x80]).length ((l ++ [0x80]).map B8) _; exact ho14), H13⟩ ?_
 rintro j f15 w16 ⟨tv, ET, s0_17, s3_17, hj, hoT, H17⟩
 have hLj : (l ++ tz j).length = l.length + (j + 1) := by rw [List.length_append, tz_length]
 refine c_seq ?_
 refine c_seq ?_
 refine c_reg ?_
 refine sy (v := tv) (y_move s3_17) ?_
 refine sy (v := I (((l ++ tz j).length : Nat) : Int)) (y_lenR Try.underlying23 (hoT.rd H17 0 rfl) rfl) ?_
 refine sy (v := I ((((l ++ tz j).length) % 64 : Nat) : Int)) (n_rem (a := (l ++ tz j).length) (b := 64) rfl rfl (by omega)) ?_
 refine sy (v := .bool (decide ((((l ++ tz j).length) % 64) ≠ 56))) (n_neq (a := ((l ++ tz j).length) % 64) (b := 56) rfl rfl) ?_
 refine c_nil ?_
 refine n_then ?_
 refine c_if rfl (fun hc18 => ?_) (fun hc18 => ?_)
 ·
  refine wp_skip ?_
  refine n_then ?_
  refine wp_block ?_
  refine c_reg ?_
  refine sy (v := tv) (y_move s3_17) ?_
  refine st (ow_buildSlice (pv := [(0, B8 (0))]) (us := [B8 (0)]) Try.underlying23 sz5 zr5 H17 ⟨⟨rfl, rfl⟩, trivial⟩ (by decide) (fill1 rfl)) ?_
  rintro _ w20 ⟨g19, rfl, H21⟩
  have H22 : St w _ [_, _, _] w20 := H21.foc 1 rfl rfl
  refine st (ow_appendW Try.underlying23 sz5 zr5 bt5 rfl hoT H22 rfl rfl ((rd_lit (k := 1) (us := [B8 (0)]) H21 0 rfl rfl (by simp [maxLen])).src Try.underlying23 (by simp [Value.oneCell'])) (by first | omega | (simp only [List.length_append, List.length_cons, List.length_nil, List.length_take, List.length_drop, hmac_length, sha_length, List.length_replicate]; omega)) (by first | omega | (simp only [List.length_append, List.length_cons, List.length_nil, List.length_take, List.length_drop, hmac_length, sha_length, List.length_replicate]; omega))) ?_
  rintro v24 w25 ⟨E23, ho27', H26⟩
  have ho27 : OS 5 1 v24 ((l ++ tz j) ++ ([0])).length (((l ++ tz j) ++ ([0])).map B8) E23 := by rw [List.length_append, List.map_append]; exact ho27'
  refine sy (v := v24) (y_assign rfl) ?_
  refine c_nil ?_
  refine n_block ?_
  have H28 : St w _ [_, _, _] w25 := H26.foc 2 rfl rfl
  have H29 : St w _ [_, _, _] w25 := H28.foc 1 rfl rfl
  have H30 : St w _ [_, _] w25 := H29.take 2 rfl
  exact lp_next (j + 1) ⟨v24, E23, s0_17, rfl, (by omega), (by rw [← tz_succ, ← List.append_assoc]; exact ho27), H30⟩ (by show _ < _; omega)
 ·
  obtain rfl : j = (119 - l.length % 64) % 64 := by omega
  refine wp_exit ?_
  refine x_then (x_then (x_hit (n_then ?_)))
  refine c_seq ?_
  refine c_reg ?_
  refine sy (v := v0) (y_move s0_17) ?_
  refine sy (v := I ((l.length : Nat) : Int)) (y_lenR Try.underlying23 (hR.st H17) rfl) ?_
  refine sy (v := U64 (u64 ((l.length : Nat)))) (y_conv_I_64 Try.underlying3 Try.underlying59 rfl) ?_
  refine sy (v := U64 (8 * (u64 ((l.length : Nat))))) (y_mul64 (a := 8) (b := u64 ((l.length : Nat))) rfl rfl) ?_
  refine sy (v := U64 (8 * (u64 ((l.length : Nat))))) (y_assign rfl) ?_
  refine c_nil ?_
  refine n_then ?_
  refine c_seq ?_
  refine c_seq ?_
  refine c_reg ?_
  refine sy (v := I ((7 : Nat) : Int)) (y_assign (v := I ((7 : Nat) : Int)) rfl) ?_
  refine c_nil ?_
  refine n_then ?_
  refine wp_block ?_
  refine c_loop (fun (q : Nat) f31 w32 => ∃ (tv2 : Value), ∃ (ET2 : Part), f31 3 = tv2 ∧ f31 4 = U64 (8 * (u64 ((l.length : Nat)))) ∧ f31 5 = I (7 - (q : Int)) ∧ q ≤ 8 ∧ OS 5 1 tv2 (l ++ tz ((119 - l.length % 64) % 64) ++ (be64 (8 * u64 ((l.length : Nat) : Int))).take q).length ((l ++ tz ((119 - l.length % 64) % 64) ++ (be64 (8 * u64 ((l.length : Nat) : Int))).take q).map B8) ET2 ∧ St w [] [ET2, [(g6, Rw 5 ([B8 (128)]))]] w32) (fun q => 8 - q) 0 ⟨_, _, s3_17, rfl, rfl, (Nat.zero_le _), (by rw [List.take_zero, List.append_nil]; exact hoT), H17⟩ ?_
  rintro q f31 w32 ⟨tv2, ET2, s3_33, s4_33, s5_33, hq, hoT2, H33⟩
  have hL2 : (l ++ tz ((119 - l.length % 64) % 64) ++ (be64 (8 * u64 ((l.length : Nat) : Int))).take q).length ≤ l.length + 80 := by simp only [List.length_append, tz_length, List.length_take]; omega
  refine c_seq ?_
  refine c_seq ?_
  refine c_reg ?_
  refine sy (v := I (7 - (q : Int))) (y_move s5_33) ?_
  refine sy (v := .bool (decide (((0 : Nat) : Int) ≤ (7 - (q : Int))))) (y_geq (i := (7 - (q : Int))) (j := ((0 : Nat) : Int)) rfl rfl) ?_
  refine c_nil ?_
  refine n_then ?_
  refine c_if rfl (fun hc34 => ?_) (fun hc34 => ?_)
  ·
   refine wp_skip ?_
   refine n_then ?_
   refine c_seq ?_
   refine wp_block ?_
   refine c_reg ?_
   refine sy (v := tv2) (y_move s3_33) ?_
   refine sy (v := U64 (8 * (u64 ((l.length : Nat))))) (y_move s4_33) ?_
   refine sy (v := I (7 - (q : Int))) (y_move s5_33) ?_
   refine sy (v := I (((8 : Nat) : Int) * (7 - (q : Int)))) (y_mul (i := ((8 : Nat) : Int)) (j := (7 - (q : Int))) rfl rfl (by omega)) ?_
   refine sy (v := U64 ((8 * (u64 ((l.length : Nat)))) >>> UInt64.ofNat (((8 : Nat) : Int) * (7 - (q : Int))).toNat)) (y_shr64 (a := 8 * (u64 ((l.length : Nat)))) (j := ((8 : Nat) : Int) * (7 - (q : Int))) rfl rfl (by omega) (by omega)) ?_
   refine sy (v := B8 (((8 * (u64 ((l.length : Nat)))) >>> UInt64.ofNat (((8 : Nat) : Int) * (7 - (q : Int))).toNat).toUInt8)) (y_conv_64_8 Try.underlying59 Try.underlying5 rfl) ?_
   refine st (ow_buildSlice (pv := [(0, B8 (((8 * (u64 ((l.length : Nat)))) >>> UInt64.ofNat (((8 : Nat) : Int) * (7 - (q : Int))).toNat).toUInt8))]) (us := [B8 (((8 * (u64 ((l.length : Nat)))) >>> UInt64.ofNat (((8 : Nat) : Int) * (7 - (q : Int))).toNat).toUInt8)]) Try.underlying23 sz5 zr5 H33 ⟨⟨rfl, rfl⟩, trivial⟩ (by decide) (fill1 rfl)) ?_
   rintro _ w36 ⟨g35, rfl, H37⟩
   have H38 : St w _ [_, _, _] w36 := H37.foc 1 rfl rfl
   refine st (ow_appendW Try.underlying23 sz5 zr5 bt5 rfl hoT2 H38 rfl rfl ((rd_lit (k := 1) (us := [B8 (((8 * (u64 ((l.length : Nat)))) >>> UInt64.ofNat (((8 : Nat) : Int) * (7 - (q : Int))).toNat).toUInt8)]) H37 0 rfl rfl (by simp [maxLen])).src Try.underlying23 (by simp [Value.oneCell'])) (by first | omega | (simp only [List.length_append, List.length_cons, List.length_nil, List.length_take, List.length_drop, hmac_length, sha_length, List.length_replicate]; omega)) (by first | omega | (simp only [List.length_append, List.length_cons, List.length_nil, List.length_take, List.length_drop, hmac_length, sha_length, List.length_replicate]; omega))) ?_
   rintro v40 w41 ⟨E39, ho43', H42⟩
   have ho43 : OS 5 1 v40 ((l ++ tz ((119 - l.length % 64) % 64) ++ (be64 (8 * u64 ((l.length : Nat) : Int))).take q) ++ ([((8 * (u64 ((l.length : Nat)))) >>> UInt64.ofNat (((8 : Nat) : Int) * (7 - (q : Int))).toNat).toUInt8])).length (((l ++ tz ((119 - l.length % 64) % 64) ++ (be64 (8 * u64 ((l.length : Nat) : Int))).take q) ++ ([((8 * (u64 ((l.length : Nat)))) >>> UInt64.ofNat (((8 : Nat) : Int) * (7 - (q : Int))).toNat).toUInt8])).map B8) E39 := by rw [List.length_append, List.map_append]; exact ho43'
   refine sy (v := v40) (y_assign rfl) ?_
   refine c_nil ?_
   refine n_block (n_then ?_)
   refine c_reg ?_
   refine sy (v := I (7 - (q : Int))) (y_move s5_33) ?_
   refine sy (v := I ((7 - (q : Int)) - ((1 : Nat) : Int))) (y_sub (i := (7 - (q : Int))) (j := ((1 : Nat) : Int)) rfl rfl (by omega)) ?_
   refine sy (v := I ((7 - (q : Int)) - ((1 : Nat) : Int))) (y_assign rfl) ?_
   refine c_nil ?_
   have H44 : St w _ [_, _, _] w41 := H42.foc 2 rfl rfl
   have H45 : St w _ [_, _, _] w41 := H44.foc 1 rfl rfl
   have H46 : St w _ [_, _] w41 := H45.take 2 rfl
   exact lp_next (q + 1) ⟨v40, E39, rfl, s4_33, (by show I _ = I _; congr 1; omega), (by omega), (by rw [← be64_step2 _ _ _ (by omega)]; exact ho43), H46⟩ (by show _ < _; omega)
  ·
   obtain rfl : q = 8 := by omega
   rw [List.append_assoc, tail_eq] at hoT2
   refine wp_exit ?_
   refine x_then (x_then (x_hit (n_then ?_)))
   refine c_seq ?_
   refine c_reg ?_
   refine sy (v := tv2) (y_move s3_33) ?_
   refine sy (v := tv2) (y_assign rfl) ?_
   refine c_nil ?_
   refine n_then ?_
   refine wp_ret ?_
   refine e_r1 Try.results114 (rv_t rfl) ?_
   have H47 : St w _ [_] w32 := H33.take 1 rfl
   exact ⟨_, rfl, _, hoT2, H47⟩

theorem rof_c (v0 : Value) (l : List UInt8) (w : World) (hR : Rd [] w 1 v0 l.length (l.map B8)) (hlen : l.length ≤ 190000000000000) :
    Calls Try.prog 77 (([v0] : List Value).toArray) w (fun e w' => ∃ v, e = .returned v ∧ v = .agg ((sha l).map B8).toArray ∧ Below w.heap.size w w') := by
 have htl := tail_length l.length
 have hpl : (l ++ tailOf l.length).length = l.length + (tailOf l.length).length := List.length_append
 refine calls_mk Try.func77 rfl 45 Try.ntmps77 rfl ?_
 have H0 : St w [] [] w := St.refl w
 refine c_seq ?_
 refine c_reg ?_
 refine st (ow_alloc (l := (List.replicate 32 0).map B8) H0 zr26 (by simp [Value.cells])) ?_
 rintro _ w2 ⟨g1, rfl, H3⟩
 refine c_nil ?_
 refine n_then ?_
 refine c_seq ?_
 refine c_reg ?_
 refine sy (v := v0) (y_move rfl) ?_
 refine st (ow_call fn114 rfl (padded_c (v0) (l) _ ((hR.st H3)).nil (by omega)) ⟨rfl, trivial⟩) ?_
 rintro v4 w5 ⟨E6, ho7, H8⟩
 have H9 : St w _ [_, _] w5 := H3.app H8
 refine sy (v := v4) (y_assign rfl) ?_
 refine c_nil ?_
 refine n_then ?_
 refine c_seq ?_
 refine c_reg ?_
 refine st (ow_call fn115 rfl (rbegins_c _) trivial) ?_
 rintro _ w10 ⟨rfl, hB11⟩
 have H12 : St w _ [_, _] w10 := H9.call hB11
 refine st (ow_alloc (l := (List.replicate 8 0).map U32) H12 zr136 (by simp [Value.cells])) ?_
 rintro _ w14 ⟨g13, rfl, H15⟩
 refine s0 (ow_storeW (us := (ivS.list).map U32) H15 sz136 ((List.length_map _).trans (rfl)) rfl rfl (map_one (F := U32) (fun _ => rfl) _) ((List.length_map _).trans List.length_replicate)) ?_
 rintro _ w16 H17'
 have H17 : St w _ [[(g13, Rw 136 ((ivS.list).map U32))], _, _] w16 := H17'
 refine c_nil ?_
 refine n_then ?_
 refine c_seq ?_
 refine c_reg ?_
 refine st (ow_call fn116 rfl (rrounds_c _) trivial) ?_
 rintro _ w18 ⟨rfl, hB19⟩
 have H20 : St w _ [_, _, _] w18 := H17.call hB19
 refine st (ow_alloc (l := (List.replicate 64 0).map U32) H20 zr138 (by simp [Value.cells])) ?_
 rintro _ w22 ⟨g21, rfl, H23⟩
 refine s0 (ow_storeW (us := (kk).map U32) H23 sz138 ((List.length_map _).trans kk_length) rfl rfl (map_one (F := U32) (fun _ => rfl) _) ((List.length_map _).trans List.length_replicate)) ?_
 rintro _ w24 H25'
 have H25 : St w _ [[(g21, Rw 138 ((kk).map U32))], _, _, _] w24 := H25'
 refine c_nil ?_
 refine n_then ?_
 refine c_seq ?_
 refine c_seq ?_
 refine c_reg ?_
 refine sy (v := I ((0 : Nat) : Int)) (y_assign (v := I ((0 : Nat) : Int)) rfl) ?_
 refine c_nil ?_
 refine n_then ?_
 refine wp_block ?_
 refine c_loop (fun (k : Nat) f26 w27 => f26 2 = Ad (bs g1) (0) ∧ f26 3 = v4 ∧ f26 4 = Ad (bs g13) (0) ∧ f26 5 = Ad (bs g21) (0) ∧ f26 6 = I ((64 * k : Nat) : Int) ∧ 64 * k ≤ (l ++ tailOf l.length).length ∧ St w [] [[(g21, Rw 138 ((kk).map U32))], [(g13, Rw 136 (((absN k ivS (l ++ tailOf l.length)).list).map U32))], E6, [(g1, Rw 26 ((List.replicate 32 0).map B8))]] w27) (fun k => (l ++ tailOf l.length).length - 64 * k) 0 ⟨rfl, rfl, rfl, rfl, rfl, (by omega), H25⟩ ?_
 rintro k f26 w27 ⟨s2_28, s3_28, s4_28, s5_28, s6_28, hf0_28, H28⟩
 refine c_seq ?_
 refine c_seq ?_
 refine c_reg ?_
 refine sy (v := I ((64 * k : Nat) : Int)) (y_move s6_28) ?_
 refine sy (v := v4) (y_move s3_28) ?_
 refine sy (v := I (((l ++ tailOf l.length).length : Nat) : Int)) (y_lenR Try.underlying23 (ho7.rd H28 2 rfl) rfl) ?_
 refine sy (v := .bool (decide ((64 * k) < ((l ++ tailOf l.length).length)))) (n_lss (a := 64 * k) (b := (l ++ tailOf l.length).length) rfl rfl) ?_
 refine c_nil ?_
 refine n_then ?_
 refine c_if rfl (fun hc29 => ?_) (fun hc29 => ?_)
 ·
  refine wp_skip ?_
  refine n_then ?_
  refine c_seq ?_
  refine wp_block ?_
  refine drawS (.step 0 0 (.step 0 1 (.step 0 2 (.step 0 3 (.step 0 4 (.step 0 5 (.step 0 6 (.step 1 7 (.step 2 8 .nil))))))))) mixed H28 (by kernel_rfl) (by kernel_rfl) (by kernel_rfl) ?_
  intro w30 H31
  refine pt (v := .agg (((absN k ivS (l ++ tailOf l.length)).list).map U32).toArray) rfl (fun wS HS => y_loadA (us := ((absN k ivS (l ++ tailOf l.length)).list).map U32) ag136 sz136 ((List.length_map _).trans (rfl)) s4_28 (fun j u hu => (HS.cell 1 rfl (by rw [Nat.zero_add]; exact hu)))) ?_
  refine pt (v := v4) rfl (fun wS HS => y_move s3_28) ?_
  refine pt (v := I ((64 * k : Nat) : Int)) rfl (fun wS HS => y_move s6_28) ?_
  refine pt (v := I ((64 * k : Nat) : Int)) rfl (fun wS HS => y_move s6_28) ?_
  refine pt (v := I (((64 * k) + 64 : Nat) : Int)) rfl (fun wS HS => n_add (a := 64 * k) (b := 64) rfl rfl (by omega)) ?_
  have hL32 : (((l ++ tailOf l.length).drop (64 * k)).take (((64 * k) + 64) - (64 * k))).length = ((64 * k) + 64) - (64 * k) := by rw [List.length_take, List.length_drop]; omega
  refine pt (v := slv 1 (64 * k) ((64 * k) + 64) v4) rfl (fun wS HS => y_slR (k1 := .i64) (k2 := .i64) (l := 64 * k) (h := (64 * k) + 64) Try.underlying23 sz5 (ho7.rd HS 2 rfl) rfl (.inr ⟨_, rfl, rfl⟩) (.inr ⟨_, rfl, rfl⟩) (by omega) (by omega)) ?_
  refine pt (v := .agg (kk.map U32).toArray) rfl (fun wS HS => y_loadA (us := (kk).map U32) ag138 sz138 ((List.length_map _).trans kk_length) s5_28 (fun j u hu => (HS.cell 0 rfl (by rw [Nat.zero_add]; exact hu)))) ?_
  refine pl rfl (ow_call fn117 rfl (rpiece_c ((absN k ivS (l ++ tailOf l.length))) (((l ++ tailOf l.length).drop (64 * k)).take (((64 * k) + 64) - (64 * k))) (slv 1 (64 * k) ((64 * k) + 64) v4) _ (by omega) ((rdb_mid (ho7.rd H31 2 rfl) (by omega) (by omega))).nil) ⟨rfl, rfl, rfl, trivial⟩) ?_
  rintro _ w33 ⟨rfl, hB34⟩
  have H35 : St w _ [_, _, _, _] w33 := H31.call hB34
  refine ⟨H35, ?_⟩
  have H36 : St w _ [_, _, _, _] w33 := H35.foc 1 rfl rfl
  refine t0 rfl (ow_storeW (us := ((comp ((absN k ivS (l ++ tailOf l.length))) (((l ++ tailOf l.length).drop (64 * k)).take (((64 * k) + 64) - (64 * k)))).list).map U32) H36 sz136 ((List.length_map _).trans (rfl)) s4_28 rfl (map_one (F := U32) (fun _ => rfl) _) ((List.length_map _).trans (rfl))) ?_
  rintro _ w37 H38'
  have H38 : St w _ [[(g13, Rw 136 (((comp ((absN k ivS (l ++ tailOf l.length))) (((l ++ tailOf l.length).drop (64 * k)).take (((64 * k) + 64) - (64 * k)))).list).map U32))], _, _, _] w37 := H38'
  refine p_nil ?_
  refine n_block (n_then ?_)
  refine c_reg ?_
  refine sy (v := I ((64 * k : Nat) : Int)) (y_move s6_28) ?_
  refine sy (v := I (((64 * k) + 64 : Nat) : Int)) (n_add (a := 64 * k) (b := 64) rfl rfl (by omega)) ?_
  refine sy (v := I (((64 * k) + 64 : Nat) : Int)) (y_assign rfl) ?_
  refine c_nil ?_
  have H39 : St w _ [_, _, _, _] w37 := H38.foc 3 rfl rfl
  have H40 : St w _ [_, _, _, _] w37 := H39.foc 3 rfl rfl
  have H41 : St w _ [_, _, _, _] w37 := H40.foc 2 rfl rfl
  have H42 : St w _ [_, _, _, _] w37 := H41.foc 3 rfl rfl
  exact lp_next (k + 1) ⟨s2_28, s3_28, s4_28, s5_28, (by show I _ = I _; rw [Nat.mul_succ]), (by omega), (by have h42 := H42; rw [show 64 * k + 64 - 64 * k = 64 by omega] at h42; rw [absN_succ]; exact h42)⟩ (by show _ < _; omega)
 ·
  obtain rfl : k = (l ++ tailOf l.length).length / 64 := by omega
  have H43 : St w _ [_, _, _, _] w27 := H28
  refine wp_exit ?_
  refine x_then (x_then (x_hit (n_then ?_)))
  refine c_seq ?_
  refine c_reg ?_
  refine sy (v := .agg (([0, 0, 0, 0, 0, 0, 0, 0, 0, 0, 0, 0, 0, 0, 0, 0, 0, 0, 0, 0, 0, 0, 0, 0, 0, 0, 0, 0, 0, 0, 0, 0]).map B8).toArray) (y_build (parts := []) (pv := []) (us := ([0, 0, 0, 0, 0, 0, 0, 0, 0, 0, 0, 0, 0, 0, 0, 0, 0, 0, 0, 0, 0, 0, 0, 0, 0, 0, 0, 0, 0, 0, 0, 0]).map B8) trivial (by kernel_rfl)) ?_
  refine st (ow_alloc (l := (List.replicate 32 0).map B8) H43 zr26 (by simp [Value.cells])) ?_
  rintro _ w45 ⟨g44, rfl, H46⟩
  refine s0 (ow_storeW (us := ([0, 0, 0, 0, 0, 0, 0, 0, 0, 0, 0, 0, 0, 0, 0, 0, 0, 0, 0, 0, 0, 0, 0, 0, 0, 0, 0, 0, 0, 0, 0, 0]).map B8) H46 sz26 (by simp [*]) rfl rfl (map_one (F := B8) (fun _ => rfl) _) ((List.length_map _).trans List.length_replicate)) ?_
  rintro _ w47 H48'
  have H48 : St w _ [[(g44, Rw 26 (([0, 0, 0, 0, 0, 0, 0, 0, 0, 0, 0, 0, 0, 0, 0, 0, 0, 0, 0, 0, 0, 0, 0, 0, 0, 0, 0, 0, 0, 0, 0, 0]).map B8))], _, _, _, _] w47 := H48'
  refine c_nil ?_
  refine n_then ?_
  refine c_seq ?_
  refine c_seq ?_
  refine c_reg ?_
  refine sy (v := I ((0 : Nat) : Int)) (y_assign (v := I ((0 : Nat) : Int)) rfl) ?_
  refine c_nil ?_
  refine n_then ?_
  refine wp_block ?_
  refine c_loop (fun (i : Nat) f49 w50 => f49 2 = Ad (bs g1) (0) ∧ f49 4 = Ad (bs g13) (0) ∧ f49 7 = Ad (bs g44) (0) ∧ f49 8 = I ((i : Nat) : Int) ∧ i ≤ 32 ∧ St w [] [[(g44, Rw 26 ((hb (ab (l ++ tailOf l.length)) i).map B8))], [(g21, Rw 138 ((kk).map U32))], [(g13, Rw 136 (((ab (l ++ tailOf l.length)).list).map U32))], E6, [(g1, Rw 26 ((List.replicate 32 0).map B8))]] w50) (fun i => 32 - i) 0 ⟨s2_28, s4_28, rfl, rfl, (by omega), H48⟩ ?_
  rintro i f49 w50 ⟨s2_51, s4_51, s7_51, s8_51, hf0_51, H51⟩
  have hbl := hb_length (ab (l ++ tailOf l.length)) i
  have hl8 : (ab (l ++ tailOf l.length)).list.length = 8 := rfl
  refine c_seq ?_
  refine c_seq ?_
  refine c_reg ?_
  refine sy (v := I ((i : Nat) : Int)) (y_move s8_51) ?_
  refine sy (v := .bool (decide (i < 32))) (n_lss (a := i) (b := 32) rfl rfl) ?_
  refine c_nil ?_
  refine n_then ?_
  refine c_if rfl (fun hc52 => ?_) (fun hc52 => ?_)
  ·
   refine wp_skip ?_
   refine n_then ?_
   refine c_seq ?_
   refine wp_block ?_
   refine c_reg ?_
   refine sy (v := I ((i : Nat) : Int)) (y_move s8_51) ?_
   refine sy (v := I ((i : Nat) : Int)) (y_move s8_51) ?_
   refine sy (v := I ((i / 4 : Nat) : Int)) (n_quo (a := i) (b := 4) rfl rfl (by omega) (by omega)) ?_
   refine sy (v := Ad (bs g13) (0 + (i / 4) * 1)) (y_ixA (m := i / 4) Try.underlying136 sz135 s4_51 rfl rfl (by omega)) ?_
   refine sy (v := U32 (((ab (l ++ tailOf l.length)).list).getD (i / 4) 0)) (y_load sc135 rfl (H51.cell 2 rfl (by simp only [Nat.zero_add, Nat.mul_one]; exact map_get U32 0 (by omega)))) ?_
   refine sy (v := I ((i : Nat) : Int)) (y_move s8_51) ?_
   refine sy (v := I ((i % 4 : Nat) : Int)) (n_rem (a := i) (b := 4) rfl rfl (by omega)) ?_
   refine sy (v := I ((8 * (i % 4) : Nat) : Int)) (n_mul (a := 8) (b := i % 4) rfl rfl (by omega)) ?_
   refine sy (v := I ((24 - (8 * (i % 4)) : Nat) : Int)) (n_sub (a := 24) (b := 8 * (i % 4)) rfl rfl (by omega) (by omega)) ?_
   refine sy (v := U32 ((((ab (l ++ tailOf l.length)).list).getD (i / 4) 0) >>> UInt32.ofNat (24 - (8 * (i % 4))))) (n_shr32 (m := 24 - (8 * (i % 4))) (c := ((ab (l ++ tailOf l.length)).list).getD (i / 4) 0) rfl rfl (by omega)) ?_
   refine sy (v := B8 (((((ab (l ++ tailOf l.length)).list).getD (i / 4) 0) >>> UInt32.ofNat (24 - (8 * (i % 4)))).toUInt8)) (y_conv_32_8 Try.underlying135 Try.underlying5 rfl) ?_
   refine sy (v := Ad (bs g44) (0 + i * 1)) (y_ixA (m := i) Try.underlying26 sz5 s7_51 rfl rfl (by omega)) ?_
   refine s0 (ow_storeM (F := B8) (j := i) (fun _ => rfl) H51 sz5 rfl rfl (by omega) (by first | omega | (simp only [List.length_set]; omega))) ?_
   rintro _ w53 H54'
   have H54 : St w _ [[(g44, Rw 26 (((hb (ab (l ++ tailOf l.length)) i).set i (((((ab (l ++ tailOf l.length)).list).getD (i / 4) 0) >>> UInt32.ofNat (24 - (8 * (i % 4)))).toUInt8)).map B8))], _, _, _, _] w53 := H54'
   refine c_nil ?_
   refine n_block (n_then ?_)
   refine c_reg ?_
   refine sy (v := I ((i : Nat) : Int)) (y_move s8_51) ?_
   refine sy (v := I ((i + 1 : Nat) : Int)) (n_add (a := i) (b := 1) rfl rfl (by omega)) ?_
   refine sy (v := I ((i + 1 : Nat) : Int)) (y_assign rfl) ?_
   refine c_nil ?_
   exact lp_next (i + 1) ⟨s2_51, s4_51, s7_51, rfl, (by omega), H54⟩ (by show _ < _; omega)
  ·
   obtain rfl : i = 32 := by omega
   refine wp_exit ?_
   refine x_then (x_then (x_hit (n_then ?_)))
   refine c_seq ?_
   refine c_reg ?_
   refine sy (v := .agg ((hb (ab (l ++ tailOf l.length)) 32).map B8).toArray) (y_loadA (us := (hb (ab (l ++ tailOf l.length)) 32).map B8) ag26 sz26 ((List.length_map _).trans (hb_length _ _)) s7_51 (fun j u hu => (H51.cell 0 rfl (by rw [Nat.zero_add]; exact hu)))) ?_
   have H55 : St w _ [_, _, _, _, _] w50 := H51.foc 4 rfl rfl
   refine s0 (ow_storeW (us := (hb (ab (l ++ tailOf l.length)) 32).map B8) H55 sz26 ((List.length_map _).trans (hb_length _ _)) s2_51 rfl (map_one (F := B8) (fun _ => rfl) _) ((List.length_map _).trans List.length_replicate)) ?_
   rintro _ w56 H57'
   have H57 : St w _ [[(g1, Rw 26 ((hb (ab (l ++ tailOf l.length)) 32).map B8))], _, _, _, _] w56 := H57'
   refine c_nil ?_
   refine n_then ?_
   refine wp_ret ?_
   refine e_r1 Try.results77 (rv_b H57 (i := 0) rfl ag26 sz26 ((List.length_map _).trans (hb_length _ _)) s2_51) ?_
   refine ⟨_, rfl, ?_, H57.below⟩
   rw [hb_32]; rfl

end Go.Proofs.Ytdcmbcjkdhdohaa
