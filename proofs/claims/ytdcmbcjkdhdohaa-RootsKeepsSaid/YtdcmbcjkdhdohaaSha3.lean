/- Walks: (*sha.Digest).Sum, sha.OfAll, sha.Of. -/
import Derived.Test.YtdcmbcjkdhdohaaSha2
namespace Go.Proofs.Ytdcmbcjkdhdohaa
open Go Go.RowKit
set_option linter.unusedSimpArgs false
set_option linter.unusedVariables false
attribute [local irreducible] wpList wpP Code.wp

theorem sum_c (g : Nat) (m r : List UInt8) (w : World) (hd : w.heap[g]? = some (Rw 156 (dig (ab m) r m.length))) (hD : Dg m r) (hlen : m.length ≤ 2305843009213693952) :
    Calls Try.prog 113 (([Ad (bs g) (0)] : List Value).toArray) w (fun e w' => ∃ v, e = .returned v ∧ v = .agg ((sha m).map B8).toArray ∧ Below w.heap.size w w') := by
 have hr64 := hD.1
 have htl := tail_length m.length
 refine calls_mk Try.func113 rfl 79 Try.ntmps113 rfl ?_
 have H0 : St w [] [] w := St.refl w
 refine c_seq ?_
 refine c_reg ?_
 refine st (ow_alloc (l := (List.replicate 32 0).map B8) H0 zr26 (by simp [Value.cells])) ?_
 rintro _ w2 ⟨g1, rfl, H3⟩
 refine c_nil ?_
 refine n_then ?_
 refine c_seq ?_
 refine c_reg ?_
 refine sy (v := Ad (bs g) (0)) (y_move rfl) ?_
 refine sy (v := Ad (bs g) (0)) (y_nilCheck rfl) ?_
 refine sy (v := .agg (dig (ab m) r m.length).toArray) (y_loadA (us := dig (ab m) (r) (m.length)) ag156 sz156 (dig_length hr64) rfl (fun j u hu => (H3.oldCell hd (by simp) (by rw [Nat.zero_add]; exact hu)))) ?_
 refine st (ow_alloc (l := dig ((⟨0, 0, 0, 0, 0, 0, 0, 0⟩ : S8)) (List.replicate 64 0) (0)) H3 zr156 (by kernel_rfl)) ?_
 rintro _ w5 ⟨g4, rfl, H6⟩
 refine s0 (ow_storeW (us := dig (ab m) (r) (m.length)) H6 sz156 (dig_length hr64) rfl rfl dig_one (dig_length List.length_replicate)) ?_
 rintro _ w7 H8'
 have H8 : St w _ [[(g4, Rw 156 (dig (ab m) (r) (m.length)))], _] w7 := H8'.eq1 rfl
 refine c_nil ?_
 refine n_then ?_
 refine c_seq ?_
 refine c_reg ?_
 refine sy (v := Ad (bs g) (0)) (y_move rfl) ?_
 refine sy (v := Ad (bs g) (0)) (y_nilCheck rfl) ?_
 refine sy (v := Ad (bs g) (0 + 72)) (y_fld Try.underlying156 rfl rfl sz3 (by decide) rfl) ?_
 refine sy (v := I ((m.length : Nat) : Int)) (y_load sc3 rfl (H8.oldCell hd (by simp) (dig_num hr64))) ?_
 refine sy (v := U64 (u64 ((m.length : Nat)))) (y_conv_I_64 Try.underlying3 Try.underlying59 rfl) ?_
 refine sy (v := U64 (8 * (u64 ((m.length : Nat))))) (y_mul64 (a := 8) (b := u64 ((m.length : Nat))) rfl rfl) ?_
 refine sy (v := U64 (8 * (u64 ((m.length : Nat))))) (y_assign rfl) ?_
 refine c_nil ?_
 refine n_then ?_
 refine c_seq ?_
 refine c_reg ?_
 refine st (ow_buildSlice (pv := [(0, B8 (128))]) (us := [B8 (128)]) Try.underlying23 sz5 zr5 H8 ⟨⟨rfl, rfl⟩, trivial⟩ (by decide) (fill1 rfl)) ?_
 rintro _ w10 ⟨g9, rfl, H11⟩
 refine sy (v := .slice (some (bs g9)) 1 1) (y_assign rfl) ?_
 refine c_nil ?_
 refine n_then ?_
 refine c_seq ?_
 refine wp_block ?_
 refine c_loop (fun (j : Nat) f12 w13 => ∃ (tv : Value), ∃ (ET : Part), f12 0 = Ad (bs g) (0) ∧ f12 2 = Ad (bs g1) (0) ∧ f12 3 = Ad (bs g4) (0) ∧ f12 4 = U64 (8 * (u64 ((m.length : Nat)))) ∧ f12 5 = tv ∧ j ≤ (119 - m.length % 64) % 64 ∧ OS 5 1 tv (tz j).length ((tz j).map B8) ET ∧ St w [] [ET, [(g4, Rw 156 (dig (ab m) (r) (m.length)))], [(g1, Rw 26 ((List.replicate 32 0).map B8))]] w13) (fun j => (119 - m.length % 64) % 64 - j) 0 ⟨_, _, rfl, rfl, rfl, rfl, rfl, (Nat.zero_le _), (os_lit rfl (by simp [maxLen])), H11⟩ ?_
 rintro j f12 w13 ⟨tv, ET, s0_14, s2_14, s3_14, s4_14, s5_14, hj, hoT, H14⟩
 have hLj := tz_length j
 refine c_seq ?_
 refine c_seq ?_
 refine c_reg ?_
 refine sy (v := Ad (bs g) (0)) (y_move s0_14) ?_
 refine sy (v := Ad (bs g) (0)) (y_nilCheck rfl) ?_
 refine sy (v := Ad (bs g) (0 + 72)) (y_fld Try.underlying156 rfl rfl sz3 (by decide) rfl) ?_
 refine sy (v := I ((m.length : Nat) : Int)) (y_load sc3 rfl (H14.oldCell hd (by simp) (dig_num hr64))) ?_
 refine sy (v := tv) (y_move s5_14) ?_
 refine sy (v := I (((tz j).length : Nat) : Int)) (y_lenR Try.underlying23 (hoT.rd H14 0 rfl) rfl) ?_
 refine sy (v := I ((m.length + ((tz j).length) : Nat) : Int)) (n_add (a := m.length) (b := (tz j).length) rfl rfl (by omega)) ?_
 refine sy (v := I (((m.length + ((tz j).length)) % 64 : Nat) : Int)) (n_rem (a := m.length + ((tz j).length)) (b := 64) rfl rfl (by omega)) ?_
 refine sy (v := .bool (decide (((m.length + ((tz j).length)) % 64) ≠ 56))) (n_neq (a := (m.length + ((tz j).length)) % 64) (b := 56) rfl rfl) ?_
 refine c_nil ?_
 refine n_then ?_
 refine c_if rfl (fun hc15 => ?_) (fun hc15 => ?_)
 ·
  refine wp_skip ?_
  refine n_then ?_
  refine wp_block ?_
  refine c_reg ?_
  refine sy (v := tv) (y_move s5_14) ?_
  refine st (ow_buildSlice (pv := [(0, B8 (0))]) (us := [B8 (0)]) Try.underlying23 sz5 zr5 H14 ⟨⟨rfl, rfl⟩, trivial⟩ (by decide) (fill1 rfl)) ?_
  rintro _ w17 ⟨g16, rfl, H18⟩
  have H19 : St w _ [_, _, _, _] w17 := H18.foc 1 rfl rfl
  refine st (ow_append Try.underlying23 sz5 zr5 bt5 rfl hoT H19 rfl rfl ((rd_lit (k := 1) (us := [B8 (0)]) H18 0 rfl rfl (by simp [maxLen])).src Try.underlying23 (by simp [Value.oneCell'])) (by first | omega | (simp only [List.length_append, List.length_cons, List.length_nil, List.length_take, List.length_drop, hmac_length, sha_length, List.length_replicate]; omega)) (by first | omega | (simp only [List.length_append, List.length_cons, List.length_nil, List.length_take, List.length_drop, hmac_length, sha_length, List.length_replicate]; omega))) ?_
  rintro v21 w22 ⟨E20, ho24', H23⟩
  have ho24 : OS 5 1 v21 ((tz j) ++ ([0])).length (((tz j) ++ ([0])).map B8) E20 := by rw [List.length_append, List.map_append]; exact ho24'
  refine sy (v := v21) (y_assign rfl) ?_
  refine c_nil ?_
  refine n_block ?_
  have H25 : St w _ [_, _, _, _] w22 := H23.foc 3 rfl rfl
  have H26 : St w _ [_, _, _, _] w22 := H25.foc 3 rfl rfl
  have H27 : St w _ [_, _, _, _] w22 := H26.foc 2 rfl rfl
  have H28 : St w _ [_, _, _] w22 := H27.take 3 rfl
  exact lp_next (j + 1) ⟨v21, E20, s0_14, s2_14, s3_14, s4_14, rfl, (by omega), (by rw [← tz_succ]; exact ho24), H28⟩ (by show _ < _; omega)
 ·
  obtain rfl : j = (119 - m.length % 64) % 64 := by omega
  refine wp_exit ?_
  refine x_then (x_then (x_hit (n_then ?_)))
  refine c_seq ?_
  refine c_seq ?_
  refine c_reg ?_
  refine sy (v := I ((56 : Nat) : Int)) (y_assign (v := I ((56 : Nat) : Int)) rfl) ?_
  refine c_nil ?_
  refine n_then ?_
  refine wp_block ?_
  refine c_loop (fun (q : Nat) f29 w30 => ∃ (tv2 : Value), ∃ (ET2 : Part), f29 2 = Ad (bs g1) (0) ∧ f29 3 = Ad (bs g4) (0) ∧ f29 4 = U64 (8 * (u64 ((m.length : Nat)))) ∧ f29 5 = tv2 ∧ f29 6 = I (56 - 8 * (q : Int)) ∧ q ≤ 8 ∧ OS 5 1 tv2 (tz ((119 - m.length % 64) % 64) ++ (be64 (8 * u64 ((m.length : Nat) : Int))).take q).length ((tz ((119 - m.length % 64) % 64) ++ (be64 (8 * u64 ((m.length : Nat) : Int))).take q).map B8) ET2 ∧ St w [] [ET2, [(g4, Rw 156 (dig (ab m) (r) (m.length)))], [(g1, Rw 26 ((List.replicate 32 0).map B8))]] w30) (fun q => 8 - q) 0 ⟨_, _, s2_14, s3_14, s4_14, s5_14, rfl, (Nat.zero_le _), (by rw [List.take_zero, List.append_nil]; exact hoT), H14⟩ ?_
  rintro q f29 w30 ⟨tv2, ET2, s2_31, s3_31, s4_31, s5_31, s6_31, hq, hoT2, H31⟩
  have hL2 : (tz ((119 - m.length % 64) % 64) ++ (be64 (8 * u64 ((m.length : Nat) : Int))).take q).length ≤ 80 := by simp only [List.length_append, tz_length, List.length_take]; omega
  refine c_seq ?_
  refine c_seq ?_
  refine c_reg ?_
  refine sy (v := I (56 - 8 * (q : Int))) (y_move s6_31) ?_
  refine sy (v := .bool (decide (((0 : Nat) : Int) ≤ (56 - 8 * (q : Int))))) (y_geq (i := (56 - 8 * (q : Int))) (j := ((0 : Nat) : Int)) rfl rfl) ?_
  refine c_nil ?_
  refine n_then ?_
  refine c_if rfl (fun hc32 => ?_) (fun hc32 => ?_)
  ·
   refine wp_skip ?_
   refine n_then ?_
   refine c_seq ?_
   refine wp_block ?_
   refine c_reg ?_
   refine sy (v := tv2) (y_move s5_31) ?_
   refine sy (v := U64 (8 * (u64 ((m.length : Nat))))) (y_move s4_31) ?_
   refine sy (v := I (56 - 8 * (q : Int))) (y_move s6_31) ?_
   refine sy (v := U64 ((8 * (u64 ((m.length : Nat)))) >>> UInt64.ofNat (56 - 8 * (q : Int)).toNat)) (y_shr64 (a := 8 * (u64 ((m.length : Nat)))) (j := 56 - 8 * (q : Int)) rfl rfl (by omega) (by omega)) ?_
   refine sy (v := B8 (((8 * (u64 ((m.length : Nat)))) >>> UInt64.ofNat (56 - 8 * (q : Int)).toNat).toUInt8)) (y_conv_64_8 Try.underlying59 Try.underlying5 rfl) ?_
   refine st (ow_buildSlice (pv := [(0, B8 (((8 * (u64 ((m.length : Nat)))) >>> UInt64.ofNat (56 - 8 * (q : Int)).toNat).toUInt8))]) (us := [B8 (((8 * (u64 ((m.length : Nat)))) >>> UInt64.ofNat (56 - 8 * (q : Int)).toNat).toUInt8)]) Try.underlying23 sz5 zr5 H31 ⟨⟨rfl, rfl⟩, trivial⟩ (by decide) (fill1 rfl)) ?_
   rintro _ w34 ⟨g33, rfl, H35⟩
   have H36 : St w _ [_, _, _, _] w34 := H35.foc 1 rfl rfl
   refine st (ow_append Try.underlying23 sz5 zr5 bt5 rfl hoT2 H36 rfl rfl ((rd_lit (k := 1) (us := [B8 (((8 * (u64 ((m.length : Nat)))) >>> UInt64.ofNat (56 - 8 * (q : Int)).toNat).toUInt8)]) H35 0 rfl rfl (by simp [maxLen])).src Try.underlying23 (by simp [Value.oneCell'])) (by first | omega | (simp only [List.length_append, List.length_cons, List.length_nil, List.length_take, List.length_drop, hmac_length, sha_length, List.length_replicate]; omega)) (by first | omega | (simp only [List.length_append, List.length_cons, List.length_nil, List.length_take, List.length_drop, hmac_length, sha_length, List.length_replicate]; omega))) ?_
   rintro v38 w39 ⟨E37, ho41', H40⟩
   have ho41 : OS 5 1 v38 ((tz ((119 - m.length % 64) % 64) ++ (be64 (8 * u64 ((m.length : Nat) : Int))).take q) ++ ([((8 * (u64 ((m.length : Nat)))) >>> UInt64.ofNat (56 - 8 * (q : Int)).toNat).toUInt8])).length (((tz ((119 - m.length % 64) % 64) ++ (be64 (8 * u64 ((m.length : Nat) : Int))).take q) ++ ([((8 * (u64 ((m.length : Nat)))) >>> UInt64.ofNat (56 - 8 * (q : Int)).toNat).toUInt8])).map B8) E37 := by rw [List.length_append, List.map_append]; exact ho41'
   refine sy (v := v38) (y_assign rfl) ?_
   refine c_nil ?_
   refine n_block (n_then ?_)
   refine c_reg ?_
   refine sy (v := I (56 - 8 * (q : Int))) (y_move s6_31) ?_
   refine sy (v := I ((56 - 8 * (q : Int)) - ((8 : Nat) : Int))) (y_sub (i := (56 - 8 * (q : Int))) (j := ((8 : Nat) : Int)) rfl rfl (by omega)) ?_
   refine sy (v := I ((56 - 8 * (q : Int)) - ((8 : Nat) : Int))) (y_assign rfl) ?_
   refine c_nil ?_
   have H42 : St w _ [_, _, _, _] w39 := H40.foc 3 rfl rfl
   have H43 : St w _ [_, _, _, _] w39 := H42.foc 3 rfl rfl
   have H44 : St w _ [_, _, _, _] w39 := H43.foc 2 rfl rfl
   have H45 : St w _ [_, _, _] w39 := H44.take 3 rfl
   exact lp_next (q + 1) ⟨v38, E37, s2_31, s3_31, s4_31, rfl, (by show I _ = I _; congr 1; omega), (by omega), (by rw [← be64_step _ _ _ (by omega)]; exact ho41), H45⟩ (by show _ < _; omega)
  ·
   obtain rfl : q = 8 := by omega
   rw [tail_eq] at hoT2
   refine wp_exit ?_
   refine x_then (x_then (x_hit (n_then ?_)))
   refine c_seq ?_
   refine c_reg ?_
   refine sy (v := tv2) (y_move s5_31) ?_
   have H46 : St w _ [_, _, _] w30 := H31.foc 1 rfl rfl
   refine st (ow_call fn112 rfl (write_c g4 (m) (r) (tailOf m.length) (tv2) _ (H46.get 0 rfl) hD (hoT2.away H46 (i := 1) (j := 0) rfl rfl (by decide)) (by omega)) ⟨s3_31, rfl, trivial⟩) ?_
   rintro _ w47 ⟨rfl, r49, hD50, H48⟩
   have H51 : St w _ [_, _, _] w47 := H46.app1 H48
   refine c_nil ?_
   refine n_then ?_
   refine c_seq ?_
   refine c_reg ?_
   refine st (ow_alloc (l := (List.replicate 32 0).map B8) H51 zr26 (by simp [Value.cells])) ?_
   rintro _ w53 ⟨g52, rfl, H54⟩
   refine c_nil ?_
   refine n_then ?_
   refine c_seq ?_
   refine c_seq ?_
   refine c_reg ?_
   refine sy (v := Ad (bs g4) (0 + 0)) (y_fld Try.underlying156 rfl rfl sz136 (by decide) s3_31) ?_
   refine sy (v := .agg (((ab (m ++ (tailOf m.length))).list).map U32).toArray) (y_loadA (us := (ab (m ++ (tailOf m.length))).list.map U32) ag136 sz136 rfl rfl (fun j u hu => (H54.cell 1 rfl (dig_words hu)))) ?_
   refine sy (v := I ((0 : Nat) : Int)) (y_move (v := I ((0 : Nat) : Int)) rfl) ?_
   refine c_nil ?_
   refine n_then ?_
   refine wp_block ?_
   refine c_loop (fun (k : Nat) f55 w56 => f55 2 = Ad (bs g1) (0) ∧ f55 7 = Ad (bs g52) (0) ∧ f55 46 = .agg (((ab (m ++ (tailOf m.length))).list).map U32).toArray ∧ f55 47 = I ((k : Nat) : Int) ∧ k ≤ 8 ∧ St w [] [[(g52, Rw 26 ((hw (ab (m ++ tailOf m.length)) k).map B8))], [(g4, Rw 156 (dig (ab (m ++ (tailOf m.length))) (r49) ((m ++ (tailOf m.length)).length)))], ET2, [(g1, Rw 26 ((List.replicate 32 0).map B8))]] w56) (fun k => 8 - k) 0 ⟨s2_31, rfl, rfl, rfl, (by omega), H54⟩ ?_
   rintro k f55 w56 ⟨s2_57, s7_57, s46_57, s47_57, hf0_57, H57⟩
   have hwl := hw_length (ab (m ++ tailOf m.length)) k
   have hl8 := list8 (ab (m ++ tailOf m.length))
   refine c_seq ?_
   refine c_reg ?_
   refine sy (v := .bool (decide (k < 8))) (n_lss (a := k) (b := 8) s47_57 rfl) ?_
   refine c_nil ?_
   refine n_then ?_
   refine c_seq ?_
   refine c_if rfl (fun hc58 => ?_) (fun hc58 => ?_)
   ·
    refine wp_skip ?_
    refine n_then ?_
    refine c_seq ?_
    refine wp_block ?_
    refine c_seq ?_
    refine c_reg ?_
    refine sy (v := I ((k : Nat) : Int)) (y_move s47_57) ?_
    refine sy (v := U32 (((ab (m ++ (tailOf m.length))).list).getD k 0)) (y_ixAgg (m := k) Try.underlying136 sz135 sc135 s46_57 s47_57 rfl (by omega) (map_get U32 0 (by omega))) ?_
    refine sy (v := I ((k : Nat) : Int)) (y_assign rfl) ?_
    refine sy (v := U32 (((ab (m ++ (tailOf m.length))).list).getD k 0)) (y_assign rfl) ?_
    refine c_nil ?_
    refine n_then ?_
    refine c_reg ?_
    refine sy (v := I ((k : Nat) : Int)) (y_move rfl) ?_
    refine sy (v := I ((4 * k : Nat) : Int)) (n_mul (a := 4) (b := k) rfl rfl (by omega)) ?_
    refine sy (v := I ((k : Nat) : Int)) (y_move rfl) ?_
    refine sy (v := I ((4 * k : Nat) : Int)) (n_mul (a := 4) (b := k) rfl rfl (by omega)) ?_
    refine sy (v := I (((4 * k) + 1 : Nat) : Int)) (n_add (a := 4 * k) (b := 1) rfl rfl (by omega)) ?_
    refine sy (v := I ((k : Nat) : Int)) (y_move rfl) ?_
    refine sy (v := I ((4 * k : Nat) : Int)) (n_mul (a := 4) (b := k) rfl rfl (by omega)) ?_
    refine sy (v := I (((4 * k) + 2 : Nat) : Int)) (n_add (a := 4 * k) (b := 2) rfl rfl (by omega)) ?_
    refine sy (v := I ((k : Nat) : Int)) (y_move rfl) ?_
    refine sy (v := I ((4 * k : Nat) : Int)) (n_mul (a := 4) (b := k) rfl rfl (by omega)) ?_
    refine sy (v := I (((4 * k) + 3 : Nat) : Int)) (n_add (a := 4 * k) (b := 3) rfl rfl (by omega)) ?_
    refine sy (v := U32 (((ab (m ++ (tailOf m.length))).list).getD k 0)) (y_move rfl) ?_
    refine sy (v := U32 ((((ab (m ++ (tailOf m.length))).list).getD k 0) >>> UInt32.ofNat 24)) (n_shr32 (m := 24) (c := ((ab (m ++ (tailOf m.length))).list).getD k 0) rfl rfl (by omega)) ?_
    refine sy (v := B8 (((((ab (m ++ (tailOf m.length))).list).getD k 0) >>> UInt32.ofNat 24).toUInt8)) (y_conv_32_8 Try.underlying135 Try.underlying5 rfl) ?_
    refine sy (v := U32 (((ab (m ++ (tailOf m.length))).list).getD k 0)) (y_move rfl) ?_
    refine sy (v := U32 ((((ab (m ++ (tailOf m.length))).list).getD k 0) >>> UInt32.ofNat 16)) (n_shr32 (m := 16) (c := ((ab (m ++ (tailOf m.length))).list).getD k 0) rfl rfl (by omega)) ?_
    refine sy (v := B8 (((((ab (m ++ (tailOf m.length))).list).getD k 0) >>> UInt32.ofNat 16).toUInt8)) (y_conv_32_8 Try.underlying135 Try.underlying5 rfl) ?_
    refine sy (v := U32 (((ab (m ++ (tailOf m.length))).list).getD k 0)) (y_move rfl) ?_
    refine sy (v := U32 ((((ab (m ++ (tailOf m.length))).list).getD k 0) >>> UInt32.ofNat 8)) (n_shr32 (m := 8) (c := ((ab (m ++ (tailOf m.length))).list).getD k 0) rfl rfl (by omega)) ?_
    refine sy (v := B8 (((((ab (m ++ (tailOf m.length))).list).getD k 0) >>> UInt32.ofNat 8).toUInt8)) (y_conv_32_8 Try.underlying135 Try.underlying5 rfl) ?_
    refine sy (v := U32 (((ab (m ++ (tailOf m.length))).list).getD k 0)) (y_move rfl) ?_
    refine sy (v := B8 ((((ab (m ++ (tailOf m.length))).list).getD k 0).toUInt8)) (y_conv_32_8 Try.underlying135 Try.underlying5 rfl) ?_
    refine sy (v := Ad (bs g52) (0 + (4 * k) * 1)) (y_ixA (m := 4 * k) Try.underlying26 sz5 s7_57 rfl rfl (by omega)) ?_
    refine s0 (ow_storeM (F := B8) (j := (4 * k)) (fun _ => rfl) H57 sz5 rfl rfl (by omega) (by first | omega | (simp only [List.length_set]; omega))) ?_
    rintro _ w59 H60'
    have H60 : St w _ [[(g52, Rw 26 (((hw (ab (m ++ tailOf m.length)) k).set (4 * k) (((((ab (m ++ (tailOf m.length))).list).getD k 0) >>> UInt32.ofNat 24).toUInt8)).map B8))], _, _, _] w59 := H60'
    refine sy (v := Ad (bs g52) (0 + ((4 * k) + 1) * 1)) (y_ixA (m := (4 * k) + 1) Try.underlying26 sz5 s7_57 rfl rfl (by omega)) ?_
    refine s0 (ow_storeM (F := B8) (j := ((4 * k) + 1)) (fun _ => rfl) H60 sz5 rfl rfl (by omega) (by first | omega | (simp only [List.length_set]; omega))) ?_
    rintro _ w61 H62'
    have H62 : St w _ [[(g52, Rw 26 ((((hw (ab (m ++ tailOf m.length)) k).set (4 * k) (((((ab (m ++ (tailOf m.length))).list).getD k 0) >>> UInt32.ofNat 24).toUInt8)).set ((4 * k) + 1) (((((ab (m ++ (tailOf m.length))).list).getD k 0) >>> UInt32.ofNat 16).toUInt8)).map B8))], _, _, _] w61 := H62'
    refine sy (v := Ad (bs g52) (0 + ((4 * k) + 2) * 1)) (y_ixA (m := (4 * k) + 2) Try.underlying26 sz5 s7_57 rfl rfl (by omega)) ?_
    refine s0 (ow_storeM (F := B8) (j := ((4 * k) + 2)) (fun _ => rfl) H62 sz5 rfl rfl (by omega) (by first | omega | (simp only [List.length_set]; omega))) ?_
    rintro _ w63 H64'
    have H64 : St w _ [[(g52, Rw 26 (((((hw (ab (m ++ tailOf m.length)) k).set (4 * k) (((((ab (m ++ (tailOf m.length))).list).getD k 0) >>> UInt32.ofNat 24).toUInt8)).set ((4 * k) + 1) (((((ab (m ++ (tailOf m.length))).list).getD k 0) >>> UInt32.ofNat 16).toUInt8)).set ((4 * k) + 2) (((((ab (m ++ (tailOf m.length))).list).getD k 0) >>> UInt32.ofNat 8).toUInt8)).map B8))], _, _, _] w63 := H64'
    refine sy (v := Ad (bs g52) (0 + ((4 * k) + 3) * 1)) (y_ixA (m := (4 * k) + 3) Try.underlying26 sz5 s7_57 rfl rfl (by omega)) ?_
    refine s0 (ow_storeM (F := B8) (j := ((4 * k) + 3)) (fun _ => rfl) H64 sz5 rfl rfl (by omega) (by first | omega | (simp only [List.length_set]; omega))) ?_
    rintro _ w65 H66'
    have H66 : St w _ [[(g52, Rw 26 ((((((hw (ab (m ++ tailOf m.length)) k).set (4 * k) (((((ab (m ++ (tailOf m.length))).list).getD k 0) >>> UInt32.ofNat 24).toUInt8)).set ((4 * k) + 1) (((((ab (m ++ (tailOf m.length))).list).getD k 0) >>> UInt32.ofNat 16).toUInt8)).set ((4 * k) + 2) (((((ab (m ++ (tailOf m.length))).list).getD k 0) >>> UInt32.ofNat 8).toUInt8)).set ((4 * k) + 3) ((((ab (m ++ (tailOf m.length))).list).getD k 0).toUInt8)).map B8))], _, _, _] w65 := H66'
    refine c_nil ?_
    refine n_block (n_then ?_)
    refine c_reg ?_
    refine sy (v := I ((k + 1 : Nat) : Int)) (n_add (a := k) (b := 1) s47_57 rfl (by omega)) ?_
    refine sy (v := I ((k + 1 : Nat) : Int)) (y_move rfl) ?_
    refine c_nil ?_
    exact lp_next (k + 1) ⟨s2_57, s7_57, s46_57, rfl, (by omega), H66⟩ (by show _ < _; omega)
   ·
    obtain rfl : k = 8 := by omega
    refine wp_exit ?_
    refine x_then (x_then (x_hit (n_then ?_)))
    refine c_seq ?_
    refine c_reg ?_
    refine sy (v := .agg ((hw (ab (m ++ tailOf m.length)) 8).map B8).toArray) (y_loadA (us := (hw (ab (m ++ tailOf m.length)) 8).map B8) ag26 sz26 (by simp [*]) s7_57 (fun j u hu => (H57.cell 0 rfl (by rw [Nat.zero_add]; exact hu)))) ?_
    have H67 : St w _ [_, _, _, _] w56 := H57.foc 3 rfl rfl
    refine s0 (ow_storeW (us := (hw (ab (m ++ tailOf m.length)) 8).map B8) H67 sz26 (by simp [*]) s2_57 rfl (map_one (F := B8) (fun _ => rfl) _) ((List.length_map _).trans List.length_replicate)) ?_
    rintro _ w68 H69'
    have H69 : St w _ [[(g1, Rw 26 ((hw (ab (m ++ tailOf m.length)) 8).map B8))], _, _, _] w68 := H69'
    refine c_nil ?_
    refine n_then ?_
    refine wp_ret ?_
    refine e_r1 Try.results113 (rv_b H69 (i := 0) rfl ag26 sz26 (by simp [*]) s2_57) ?_
    refine ⟨_, rfl, ?_, H69.below⟩
    rw [hw_8]; rfl

theorem ofAll_c (v0 : Value) (vs : List Value) (ls : List (List UInt8)) (w : World) (hv : Rd [] w 1 v0 vs.length vs) (hr : Rds w vs ls) (hlen : ls.flatten.length ≤ 2305843009213693952) :
    Calls Try.prog 75 (([v0] : List Value).toArray) w (fun e w' => ∃ v, e = .returned v ∧ v = .agg ((sha ls.flatten).map B8).toArray ∧ Below w.heap.size w w') := by
 have hl := hr.len
 have hm63 : vs.length ≤ maxLen := by obtain ⟨a, cap, -, h1, h2⟩ := hv.shape; omega
 have hmx : maxLen = 9223372036854775807 := rfl
 refine calls_mk Try.func75 rfl 19 Try.ntmps75 rfl ?_
 have H0 : St w [] [] w := St.refl w
 refine c_seq ?_
 refine c_reg ?_
 refine st (ow_alloc (l := (List.replicate 32 0).map B8) H0 zr26 (by simp [Value.cells])) ?_
 rintro _ w2 ⟨g1, rfl, H3⟩
 refine c_nil ?_
 refine n_then ?_
 refine c_seq ?_
 refine c_reg ?_
 refine st (ow_call fn111 rfl (new_c _) trivial) ?_
 rintro _ w5 ⟨g4, rfl, H6⟩
 have H7 : St w _ [_, _] w5 := H3.app H6
 refine sy (v := Ad (bs g4) (0)) (y_assign rfl) ?_
 refine c_nil ?_
 refine n_then ?_
 refine c_seq ?_
 refine c_seq ?_
 refine c_reg ?_
 refine sy (v := v0) (y_move rfl) ?_
 refine sy (v := I ((vs.length : Nat) : Int)) (y_lenR Try.underlying36 (hv.st H7) rfl) ?_
 refine sy (v := I ((0 : Nat) : Int)) (y_move (v := I ((0 : Nat) : Int)) rfl) ?_
 refine c_nil ?_
 refine n_then ?_
 refine wp_block ?_
 refine c_loop (fun (k : Nat) f8 w9 => ∃ (rk : List UInt8), f8 2 = Ad (bs g1) (0) ∧ f8 3 = Ad (bs g4) (0) ∧ f8 7 = v0 ∧ f8 8 = I ((vs.length : Nat) : Int) ∧ f8 9 = I ((k : Nat) : Int) ∧ k ≤ vs.length ∧ Dg (ls.take k).flatten rk ∧ St w [] [[(g4, Rw 156 (dig (ab (ls.take k).flatten) (rk) ((ls.take k).flatten.length)))], [(g1, Rw 26 ((List.replicate 32 0).map B8))]] w9) (fun k => vs.length - k) 0 ⟨_, rfl, rfl, rfl, rfl, rfl, (Nat.zero_le _), dg_nil, H7⟩ ?_
 rintro k f8 w9 ⟨rk, s2_10, s3_10, s7_10, s8_10, s9_10, hk, hDk, H10⟩
 refine c_seq ?_
 refine c_reg ?_
 refine sy (v := .bool (decide (k < vs.length))) (n_lss (a := k) (b := vs.length) s9_10 s8_10) ?_
 refine c_nil ?_
 refine n_then ?_
 refine c_seq ?_
 refine c_if rfl (fun hc11 => ?_) (fun hc11 => ?_)
 ·
  have hfs := flat_succ ls k (by omega)
  have hfl := flat_le ls (k + 1)
  rw [hfs, List.length_append] at hfl
  refine wp_skip ?_
  refine n_then ?_
  refine c_seq ?_
  refine wp_block ?_
  refine c_seq ?_
  refine c_reg ?_
  refine sy (v := Ad (sp (v0)) (k * 1)) (y_ixR (m := k) Try.underlying36 sz23 (hv.st H10) (by decide) s7_10 s9_10 rfl (by omega)) ?_
  refine sy (v := vs.getD k undef) (y_load sc23 rfl ((hv.st H10).cell _ _ (by rw [Nat.mul_one]; exact getD_get (by omega)))) ?_
  refine sy (v := vs.getD k undef) (y_assign rfl) ?_
  refine c_nil ?_
  refine n_then ?_
  refine c_reg ?_
  refine sy (v := Ad (bs g4) (0)) (y_move s3_10) ?_
  refine sy (v := vs.getD k undef) (y_move rfl) ?_
  refine st (ow_call fn112 rfl (write_c g4 ((ls.take k).flatten) (rk) (ls.getD k []) (vs.getD k undef) _ (H10.get 0 rfl) hDk ((hr.get k (by omega)).away H10 0 rfl) (by omega)) ⟨rfl, rfl, trivial⟩) ?_
  rintro _ w12 ⟨rfl, r14, hD15, H13⟩
  have H16 : St w _ [_, _] w12 := H10.app1 H13
  refine c_nil ?_
  refine n_block (n_then ?_)
  refine c_reg ?_
  refine sy (v := I ((k + 1 : Nat) : Int)) (n_add (a := k) (b := 1) s9_10 rfl (by omega)) ?_
  refine sy (v := I ((k + 1 : Nat) : Int)) (y_move rfl) ?_
  refine c_nil ?_
  exact lp_next (k + 1) ⟨_, s2_10, s3_10, s7_10, s8_10, rfl, (by omega), (by rw [hfs]; exact hD15), (by rw [hfs]; exact H16)⟩ (by show _ < _; omega)
 ·
  have hft : (ls.take k).flatten = ls.flatten := by rw [List.take_of_length_le (by omega)]
  rw [hft] at hDk H10
  refine wp_exit ?_
  refine x_then (x_then (x_hit (n_then ?_)))
  refine c_seq ?_
  refine c_reg ?_
  refine sy (v := Ad (bs g4) (0)) (y_move s3_10) ?_
  refine st (ow_call fn113 rfl (sum_c g4 (ls.flatten) (rk) _ (H10.get 0 rfl) hDk (by omega)) ⟨rfl, trivial⟩) ?_
  rintro _ w17 ⟨rfl, hB18⟩
  have H19 : St w _ [_, _] w17 := H10.call hB18
  have H20 : St w _ [_, _] w17 := H19.foc 1 rfl rfl
  refine s0 (ow_storeW (us := (sha (ls.flatten)).map B8) H20 sz26 ((List.length_map _).trans (sha_length _)) s2_10 rfl (map_one (F := B8) (fun _ => rfl) _) ((List.length_map _).trans List.length_replicate)) ?_
  rintro _ w21 H22'
  have H22 : St w _ [[(g1, Rw 26 ((sha (ls.flatten)).map B8))], _] w21 := H22'
  refine c_nil ?_
  refine n_then ?_
  refine wp_ret ?_
  refine e_r1 Try.results75 (rv_b H22 (i := 0) rfl ag26 sz26 ((List.length_map _).trans (sha_length _)) s2_10) ?_
  exact ⟨_, rfl, rfl, H22.below⟩

/-! ### OfAll of few lists -/
section
variable (v0 v1 v2 v3 : Value) (l1 l2 l3 : List UInt8) (w : World)
theorem ofAll1_c (hv : Rd [] w 1 v0 1 [v1]) (h1 : Rd [] w 1 v1 l1.length (l1.map B8)) (hlen : l1.length ≤ 2305843009213693952) :
    Calls Try.prog 75 (([v0] : List Value).toArray) w (fun e w' => ∃ v, e = .returned v ∧ v = .agg ((sha l1).map B8).toArray ∧ Below w.heap.size w w') := by
  have := ofAll_c v0 [v1] [l1] w hv ⟨h1, trivial⟩ (by simp only [List.flatten_cons, List.flatten_nil, List.length_append, List.length_nil]; omega)
  rwa [List.flatten_cons, List.flatten_nil, List.append_nil] at this
theorem ofAll2_c (hv : Rd [] w 1 v0 2 [v1, v2]) (h1 : Rd [] w 1 v1 l1.length (l1.map B8)) (h2 : Rd [] w 1 v2 l2.length (l2.map B8)) (hlen : l1.length + l2.length ≤ 2305843009213693952) :
    Calls Try.prog 75 (([v0] : List Value).toArray) w (fun e w' => ∃ v, e = .returned v ∧ v = .agg ((sha (l1 ++ l2)).map B8).toArray ∧ Below w.heap.size w w') := by
  have := ofAll_c v0 [v1, v2] [l1, l2] w hv ⟨h1, h2, trivial⟩ (by simp only [List.flatten_cons, List.flatten_nil, List.length_append, List.length_nil]; omega)
  rwa [List.flatten_cons, List.flatten_cons, List.flatten_nil, List.append_nil] at this
theorem ofAll3_c (hv : Rd [] w 1 v0 3 [v1, v2, v3]) (h1 : Rd [] w 1 v1 l1.length (l1.map B8)) (h2 : Rd [] w 1 v2 l2.length (l2.map B8)) (h3 : Rd [] w 1 v3 l3.length (l3.map B8)) (hlen : l1.length + l2.length + l3.length ≤ 2305843009213693952) :
    Calls Try.prog 75 (([v0] : List Value).toArray) w (fun e w' => ∃ v, e = .returned v ∧ v = .agg ((sha (l1 ++ (l2 ++ l3))).map B8).toArray ∧ Below w.heap.size w w') := by
  have := ofAll_c v0 [v1, v2, v3] [l1, l2, l3] w hv ⟨h1, h2, h3, trivial⟩ (by simp only [List.flatten_cons, List.flatten_nil, List.length_append, List.length_nil]; omega)
  rwa [List.flatten_cons, List.flatten_cons, List.flatten_cons, List.flatten_nil, List.append_nil] at this
end


theorem of_c (v0 : Value) (l : List UInt8) (w : World) (hR : Rd [] w 1 v0 l.length (l.map B8)) (hlen : l.length ≤ 2305843009213693952) :
    Calls Try.prog 85 (([v0] : List Value).toArray) w (fun e w' => ∃ v, e = .returned v ∧ v = .agg ((sha l).map B8).toArray ∧ Below w.heap.size w w') := by
 refine calls_mk Try.func85 rfl 6 Try.ntmps85 rfl ?_
 have H0 : St w [] [] w := St.refl w
 refine c_seq ?_
 refine c_reg ?_
 refine st (ow_alloc (l := (List.replicate 32 0).map B8) H0 zr26 (by simp [Value.cells])) ?_
 rintro _ w2 ⟨g1, rfl, H3⟩
 refine c_nil ?_
 refine n_then ?_
 refine c_seq ?_
 refine c_reg ?_
 refine sy (v := v0) (y_move rfl) ?_
 refine st (ow_buildSlice (pv := [(0, v0)]) (us := [v0]) Try.underlying36 sz23 zr23 H3 ⟨⟨rfl, rfl⟩, trivial⟩ (by decide) (fill1 (hR.st H3).cells)) ?_
 rintro _ w5 ⟨g4, rfl, H6⟩
 refine st (ow_call fn75 rfl (ofAll1_c (.slice (some (bs g4)) 1 1) (v0) (l) _ (rd_lit H6 0 rfl rfl (by simp [maxLen])) ((hR.st H6)).nil (by omega)) ⟨rfl, trivial⟩) ?_
 rintro _ w7 ⟨rfl, hB8⟩
 have H9 : St w _ [_, _] w7 := H6.call hB8
 have H10 : St w _ [_, _] w7 := H9.foc 1 rfl rfl
 refine s0 (ow_storeW (us := (sha (l)).map B8) H10 sz26 ((List.length_map _).trans (sha_length _)) rfl rfl (map_one (F := B8) (fun _ => rfl) _) ((List.length_map _).trans List.length_replicate)) ?_
 rintro _ w11 H12'
 have H12 : St w _ [[(g1, Rw 26 ((sha (l)).map B8))], _] w11 := H12'
 refine c_nil ?_
 refine n_then ?_
 refine wp_ret ?_
 refine e_r1 Try.results85 (rv_b H12 (i := 0) rfl ag26 sz26 ((List.length_map _).trans (sha_length _)) rfl) ?_
 exact ⟨_, rfl, rfl, H12.below⟩

end Go.Proofs.Ytdcmbcjkdhdohaa
