/- Walks: pleachref02.Number, Bytes, Hash; the book's hash, leaf, inner, top (pleachref19). -/
import Derived.Test.YtdcmbcjkdhdohaaRootsB
namespace Go.Proofs.Ytdcmbcjkdhdohaa
open Go Go.RowKit
set_option linter.unusedSimpArgs false
set_option linter.unusedVariables false
attribute [local irreducible] wpList wpP Code.wp

theorem rnum_c (v0 : Value) (l : List UInt8) (E : Part) (x : UInt64) (w : World) (ho : OS 5 1 v0 l.length (l.map B8) E) (hown : ∀ p ∈ E, w.heap[p.1]? = some p.2)  (hl : l.length ≤ 190000000000000) :
    Calls Try.prog 158 (([v0, U64 (x)] : List Value).toArray) w (fun e w' => ∃ v, e = .returned v ∧ ∃ E', OS 5 1 v (l ++ (numN x.toNat)).length ((l ++ (numN x.toNat)).map B8) E' ∧ St w (E.map (·.1)) [E'] w') := by
 refine calls_mk Try.func158 rfl 21 Try.ntmps158 rfl ?_
 have H0 : St w (E.map (·.1)) [E] w := St.initE hown
 refine c_seq ?_
 refine c_reg ?_
 refine sy (v := .slice none 0 0) (y_assign (v := .slice none 0 0) rfl) ?_
 refine c_nil ?_
 refine n_then ?_
 refine c_seq ?_
 refine wp_block ?_
 refine c_loop (fun (y : UInt64) f1 w2 => ∃ (r : List UInt8), ∃ (tv : Value), ∃ (ET : Part), f1 0 = tv ∧ f1 1 = U64 (y) ∧ r ++ numN y.toNat = l ++ numN x.toNat ∧ OS 5 1 tv r.length (r.map B8) ET ∧ St w (E.map (·.1)) [ET] w2) (fun y => y.toNat) x ⟨l, v0, E, rfl, rfl, rfl, ho, H0⟩ ?_
 rintro y f1 w2 ⟨r, tv, ET, s0_3, s1_3, hr, hoT, H3⟩
 have hrl : r.length + (numN y.toNat).length = l.length + (numN x.toNat).length := by have := congrArg List.length hr; simpa using this
 have hx10 := num_le x
 refine c_seq ?_
 refine c_seq ?_
 refine c_reg ?_
 refine sy (v := U64 (y)) (y_move s1_3) ?_
 refine sy (v := .bool (decide (128 ≤ y))) (y_geq64 (a := y) (b := 128) rfl rfl) ?_
 refine c_nil ?_
 refine n_then ?_
 refine c_if rfl (fun hc4 => ?_) (fun hc4 => ?_)
 ·
  refine wp_skip ?_
  refine n_then ?_
  refine wp_block ?_
  refine c_seq ?_
  refine c_reg ?_
  refine sy (v := tv) (y_move s0_3) ?_
  refine sy (v := U64 (y)) (y_move s1_3) ?_
  refine sy (v := U64 (y % 128)) (y_rem64 (a := y) (b := 128) rfl rfl (by decide)) ?_
  refine sy (v := B8 ((y % 128).toUInt8)) (y_conv_64_8 Try.underlying59 Try.underlying5 rfl) ?_
  refine sy (v := B8 (((y % 128).toUInt8) + 128)) (y_add8 (a := (y % 128).toUInt8) (b := 128) rfl rfl) ?_
  refine st (ow_buildSlice (pv := [(0, B8 (((y % 128).toUInt8) + 128))]) (us := [B8 (((y % 128).toUInt8) + 128)]) Try.underlying23 sz5 zr5 H3 ⟨⟨rfl, rfl⟩, trivial⟩ (by decide) (fill1 rfl)) ?_
  rintro _ w6 ⟨g5, rfl, H7⟩
  have H8 : St w _ [_, _] w6 := H7.foc 1 rfl rfl
  refine st (ow_appendW Try.underlying23 sz5 zr5 bt5 rfl hoT H8 rfl rfl ((rd_lit (k := 1) (us := [B8 (((y % 128).toUInt8) + 128)]) H7 0 rfl rfl (by simp [maxLen])).src Try.underlying23 (by simp [Value.oneCell'])) (by first | omega | (simp only [List.length_append, List.length_cons, List.length_nil, List.length_take, List.length_drop, hmac_length, sha_length, List.length_replicate]; omega)) (by first | omega | (simp only [List.length_append, List.length_cons, List.length_nil, List.length_take, List.length_drop, hmac_length, sha_length, List.length_replicate]; omega))) ?_
  rintro v10 w11 ⟨E9, ho13', H12⟩
  have ho13 : OS 5 1 v10 (r ++ ([((y % 128).toUInt8) + 128])).length ((r ++ ([((y % 128).toUInt8) + 128])).map B8) E9 := by rw [List.length_append, List.map_append]; exact ho13'
  refine sy (v := v10) (y_assign rfl) ?_
  refine c_nil ?_
  refine n_then ?_
  refine c_reg ?_
  refine sy (v := U64 (y)) (y_move s1_3) ?_
  refine sy (v := U64 (y / 128)) (y_quo64 (a := y) (b := 128) rfl rfl (by decide)) ?_
  refine sy (v := U64 (y / 128)) (y_assign rfl) ?_
  refine c_nil ?_
  refine n_block ?_
  have H14 : St w _ [_] w11 := H12.take 1 rfl
  exact lp_next (y / 128) ⟨_, _, _, rfl, rfl, (num_step2 hr (by assumption)), ho13, H14⟩ (by show _ < _; exact div128_lt (by assumption))
 ·
  refine wp_exit ?_
  refine x_then (x_then (x_hit (n_then ?_)))
  refine c_seq ?_
  refine c_reg ?_
  refine sy (v := tv) (y_move s0_3) ?_
  refine sy (v := U64 (y)) (y_move s1_3) ?_
  refine sy (v := B8 (y.toUInt8)) (y_conv_64_8 Try.underlying59 Try.underlying5 rfl) ?_
  refine st (ow_buildSlice (pv := [(0, B8 (y.toUInt8))]) (us := [B8 (y.toUInt8)]) Try.underlying23 sz5 zr5 H3 ⟨⟨rfl, rfl⟩, trivial⟩ (by decide) (fill1 rfl)) ?_
  rintro _ w16 ⟨g15, rfl, H17⟩
  have H18 : St w _ [_, _] w16 := H17.foc 1 rfl rfl
  refine st (ow_appendW Try.underlying23 sz5 zr5 bt5 rfl hoT H18 rfl rfl ((rd_lit (k := 1) (us := [B8 (y.toUInt8)]) H17 0 rfl rfl (by simp [maxLen])).src Try.underlying23 (by simp [Value.oneCell'])) (by first | omega | (simp only [List.length_append, List.length_cons, List.length_nil, List.length_take, List.length_drop, hmac_length, sha_length, List.length_replicate]; omega)) (by first | omega | (simp only [List.length_append, List.length_cons, List.length_nil, List.length_take, List.length_drop, hmac_length, sha_length, List.length_replicate]; omega))) ?_
  rintro v20 w21 ⟨E19, ho23', H22⟩
  have ho23 : OS 5 1 v20 (r ++ ([y.toUInt8])).length ((r ++ ([y.toUInt8])).map B8) E19 := by rw [List.length_append, List.map_append]; exact ho23'
  refine sy (v := v20) (y_assign rfl) ?_
  refine c_nil ?_
  refine n_then ?_
  refine wp_ret ?_
  refine e_r1 Try.results158 (rv_t rfl) ?_
  have H24 : St w _ [_] w21 := H22.take 1 rfl
  exact ⟨_, rfl, _, (num_last hr (by assumption) ▸ ho23), H24⟩

theorem rbytes_c (v0 : Value) (l : List UInt8) (E : Part) (xv : Value) (m : List UInt8) (w : World) (ho : OS 5 1 v0 l.length (l.map B8) E) (hown : ∀ p ∈ E, w.heap[p.1]? = some p.2) (hR : Rd (E.map (·.1)) w 1 xv m.length (m.map B8)) (hk : m.length ≤ 140737488351232) (hl : l.length + m.length ≤ 180000000000000) :
    Calls Try.prog 159 (([v0, xv] : List Value).toArray) w (fun e w' => ∃ v, e = .returned v ∧ ∃ E', OS 5 1 v (l ++ (numN m.length ++ m)).length ((l ++ (numN m.length ++ m)).map B8) E' ∧ St w (E.map (·.1)) [E'] w') := by
 have hn10 := numS_le hk
 have hun := u64_nat (n := m.length) (by omega)
 refine calls_mk Try.func159 rfl 13 Try.ntmps159 rfl ?_
 have H0 : St w (E.map (·.1)) [E] w := St.initE hown
 refine c_seq ?_
 refine c_reg ?_
 refine sy (v := .slice none 0 0) (y_assign (v := .slice none 0 0) rfl) ?_
 refine c_nil ?_
 refine n_then ?_
 refine c_seq ?_
 refine c_reg ?_
 refine sy (v := v0) (y_move rfl) ?_
 refine sy (v := xv) (y_move rfl) ?_
 refine sy (v := I ((m.length : Nat) : Int)) (y_lenR Try.underlying23 (hR.st H0) rfl) ?_
 refine sy (v := U64 (u64 ((m.length : Nat)))) (y_conv_I_64 Try.underlying3 Try.underlying59 rfl) ?_
 refine st (ow_call fn158 rfl (rnum_c (v0) l _ (u64 ((m.length : Nat))) _ ho (fun p hp => H0.own _ List.mem_cons_self p hp)  (by first | omega | (simp only [List.length_append, List.length_cons, List.length_nil, List.length_take, List.length_drop, hmac_length, sha_length, List.length_replicate]; omega))) ⟨rfl, rfl, trivial⟩) ?_
 rintro v1 w3 ⟨E2, ho5, H4⟩
 have H6 : St w _ [_] w3 := H0.appE H4
 rw [hun] at ho5
 have hq10 : (l ++ numN m.length).length ≤ l.length + 10 := by rw [List.length_append]; omega
 refine sy (v := v1) (y_assign rfl) ?_
 refine c_nil ?_
 refine n_then ?_
 refine c_seq ?_
 refine c_reg ?_
 refine sy (v := v1) (y_move rfl) ?_
 refine sy (v := xv) (y_move rfl) ?_
 refine st (ow_appendW Try.underlying23 sz5 zr5 bt5 rfl ho5 H6 rfl rfl ((hR.st H6).src Try.underlying23 (map_one (F := B8) (fun _ => rfl) _)) (by first | omega | (simp only [List.length_append, List.length_cons, List.length_nil, List.length_take, List.length_drop, hmac_length, sha_length, List.length_replicate]; omega)) (by first | omega | (simp only [List.length_append, List.length_cons, List.length_nil, List.length_take, List.length_drop, hmac_length, sha_length, List.length_replicate]; omega))) ?_
 rintro v8 w9 ⟨E7, ho11', H10⟩
 have ho11 : OS 5 1 v8 ((l ++ numN m.length) ++ m).length (((l ++ numN m.length) ++ m).map B8) E7 := by rw [List.length_append, List.map_append]; exact ho11'
 refine sy (v := v8) (y_assign rfl) ?_
 refine c_nil ?_
 refine n_then ?_
 refine wp_ret ?_
 refine e_r1 Try.results159 (rv_t rfl) ?_
 exact ⟨_, rfl, _, (by rw [← List.append_assoc]; exact ho11), H10⟩

theorem take_snocR {h : List UInt8} {i : Nat} (hi : i < h.length) : h.take (i + 1) = h.take i ++ [h.getD i 0] := by
  rw [List.take_add_one, List.getD_eq_getElem?_getD, List.getElem?_eq_getElem hi]; rfl

theorem rhash_c (v0 : Value) (l : List UInt8) (E : Part) (h : List UInt8) (w : World) (ho : OS 5 1 v0 l.length (l.map B8) E) (hown : ∀ p ∈ E, w.heap[p.1]? = some p.2) (hh : h.length = 32) (hl : l.length ≤ 35184372088832) :
    Calls Try.prog 148 (([v0, .agg (h.map B8).toArray] : List Value).toArray) w (fun e w' => ∃ v, e = .returned v ∧ ∃ E', OS 5 1 v (l ++ h).length ((l ++ h).map B8) E' ∧ St w (E.map (·.1)) [E'] w') := by
 refine calls_mk Try.func148 rfl 17 Try.ntmps148 rfl ?_
 have H0 : St w (E.map (·.1)) [E] w := St.initE hown
 refine c_seq ?_
 refine c_reg ?_
 refine st (ow_box (l := (h).map B8) H0 rfl rfl) ?_
 rintro _ w2 ⟨g1, rfl, H3⟩
 refine sy (v := .slice none 0 0) (y_assign (v := .slice none 0 0) rfl) ?_
 refine c_nil ?_
 refine n_then ?_
 refine c_seq ?_
 refine c_seq ?_
 refine c_reg ?_
 refine sy (v := I ((0 : Nat) : Int)) (y_assign (v := I ((0 : Nat) : Int)) rfl) ?_
 refine c_nil ?_
 refine n_then ?_
 refine wp_block ?_
 refine c_loop (fun (i : Nat) f4 w5 => ∃ (tv : Value), ∃ (ET : Part), f4 0 = tv ∧ f4 3 = Ad (bs g1) (0) ∧ f4 5 = I ((i : Nat) : Int) ∧ i ≤ 32 ∧ OS 5 1 tv (l ++ h.take i).length ((l ++ h.take i).map B8) ET ∧ St w (E.map (·.1)) [[(g1, Rw 26 ((h).map B8))], ET] w5) (fun i => 32 - i) 0 ⟨v0, E, rfl, rfl, rfl, (by omega), (by rw [List.take_zero, List.append_nil]; exact ho), H3⟩ ?_
 rintro i f4 w5 ⟨tv, ET, s0_6, s3_6, s5_6, hi, hoT, H6⟩
 have hti : (l ++ h.take i).length = l.length + i := by rw [List.length_append, List.length_take]; omega
 refine c_seq ?_
 refine c_seq ?_
 refine c_reg ?_
 refine sy (v := I ((i : Nat) : Int)) (y_move s5_6) ?_
 refine sy (v := .bool (decide (i < 32))) (n_lss (a := i) (b := 32) rfl rfl) ?_
 refine c_nil ?_
 refine n_then ?_
 refine c_if rfl (fun hc7 => ?_) (fun hc7 => ?_)
 ·
  refine wp_skip ?_
  refine n_then ?_
  refine c_seq ?_
  refine wp_block ?_
  refine c_reg ?_
  refine sy (v := tv) (y_move s0_6) ?_
  refine sy (v := I ((i : Nat) : Int)) (y_move s5_6) ?_
  refine sy (v := Ad (bs g1) (0 + i * 1)) (y_ixA (m := i) Try.underlying26 sz5 s3_6 rfl rfl (by omega)) ?_
  refine sy (v := B8 (h.getD i 0)) (y_load sc5 rfl (H6.cell 0 rfl (by simp only [Nat.zero_add, Nat.mul_one]; exact map_get B8 0 (by omega)))) ?_
  refine st (ow_buildSlice (pv := [(0, B8 (h.getD i 0))]) (us := [B8 (h.getD i 0)]) Try.underlying23 sz5 zr5 H6 ⟨⟨rfl, rfl⟩, trivial⟩ (by decide) (fill1 rfl)) ?_
  rintro _ w9 ⟨g8, rfl, H10⟩
  have H11 : St w _ [_, _, _] w9 := H10.foc 2 rfl rfl
  refine st (ow_appendW Try.underlying23 sz5 zr5 bt5 rfl hoT H11 rfl rfl ((rd_lit (k := 1) (us := [B8 (h.getD i 0)]) H10 0 rfl rfl (by simp [maxLen])).src Try.underlying23 (by simp [Value.oneCell'])) (by first | omega | (simp only [List.length_append, List.length_cons, List.length_nil, List.length_take, List.length_drop, hmac_length, sha_length, List.length_replicate]; omega)) (by first | omega | (simp only [List.length_append, List.length_cons, List.length_nil, List.length_take, List.length_drop, hmac_length, sha_length, List.length_replicate]; omega))) ?_
  rintro v13 w14 ⟨E12, ho16', H15⟩
  have ho16 : OS 5 1 v13 ((l ++ h.take i) ++ ([h.getD i 0])).length (((l ++ h.take i) ++ ([h.getD i 0])).map B8) E12 := by rw [List.length_append, List.map_append]; exact ho16'
  refine sy (v := v13) (y_assign rfl) ?_
  refine c_nil ?_
  refine n_block (n_then ?_)
  refine c_reg ?_
  refine sy (v := I ((i : Nat) : Int)) (y_move s5_6) ?_
  refine sy (v := I ((i + 1 : Nat) : Int)) (n_add (a := i) (b := 1) rfl rfl (by omega)) ?_
  refine sy (v := I ((i + 1 : Nat) : Int)) (y_assign rfl) ?_
  refine c_nil ?_
  have H17 : St w _ [_, _, _] w14 := H15.foc 2 rfl rfl
  have H18 : St w _ [_, _] w14 := H17.take 2 rfl
  exact lp_next (i + 1) ⟨_, _, rfl, s3_6, rfl, (by omega), (by rw [take_snocR (by omega), ← List.append_assoc]; exact ho16), H18⟩ (by show _ < _; omega)
 ·
  obtain rfl : i = 32 := by omega
  rw [List.take_of_length_le (l := h) (by omega)] at hoT
  refine wp_exit ?_
  refine x_then (x_then (x_hit (n_then ?_)))
  refine c_seq ?_
  refine c_reg ?_
  refine sy (v := tv) (y_move s0_6) ?_
  refine sy (v := tv) (y_assign rfl) ?_
  refine c_nil ?_
  refine n_then ?_
  refine wp_ret ?_
  refine e_r1 Try.results148 (rv_t rfl) ?_
  have H19 : St w _ [_, _] w5 := H6.foc 1 rfl rfl
  have H20 : St w _ [_] w5 := H19.take 1 rfl
  exact ⟨_, rfl, _, hoT, H20⟩

theorem rhalf_c (n : Nat) (w : World) (hn : 1 < n) (hn2 : n ≤ 9223372036854775807) :
    Calls Try.prog 151 (([I ((n : Nat) : Int)] : List Value).toArray) w (fun e w' => ∃ v, e = .returned v ∧ v = I ((half n : Nat) : Int) ∧ Below w.heap.size w w') := by
 refine calls_mk Try.func151 rfl 12 Try.ntmps151 rfl ?_
 have H0 : St w [] [] w := St.refl w
 refine c_seq ?_
 refine c_reg ?_
 refine sy (v := I ((0 : Nat) : Int)) (y_assign (v := I ((0 : Nat) : Int)) rfl) ?_
 refine c_nil ?_
 refine n_then ?_
 refine c_seq ?_
 refine c_reg ?_
 refine sy (v := I ((1 : Nat) : Int)) (y_assign (v := I ((1 : Nat) : Int)) rfl) ?_
 refine c_nil ?_
 refine n_then ?_
 refine c_seq ?_
 refine wp_block ?_
 refine c_loop (fun (f : Nat) f1 w2 => ∃ (m : Nat), f1 0 = I ((n : Nat) : Int) ∧ f1 3 = I ((m : Nat) : Int) ∧ halfF f m n = half n ∧ m * 2 ^ f = 18446744073709551616 ∧ m < n ∧ 0 < m ∧ St w [] [] w2) (fun f => f) 64 ⟨1, rfl, rfl, rfl, (by decide), (by omega), (by omega), H0⟩ ?_
 rintro f f1 w2 ⟨m, s0_3, s3_3, hb, hz, hm, hm0, H3⟩
 refine c_seq ?_
 refine c_seq ?_
 refine c_reg ?_
 refine sy (v := I ((m : Nat) : Int)) (y_move s3_3) ?_
 refine sy (v := I ((n : Nat) : Int)) (y_move s0_3) ?_
 refine sy (v := I ((n - 1 : Nat) : Int)) (n_sub (a := n) (b := 1) rfl rfl (by omega) (by omega)) ?_
 refine sy (v := I (((n - 1) / 2 : Nat) : Int)) (n_quo (a := n - 1) (b := 2) rfl rfl (by omega) (by omega)) ?_
 refine sy (v := .bool (decide (m ≤ ((n - 1) / 2)))) (n_leq (a := m) (b := (n - 1) / 2) rfl rfl) ?_
 refine c_nil ?_
 refine n_then ?_
 refine c_if rfl (fun hc4 => ?_) (fun hc4 => ?_)
 ·
  refine wp_skip ?_
  refine n_then ?_
  refine wp_block ?_
  refine c_reg ?_
  refine sy (v := I ((m : Nat) : Int)) (y_move s3_3) ?_
  refine sy (v := I ((m * 2 : Nat) : Int)) (n_mul (a := m) (b := 2) rfl rfl (by omega)) ?_
  refine sy (v := I ((m * 2 : Nat) : Int)) (y_assign rfl) ?_
  refine c_nil ?_
  refine n_block ?_
  obtain ⟨f', rfl, hb', hz', hm'⟩ := half_step2 hb hz (by assumption) hm hm0 hn2
  exact lp_next f' ⟨_, s0_3, rfl, hb', hz', hm', (by omega), H3⟩ (by show _ < _; omega)
 ·
  refine wp_exit ?_
  refine x_then (x_then (x_hit (n_then ?_)))
  refine c_seq ?_
  refine c_reg ?_
  refine sy (v := I ((m : Nat) : Int)) (y_move s3_3) ?_
  refine sy (v := I ((m : Nat) : Int)) (y_assign rfl) ?_
  refine c_nil ?_
  refine n_then ?_
  refine wp_ret ?_
  refine e_r1 Try.results151 (rv_t rfl) ?_
  have hq : m = half n := by rw [← hb]; exact (half_end (by omega) hm).symm
  exact ⟨_, rfl, congrArg (fun q : Nat => I (q : Int)) hq, H3.below⟩

theorem bhash_c (g : Nat) (rows : List (List UInt8)) (EB : Part) (bv : Value) (l : List UInt8) (Eb : Part) (w : World) (hB : BkP g rows EB) (ho : OS 5 1 bv l.length (l.map B8) Eb) (hdb : ∀ p ∈ EB, ∀ q ∈ Eb, p.1 ≠ q.1) (hown : ∀ p ∈ EB ++ Eb, w.heap[p.1]? = some p.2) (hl : l.length ≤ 190000000000000) (hrb : rows.length ≤ 4398046511104) :
    Calls Try.prog 149 (([Ad (bs g) (0), bv] : List Value).toArray) w (fun e w' => ∃ v, e = .returned v ∧ v = .agg ((sha l).map B8).toArray ∧ ∃ EB', BkP g (rows ++ [l]) EB' ∧ St w ((EB ++ Eb).map (·.1)) [EB'] w') := by
 obtain ⟨rv, vs, E, F, rfl, hov, hrp, hd1, hd2⟩ := hB
 have hrl := hrp.len
 refine calls_mk Try.func149 rfl 17 Try.ntmps149 rfl ?_
 have H0 : St w ((([(g, Rw 120 [rv])] ++ E) ++ F ++ Eb).map (·.1)) [E, [(g, Rw 120 ([rv]))], F, Eb] w := ((((St.initE hown).split hdb).foc 1 rfl rfl).split hd2).foc 1 rfl rfl |>.split hd1
 refine c_seq ?_
 refine c_reg ?_
 refine st (ow_alloc (l := (List.replicate 32 0).map B8) H0 zr26 (by simp [Value.cells])) ?_
 rintro _ w2 ⟨g1, rfl, H3⟩
 refine c_nil ?_
 refine n_then ?_
 refine c_seq ?_
 refine c_reg ?_
 refine sy (v := Ad (bs g) (0)) (y_move rfl) ?_
 refine sy (v := Ad (bs g) (0)) (y_move rfl) ?_
 refine sy (v := Ad (bs g) (0)) (y_nilCheck rfl) ?_
 refine sy (v := Ad (bs g) (0 + 0)) (y_fld Try.underlying120 rfl rfl sz36 (by decide) rfl) ?_
 refine sy (v := rv) (y_load sc36 rfl (H3.cell 2 rfl rfl)) ?_
 refine sy (v := bv) (y_move rfl) ?_
 refine st (ow_buildSlice (pv := [(0, bv)]) (us := [bv]) Try.underlying36 sz23 zr23 H3 ⟨⟨rfl, rfl⟩, trivial⟩ (by decide) (fill1 (ho.rd H3 4 rfl).cells)) ?_
 rintro _ w5 ⟨g4, rfl, H6⟩
 have H7 : St w _ [_, _, _, _, _, _] w5 := H6.foc 2 rfl rfl
 refine st (ow_append Try.underlying36 sz23 zr23 bt23 rfl hov H7 rfl rfl ((rd_lit (k := 1) (us := [bv]) H7 1 rfl rfl (by simp [maxLen])).src Try.underlying36 (by intro u hu; simp only [List.mem_cons, List.not_mem_nil, or_false] at hu; subst hu; exact Rd.one (ho.rd H7 5 rfl))) (by omega) (by omega)) ?_
 rintro v9 w10 ⟨E8, ho12, H11⟩
 refine sy (v := Ad (bs g) (0)) (y_nilCheck rfl) ?_
 refine sy (v := Ad (bs g) (0 + 0)) (y_fld Try.underlying120 rfl rfl sz36 (by decide) rfl) ?_
 have H13 : St w _ [_, _, _, _, _, _] w10 := H11.foc 3 rfl rfl
 refine s0 (ow_store (j := 0) H13 sz36 rfl rfl (Rd.one (ho12.rd H13 1 rfl)) rfl (by simp)) ?_
 rintro _ w14 H15
 refine c_nil ?_
 refine n_then ?_
 refine c_seq ?_
 refine c_reg ?_
 refine sy (v := bv) (y_move rfl) ?_
 refine st (ow_call fn77 rfl (rof_c (bv) (l) _ ((ho.rd H15 5 rfl)).nil (by omega)) ⟨rfl, trivial⟩) ?_
 rintro _ w16 ⟨rfl, hB17⟩
 have H18 : St w _ [_, _, _, _, _, _] w16 := H15.call hB17
 have H19 : St w _ [_, _, _, _, _, _] w16 := H18.foc 3 rfl rfl
 refine s0 (ow_storeW (us := (sha (l)).map B8) H19 sz26 ((List.length_map _).trans (sha_length _)) rfl rfl (map_one (F := B8) (fun _ => rfl) _) ((List.length_map _).trans List.length_replicate)) ?_
 rintro _ w20 H21'
 have H21 : St w _ [[(g1, Rw 26 ((sha (l)).map B8))], _, _, _, _, _] w20 := H21'
 refine c_nil ?_
 refine n_then ?_
 refine wp_ret ?_
 refine e_r1 Try.results149 (rv_b H21 (i := 0) rfl ag26 sz26 ((List.length_map _).trans (sha_length _)) rfl) ?_
 have H22 : St w _ [_, _, _, _, _, _] w20 := H21.foc 5 rfl rfl
 have H23 : St w _ [_, _, _, _, _, _] w20 := H22.foc 5 rfl rfl
 have H24 : St w _ [_, _, _, _, _, _] w20 := H23.foc 3 rfl rfl
 have H25 : St w _ [_, _, _, _, _, _] w20 := H24.foc 4 rfl rfl
 have H26 : St w _ [_, _, _, _] w20 := H25.take 4 rfl
 obtain ⟨Ha, hda⟩ := H26.join
 obtain ⟨Hb, hdb2⟩ := ((Ha.foc 1 rfl rfl).foc 2 rfl rfl).join
 obtain ⟨Hc, hdc⟩ := Hb.join
 exact ⟨_, rfl, rfl, _, ⟨v9, vs ++ [bv], E8, F ++ Eb, rfl, by rw [List.length_append]; exact ho12, hrp.snoc ho, hda, hdc⟩, Hc⟩

theorem bleaf_c (g : Nat) (rows : List (List UInt8)) (EB : Part) (c : Cl) (w : World) (hB : BkP g rows EB) (hown : ∀ p ∈ EB, w.heap[p.1]? = some p.2) (hC : CR (EB.map (·.1)) w c) (hrb : rows.length ≤ 4398046511104) :
    Calls Try.prog 150 (([Ad (bs g) (0), .agg ([I c.c.k, .string (bst c.c.key), c.v]).toArray] : List Value).toArray) w (fun e w' => ∃ v, e = .returned v ∧ v = .agg ((leafH c.c).map B8).toArray ∧ ∃ EB', BkP g (rows ++ [leafB c.c]) EB' ∧ St w (EB.map (·.1)) [EB'] w') := by
 refine calls_mk Try.func150 rfl 23 Try.ntmps150 rfl ?_
 have H0 : St w (EB.map (·.1)) [EB] w := St.initE hown
 refine c_seq ?_
 refine c_reg ?_
 refine st (ow_box (l := [I (c.c.k), .string (bst c.c.key), c.v]) H0 rfl rfl) ?_
 rintro _ w2 ⟨g1, rfl, H3⟩
 refine st (ow_alloc (l := (List.replicate 32 0).map B8) H3 zr26 (by simp [Value.cells])) ?_
 rintro _ w5 ⟨g4, rfl, H6⟩
 refine c_nil ?_
 refine n_then ?_
 refine c_seq ?_
 have hk10 := num_le (u64 c.c.k)
 have hy10 := numS_le hC.2.1
 have hv10 := numS_le hC.2.2
 have hks := hC.2.1
 have hvs := hC.2.2
 refine c_reg ?_
 refine st (ow_buildSlice (pv := [(0, B8 (0))]) (us := [B8 (0)]) Try.underlying23 sz5 zr5 H6 ⟨⟨rfl, rfl⟩, trivial⟩ (by decide) (fill1 rfl)) ?_
 rintro _ w8 ⟨g7, rfl, H9⟩
 refine sy (v := .slice (some (bs g7)) 1 1) (y_assign rfl) ?_
 refine c_nil ?_
 refine n_then ?_
 refine c_seq ?_
 refine c_reg ?_
 refine sy (v := .slice (some (bs g7)) 1 1) (y_move rfl) ?_
 refine sy (v := Ad (bs g1) (0 + 0)) (y_fld Try.underlying48 rfl rfl sz3 (by decide) rfl) ?_
 refine sy (v := I (c.c.k)) (y_load sc3 rfl (H9.cell 2 rfl rfl)) ?_
 refine sy (v := U64 (u64 c.c.k)) (y_conv_I_64 Try.underlying3 Try.underlying59 rfl) ?_
 refine st (ow_call fn158 rfl (rnum_c (.slice (some (bs g7)) 1 1) ([0]) _ (u64 c.c.k) _ (os_lit (k := 1) rfl (by simp [maxLen])) (fun p hp => H9.own _ List.mem_cons_self p hp)  (by first | omega | (simp only [List.length_append, List.length_cons, List.length_nil, List.length_take, List.length_drop, hmac_length, sha_length, List.length_replicate]; omega))) ⟨rfl, rfl, trivial⟩) ?_
 rintro v10 w12 ⟨E11, ho14, H13⟩
 have H15 : St w _ [_, _, _, _] w12 := H9.appE H13
 refine sy (v := v10) (y_assign rfl) ?_
 refine c_nil ?_
 refine n_then ?_
 refine c_seq ?_
 refine c_reg ?_
 refine sy (v := v10) (y_move rfl) ?_
 refine sy (v := Ad (bs g1) (0 + 1)) (y_fld Try.underlying48 rfl rfl sz9 (by decide) rfl) ?_
 refine sy (v := .string (bst c.c.key)) (y_load sc9 rfl (H15.cell 2 rfl rfl)) ?_
 refine st (ow_convSB Try.underlying9 Try.underlying23 Try.underlying5 H15 rfl (by omega)) ?_
 rintro _ w17 ⟨g18, o19, ⟨c20, rfl⟩, hr21, H22⟩
 have H23 : St w _ [_, _, _, _, _] w17 := H22.foc 1 rfl rfl
 refine st (ow_call fn159 rfl (rbytes_c (v10) (([0]) ++ (numN (u64 c.c.k).toNat)) _ (.slice (some (bs g18)) c.c.key.length c20) c.c.key _ ho14 (fun p hp => H23.own _ List.mem_cons_self p hp) (Rd.awayB hr21 (fun _ => rfl) H23 0 1 rfl rfl (by decide)) (by omega) (by first | omega | (simp only [List.length_append, List.length_cons, List.length_nil, List.length_take, List.length_drop, hmac_length, sha_length, List.length_replicate]; omega))) ⟨rfl, rfl, trivial⟩) ?_
 rintro v24 w26 ⟨E25, ho28, H27⟩
 have H29 : St w _ [_, _, _, _, _] w26 := H23.appE H27
 refine sy (v := v24) (y_assign rfl) ?_
 refine c_nil ?_
 refine n_then ?_
 refine c_seq ?_
 refine c_reg ?_
 refine sy (v := Ad (bs g) (0)) (y_move rfl) ?_
 refine sy (v := v24) (y_move rfl) ?_
 refine sy (v := Ad (bs g1) (0 + 2)) (y_fld Try.underlying48 rfl rfl sz23 (by decide) rfl) ?_
 refine sy (v := c.v) (y_load sc23 rfl (H29.cell 3 rfl rfl)) ?_
 refine st (ow_call fn159 rfl (rbytes_c (v24) ((([0]) ++ (numN (u64 c.c.k).toNat)) ++ (numN c.c.key.length ++ c.c.key)) _ c.v c.c.l _ ho28 (fun p hp => H29.own _ List.mem_cons_self p hp) (hC.1.awayX H29) (by omega) (by first | omega | (simp only [List.length_append, List.length_cons, List.length_nil, List.length_take, List.length_drop, hmac_length, sha_length, List.length_replicate]; omega))) ⟨rfl, rfl, trivial⟩) ?_
 rintro v30 w32 ⟨E31, ho34, H33⟩
 have H35 : St w _ [_, _, _, _, _] w32 := H29.appE H33
 have H36 : St w _ [_, _, _, _, _] w32 := H35.foc 4 rfl rfl
 have H37 : St w _ [_, _, _, _, _] w32 := H36.foc 1 rfl rfl
 obtain ⟨Hj38, hd39⟩ := H37.join
 refine st (ow_call fn149 rfl (bhash_c g rows EB (v30) (((([0]) ++ (numN (u64 c.c.k).toNat)) ++ (numN c.c.key.length ++ c.c.key)) ++ (numN c.c.l.length ++ c.c.l)) _ _ hB ho34 hd39 (fun p hp => Hj38.own _ List.mem_cons_self p hp) (by first | omega | (simp only [List.length_append, List.length_cons, List.length_nil, List.length_take, List.length_drop, hmac_length, sha_length, List.length_replicate]; omega)) (by omega)) ⟨rfl, rfl, trivial⟩) ?_
 rintro _ w41 ⟨rfl, E40, hK43, H42⟩
 have H44 : St w _ [_, _, _, _] w41 := Hj38.appE H42
 have H45 : St w _ [_, _, _, _] w41 := H44.foc 2 rfl rfl
 refine s0 (ow_storeW (us := (sha (((([0]) ++ (numN (u64 c.c.k).toNat)) ++ (numN c.c.key.length ++ c.c.key)) ++ (numN c.c.l.length ++ c.c.l))).map B8) H45 sz26 ((List.length_map _).trans (sha_length _)) rfl rfl (map_one (F := B8) (fun _ => rfl) _) ((List.length_map _).trans List.length_replicate)) ?_
 rintro _ w46 H47'
 have H47 : St w _ [[(g4, Rw 26 ((sha (((([0]) ++ (numN (u64 c.c.k).toNat)) ++ (numN c.c.key.length ++ c.c.key)) ++ (numN c.c.l.length ++ c.c.l))).map B8))], _, _, _] w46 := H47'
 refine c_nil ?_
 refine n_then ?_
 refine wp_ret ?_
 refine e_r1 Try.results150 (rv_b H47 (i := 0) rfl ag26 sz26 ((List.length_map _).trans (sha_length _)) rfl) ?_
 have H48 : St w _ [_, _, _, _] w46 := H47.foc 1 rfl rfl
 have H49 : St w _ [_] w46 := H48.take 1 rfl
 have hE := (show (([0] ++ numN (u64 c.c.k).toNat) ++ (numN c.c.key.length ++ c.c.key)) ++ (numN c.c.l.length ++ c.c.l) = leafB c.c by simp [leafB])
 exact ⟨_, rfl, congrArg (fun q : List UInt8 => Value.agg (q.map B8).toArray) (congrArg sha hE), _, (hE ▸ hK43), H49⟩

theorem binner_c (g : Nat) (rows : List (List UInt8)) (EB : Part) (a b : List UInt8) (w : World) (hB : BkP g rows EB) (hown : ∀ p ∈ EB, w.heap[p.1]? = some p.2) (ha : a.length = 32) (hb : b.length = 32) (hrb : rows.length ≤ 4398046511104) :
    Calls Try.prog 152 (([Ad (bs g) (0), .agg (a.map B8).toArray, .agg (b.map B8).toArray] : List Value).toArray) w (fun e w' => ∃ v, e = .returned v ∧ v = .agg ((innerH a b).map B8).toArray ∧ ∃ EB', BkP g (rows ++ [innerB a b]) EB' ∧ St w (EB.map (·.1)) [EB'] w') := by
 refine calls_mk Try.func152 rfl 16 Try.ntmps152 rfl ?_
 have H0 : St w (EB.map (·.1)) [EB] w := St.initE hown
 refine c_seq ?_
 refine c_reg ?_
 refine st (ow_box (l := (a).map B8) H0 rfl rfl) ?_
 rintro _ w2 ⟨g1, rfl, H3⟩
 refine st (ow_box (l := (b).map B8) H3 rfl rfl) ?_
 rintro _ w5 ⟨g4, rfl, H6⟩
 refine st (ow_alloc (l := (List.replicate 32 0).map B8) H6 zr26 (by simp [Value.cells])) ?_
 rintro _ w8 ⟨g7, rfl, H9⟩
 refine c_nil ?_
 refine n_then ?_
 refine c_seq ?_
 refine c_reg ?_
 refine st (ow_buildSlice (pv := [(0, B8 (1))]) (us := [B8 (1)]) Try.underlying23 sz5 zr5 H9 ⟨⟨rfl, rfl⟩, trivial⟩ (by decide) (fill1 rfl)) ?_
 rintro _ w11 ⟨g10, rfl, H12⟩
 refine sy (v := .agg (a.map B8).toArray) (y_loadA (us := (a).map B8) ag26 sz26 ((List.length_map _).trans ha) rfl (fun j u hu => (H12.cell 3 rfl (by rw [Nat.zero_add]; exact hu)))) ?_
 refine st (ow_call fn148 rfl (rhash_c (.slice (some (bs g10)) 1 1) ([1]) _ a _ (os_lit (k := 1) rfl (by simp [maxLen])) (fun p hp => H12.own _ List.mem_cons_self p hp) ha (by first | omega | (simp only [List.length_append, List.length_cons, List.length_nil, List.length_take, List.length_drop, hmac_length, sha_length, List.length_replicate]; omega))) ⟨rfl, rfl, trivial⟩) ?_
 rintro v13 w15 ⟨E14, ho17, H16⟩
 have H18 : St w _ [_, _, _, _, _] w15 := H12.appE H16
 refine sy (v := v13) (y_assign rfl) ?_
 refine c_nil ?_
 refine n_then ?_
 refine c_seq ?_
 refine c_reg ?_
 refine sy (v := Ad (bs g) (0)) (y_move rfl) ?_
 refine sy (v := v13) (y_move rfl) ?_
 refine sy (v := .agg (b.map B8).toArray) (y_loadA (us := (b).map B8) ag26 sz26 ((List.length_map _).trans hb) rfl (fun j u hu => (H18.cell 2 rfl (by rw [Nat.zero_add]; exact hu)))) ?_
 refine st (ow_call fn148 rfl (rhash_c (v13) (([1]) ++ a) _ b _ ho17 (fun p hp => H18.own _ List.mem_cons_self p hp) hb (by first | omega | (simp only [List.length_append, List.length_cons, List.length_nil, List.length_take, List.length_drop, hmac_length, sha_length, List.length_replicate]; omega))) ⟨rfl, rfl, trivial⟩) ?_
 rintro v19 w21 ⟨E20, ho23, H22⟩
 have H24 : St w _ [_, _, _, _, _] w21 := H18.appE H22
 have H25 : St w _ [_, _, _, _, _] w21 := H24.foc 4 rfl rfl
 have H26 : St w _ [_, _, _, _, _] w21 := H25.foc 1 rfl rfl
 obtain ⟨Hj27, hd28⟩ := H26.join
 refine st (ow_call fn149 rfl (bhash_c g rows EB (v19) ((([1]) ++ a) ++ b) _ _ hB ho23 hd28 (fun p hp => Hj27.own _ List.mem_cons_self p hp) (by first | omega | (simp only [List.length_append, List.length_cons, List.length_nil, List.length_take, List.length_drop, hmac_length, sha_length, List.length_replicate]; omega)) (by omega)) ⟨rfl, rfl, trivial⟩) ?_
 rintro _ w30 ⟨rfl, E29, hK32, H31⟩
 have H33 : St w _ [_, _, _, _] w30 := Hj27.appE H31
 have H34 : St w _ [_, _, _, _] w30 := H33.foc 1 rfl rfl
 refine s0 (ow_storeW (us := (sha ((([1]) ++ a) ++ b)).map B8) H34 sz26 ((List.length_map _).trans (sha_length _)) rfl rfl (map_one (F := B8) (fun _ => rfl) _) ((List.length_map _).trans List.length_replicate)) ?_
 rintro _ w35 H36'
 have H36 : St w _ [[(g7, Rw 26 ((sha ((([1]) ++ a) ++ b)).map B8))], _, _, _] w35 := H36'
 refine c_nil ?_
 refine n_then ?_
 refine wp_ret ?_
 refine e_r1 Try.results152 (rv_b H36 (i := 0) rfl ag26 sz26 ((List.length_map _).trans (sha_length _)) rfl) ?_
 have H37 : St w _ [_, _, _, _] w35 := H36.foc 1 rfl rfl
 have H38 : St w _ [_] w35 := H37.take 1 rfl
 have hE := (show ([1] ++ a) ++ b = innerB a b by simp [innerB])
 exact ⟨_, rfl, congrArg (fun q : List UInt8 => Value.agg (q.map B8).toArray) (congrArg sha hE), _, (hE ▸ hK32), H38⟩

theorem btop_c (g : Nat) (rows : List (List UInt8)) (EB : Part) (n : Nat) (t : List UInt8) (w : World) (hB : BkP g rows EB) (hown : ∀ p ∈ EB, w.heap[p.1]? = some p.2) (ht : t.length = 32) (hn : n ≤ 9223372036854775807) (hrb : rows.length ≤ 4398046511104) :
    Calls Try.prog 129 (([Ad (bs g) (0), I ((n : Nat) : Int), .agg (t.map B8).toArray] : List Value).toArray) w (fun e w' => ∃ v, e = .returned v ∧ v = .agg ((topH n (if n = 0 then [] else t)).map B8).toArray ∧ ∃ EB', BkP g (rows ++ [topB n (if n = 0 then [] else t)]) EB' ∧ St w (EB.map (·.1)) [EB'] w') := by
 have hl8 := l8_len n
 refine calls_mk Try.func129 rfl 30 Try.ntmps129 rfl ?_
 have H0 : St w (EB.map (·.1)) [EB] w := St.initE hown
 refine c_seq ?_
 refine c_reg ?_
 refine st (ow_box (l := (t).map B8) H0 rfl rfl) ?_
 rintro _ w2 ⟨g1, rfl, H3⟩
 refine st (ow_alloc (l := (List.replicate 32 0).map B8) H3 zr26 (by simp [Value.cells])) ?_
 rintro _ w5 ⟨g4, rfl, H6⟩
 refine c_nil ?_
 refine n_then ?_
 refine c_seq ?_
 refine c_reg ?_
 refine st (ow_buildSlice (pv := [(0, B8 (2))]) (us := [B8 (2)]) Try.underlying23 sz5 zr5 H6 ⟨⟨rfl, rfl⟩, trivial⟩ (by decide) (fill1 rfl)) ?_
 rintro _ w8 ⟨g7, rfl, H9⟩
 refine sy (v := .slice (some (bs g7)) 1 1) (y_assign rfl) ?_
 refine c_nil ?_
 refine n_then ?_
 refine c_seq ?_
 refine c_seq ?_
 refine c_reg ?_
 refine sy (v := I ((0 : Nat) : Int)) (y_assign (v := I ((0 : Nat) : Int)) rfl) ?_
 refine c_nil ?_
 refine n_then ?_
 refine wp_block ?_
 refine c_loop (fun (k : Nat) f10 w11 => ∃ (tv : Value), ∃ (ET : Part), f10 0 = Ad (bs g) (0) ∧ f10 1 = I ((n : Nat) : Int) ∧ f10 5 = Ad (bs g1) (0) ∧ f10 6 = Ad (bs g4) (0) ∧ f10 7 = tv ∧ f10 8 = I ((k : Nat) : Int) ∧ k ≤ 8 ∧ OS 5 1 tv ([2] ++ (l8 n).take k).length (([2] ++ (l8 n).take k).map B8) ET ∧ St w (EB.map (·.1)) [ET, [(g4, Rw 26 ((List.replicate 32 0).map B8))], [(g1, Rw 26 ((t).map B8))], EB] w11) (fun k => 8 - k) 0 ⟨_, _, rfl, rfl, rfl, rfl, rfl, rfl, (by omega), (os_lit (k := 1) rfl (by simp [maxLen])), H9⟩ ?_
 rintro k f10 w11 ⟨tv, ET, s0_12, s1_12, s5_12, s6_12, s7_12, s8_12, hk, hoT, H12⟩
 have htk : ([2] ++ (l8 n).take k).length = k + 1 := by rw [List.length_append, List.length_take, l8_len]; simp; omega
 refine c_seq ?_
 refine c_seq ?_
 refine c_reg ?_
 refine sy (v := I ((k : Nat) : Int)) (y_move s8_12) ?_
 refine sy (v := .bool (decide (k < 8))) (n_lss (a := k) (b := 8) rfl rfl) ?_
 refine c_nil ?_
 refine n_then ?_
 refine c_if rfl (fun hc13 => ?_) (fun hc13 => ?_)
 ·
  refine wp_skip ?_
  refine n_then ?_
  refine c_seq ?_
  refine wp_block ?_
  refine c_reg ?_
  refine sy (v := tv) (y_move s7_12) ?_
  refine sy (v := I ((n : Nat) : Int)) (y_move s1_12) ?_
  refine sy (v := I ((k : Nat) : Int)) (y_move s8_12) ?_
  refine sy (v := I ((8 * k : Nat) : Int)) (n_mul (a := 8) (b := k) rfl rfl (by omega)) ?_
  refine sy (v := I ((n / 2 ^ (8 * k) : Nat) : Int)) (n_shr (m := 8 * k) (a := n) rfl rfl (by omega)) ?_
  refine sy (v := B8 (b8 ((n / 2 ^ (8 * k) : Nat)))) (y_conv_I_8 Try.underlying3 Try.underlying5 rfl) ?_
  refine st (ow_buildSlice (pv := [(0, B8 (b8 ((n / 2 ^ (8 * k) : Nat))))]) (us := [B8 (b8 ((n / 2 ^ (8 * k) : Nat)))]) Try.underlying23 sz5 zr5 H12 ⟨⟨rfl, rfl⟩, trivial⟩ (by decide) (fill1 rfl)) ?_
  rintro _ w15 ⟨g14, rfl, H16⟩
  have H17 : St w _ [_, _, _, _, _] w15 := H16.foc 1 rfl rfl
  refine st (ow_appendW Try.underlying23 sz5 zr5 bt5 rfl hoT H17 rfl rfl ((rd_lit (k := 1) (us := [B8 (b8 ((n / 2 ^ (8 * k) : Nat)))]) H16 0 rfl rfl (by simp [maxLen])).src Try.underlying23 (by simp [Value.oneCell'])) (by first | omega | (simp only [List.length_append, List.length_cons, List.length_nil, List.length_take, List.length_drop, hmac_length, sha_length, List.length_replicate]; omega)) (by first | omega | (simp only [List.length_append, List.length_cons, List.length_nil, List.length_take, List.length_drop, hmac_length, sha_length, List.length_replicate]; omega))) ?_
  rintro v19 w20 ⟨E18, ho22', H21⟩
  have ho22 : OS 5 1 v19 (([2] ++ (l8 n).take k) ++ ([b8 ((n / 2 ^ (8 * k) : Nat))])).length ((([2] ++ (l8 n).take k) ++ ([b8 ((n / 2 ^ (8 * k) : Nat))])).map B8) E18 := by rw [List.length_append, List.map_append]; exact ho22'
  refine sy (v := v19) (y_assign rfl) ?_
  refine c_nil ?_
  refine n_block (n_then ?_)
  refine c_reg ?_
  refine sy (v := I ((k : Nat) : Int)) (y_move s8_12) ?_
  refine sy (v := I ((k + 1 : Nat) : Int)) (n_add (a := k) (b := 1) rfl rfl (by omega)) ?_
  refine sy (v := I ((k + 1 : Nat) : Int)) (y_assign rfl) ?_
  refine c_nil ?_
  have H23 : St w _ [_, _, _, _, _] w20 := H21.foc 4 rfl rfl
  have H24 : St w _ [_, _, _, _, _] w20 := H23.foc 4 rfl rfl
  have H25 : St w _ [_, _, _, _, _] w20 := H24.foc 4 rfl rfl
  have H26 : St w _ [_, _, _, _, _] w20 := H25.foc 3 rfl rfl
  have H27 : St w _ [_, _, _, _] w20 := H26.take 4 rfl
  exact lp_next (k + 1) ⟨v19, E18, s0_12, s1_12, s5_12, s6_12, rfl, rfl, (by omega), (by rw [← l8_take (by omega), ← List.append_assoc]; exact ho22), H27⟩ (by show _ < _; omega)
 ·
  obtain rfl : k = 8 := by omega
  rw [List.take_of_length_le (l := l8 n) (by rw [l8_len]; omega)] at hoT htk
  refine wp_exit ?_
  refine x_then (x_then (x_hit (n_then ?_)))
  refine c_seq ?_
  refine c_seq ?_
  refine c_reg ?_
  refine sy (v := I ((n : Nat) : Int)) (y_move s1_12) ?_
  refine sy (v := .bool (decide (0 < n))) (n_gtr (a := n) (b := 0) rfl rfl) ?_
  refine c_nil ?_
  refine n_then ?_
  refine c_if rfl (fun hc28 => ?_) (fun hc28 => ?_)
  ·
   refine c_reg ?_
   refine sy (v := tv) (y_move s7_12) ?_
   refine sy (v := .agg (t.map B8).toArray) (y_loadA (us := (t).map B8) ag26 sz26 ((List.length_map _).trans ht) s5_12 (fun j u hu => (H12.cell 2 rfl (by rw [Nat.zero_add]; exact hu)))) ?_
   refine st (ow_call fn148 rfl (rhash_c (tv) ([2] ++ l8 n) _ t _ hoT (fun p hp => H12.own _ List.mem_cons_self p hp) ht (by first | omega | (simp only [List.length_append, List.length_cons, List.length_nil, List.length_take, List.length_drop, hmac_length, sha_length, List.length_replicate]; omega))) ⟨rfl, rfl, trivial⟩) ?_
   rintro v29 w31 ⟨E30, ho33, H32⟩
   have H34 : St w _ [_, _, _, _] w31 := H12.appE H32
   refine sy (v := v29) (y_assign rfl) ?_
   refine c_nil ?_
   refine n_then ?_
   refine c_seq ?_
   refine c_reg ?_
   refine sy (v := Ad (bs g) (0)) (y_move s0_12) ?_
   refine sy (v := v29) (y_move rfl) ?_
   have H35 : St w _ [_, _, _, _] w31 := H34.foc 3 rfl rfl
   have H36 : St w _ [_, _, _, _] w31 := H35.foc 1 rfl rfl
   obtain ⟨Hj37, hd38⟩ := H36.join
   refine st (ow_call fn149 rfl (bhash_c g rows EB (v29) (([2] ++ l8 n) ++ t) _ _ hB ho33 hd38 (fun p hp => Hj37.own _ List.mem_cons_self p hp) (by first | omega | (simp only [List.length_append, List.length_cons, List.length_nil, List.length_take, List.length_drop, hmac_length, sha_length, List.length_replicate]; omega)) (by omega)) ⟨rfl, rfl, trivial⟩) ?_
   rintro _ w40 ⟨rfl, E39, hK42, H41⟩
   have H43 : St w _ [_, _, _] w40 := Hj37.appE H41
   have H44 : St w _ [_, _, _] w40 := H43.foc 1 rfl rfl
   refine s0 (ow_storeW (us := (sha (([2] ++ l8 n) ++ t)).map B8) H44 sz26 ((List.length_map _).trans (sha_length _)) s6_12 rfl (map_one (F := B8) (fun _ => rfl) _) ((List.length_map _).trans List.length_replicate)) ?_
   rintro _ w45 H46'
   have H46 : St w _ [[(g4, Rw 26 ((sha (([2] ++ l8 n) ++ t)).map B8))], _, _] w45 := H46'
   refine c_nil ?_
   refine n_then ?_
   refine wp_ret ?_
   refine e_r1 Try.results129 (rv_b H46 (i := 0) rfl ag26 sz26 ((List.length_map _).trans (sha_length _)) s6_12) ?_
   have H47 : St w _ [_, _, _] w45 := H46.foc 1 rfl rfl
   have H48 : St w _ [_] w45 := H47.take 1 rfl
   have hE := (show ([2] ++ l8 n) ++ t = topB n (if n = 0 then [] else t) by rw [if_neg (by omega)]; simp [topB])
   exact ⟨_, rfl, congrArg (fun q : List UInt8 => Value.agg (q.map B8).toArray) (congrArg sha hE), _, (hE ▸ hK42), H48⟩
  ·
   refine wp_skip ?_
   refine n_then ?_
   refine c_seq ?_
   refine c_reg ?_
   refine sy (v := Ad (bs g) (0)) (y_move s0_12) ?_
   refine sy (v := tv) (y_move s7_12) ?_
   have H49 : St w _ [_, _, _, _] w11 := H12.foc 3 rfl rfl
   have H50 : St w _ [_, _, _, _] w11 := H49.foc 1 rfl rfl
   obtain ⟨Hj51, hd52⟩ := H50.join
   refine st (ow_call fn149 rfl (bhash_c g rows EB (tv) ([2] ++ l8 n) _ _ hB hoT hd52 (fun p hp => Hj51.own _ List.mem_cons_self p hp) (by first | omega | (simp only [List.length_append, List.length_cons, List.length_nil, List.length_take, List.length_drop, hmac_length, sha_length, List.length_replicate]; omega)) (by omega)) ⟨rfl, rfl, trivial⟩) ?_
   rintro _ w54 ⟨rfl, E53, hK56, H55⟩
   have H57 : St w _ [_, _, _] w54 := Hj51.appE H55
   have H58 : St w _ [_, _, _] w54 := H57.foc 1 rfl rfl
   refine s0 (ow_storeW (us := (sha ([2] ++ l8 n)).map B8) H58 sz26 ((List.length_map _).trans (sha_length _)) s6_12 rfl (map_one (F := B8) (fun _ => rfl) _) ((List.length_map _).trans List.length_replicate)) ?_
   rintro _ w59 H60'
   have H60 : St w _ [[(g4, Rw 26 ((sha ([2] ++ l8 n)).map B8))], _, _] w59 := H60'
   refine c_nil ?_
   refine n_then ?_
   refine wp_ret ?_
   refine e_r1 Try.results129 (rv_b H60 (i := 0) rfl ag26 sz26 ((List.length_map _).trans (sha_length _)) s6_12) ?_
   have H61 : St w _ [_, _, _] w59 := H60.foc 1 rfl rfl
   have H62 : St w _ [_] w59 := H61.take 1 rfl
   have hE := (show [2] ++ l8 n = topB n (if n = 0 then [] else t) by rw [if_pos (by omega)]; simp [topB])
   exact ⟨_, rfl, congrArg (fun q : List UInt8 => Value.agg (q.map B8).toArray) (congrArg sha hE), _, (hE ▸ hK56), H62⟩

end Go.Proofs.Ytdcmbcjkdhdohaa
