/- Walks: pleachref06.power, Places; Places for any size; sameInts. -/
import Derived.Test.YtdcmbcjkdhdohaaBloom2
import Derived.Test.YtdcmbcjkdhdohaaTwo
namespace Go.Proofs.Ytdcmbcjkdhdohaa
open Go Go.RowKit
attribute [local irreducible] wpList wpP Code.wp

theorem pows_next : ∀ p ∈ pows, ∀ q ∈ pows, q < p * 2 → q < p ∨ q = p := by decide
theorem pows_twice : ∀ p ∈ pows, p * 2 ∈ pows ∨ p * 2 = 16384 := by decide
theorem pows_ge : ∀ p ∈ pows, 8 ≤ p := by decide
theorem pows_le : ∀ p ∈ pows, p ≤ 8192 := by decide
theorem le8_step (x : UInt64) (i : Nat) (h : i < 8) : (le8 x).take i ++ [(x >>> UInt64.ofNat (8 * i)).toUInt8] = (le8 x).take (i + 1) := by
  have : i = 0 ∨ i = 1 ∨ i = 2 ∨ i = 3 ∨ i = 4 ∨ i = 5 ∨ i = 6 ∨ i = 7 := by omega
  rcases this with rfl | rfl | rfl | rfl | rfl | rfl | rfl | rfl <;> rfl
/-- The last q of eight bytes as a number. -/
def hzN (s : List UInt8) (i q : Nat) : UInt64 := UInt64.ofNat (leN ((s.drop (8 * i + 8 - q)).take q))
theorem hz_step {s : List UInt8} {i q : Nat} (hs : s.length = 32) (hi : i < 4) (hq : q < 8) : 256 * hzN s i q + (s.getD (8 * i + (7 - q)) 0).toUInt64 = hzN s i (q + 1) := by
  have hlt : 8 * i + (7 - q) < s.length := by omega
  have e : (s.drop (8 * i + 8 - (q + 1))).take (q + 1) = s.getD (8 * i + (7 - q)) 0 :: (s.drop (8 * i + 8 - q)).take q := by
    rw [show 8 * i + 8 - (q + 1) = 8 * i + (7 - q) by omega, List.drop_eq_getElem_cons hlt, List.take_succ_cons, List.getD_eq_getElem?_getD, List.getElem?_eq_getElem hlt, show 8 * i + (7 - q) + 1 = 8 * i + 8 - q by omega]
    rfl
  unfold hzN
  rw [e]
  simp only [leN]
  apply UInt64.toNat_inj.1
  rw [UInt64.toNat_add, UInt64.toNat_mul, UInt64.toNat_ofNat', UInt64.toNat_ofNat', UInt8.toNat_toUInt64, show (256 : UInt64).toNat = 256 from rfl]
  omega
theorem hz_8 {s : List UInt8} {i : Nat} (hi : i < 4) : hzN s i 8 = (nw s).getD i 0 := by
  have : i = 0 ∨ i = 1 ∨ i = 2 ∨ i = 3 := by omega
  rcases this with rfl | rfl | rfl | rfl <;> rfl
/-- The bits that stand for a hash; none where the size is none. -/
def plI (x : UInt64) (h : List UInt8) (i : Int) : List Nat := if okS i then plc (dg x h) i.toNat else []
theorem plI_le (x : UInt64) (h : List UInt8) (i : Int) : (plI x h i).length ≤ 4 := by
  unfold plI
  split
  · rw [plc_length]; omega
  · simp
theorem take_snoc8 {h : List UInt8} {i : Nat} (hi : i < h.length) : h.take (i + 1) = h.take i ++ [h.getD i 0] := by
  rw [List.take_add_one, List.getD_eq_getElem?_getD, List.getElem?_eq_getElem hi]; rfl

theorem power_c (i : Int) (w : World) :
    Calls Try.prog 99 (([I (i)] : List Value).toArray) w (fun e w' => ∃ v, e = .returned v ∧ v = .bool (decide (okS i)) ∧ Below w.heap.size w w') := by
  refine calls_mk Try.func99 rfl 11 Try.ntmps99 rfl ?_
  have H0 : St w [] [] w := St.refl w
  refine c_seq ?_
  refine c_reg ?_
  refine sy (v := .bool (false)) (y_assign (v := .bool (false)) rfl) ?_
  refine c_nil ?_
  refine n_then ?_
  refine c_seq ?_
  refine c_seq ?_
  refine c_reg ?_
  refine sy (v := I ((8 : Nat) : Int)) (y_assign (v := I ((8 : Nat) : Int)) rfl) ?_
  refine c_nil ?_
  refine n_then ?_
  refine wp_block ?_
  refine c_loop (fun (p : Nat) f1 w2 => f1 0 = I (i) ∧ f1 3 = I ((p : Nat) : Int) ∧ (p ∈ pows ∨ p = 16384) ∧ (∀ q ∈ pows, q < p → (q : Int) ≠ i) ∧ St w [] [] w2) (fun p => 16384 - p) 8 ⟨rfl, rfl, (.inl (by decide)), (fun q hq h => absurd h (by have := pows_ge q hq; omega)), H0⟩ ?_
  rintro p f1 w2 ⟨s0_3, s3_3, hp, hq, H3⟩
  have hp2 : p ≤ 16384 := hp.elim (fun h => Nat.le_trans (pows_le p h) (by omega)) (fun h => by omega)
  have hp8 : 8 ≤ p := hp.elim (fun h => pows_ge p h) (fun h => by omega)
  refine c_seq ?_
  refine c_seq ?_
  refine c_reg ?_
  refine sy (v := I ((p : Nat) : Int)) (y_move s3_3) ?_
  refine sy (v := .bool (decide (p ≤ 8192))) (n_leq (a := p) (b := 8192) rfl rfl) ?_
  refine c_nil ?_
  refine n_then ?_
  refine c_if rfl (fun hc4 => ?_) (fun hc4 => ?_)
  · skip
    have hpm : p ∈ pows := hp.resolve_right (by omega)
    refine wp_skip ?_
    refine n_then ?_
    refine c_seq ?_
    refine wp_block ?_
    refine c_seq ?_
    refine c_reg ?_
    refine sy (v := I ((p : Nat) : Int)) (y_move s3_3) ?_
    refine sy (v := I (i)) (y_move s0_3) ?_
    refine sy (v := .bool (decide (((p : Nat) : Int) = i))) (y_eqlK (i := ((p : Nat) : Int)) (j := i) rfl rfl) ?_
    refine c_nil ?_
    refine n_then ?_
    refine c_if rfl (fun hc5 => ?_) (fun hc5 => ?_)
    · skip
      refine c_seq ?_
      refine c_reg ?_
      refine sy (v := .bool (true)) (y_assign (v := .bool (true)) rfl) ?_
      refine c_nil ?_
      refine n_then ?_
      refine wp_ret ?_
      refine r_block (r_then (r_then (r_block (r_then ?_))))
      refine e_r1 Try.results99 (rv_t rfl) ?_
      refine ⟨_, rfl, ?_, H3.below⟩
      exact congrArg Value.bool (decide_eq_true ((okS_iff i).2 ⟨p, hpm, by omega⟩)).symm
    · skip
      refine wp_skip ?_
      refine n_block (n_then ?_)
      refine c_reg ?_
      refine sy (v := I ((p : Nat) : Int)) (y_move s3_3) ?_
      refine sy (v := I ((2 * p : Nat) : Int)) (n_mul (a := 2) (b := p) rfl rfl (by omega)) ?_
      refine sy (v := I ((2 * p : Nat) : Int)) (y_assign rfl) ?_
      refine c_nil ?_
      exact lp_next (p * 2) ⟨s0_3, (by show I _ = I _; rw [Nat.mul_comm]), (pows_twice p hpm), (fun q hq' h => (pows_next p hpm q hq' h).elim (hq q hq') (fun e => by subst e; assumption)), H3⟩ (by show _ < _; omega)
  · skip
    refine wp_exit ?_
    refine x_then (x_then (x_hit (n_then ?_)))
    refine c_seq ?_
    refine c_reg ?_
    refine sy (v := .bool (false)) (y_assign (v := .bool (false)) rfl) ?_
    refine c_nil ?_
    refine n_then ?_
    refine wp_ret ?_
    refine e_r1 Try.results99 (rv_t rfl) ?_
    refine ⟨_, rfl, ?_, H3.below⟩
    refine congrArg Value.bool (decide_eq_false fun hk => ?_).symm
    obtain ⟨q, hq1, hq2⟩ := (okS_iff i).1 hk
    exact hq q hq1 (by have := pows_le q hq1; omega) hq2.symm

theorem rplaces_c (x : UInt64) (h : List UInt8) (z : Nat) (w : World) (hh : h.length = 32) (hok : okS (z : Int)) :
    Calls Try.prog 41 (([U64 (x), .agg ((h).map B8).toArray, I ((z : Nat) : Int)] : List Value).toArray) w (fun e w' => ∃ v, e = .returned v ∧ ∃ E, OS 3 1 v (plc (dg x h) z).length ((plc (dg x h) z).map IN) E ∧ St w [] [E] w') := by
  have hz8 := okS_le hok
  have hsg : (u64 ((8 * z : Nat) : Int)) ≠ 0 := u64_ne (by omega) (by omega)
  have hl8 := le8_length x
  refine calls_mk Try.func41 rfl 74 Try.ntmps41 rfl ?_
  have H0 : St w [] [] w := St.refl w
  refine c_seq ?_
  refine c_reg ?_
  refine st (ow_box (l := (h).map B8) H0 rfl rfl) ?_
  rintro _ w2 ⟨g1, rfl, H3⟩
  refine sy (v := .slice none 0 0) (y_assign (v := .slice none 0 0) rfl) ?_
  refine c_nil ?_
  refine n_then ?_
  refine c_seq ?_
  refine c_reg ?_
  refine sy (v := I ((z : Nat) : Int)) (y_move rfl) ?_
  refine st (ow_call fn99 rfl (power_c (((z : Nat) : Int)) _) ⟨rfl, trivial⟩) ?_
  rintro _ w4 ⟨rfl, hB5⟩
  have H6 : St w [] [[(g1, Rw 26 ((h).map B8))]] w4 := H3.call hB5
  refine sy (v := .bool (decide (okS (((z : Nat) : Int))))) (y_assign rfl) ?_
  refine c_nil ?_
  refine n_then ?_
  refine c_seq ?_
  refine c_seq ?_
  refine c_reg ?_
  refine sy (v := .bool (decide (okS (((z : Nat) : Int))))) (y_move rfl) ?_
  refine sy (v := .bool (decide (¬ (okS (((z : Nat) : Int)))))) (y_notP rfl) ?_
  refine c_nil ?_
  refine n_then ?_
  have hq7 : ¬ (¬ (okS (((z : Nat) : Int)))) := (not_not_intro hok)
  refine c_f rfl (decide_eq_false hq7) ?_
  refine wp_skip ?_
  refine n_then ?_
  refine c_seq ?_
  refine c_reg ?_
  refine st (ow_buildSlice (pv := []) (us := []) Try.underlying23 sz5 zr5 H6 trivial (by decide) fill0) ?_
  rintro _ w9 ⟨g8, rfl, H10⟩
  refine sy (v := .slice (some (bs g8)) 0 0) (y_assign rfl) ?_
  refine c_nil ?_
  refine n_then ?_
  refine c_seq ?_
  refine c_seq ?_
  refine c_reg ?_
  refine sy (v := I ((0 : Nat) : Int)) (y_assign (v := I ((0 : Nat) : Int)) rfl) ?_
  refine c_nil ?_
  refine n_then ?_
  refine wp_block ?_
  refine c_loop (fun (i : Nat) f11 w12 => ∃ (tv : Value), ∃ (ET : Part), f11 0 = U64 (x) ∧ f11 2 = I ((z : Nat) : Int) ∧ f11 4 = Ad (bs g1) (0) ∧ f11 8 = tv ∧ f11 9 = I ((i : Nat) : Int) ∧ i ≤ 8 ∧ OS 5 1 tv ((le8 x).take i).length (((le8 x).take i).map B8) ET ∧ St w [] [ET, [(g1, Rw 26 ((h).map B8))]] w12) (fun i => 8 - i) 0 ⟨_, _, rfl, rfl, rfl, rfl, rfl, (by omega), (os_lit rfl (by simp [maxLen])), H10⟩ ?_
  rintro i f11 w12 ⟨tv, ET, s0_13, s2_13, s4_13, s8_13, s9_13, hi, hoT, H13⟩
  have hta : ((le8 x).take i).length = i := by rw [List.length_take, le8_length]; omega
  refine c_seq ?_
  refine c_seq ?_
  refine c_reg ?_
  refine sy (v := I ((i : Nat) : Int)) (y_move s9_13) ?_
  refine sy (v := .bool (decide (i < 8))) (n_lss (a := i) (b := 8) rfl rfl) ?_
  refine c_nil ?_
  refine n_then ?_
  refine c_if rfl (fun hc14 => ?_) (fun hc14 => ?_)
  · skip
    refine wp_skip ?_
    refine n_then ?_
    refine c_seq ?_
    refine wp_block ?_
    refine c_reg ?_
    refine sy (v := tv) (y_move s8_13) ?_
    refine sy (v := U64 (x)) (y_move s0_13) ?_
    refine sy (v := I ((i : Nat) : Int)) (y_move s9_13) ?_
    refine sy (v := I ((8 * i : Nat) : Int)) (n_mul (a := 8) (b := i) rfl rfl (by omega)) ?_
    refine sy (v := U64 (x >>> UInt64.ofNat (8 * i))) (n_shr64 (m := 8 * i) (c := x) rfl rfl (by omega)) ?_
    refine sy (v := B8 ((x >>> UInt64.ofNat (8 * i)).toUInt8)) (y_conv_64_8 Try.underlying59 Try.underlying5 rfl) ?_
    refine st (ow_buildSlice (pv := [(0, B8 ((x >>> UInt64.ofNat (8 * i)).toUInt8))]) (us := [B8 ((x >>> UInt64.ofNat (8 * i)).toUInt8)]) Try.underlying23 sz5 zr5 H13 ⟨⟨rfl, rfl⟩, trivial⟩ (by decide) (fill1 rfl)) ?_
    rintro _ w16 ⟨g15, rfl, H17⟩
    have H18 : St w [] [ET, [(g15, Rw 5 ([B8 ((x >>> UInt64.ofNat (8 * i)).toUInt8)]))], [(g1, Rw 26 ((h).map B8))]] w16 := H17.foc 1 rfl rfl
    refine st (ow_append Try.underlying23 sz5 zr5 bt5 rfl hoT H18 rfl rfl ((rd_lit (k := 1) (us := [B8 ((x >>> UInt64.ofNat (8 * i)).toUInt8)]) H17 0 rfl rfl (by simp [maxLen])).src Try.underlying23 (by simp [Value.oneCell'])) (by omega) (by omega)) ?_
    rintro v20 w21 ⟨E19, ho23', H22⟩
    have ho23 : OS 5 1 v20 (((le8 x).take i) ++ ([(x >>> UInt64.ofNat (8 * i)).toUInt8])).length ((((le8 x).take i) ++ ([(x >>> UInt64.ofNat (8 * i)).toUInt8])).map B8) E19 := by rw [List.length_append, List.map_append]; exact ho23'
    refine sy (v := v20) (y_assign rfl) ?_
    refine c_nil ?_
    refine n_block (n_then ?_)
    refine c_reg ?_
    refine sy (v := I ((i : Nat) : Int)) (y_move s9_13) ?_
    refine sy (v := I ((i + 1 : Nat) : Int)) (n_add (a := i) (b := 1) rfl rfl (by omega)) ?_
    refine sy (v := I ((i + 1 : Nat) : Int)) (y_assign rfl) ?_
    refine c_nil ?_
    have H24 : St w [] [[(g1, Rw 26 ((h).map B8))], E19, [(g15, Rw 5 ([B8 ((x >>> UInt64.ofNat (8 * i)).toUInt8)]))]] w21 := H22.foc 2 rfl rfl
    have H25 : St w [] [E19, [(g1, Rw 26 ((h).map B8))], [(g15, Rw 5 ([B8 ((x >>> UInt64.ofNat (8 * i)).toUInt8)]))]] w21 := H24.foc 1 rfl rfl
    have H26 : St w [] [E19, [(g1, Rw 26 ((h).map B8))]] w21 := H25.take 2 rfl
    exact lp_next (i + 1) ⟨v20, E19, s0_13, s2_13, s4_13, rfl, rfl, (by omega), (by rw [← le8_step x i (by omega)]; exact ho23), H26⟩ (by show _ < _; omega)
  · skip
    obtain rfl : i = 8 := by omega
    rw [show (le8 x).take 8 = le8 x from rfl] at hoT
    refine wp_exit ?_
    refine x_then (x_then (x_hit (n_then ?_)))
    refine c_seq ?_
    refine c_seq ?_
    refine c_reg ?_
    refine sy (v := I ((0 : Nat) : Int)) (y_assign (v := I ((0 : Nat) : Int)) rfl) ?_
    refine c_nil ?_
    refine n_then ?_
    refine wp_block ?_
    refine c_loop (fun (i : Nat) f27 w28 => ∃ (uv : Value), ∃ (EU : Part), f27 2 = I ((z : Nat) : Int) ∧ f27 4 = Ad (bs g1) (0) ∧ f27 8 = uv ∧ f27 10 = I ((i : Nat) : Int) ∧ i ≤ 32 ∧ OS 5 1 uv (le8 x ++ h.take i).length ((le8 x ++ h.take i).map B8) EU ∧ St w [] [EU, [(g1, Rw 26 ((h).map B8))]] w28) (fun i => 32 - i) 0 ⟨_, _, s2_13, s4_13, s8_13, rfl, (by omega), (by rw [List.take_zero, List.append_nil]; exact hoT), H13⟩ ?_
    rintro i f27 w28 ⟨uv, EU, s2_29, s4_29, s8_29, s10_29, hi, hoU, H29⟩
    have htb : (le8 x ++ h.take i).length = 8 + i := by rw [List.length_append, le8_length, List.length_take]; omega
    refine c_seq ?_
    refine c_seq ?_
    refine c_reg ?_
    refine sy (v := I ((i : Nat) : Int)) (y_move s10_29) ?_
    refine sy (v := .bool (decide (i < 32))) (n_lss (a := i) (b := 32) rfl rfl) ?_
    refine c_nil ?_
    refine n_then ?_
    refine c_if rfl (fun hc30 => ?_) (fun hc30 => ?_)
    · skip
      refine wp_skip ?_
      refine n_then ?_
      refine c_seq ?_
      refine wp_block ?_
      refine c_reg ?_
      refine sy (v := uv) (y_move s8_29) ?_
      refine sy (v := I ((i : Nat) : Int)) (y_move s10_29) ?_
      refine sy (v := Ad (bs g1) (0 + i * 1)) (y_ixA (m := i) Try.underlying26 sz5 s4_29 rfl rfl (by omega)) ?_
      refine sy (v := B8 (h.getD i 0)) (y_load sc5 rfl (H29.cell 1 rfl (by simp only [Nat.zero_add, Nat.mul_one]; exact map_get B8 0 (by omega)))) ?_
      refine st (ow_buildSlice (pv := [(0, B8 (h.getD i 0))]) (us := [B8 (h.getD i 0)]) Try.underlying23 sz5 zr5 H29 ⟨⟨rfl, rfl⟩, trivial⟩ (by decide) (fill1 rfl)) ?_
      rintro _ w32 ⟨g31, rfl, H33⟩
      have H34 : St w [] [EU, [(g31, Rw 5 ([B8 (h.getD i 0)]))], [(g1, Rw 26 ((h).map B8))]] w32 := H33.foc 1 rfl rfl
      refine st (ow_append Try.underlying23 sz5 zr5 bt5 rfl hoU H34 rfl rfl ((rd_lit (k := 1) (us := [B8 (h.getD i 0)]) H33 0 rfl rfl (by simp [maxLen])).src Try.underlying23 (by simp [Value.oneCell'])) (by omega) (by omega)) ?_
      rintro v36 w37 ⟨E35, ho39', H38⟩
      have ho39 : OS 5 1 v36 ((le8 x ++ h.take i) ++ ([h.getD i 0])).length (((le8 x ++ h.take i) ++ ([h.getD i 0])).map B8) E35 := by rw [List.length_append, List.map_append]; exact ho39'
      refine sy (v := v36) (y_assign rfl) ?_
      refine c_nil ?_
      refine n_block (n_then ?_)
      refine c_reg ?_
      refine sy (v := I ((i : Nat) : Int)) (y_move s10_29) ?_
      refine sy (v := I ((i + 1 : Nat) : Int)) (n_add (a := i) (b := 1) rfl rfl (by omega)) ?_
      refine sy (v := I ((i + 1 : Nat) : Int)) (y_assign rfl) ?_
      refine c_nil ?_
      have H40 : St w [] [[(g1, Rw 26 ((h).map B8))], E35, [(g31, Rw 5 ([B8 (h.getD i 0)]))]] w37 := H38.foc 2 rfl rfl
      have H41 : St w [] [E35, [(g1, Rw 26 ((h).map B8))], [(g31, Rw 5 ([B8 (h.getD i 0)]))]] w37 := H40.foc 1 rfl rfl
      have H42 : St w [] [E35, [(g1, Rw 26 ((h).map B8))]] w37 := H41.take 2 rfl
      exact lp_next (i + 1) ⟨v36, E35, s2_29, s4_29, rfl, rfl, (by omega), (by rw [take_snoc8 (by omega), ← List.append_assoc]; exact ho39), H42⟩ (by show _ < _; omega)
    · skip
      obtain rfl : i = 32 := by omega
      rw [List.take_of_length_le (l := h) (by omega)] at hoU htb
      refine wp_exit ?_
      refine x_then (x_then (x_hit (n_then ?_)))
      refine c_seq ?_
      refine c_reg ?_
      refine sy (v := uv) (y_move s8_29) ?_
      refine st (ow_call fn77 rfl (rof_c (uv) (le8 x ++ h) _ ((hoU.rd H29 0 rfl)).nil (by omega)) ⟨rfl, trivial⟩) ?_
      rintro _ w43 ⟨rfl, hB44⟩
      have H45 : St w [] [EU, [(g1, Rw 26 ((h).map B8))]] w43 := H29.call hB44
      refine st (ow_alloc (l := (List.replicate 32 0).map B8) H45 zr26 (by simp [Value.cells])) ?_
      rintro _ w47 ⟨g46, rfl, H48⟩
      refine s0 (ow_storeW (us := (sha (le8 x ++ h)).map B8) H48 sz26 ((List.length_map _).trans (sha_length _)) rfl rfl (map_one (F := B8) (fun _ => rfl) _) ((List.length_map _).trans List.length_replicate)) ?_
      rintro _ w49 H50'
      have H50 : St w [] [[(g46, Rw 26 ((sha (le8 x ++ h)).map B8))], EU, [(g1, Rw 26 ((h).map B8))]] w49 := H50'
      refine c_nil ?_
      refine n_then ?_
      refine c_seq ?_
      refine c_reg ?_
      refine st (ow_buildSlice (pv := []) (us := []) Try.underlying60 sz3 zr3 H50 trivial (by decide) fill0) ?_
      rintro _ w52 ⟨g51, rfl, H53⟩
      refine sy (v := .slice (some (bs g51)) 0 0) (y_assign rfl) ?_
      refine c_nil ?_
      refine n_then ?_
      refine c_seq ?_
      refine c_seq ?_
      refine c_reg ?_
      refine sy (v := I ((0 : Nat) : Int)) (y_assign (v := I ((0 : Nat) : Int)) rfl) ?_
      refine c_nil ?_
      refine n_then ?_
      refine wp_block ?_
      refine c_loop (fun (i : Nat) f54 w55 => ∃ (tv : Value), ∃ (ET : Part), f54 2 = I ((z : Nat) : Int) ∧ f54 11 = Ad (bs g46) (0) ∧ f54 12 = tv ∧ f54 13 = I ((i : Nat) : Int) ∧ i ≤ 4 ∧ OS 3 1 tv ((plc (dg x h) z).take i).length (((plc (dg x h) z).take i).map IN) ET ∧ St w [] [ET, [(g46, Rw 26 ((sha (le8 x ++ h)).map B8))], EU, [(g1, Rw 26 ((h).map B8))]] w55) (fun i => 4 - i) 0 ⟨_, _, s2_29, rfl, rfl, rfl, (by omega), (os_lit rfl (by simp [maxLen])), H53⟩ ?_
      rintro i f54 w55 ⟨tv, ET, s2_56, s11_56, s12_56, s13_56, hi, hoT, H56⟩
      have htc : ((plc (dg x h) z).take i).length = i := by rw [List.length_take, plc_length]; omega
      have hnl : (nw (dg x h)).length = 4 := rfl
      have hdl : (sha (le8 x ++ h)).length = 32 := sha_length _
      refine c_seq ?_
      refine c_seq ?_
      refine c_reg ?_
      refine sy (v := I ((i : Nat) : Int)) (y_move s13_56) ?_
      refine sy (v := .bool (decide (i < 4))) (n_lss (a := i) (b := 4) rfl rfl) ?_
      refine c_nil ?_
      refine n_then ?_
      refine c_if rfl (fun hc57 => ?_) (fun hc57 => ?_)
      · skip
        refine wp_skip ?_
        refine n_then ?_
        refine c_seq ?_
        refine wp_block ?_
        refine c_seq ?_
        refine c_reg ?_
        refine sy (v := U64 (0)) (y_assign (v := U64 (0)) rfl) ?_
        refine c_nil ?_
        refine n_then ?_
        refine c_seq ?_
        refine c_seq ?_
        refine c_reg ?_
        refine sy (v := I ((7 : Nat) : Int)) (y_assign (v := I ((7 : Nat) : Int)) rfl) ?_
        refine c_nil ?_
        refine n_then ?_
        refine wp_block ?_
        refine c_loop (fun (q : Nat) f58 w59 => f58 2 = I ((z : Nat) : Int) ∧ f58 11 = Ad (bs g46) (0) ∧ f58 12 = tv ∧ f58 13 = I ((i : Nat) : Int) ∧ f58 14 = U64 (hzN (dg x h) i q) ∧ f58 15 = I (7 - (q : Int)) ∧ q ≤ 8 ∧ St w [] [ET, [(g46, Rw 26 ((sha (le8 x ++ h)).map B8))], EU, [(g1, Rw 26 ((h).map B8))]] w59) (fun q => 8 - q) 0 ⟨s2_56, s11_56, s12_56, s13_56, rfl, rfl, (by omega), H56⟩ ?_
        rintro q f58 w59 ⟨s2_60, s11_60, s12_60, s13_60, s14_60, s15_60, hf0_60, H60⟩
        refine c_seq ?_
        refine c_seq ?_
        refine c_reg ?_
        refine sy (v := I (7 - (q : Int))) (y_move s15_60) ?_
        refine sy (v := .bool (decide (((0 : Nat) : Int) ≤ (7 - (q : Int))))) (y_geq (i := (7 - (q : Int))) (j := ((0 : Nat) : Int)) rfl rfl) ?_
        refine c_nil ?_
        refine n_then ?_
        refine c_if rfl (fun hc61 => ?_) (fun hc61 => ?_)
        · skip
          have sN62 := s15_60.trans (congrArg I (show (7 - (q : Int)) = ((7 - q : Nat) : Int) by omega))
          refine wp_skip ?_
          refine n_then ?_
          refine c_seq ?_
          refine wp_block ?_
          refine c_reg ?_
          refine sy (v := U64 (hzN (dg x h) i q)) (y_move s14_60) ?_
          refine sy (v := U64 (256 * (hzN (dg x h) i q))) (y_mul64 (a := 256) (b := hzN (dg x h) i q) rfl rfl) ?_
          refine sy (v := I ((i : Nat) : Int)) (y_move s13_60) ?_
          refine sy (v := I ((8 * i : Nat) : Int)) (n_mul (a := 8) (b := i) rfl rfl (by omega)) ?_
          refine sy (v := I ((7 - q : Nat) : Int)) (y_move sN62) ?_
          refine sy (v := I (((8 * i) + (7 - q) : Nat) : Int)) (n_add (a := 8 * i) (b := 7 - q) rfl rfl (by omega)) ?_
          refine sy (v := Ad (bs g46) (0 + ((8 * i) + (7 - q)) * 1)) (y_ixA (m := (8 * i) + (7 - q)) Try.underlying26 sz5 s11_60 rfl rfl (by omega)) ?_
          refine sy (v := B8 ((sha (le8 x ++ h)).getD ((8 * i) + (7 - q)) 0)) (y_load sc5 rfl (H60.cell 1 rfl (by simp only [Nat.zero_add, Nat.mul_one]; exact map_get B8 0 (by omega)))) ?_
          refine sy (v := U64 (((sha (le8 x ++ h)).getD ((8 * i) + (7 - q)) 0).toUInt64)) (y_conv_8_64 Try.underlying5 Try.underlying59 rfl) ?_
          refine sy (v := U64 ((256 * (hzN (dg x h) i q)) + (((sha (le8 x ++ h)).getD ((8 * i) + (7 - q)) 0).toUInt64))) (y_add64 (a := 256 * (hzN (dg x h) i q)) (b := ((sha (le8 x ++ h)).getD ((8 * i) + (7 - q)) 0).toUInt64) rfl rfl) ?_
          refine sy (v := U64 ((256 * (hzN (dg x h) i q)) + (((sha (le8 x ++ h)).getD ((8 * i) + (7 - q)) 0).toUInt64))) (y_assign rfl) ?_
          refine c_nil ?_
          refine n_block (n_then ?_)
          refine c_reg ?_
          refine sy (v := I ((7 - q : Nat) : Int)) (y_move sN62) ?_
          refine sy (v := I (((7 - q : Nat) : Int) - ((1 : Nat) : Int))) (y_sub (i := ((7 - q : Nat) : Int)) (j := ((1 : Nat) : Int)) rfl rfl (by omega)) ?_
          refine sy (v := I (((7 - q : Nat) : Int) - ((1 : Nat) : Int))) (y_assign rfl) ?_
          refine c_nil ?_
          exact lp_next (q + 1) ⟨s2_60, s11_60, s12_60, s13_60, (congrArg U64 (hz_step (s := dg x h) (i := i) (q := q) (dg_length x h) (by omega) (by omega))), (by show I _ = I _; congr 1; omega), (by omega), H60⟩ (by show _ < _; omega)
        · skip
          obtain rfl : q = 8 := by omega
          refine wp_exit ?_
          refine x_then (x_then (x_hit (n_then ?_)))
          refine c_reg ?_
          refine sy (v := tv) (y_move s12_60) ?_
          refine sy (v := U64 ((nw (dg x h)).getD i 0)) (y_move (s14_60.trans (congrArg U64 (hz_8 (by omega))))) ?_
          refine sy (v := I ((z : Nat) : Int)) (y_move s2_60) ?_
          refine sy (v := I ((8 * z : Nat) : Int)) (n_mul (a := 8) (b := z) rfl rfl (by omega)) ?_
          refine sy (v := U64 (u64 ((8 * z : Nat)))) (y_conv_I_64 Try.underlying3 Try.underlying59 rfl) ?_
          refine sy (v := U64 (((nw (dg x h)).getD i 0) % (u64 ((8 * z : Nat))))) (y_rem64 (a := (nw (dg x h)).getD i 0) (b := u64 ((8 * z : Nat))) rfl rfl (by assumption)) ?_
          have hlt := plc_at (s := dg x h) (z := z) (i := i) (by omega) (by omega) (by omega)
          have hp := getD_plc (s := dg x h) (z := z) (k := i) (by omega) (by omega)
          refine sy (v := I (((plc (dg x h) z).getD i 0 : Nat) : Int)) ((hlt ▸ n_conv_64_I (a := ((nw (dg x h)).getD i 0) % (u64 ((8 * z : Nat)))) (by rw [hlt]; omega) Try.underlying59 Try.underlying3 rfl)) ?_
          refine st (ow_buildSlice (pv := [(0, I (((plc (dg x h) z).getD i 0 : Nat) : Int))]) (us := [I (((plc (dg x h) z).getD i 0 : Nat) : Int)]) Try.underlying60 sz3 zr3 H60 ⟨⟨rfl, rfl⟩, trivial⟩ (by decide) (fill1 rfl)) ?_
          rintro _ w64 ⟨g63, rfl, H65⟩
          have H66 : St w [] [ET, [(g63, Rw 3 ([I (((plc (dg x h) z).getD i 0 : Nat) : Int)]))], [(g46, Rw 26 ((sha (le8 x ++ h)).map B8))], EU, [(g1, Rw 26 ((h).map B8))]] w64 := H65.foc 1 rfl rfl
          refine st (ow_append Try.underlying60 sz3 zr3 bt3 rfl hoT H66 rfl rfl ((rd_lit (k := 1) (us := [I (((plc (dg x h) z).getD i 0 : Nat) : Int)]) H65 0 rfl rfl (by simp [maxLen])).src Try.underlying60 (by simp [Value.oneCell'])) (by omega) (by omega)) ?_
          rintro v68 w69 ⟨E67, ho71', H70⟩
          have ho71 : OS 3 1 v68 (((plc (dg x h) z).take i) ++ ([(plc (dg x h) z).getD i 0])).length ((((plc (dg x h) z).take i) ++ ([(plc (dg x h) z).getD i 0])).map IN) E67 := by rw [List.length_append, List.map_append]; exact ho71'
          refine sy (v := v68) (y_assign rfl) ?_
          refine c_nil ?_
          refine n_block (n_then ?_)
          refine c_reg ?_
          refine sy (v := I ((i : Nat) : Int)) (y_move s13_60) ?_
          refine sy (v := I ((i + 1 : Nat) : Int)) (n_add (a := i) (b := 1) rfl rfl (by omega)) ?_
          refine sy (v := I ((i + 1 : Nat) : Int)) (y_assign rfl) ?_
          refine c_nil ?_
          have H72 : St w [] [[(g1, Rw 26 ((h).map B8))], E67, [(g63, Rw 3 ([I (((plc (dg x h) z).getD i 0 : Nat) : Int)]))], [(g46, Rw 26 ((sha (le8 x ++ h)).map B8))], EU] w69 := H70.foc 4 rfl rfl
          have H73 : St w [] [EU, [(g1, Rw 26 ((h).map B8))], E67, [(g63, Rw 3 ([I (((plc (dg x h) z).getD i 0 : Nat) : Int)]))], [(g46, Rw 26 ((sha (le8 x ++ h)).map B8))]] w69 := H72.foc 4 rfl rfl
          have H74 : St w [] [[(g46, Rw 26 ((sha (le8 x ++ h)).map B8))], EU, [(g1, Rw 26 ((h).map B8))], E67, [(g63, Rw 3 ([I (((plc (dg x h) z).getD i 0 : Nat) : Int)]))]] w69 := H73.foc 4 rfl rfl
          have H75 : St w [] [E67, [(g46, Rw 26 ((sha (le8 x ++ h)).map B8))], EU, [(g1, Rw 26 ((h).map B8))], [(g63, Rw 3 ([I (((plc (dg x h) z).getD i 0 : Nat) : Int)]))]] w69 := H74.foc 3 rfl rfl
          have H76 : St w [] [E67, [(g46, Rw 26 ((sha (le8 x ++ h)).map B8))], EU, [(g1, Rw 26 ((h).map B8))]] w69 := H75.take 4 rfl
          exact lp_next (i + 1) ⟨v68, E67, s2_60, s11_60, rfl, rfl, (by omega), (by rw [take_snocN (by rw [plc_length]; omega)]; exact ho71), H76⟩ (by show _ < _; omega)
      · skip
        obtain rfl : i = 4 := by omega
        rw [List.take_of_length_le (by rw [plc_length]; omega)] at hoT
        refine wp_exit ?_
        refine x_then (x_then (x_hit (n_then ?_)))
        refine c_seq ?_
        refine c_reg ?_
        refine sy (v := tv) (y_move s12_56) ?_
        refine sy (v := tv) (y_assign rfl) ?_
        refine c_nil ?_
        refine n_then ?_
        refine wp_ret ?_
        refine e_r1 Try.results41 (rv_t rfl) ?_
        have H77 : St w [] [ET] w55 := H56.take 1 rfl
        exact ⟨_, rfl, _, hoT, H77⟩

theorem placesN_c (x : UInt64) (h : List UInt8) (i : Int) (w : World) (_hh : h.length = 32) (hno : ¬ okS i) :
    Calls Try.prog 42 (([U64 (x), .agg ((h).map B8).toArray, I (i)] : List Value).toArray) w (fun e w' => ∃ v, e = .returned v ∧ v = .slice none 0 0 ∧ Below w.heap.size w w') := by
  refine calls_mk Try.func42 rfl 32 Try.ntmps42 rfl ?_
  have H0 : St w [] [] w := St.refl w
  refine c_seq ?_
  refine c_reg ?_
  refine st (ow_box (l := (h).map B8) H0 rfl rfl) ?_
  rintro _ w2 ⟨g1, rfl, H3⟩
  refine sy (v := .slice none 0 0) (y_assign (v := .slice none 0 0) rfl) ?_
  refine c_nil ?_
  refine n_then ?_
  refine c_seq ?_
  refine c_seq ?_
  refine c_reg ?_
  refine sy (v := I (i)) (y_move rfl) ?_
  refine st (ow_call fn100 rfl (sized_c (i) _) ⟨rfl, trivial⟩) ?_
  rintro _ w4 ⟨rfl, hB5⟩
  have H6 : St w [] [[(g1, Rw 26 ((h).map B8))]] w4 := H3.call hB5
  refine sy (v := .bool (decide (¬ (okS (i))))) (y_notP rfl) ?_
  refine c_nil ?_
  refine n_then ?_
  have hq7 : ¬ (okS (i)) := hno
  refine c_t rfl (decide_eq_true hq7) ?_
  refine c_seq ?_
  refine c_reg ?_
  refine sy (v := .slice none 0 0) (y_assign (v := .slice none 0 0) rfl) ?_
  refine c_nil ?_
  refine n_then ?_
  refine wp_ret ?_
  refine r_then ?_
  refine e_r1 Try.results42 (rv_t rfl) ?_
  exact ⟨_, rfl, rfl, H6.below⟩

theorem rplacesN_c (x : UInt64) (h : List UInt8) (i : Int) (w : World) (_hh : h.length = 32) (hno : ¬ okS i) :
    Calls Try.prog 41 (([U64 (x), .agg ((h).map B8).toArray, I (i)] : List Value).toArray) w (fun e w' => ∃ v, e = .returned v ∧ v = .slice none 0 0 ∧ Below w.heap.size w w') := by
  refine calls_mk Try.func41 rfl 74 Try.ntmps41 rfl ?_
  have H0 : St w [] [] w := St.refl w
  refine c_seq ?_
  refine c_reg ?_
  refine st (ow_box (l := (h).map B8) H0 rfl rfl) ?_
  rintro _ w2 ⟨g1, rfl, H3⟩
  refine sy (v := .slice none 0 0) (y_assign (v := .slice none 0 0) rfl) ?_
  refine c_nil ?_
  refine n_then ?_
  refine c_seq ?_
  refine c_reg ?_
  refine sy (v := I (i)) (y_move rfl) ?_
  refine st (ow_call fn99 rfl (power_c (i) _) ⟨rfl, trivial⟩) ?_
  rintro _ w4 ⟨rfl, hB5⟩
  have H6 : St w [] [[(g1, Rw 26 ((h).map B8))]] w4 := H3.call hB5
  refine sy (v := .bool (decide (okS (i)))) (y_assign rfl) ?_
  refine c_nil ?_
  refine n_then ?_
  refine c_seq ?_
  refine c_seq ?_
  refine c_reg ?_
  refine sy (v := .bool (decide (okS (i)))) (y_move rfl) ?_
  refine sy (v := .bool (decide (¬ (okS (i))))) (y_notP rfl) ?_
  refine c_nil ?_
  refine n_then ?_
  have hq7 : ¬ (okS (i)) := hno
  refine c_t rfl (decide_eq_true hq7) ?_
  refine c_seq ?_
  refine c_reg ?_
  refine sy (v := .slice none 0 0) (y_assign (v := .slice none 0 0) rfl) ?_
  refine c_nil ?_
  refine n_then ?_
  refine wp_ret ?_
  refine r_then ?_
  refine e_r1 Try.results41 (rv_t rfl) ?_
  exact ⟨_, rfl, rfl, H6.below⟩

theorem placesI_c (x : UInt64) (h : List UInt8) (i : Int) (w : World) (hh : h.length = 32) :
    Calls Try.prog 42 (([U64 x, .agg (h.map B8).toArray, I i] : List Value).toArray) w (fun e w' => ∃ v, e = .returned v ∧ ∃ E, OS 3 1 v (plI x h i).length ((plI x h i).map IN) E ∧ St w [] [E] w') := by
  by_cases hok : okS i
  · have hz := okS_le hok
    have hi : i = ((i.toNat : Nat) : Int) := by omega
    have := places_c x h i.toNat w hh (by rw [← hi]; exact hok)
    rw [← hi] at this
    rw [show plI x h i = plc (dg x h) i.toNat from if_pos hok]
    exact this
  · rw [show plI x h i = [] from if_neg hok]
    exact (placesN_c x h i w hh hok).mono fun e w' ⟨v, he, hv, hb⟩ => ⟨v, he, [], hv ▸ OS.nil 3 1, (St.of_below hb).nilp⟩

theorem rplacesI_c (x : UInt64) (h : List UInt8) (i : Int) (w : World) (hh : h.length = 32) :
    Calls Try.prog 41 (([U64 x, .agg (h.map B8).toArray, I i] : List Value).toArray) w (fun e w' => ∃ v, e = .returned v ∧ ∃ E, OS 3 1 v (plI x h i).length ((plI x h i).map IN) E ∧ St w [] [E] w') := by
  by_cases hok : okS i
  · have hz := okS_le hok
    have hi : i = ((i.toNat : Nat) : Int) := by omega
    have := rplaces_c x h i.toNat w hh (by rw [← hi]; exact hok)
    rw [← hi] at this
    rw [show plI x h i = plc (dg x h) i.toNat from if_pos hok]
    exact this
  · rw [show plI x h i = [] from if_neg hok]
    exact (rplacesN_c x h i w hh hok).mono fun e w' ⟨v, he, hv, hb⟩ => ⟨v, he, [], hv ▸ OS.nil 3 1, (St.of_below hb).nilp⟩

theorem sameInts_c (v0 v1 : Value) (l : List Nat) (w : World) (h0 : Rd [] w 1 v0 l.length (l.map IN)) (h1 : Rd [] w 1 v1 l.length (l.map IN)) (hl : l.length ≤ 9223372036854775806) :
    Calls Try.prog 43 (([v0, v1] : List Value).toArray) w (fun e w' => ∃ v, e = .returned v ∧ v = .bool true ∧ Below w.heap.size w w') := by
  refine calls_mk Try.func43 rfl 26 Try.ntmps43 rfl ?_
  have H0 : St w [] [] w := St.refl w
  refine c_seq ?_
  refine c_reg ?_
  refine sy (v := .bool (false)) (y_assign (v := .bool (false)) rfl) ?_
  refine c_nil ?_
  refine n_then ?_
  refine c_seq ?_
  refine c_seq ?_
  refine c_reg ?_
  refine sy (v := v0) (y_move rfl) ?_
  refine sy (v := I ((l.length : Nat) : Int)) (y_lenR Try.underlying60 (h0.st H0) rfl) ?_
  refine sy (v := v1) (y_move rfl) ?_
  refine sy (v := I ((l.length : Nat) : Int)) (y_lenR Try.underlying60 (h1.st H0) rfl) ?_
  refine sy (v := .bool (decide (l.length ≠ l.length))) (n_neq (a := l.length) (b := l.length) rfl rfl) ?_
  refine c_nil ?_
  refine n_then ?_
  have hq1 : ¬ (l.length ≠ l.length) := (fun h => h rfl)
  refine c_f rfl (decide_eq_false hq1) ?_
  refine wp_skip ?_
  refine n_then ?_
  refine c_seq ?_
  refine c_seq ?_
  refine c_reg ?_
  refine sy (v := I ((0 : Nat) : Int)) (y_assign (v := I ((0 : Nat) : Int)) rfl) ?_
  refine c_nil ?_
  refine n_then ?_
  refine wp_block ?_
  refine c_loop (fun (i : Nat) f2 w3 => f2 0 = v0 ∧ f2 1 = v1 ∧ f2 5 = I ((i : Nat) : Int) ∧ i ≤ l.length ∧ St w [] [] w3) (fun i => l.length - i) 0 ⟨rfl, rfl, rfl, (by omega), H0⟩ ?_
  rintro i f2 w3 ⟨s0_4, s1_4, s5_4, hf0_4, H4⟩
  refine c_seq ?_
  refine c_seq ?_
  refine c_reg ?_
  refine sy (v := I ((i : Nat) : Int)) (y_move s5_4) ?_
  refine sy (v := v0) (y_move s0_4) ?_
  refine sy (v := I ((l.length : Nat) : Int)) (y_lenR Try.underlying60 (h0.st H4) rfl) ?_
  refine sy (v := .bool (decide (i < l.length))) (n_lss (a := i) (b := l.length) rfl rfl) ?_
  refine c_nil ?_
  refine n_then ?_
  refine c_if rfl (fun hc5 => ?_) (fun hc5 => ?_)
  · skip
    refine wp_skip ?_
    refine n_then ?_
    refine c_seq ?_
    refine wp_block ?_
    refine c_seq ?_
    refine drawS (.step 0 0 (.step 0 1 (.step 0 2 (.step 0 3 (.step 0 4 (.step 0 5 (.step 0 6 (.step 0 7 (.step 0 8 .nil))))))))) mixed H4 (by kernel_rfl) (by kernel_rfl) (by kernel_rfl) ?_
    intro w6 H7
    refine pt (v := v0) rfl (fun wS HS => y_move s0_4) ?_
    refine pt (v := I ((i : Nat) : Int)) rfl (fun wS HS => y_move s5_4) ?_
    refine pt (v := Ad (sp (v0)) (i * 1)) rfl (fun wS HS => y_ixR (m := i) Try.underlying60 sz3 (h0.st HS) (by decide) rfl rfl rfl (by omega)) ?_
    refine pt (v := I ((l.getD i 0 : Nat) : Int)) rfl (fun wS HS => y_load sc3 rfl ((h0.st HS).cell _ _ (by rw [Nat.mul_one]; exact map_get IN 0 (by omega)))) ?_
    refine pt (v := v1) rfl (fun wS HS => y_move s1_4) ?_
    refine pt (v := I ((i : Nat) : Int)) rfl (fun wS HS => y_move s5_4) ?_
    refine pt (v := Ad (sp (v1)) (i * 1)) rfl (fun wS HS => y_ixR (m := i) Try.underlying60 sz3 (h1.st HS) (by decide) rfl rfl rfl (by omega)) ?_
    refine pt (v := I ((l.getD i 0 : Nat) : Int)) rfl (fun wS HS => y_load sc3 rfl ((h1.st HS).cell _ _ (by rw [Nat.mul_one]; exact map_get IN 0 (by omega)))) ?_
    refine pt (v := .bool (decide ((l.getD i 0) ≠ (l.getD i 0)))) rfl (fun wS HS => n_neq (a := l.getD i 0) (b := l.getD i 0) rfl rfl) ?_
    refine p_nil ?_
    refine n_then ?_
    have hq8 : ¬ ((l.getD i 0) ≠ (l.getD i 0)) := (fun h => h rfl)
    refine c_f rfl (decide_eq_false hq8) ?_
    refine wp_skip ?_
    refine n_block (n_then ?_)
    refine c_reg ?_
    refine sy (v := I ((i : Nat) : Int)) (y_move s5_4) ?_
    refine sy (v := I ((i + 1 : Nat) : Int)) (n_add (a := i) (b := 1) rfl rfl (by omega)) ?_
    refine sy (v := I ((i + 1 : Nat) : Int)) (y_assign rfl) ?_
    refine c_nil ?_
    exact lp_next (i + 1) ⟨s0_4, s1_4, rfl, (by omega), H7⟩ (by show _ < _; omega)
  · skip
    refine wp_exit ?_
    refine x_then (x_then (x_hit (n_then ?_)))
    refine c_seq ?_
    refine c_reg ?_
    refine sy (v := .bool (true)) (y_assign (v := .bool (true)) rfl) ?_
    refine c_nil ?_
    refine n_then ?_
    refine wp_ret ?_
    refine e_r1 Try.results43 (rv_t rfl) ?_
    exact ⟨_, rfl, rfl, H4.below⟩

end Go.Proofs.Ytdcmbcjkdhdohaa
