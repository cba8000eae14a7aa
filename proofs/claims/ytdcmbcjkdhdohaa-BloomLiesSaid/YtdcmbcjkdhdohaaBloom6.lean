/- Walks: pleachref06.Size, Of; Of's answer as a slice that may grow. -/
import Derived.Test.YtdcmbcjkdhdohaaBloom4
namespace Go.Proofs.Ytdcmbcjkdhdohaa
open Go Go.RowKit
set_option linter.unusedSimpArgs false
set_option linter.unusedVariables false
attribute [local irreducible] wpList wpP Code.wp

theorem bz_step {n k z b : Nat} (hb : bz n k z = b) (hz : z * 2 ^ k = 8192) (h : z < 8192 ∧ 8 * z < 10 * n) : ∃ k', k = k' + 1 ∧ bz n k' (2 * z) = b ∧ 2 * z * 2 ^ k' = 8192 ∧ 2 * z ≤ 8192 := by
  cases k with
  | zero => simp at hz; omega
  | succ k' =>
    have h2 : 2 * z * 2 ^ k' = 8192 := by rw [← hz, Nat.pow_succ, Nat.mul_comm 2 z, Nat.mul_assoc, Nat.mul_comm 2]
    refine ⟨k', rfl, ?_, h2, ?_⟩
    · rw [← hb]; simp only [bz]; rw [if_pos h, Nat.mul_comm]
    · have := Nat.mul_le_mul_left (2 * z) (Nat.one_le_two_pow (n := k'))
      omega

theorem rsize_c (n : Nat) (w : World) (hn : n ≤ 9223372036854775807) :
    Calls Try.prog 106 (([I ((n : Nat) : Int)] : List Value).toArray) w (fun e w' => ∃ v, e = .returned v ∧ v = I ((bsz n : Nat) : Int) ∧ Below w.heap.size w w') := by
  refine calls_mk Try.func106 rfl 24 Try.ntmps106 rfl ?_
  have H0 : St w [] [] w := St.refl w
  refine c_seq ?_
  refine c_reg ?_
  refine sy (v := I ((0 : Nat) : Int)) (y_assign (v := I ((0 : Nat) : Int)) rfl) ?_
  refine c_nil ?_
  refine n_then ?_
  refine c_seq ?_
  refine c_reg ?_
  refine sy (v := I ((8 : Nat) : Int)) (y_assign (v := I ((8 : Nat) : Int)) rfl) ?_
  refine c_nil ?_
  refine n_then ?_
  refine c_seq ?_
  refine wp_block ?_
  refine c_loop (fun (k : Nat) f1 w2 => ∃ (z : Nat), f1 0 = I ((n : Nat) : Int) ∧ f1 3 = I ((z : Nat) : Int) ∧ bz n k z = bsz n ∧ z * 2 ^ k = 8192 ∧ 8 ≤ z ∧ z ≤ 8192 ∧ St w [] [] w2) (fun k => k) 10 ⟨8, rfl, rfl, rfl, (by decide), (by omega), (by omega), H0⟩ ?_
  rintro k f1 w2 ⟨z, s0_3, s3_3, hb, hz, h8, hm, H3⟩
  refine c_seq ?_
  refine c_seq ?_
  refine c_reg ?_
  refine sy (v := I ((n : Nat) : Int)) (y_move s0_3) ?_
  refine sy (v := .bool (decide (0 < n))) (n_gtr (a := n) (b := 0) rfl rfl) ?_
  refine sy (v := .bool (decide (0 < n))) (y_move rfl) ?_
  by_cases hp4 : 0 < n
  · skip
    refine gsy (v := I ((z : Nat) : Int)) (gv_of (t := 6) rfl rfl rfl) (decide_eq_true hp4) (y_move s3_3) ?_
    refine gsy (v := .bool (decide (z < 8192))) (gv_of (t := 6) rfl rfl rfl) (decide_eq_true hp4) (n_lss (a := z) (b := 8192) rfl rfl) ?_
    refine sy (v := .bool (decide (z < 8192))) (y_pickT rfl (decide_eq_true hp4) rfl) ?_
    refine sy (v := .bool (decide (z < 8192))) (y_move rfl) ?_
    by_cases hp5 : z < 8192
    · skip
      refine gsy (v := I ((n : Nat) : Int)) (gv_of (t := 10) rfl rfl rfl) (decide_eq_true hp5) (y_move s0_3) ?_
      refine gsy (v := .bool (decide (100000 < n))) (gv_of (t := 10) rfl rfl rfl) (decide_eq_true hp5) (n_gtr (a := n) (b := 100000) rfl rfl) ?_
      refine gsy (v := .bool (decide (100000 < n))) (gv_of (t := 10) rfl rfl rfl) (decide_eq_true hp5) (y_move rfl) ?_
      by_cases hp6 : 100000 < n
      · skip
        refine gno (gv_of (t := 13) rfl rfl rfl) (decide_eq_true hp6) ?_
        refine gno (gv_of (t := 13) rfl rfl rfl) (decide_eq_true hp6) ?_
        refine gno (gv_of (t := 13) rfl rfl rfl) (decide_eq_true hp6) ?_
        refine gno (gv_of (t := 13) rfl rfl rfl) (decide_eq_true hp6) ?_
        refine gno (gv_of (t := 13) rfl rfl rfl) (decide_eq_true hp6) ?_
        refine gsy (v := .bool (true)) (gv_of (t := 10) rfl rfl rfl) (decide_eq_true hp5) (y_pickT (v := .bool (true)) rfl (decide_eq_true hp6) rfl) ?_
        refine sy (v := .bool (true)) (y_pickT rfl (decide_eq_true hp5) rfl) ?_
        refine c_nil ?_
        refine n_then ?_
        refine c_t rfl rfl ?_
        refine wp_skip ?_
        refine n_then ?_
        refine wp_block ?_
        refine c_reg ?_
        refine sy (v := I ((z : Nat) : Int)) (y_move s3_3) ?_
        refine sy (v := I ((2 * z : Nat) : Int)) (n_mul (a := 2) (b := z) rfl rfl (by omega)) ?_
        refine sy (v := I ((2 * z : Nat) : Int)) (y_assign rfl) ?_
        refine c_nil ?_
        refine n_block ?_
        obtain ⟨k', rfl, hb', hz', hm'⟩ := bz_step hb hz ⟨by omega, by omega⟩
        exact lp_next k' ⟨_, s0_3, rfl, hb', hz', (by omega), hm', H3⟩ (by show _ < _; omega)
      · skip
        refine gsy (v := I ((z : Nat) : Int)) (gv_of (t := 13) rfl rfl rfl) (decide_eq_false hp6) (y_move s3_3) ?_
        refine gsy (v := I ((8 * z : Nat) : Int)) (gv_of (t := 13) rfl rfl rfl) (decide_eq_false hp6) (n_mul (a := 8) (b := z) rfl rfl (by omega)) ?_
        refine gsy (v := I ((n : Nat) : Int)) (gv_of (t := 13) rfl rfl rfl) (decide_eq_false hp6) (y_move s0_3) ?_
        refine gsy (v := I ((10 * n : Nat) : Int)) (gv_of (t := 13) rfl rfl rfl) (decide_eq_false hp6) (n_mul (a := 10) (b := n) rfl rfl (by omega)) ?_
        refine gsy (v := .bool (decide ((8 * z) < (10 * n)))) (gv_of (t := 13) rfl rfl rfl) (decide_eq_false hp6) (n_lss (a := 8 * z) (b := 10 * n) rfl rfl) ?_
        refine gsy (v := .bool (decide ((8 * z) < (10 * n)))) (gv_of (t := 10) rfl rfl rfl) (decide_eq_true hp5) (y_pickF rfl (decide_eq_false hp6) rfl) ?_
        refine sy (v := .bool (decide ((8 * z) < (10 * n)))) (y_pickT rfl (decide_eq_true hp5) rfl) ?_
        refine c_nil ?_
        refine n_then ?_
        refine c_if rfl (fun hc7 => ?_) (fun hc7 => ?_)
        · skip
          refine wp_skip ?_
          refine n_then ?_
          refine wp_block ?_
          refine c_reg ?_
          refine sy (v := I ((z : Nat) : Int)) (y_move s3_3) ?_
          refine sy (v := I ((2 * z : Nat) : Int)) (n_mul (a := 2) (b := z) rfl rfl (by omega)) ?_
          refine sy (v := I ((2 * z : Nat) : Int)) (y_assign rfl) ?_
          refine c_nil ?_
          refine n_block ?_
          obtain ⟨k', rfl, hb', hz', hm'⟩ := bz_step hb hz ⟨by omega, by omega⟩
          exact lp_next k' ⟨_, s0_3, rfl, hb', hz', (by omega), hm', H3⟩ (by show _ < _; omega)
        · skip
          refine wp_exit ?_
          refine x_then (x_then (x_hit (n_then ?_)))
          refine c_seq ?_
          refine c_reg ?_
          refine sy (v := I ((z : Nat) : Int)) (y_move s3_3) ?_
          refine sy (v := I ((z : Nat) : Int)) (y_assign rfl) ?_
          refine c_nil ?_
          refine n_then ?_
          refine wp_ret ?_
          refine e_r1 Try.results106 (rv_t rfl) ?_
          have hzz : z = bsz n := by rw [← hb]; exact (bz_end (by omega)).symm
          refine ⟨_, rfl, ?_, H3.below⟩
          exact congrArg (fun q : Nat => I (q : Int)) hzz
    · skip
      refine gno (gv_of (t := 10) rfl rfl rfl) (decide_eq_false hp5) ?_
      refine gno (gv_of (t := 10) rfl rfl rfl) (decide_eq_false hp5) ?_
      refine gno (gv_of (t := 10) rfl rfl rfl) (decide_eq_false hp5) ?_
      refine gun (gv_of (t := 13) rfl rfl rfl) ?_
      refine gun (gv_of (t := 13) rfl rfl rfl) ?_
      refine gun (gv_of (t := 13) rfl rfl rfl) ?_
      refine gun (gv_of (t := 13) rfl rfl rfl) ?_
      refine gun (gv_of (t := 13) rfl rfl rfl) ?_
      refine gno (gv_of (t := 10) rfl rfl rfl) (decide_eq_false hp5) ?_
      refine sy (v := .bool (false)) (y_pickF (v := .bool (false)) rfl (decide_eq_false hp5) rfl) ?_
      refine c_nil ?_
      refine n_then ?_
      refine c_f rfl rfl ?_
      refine wp_exit ?_
      refine x_then (x_then (x_hit (n_then ?_)))
      refine c_seq ?_
      refine c_reg ?_
      refine sy (v := I ((z : Nat) : Int)) (y_move s3_3) ?_
      refine sy (v := I ((z : Nat) : Int)) (y_assign rfl) ?_
      refine c_nil ?_
      refine n_then ?_
      refine wp_ret ?_
      refine e_r1 Try.results106 (rv_t rfl) ?_
      have hzz : z = bsz n := by rw [← hb]; exact (bz_end (by omega)).symm
      refine ⟨_, rfl, ?_, H3.below⟩
      exact congrArg (fun q : Nat => I (q : Int)) hzz
  · skip
    refine gno (gv_of (t := 6) rfl rfl rfl) (decide_eq_false hp4) ?_
    refine gno (gv_of (t := 6) rfl rfl rfl) (decide_eq_false hp4) ?_
    refine sy (v := .bool (false)) (y_pickF (v := .bool (false)) rfl (decide_eq_false hp4) rfl) ?_
    refine sy (v := .bool (false)) (y_move rfl) ?_
    refine gno (gv_of (t := 10) rfl rfl rfl) (rfl) ?_
    refine gno (gv_of (t := 10) rfl rfl rfl) (rfl) ?_
    refine gno (gv_of (t := 10) rfl rfl rfl) (rfl) ?_
    refine gun (gv_of (t := 13) rfl rfl rfl) ?_
    refine gun (gv_of (t := 13) rfl rfl rfl) ?_
    refine gun (gv_of (t := 13) rfl rfl rfl) ?_
    refine gun (gv_of (t := 13) rfl rfl rfl) ?_
    refine gun (gv_of (t := 13) rfl rfl rfl) ?_
    refine gno (gv_of (t := 10) rfl rfl rfl) (rfl) ?_
    refine sy (v := .bool (false)) (y_pickF (v := .bool (false)) rfl (rfl) rfl) ?_
    refine c_nil ?_
    refine n_then ?_
    refine c_f rfl rfl ?_
    refine wp_exit ?_
    refine x_then (x_then (x_hit (n_then ?_)))
    refine c_seq ?_
    refine c_reg ?_
    refine sy (v := I ((z : Nat) : Int)) (y_move s3_3) ?_
    refine sy (v := I ((z : Nat) : Int)) (y_assign rfl) ?_
    refine c_nil ?_
    refine n_then ?_
    refine wp_ret ?_
    refine e_r1 Try.results106 (rv_t rfl) ?_
    have hzz : z = bsz n := by rw [← hb]; exact (bz_end (by omega)).symm
    refine ⟨_, rfl, ?_, H3.below⟩
    exact congrArg (fun q : Nat => I (q : Int)) hzz

theorem os_blk {g : Nat} {l : List UInt8} {z : Nat} (hl : l.length = z) (hm : z ≤ maxLen) : OS 5 1 (.slice (some (bs g)) z z) l.length (l.map B8) [(g, Rw 5 (l.map B8))] :=
  .inr ⟨g, z, l.map B8, by rw [hl], rfl, by omega, hm, by simp [hl], by rw [Nat.mul_one, ← List.map_take, List.take_length]⟩
theorem bsz_max (n : Nat) : bsz n ≤ maxLen := by have := okS_le (okS_bsz n); unfold maxLen; omega

theorem rof54_c (x : UInt64) (v1 : Value) (hs : List (List UInt8)) (w : World) (hH : Rd [] w 32 v1 hs.length (hs.flatten.map B8)) (hh : ∀ h ∈ hs, h.length = 32) (hlen : hs.length ≤ 9223372036854775807) :
    Calls Try.prog 54 (([U64 (x), v1] : List Value).toArray) w (fun e w' => ∃ v, e = .returned v ∧ ∃ g, v = .slice (some (bs g)) (bsz hs.length) (bsz hs.length) ∧ St w [] [[(g, Rw 5 ((bloomOf x hs).map B8))]] w') := by
  have hok := okS_bsz hs.length
  have hz8 := okS_le hok
  have hbl := bof_length x hs (bsz hs.length)
  refine calls_mk Try.func54 rfl 50 Try.ntmps54 rfl ?_
  have H0 : St w [] [] w := St.refl w
  refine c_seq ?_
  refine c_reg ?_
  refine sy (v := .slice none 0 0) (y_assign (v := .slice none 0 0) rfl) ?_
  refine c_nil ?_
  refine n_then ?_
  refine c_seq ?_
  refine c_reg ?_
  refine sy (v := v1) (y_move rfl) ?_
  refine sy (v := I ((hs.length : Nat) : Int)) (y_lenR Try.underlying72 (hH.st H0) rfl) ?_
  refine st (ow_call fn106 rfl (rsize_c (hs.length) _ (by omega)) ⟨rfl, trivial⟩) ?_
  rintro _ w1 ⟨rfl, hB2⟩
  have H3 : St w [] [] w1 := H0.call hB2
  refine st (ow_make (l := bsz hs.length) (c := bsz hs.length) Try.underlying23 sz5 zr5 bt5 rfl H3 rfl rfl (by omega) (by omega) (by omega)) ?_
  rintro _ w5 ⟨g4, rfl, H6'⟩
  have H6 : St w [] [[(g4, Rw 5 ((List.replicate (bsz hs.length) 0).map B8))]] w5 := H6'.eq1 (by rw [Nat.mul_one, made_rep rfl]; first | rfl | exact (List.map_replicate (f := B8) (a := 0)).symm)
  refine sy (v := .slice (some (bs g4)) (bsz hs.length) (bsz hs.length)) (y_assign rfl) ?_
  refine c_nil ?_
  refine n_then ?_
  refine c_seq ?_
  refine c_seq ?_
  refine c_reg ?_
  refine sy (v := I ((0 : Nat) : Int)) (y_assign (v := I ((0 : Nat) : Int)) rfl) ?_
  refine c_nil ?_
  refine n_then ?_
  refine wp_block ?_
  refine c_loop (fun (i : Nat) f7 w8 => f7 0 = U64 (x) ∧ f7 1 = v1 ∧ f7 5 = .slice (some (bs g4)) (bsz hs.length) (bsz hs.length) ∧ f7 6 = I ((i : Nat) : Int) ∧ i ≤ hs.length ∧ St w [] [[(g4, Rw 5 ((bof x (hs.take i) (bsz hs.length)).map B8))]] w8) (fun i => hs.length - i) 0 ⟨rfl, rfl, rfl, rfl, (by omega), H6⟩ ?_
  rintro i f7 w8 ⟨s0_9, s1_9, s5_9, s6_9, hf0_9, H9⟩
  refine c_seq ?_
  refine c_seq ?_
  refine c_reg ?_
  refine sy (v := I ((i : Nat) : Int)) (y_move s6_9) ?_
  refine sy (v := v1) (y_move s1_9) ?_
  refine sy (v := I ((hs.length : Nat) : Int)) (y_lenR Try.underlying72 (hH.st H9) rfl) ?_
  refine sy (v := .bool (decide (i < hs.length))) (n_lss (a := i) (b := hs.length) rfl rfl) ?_
  refine c_nil ?_
  refine n_then ?_
  refine c_if rfl (fun hc10 => ?_) (fun hc10 => ?_)
  · skip
    refine wp_skip ?_
    refine n_then ?_
    refine c_seq ?_
    refine wp_block ?_
    refine c_seq ?_
    refine c_reg ?_
    refine sy (v := U64 (x)) (y_move s0_9) ?_
    refine sy (v := v1) (y_move s1_9) ?_
    refine sy (v := I ((i : Nat) : Int)) (y_move s6_9) ?_
    refine sy (v := Ad (sp (v1)) (i * 32)) (y_ixR (m := i) Try.underlying72 sz26 (hH.st H9) (by decide) rfl rfl rfl (by omega)) ?_
    refine sy (v := .agg ((hs.getD i []).map B8).toArray) (y_loadA (us := (hs.getD i []).map B8) ag26 sz26 ((List.length_map _).trans (getD_len hh (by omega))) rfl (fun j u hu => (hH.st H9).cell _ _ (flat_get hh (by omega) hu))) ?_
    refine sy (v := .slice (some (bs g4)) (bsz hs.length) (bsz hs.length)) (y_move s5_9) ?_
    refine sy (v := I ((bsz hs.length : Nat) : Int)) (y_len Try.underlying23 rfl) ?_
    refine st (ow_call fn41 rfl (rplaces_c (x) (hs.getD i []) (bsz hs.length) _ (getD_len hh (by omega)) hok) ⟨rfl, rfl, rfl, trivial⟩) ?_
    rintro v11 w12 ⟨E13, ho14, H15⟩
    have H16 : St w [] [E13, [(g4, Rw 5 ((bof x (hs.take i) (bsz hs.length)).map B8))]] w12 := H9.app H15
    refine sy (v := v11) (y_assign rfl) ?_
    refine c_nil ?_
    refine n_then ?_
    refine c_seq ?_
    refine c_reg ?_
    refine sy (v := I ((0 : Nat) : Int)) (y_assign (v := I ((0 : Nat) : Int)) rfl) ?_
    refine c_nil ?_
    refine n_then ?_
    refine wp_block ?_
    refine c_loop (fun (k : Nat) f17 w18 => f17 0 = U64 (x) ∧ f17 1 = v1 ∧ f17 5 = .slice (some (bs g4)) (bsz hs.length) (bsz hs.length) ∧ f17 6 = I ((i : Nat) : Int) ∧ f17 7 = v11 ∧ f17 8 = I ((k : Nat) : Int) ∧ k ≤ 4 ∧ St w [] [E13, [(g4, Rw 5 ((((plc (dg x (hs.getD i [])) (bsz hs.length)).take k).foldl setBit (bof x (hs.take i) (bsz hs.length))).map B8))]] w18) (fun k => 4 - k) 0 ⟨s0_9, s1_9, s5_9, s6_9, rfl, rfl, (by omega), H16⟩ ?_
    rintro k f17 w18 ⟨s0_19, s1_19, s5_19, s6_19, s7_19, s8_19, hf0_19, H19⟩
    have hpl : (plc (dg x (hs.getD i [])) (bsz hs.length)).length = 4 := plc_length _ _
    have hsl : (((plc (dg x (hs.getD i [])) (bsz hs.length)).take k).foldl setBit (bof x (hs.take i) (bsz hs.length))).length = bsz hs.length := (setBits_length _ _).trans (bof_length _ _ _)
    refine c_seq ?_
    refine c_seq ?_
    refine c_reg ?_
    refine sy (v := I ((k : Nat) : Int)) (y_move s8_19) ?_
    refine sy (v := v11) (y_move s7_19) ?_
    refine sy (v := I (((plc (dg x (hs.getD i [])) (bsz hs.length)).length : Nat) : Int)) (y_lenR Try.underlying60 (ho14.rd H19 0 rfl) rfl) ?_
    refine sy (v := .bool (decide (k < ((plc (dg x (hs.getD i [])) (bsz hs.length)).length)))) (n_lss (a := k) (b := (plc (dg x (hs.getD i [])) (bsz hs.length)).length) rfl rfl) ?_
    refine c_nil ?_
    refine n_then ?_
    refine c_if rfl (fun hc20 => ?_) (fun hc20 => ?_)
    · skip
      have hpk := getD_plc (s := dg x (hs.getD i [])) (z := bsz hs.length) (k := k) (by omega) (by omega)
      refine wp_skip ?_
      refine n_then ?_
      refine c_seq ?_
      refine wp_block ?_
      refine drawS (.step 0 0 (.step 0 1 (.step 0 2 (.step 0 3 (.step 0 4 (.step 0 5 (.step 0 6 (.step 0 7 (.step 0 8 (.step 0 9 (.step 0 10 (.step 0 11 (.step 0 12 (.step 0 13 (.step 0 14 (.step 2 15 (.step 2 16 .nil))))))))))))))))) mixed H19 (by kernel_rfl) (by kernel_rfl) (by kernel_rfl) ?_
      intro w21 H22
      refine pt (v := .slice (some (bs g4)) (bsz hs.length) (bsz hs.length)) rfl (fun wS HS => y_move s5_19) ?_
      refine pt (v := v11) rfl (fun wS HS => y_move s7_19) ?_
      refine pt (v := I ((k : Nat) : Int)) rfl (fun wS HS => y_move s8_19) ?_
      refine pt (v := Ad (sp (v11)) (k * 1)) rfl (fun wS HS => y_ixR (m := k) Try.underlying60 sz3 (ho14.rd HS 0 rfl) (by decide) rfl rfl rfl (by omega)) ?_
      refine pt (v := I (((plc (dg x (hs.getD i [])) (bsz hs.length)).getD k 0 : Nat) : Int)) rfl (fun wS HS => y_load sc3 rfl ((ho14.rd HS 0 rfl).cell _ _ (by rw [Nat.mul_one]; exact map_get IN (l := plc (dg x (hs.getD i [])) (bsz hs.length)) (k := k) 0 (by omega)))) ?_
      refine pt (v := I ((((plc (dg x (hs.getD i [])) (bsz hs.length)).getD k 0) / 8 : Nat) : Int)) rfl (fun wS HS => n_quo (a := (plc (dg x (hs.getD i [])) (bsz hs.length)).getD k 0) (b := 8) rfl rfl (by omega) (by omega)) ?_
      refine pt (v := Ad (bs g4) ((((plc (dg x (hs.getD i [])) (bsz hs.length)).getD k 0) / 8) * 1)) rfl (fun wS HS => y_ixS (m := ((plc (dg x (hs.getD i [])) (bsz hs.length)).getD k 0) / 8) Try.underlying23 sz5 rfl rfl rfl (by omega)) ?_
      refine pt (v := B8 ((((plc (dg x (hs.getD i [])) (bsz hs.length)).take k).foldl setBit (bof x (hs.take i) (bsz hs.length))).getD (((plc (dg x (hs.getD i [])) (bsz hs.length)).getD k 0) / 8) 0)) rfl (fun wS HS => y_load sc5 rfl (HS.cell 1 rfl (by simp only [Nat.zero_add, Nat.mul_one]; exact map_get B8 0 (by omega)))) ?_
      refine pt (v := v11) rfl (fun wS HS => y_move s7_19) ?_
      refine pt (v := I ((k : Nat) : Int)) rfl (fun wS HS => y_move s8_19) ?_
      refine pt (v := Ad (sp (v11)) (k * 1)) rfl (fun wS HS => y_ixR (m := k) Try.underlying60 sz3 (ho14.rd HS 0 rfl) (by decide) rfl rfl rfl (by omega)) ?_
      refine pt (v := I (((plc (dg x (hs.getD i [])) (bsz hs.length)).getD k 0 : Nat) : Int)) rfl (fun wS HS => y_load sc3 rfl ((ho14.rd HS 0 rfl).cell _ _ (by rw [Nat.mul_one]; exact map_get IN (l := plc (dg x (hs.getD i [])) (bsz hs.length)) (k := k) 0 (by omega)))) ?_
      refine pt (v := I ((((plc (dg x (hs.getD i [])) (bsz hs.length)).getD k 0) % 8 : Nat) : Int)) rfl (fun wS HS => n_rem (a := (plc (dg x (hs.getD i [])) (bsz hs.length)).getD k 0) (b := 8) rfl rfl (by omega)) ?_
      refine pt (v := B8 (1 <<< UInt8.ofNat (((plc (dg x (hs.getD i [])) (bsz hs.length)).getD k 0) % 8))) rfl (fun wS HS => n_shl8 (m := ((plc (dg x (hs.getD i [])) (bsz hs.length)).getD k 0) % 8) (c := 1) rfl rfl (by omega)) ?_
      refine pt (v := B8 (((((plc (dg x (hs.getD i [])) (bsz hs.length)).take k).foldl setBit (bof x (hs.take i) (bsz hs.length))).getD (((plc (dg x (hs.getD i [])) (bsz hs.length)).getD k 0) / 8) 0) ||| (1 <<< UInt8.ofNat (((plc (dg x (hs.getD i [])) (bsz hs.length)).getD k 0) % 8)))) rfl (fun wS HS => y_or8 (a := (((plc (dg x (hs.getD i [])) (bsz hs.length)).take k).foldl setBit (bof x (hs.take i) (bsz hs.length))).getD (((plc (dg x (hs.getD i [])) (bsz hs.length)).getD k 0) / 8) 0) (b := 1 <<< UInt8.ofNat (((plc (dg x (hs.getD i [])) (bsz hs.length)).getD k 0) % 8)) rfl rfl) ?_
      refine tly (v := Ad (bs g4) ((((plc (dg x (hs.getD i [])) (bsz hs.length)).getD k 0) / 8) * 1)) rfl (y_ixS (m := ((plc (dg x (hs.getD i [])) (bsz hs.length)).getD k 0) / 8) Try.underlying23 sz5 rfl rfl rfl (by omega)) ?_
      have H23 : St w [] [[(g4, Rw 5 ((((plc (dg x (hs.getD i [])) (bsz hs.length)).take k).foldl setBit (bof x (hs.take i) (bsz hs.length))).map B8))], E13] w21 := H22.foc 1 rfl rfl
      refine t0 rfl (ow_storeM (F := B8) (j := (((plc (dg x (hs.getD i [])) (bsz hs.length)).getD k 0) / 8)) (fun _ => rfl) H23 sz5 rfl rfl (by omega) (by first | omega | (simp only [List.length_set]; omega))) ?_
      rintro _ w24 H25'
      have H25 : St w [] [[(g4, Rw 5 (((((plc (dg x (hs.getD i [])) (bsz hs.length)).take k).foldl setBit (bof x (hs.take i) (bsz hs.length))).set (((plc (dg x (hs.getD i [])) (bsz hs.length)).getD k 0) / 8) (((((plc (dg x (hs.getD i [])) (bsz hs.length)).take k).foldl setBit (bof x (hs.take i) (bsz hs.length))).getD (((plc (dg x (hs.getD i [])) (bsz hs.length)).getD k 0) / 8) 0) ||| (1 <<< UInt8.ofNat (((plc (dg x (hs.getD i [])) (bsz hs.length)).getD k 0) % 8)))).map B8))], E13] w24 := H25'
      refine p_nil ?_
      refine n_block (n_then ?_)
      refine c_reg ?_
      refine sy (v := I ((k : Nat) : Int)) (y_move s8_19) ?_
      refine sy (v := I ((k + 1 : Nat) : Int)) (n_add (a := k) (b := 1) rfl rfl (by omega)) ?_
      refine sy (v := I ((k + 1 : Nat) : Int)) (y_assign rfl) ?_
      refine c_nil ?_
      have H26 : St w [] [E13, [(g4, Rw 5 (((((plc (dg x (hs.getD i [])) (bsz hs.length)).take k).foldl setBit (bof x (hs.take i) (bsz hs.length))).set (((plc (dg x (hs.getD i [])) (bsz hs.length)).getD k 0) / 8) (((((plc (dg x (hs.getD i [])) (bsz hs.length)).take k).foldl setBit (bof x (hs.take i) (bsz hs.length))).getD (((plc (dg x (hs.getD i [])) (bsz hs.length)).getD k 0) / 8) 0) ||| (1 <<< UInt8.ofNat (((plc (dg x (hs.getD i [])) (bsz hs.length)).getD k 0) % 8)))).map B8))]] w24 := H25.foc 1 rfl rfl
      exact lp_next (k + 1) ⟨s0_19, s1_19, s5_19, s6_19, s7_19, rfl, (by omega), (by rw [foldl_take _ _ 0 (by omega)]; exact H26)⟩ (by show _ < _; omega)
    · skip
      obtain rfl : k = 4 := by omega
      rw [show (plc (dg x (hs.getD i [])) (bsz hs.length)).take 4 = plc (dg x (hs.getD i [])) (bsz hs.length) from List.take_of_length_le (by omega)] at H19
      have H27 : St w [] [E13, [(g4, Rw 5 ((addH x (bsz hs.length) (bof x (hs.take i) (bsz hs.length)) (hs.getD i [])).map B8))]] w18 := H19
      refine wp_exit ?_
      refine x_then (x_then (x_hit (n_block (n_then ?_))))
      refine c_reg ?_
      refine sy (v := I ((i : Nat) : Int)) (y_move s6_19) ?_
      refine sy (v := I ((i + 1 : Nat) : Int)) (n_add (a := i) (b := 1) rfl rfl (by omega)) ?_
      refine sy (v := I ((i + 1 : Nat) : Int)) (y_assign rfl) ?_
      refine c_nil ?_
      have H28 : St w [] [[(g4, Rw 5 ((addH x (bsz hs.length) (bof x (hs.take i) (bsz hs.length)) (hs.getD i [])).map B8))], E13] w18 := H27.foc 1 rfl rfl
      have H29 : St w [] [[(g4, Rw 5 ((addH x (bsz hs.length) (bof x (hs.take i) (bsz hs.length)) (hs.getD i [])).map B8))]] w18 := H28.take 1 rfl
      exact lp_next (i + 1) ⟨s0_19, s1_19, s5_19, rfl, (by omega), (by unfold bof; rw [foldl_take _ _ [] (by omega)]; exact H29)⟩ (by show _ < _; omega)
  · skip
    obtain rfl : i = hs.length := by omega
    rw [List.take_of_length_le (Nat.le_refl _)] at H9
    have H30 : St w [] [[(g4, Rw 5 ((bloomOf x hs).map B8))]] w8 := H9
    refine wp_exit ?_
    refine x_then (x_then (x_hit (n_then ?_)))
    refine c_seq ?_
    refine c_reg ?_
    refine sy (v := .slice (some (bs g4)) (bsz hs.length) (bsz hs.length)) (y_move s5_9) ?_
    refine sy (v := .slice (some (bs g4)) (bsz hs.length) (bsz hs.length)) (y_assign rfl) ?_
    refine c_nil ?_
    refine n_then ?_
    refine wp_ret ?_
    refine e_r1 Try.results54 (rv_t rfl) ?_
    exact ⟨_, rfl, g4, rfl, H30⟩

theorem of55_os (x : UInt64) (v1 : Value) (hs : List (List UInt8)) (w : World) (hH : Rd [] w 32 v1 hs.length (hs.flatten.map B8)) (hh : ∀ h ∈ hs, h.length = 32) (hlen : hs.length ≤ 9223372036854775807) :
    Calls Try.prog 55 (([U64 (x), v1] : List Value).toArray) w (fun e w' => ∃ v, e = .returned v ∧ ∃ E, OS 5 1 v (bloomOf x hs).length ((bloomOf x hs).map B8) E ∧ St w [] [E] w') :=
  (of55_c x v1 hs w hH hh hlen).mono fun e w' ⟨v, he, g, hv, H⟩ => ⟨v, he, _, by rw [hv]; exact os_blk (bloomOf_length _ _) (bsz_max _), H⟩

theorem rof54_os (x : UInt64) (v1 : Value) (hs : List (List UInt8)) (w : World) (hH : Rd [] w 32 v1 hs.length (hs.flatten.map B8)) (hh : ∀ h ∈ hs, h.length = 32) (hlen : hs.length ≤ 9223372036854775807) :
    Calls Try.prog 54 (([U64 (x), v1] : List Value).toArray) w (fun e w' => ∃ v, e = .returned v ∧ ∃ E, OS 5 1 v (bloomOf x hs).length ((bloomOf x hs).map B8) E ∧ St w [] [E] w') :=
  (rof54_c x v1 hs w hH hh hlen).mono fun e w' ⟨v, he, g, hv, H⟩ => ⟨v, he, _, by rw [hv]; exact os_blk (bloomOf_length _ _) (bsz_max _), H⟩

end Go.Proofs.Ytdcmbcjkdhdohaa
